/-
  A region that draws, whose operations are values and calls that come up one at a time: operations whose guard is false are passed by. (Own tactic over the library's laws wpAnyH_take, AllReadyH.cons.)
-/
import Derived.Test.YtfhfnnpadfibkaaLawC
import Derived.Deep.RegionHeld3
set_option linter.unusedVariables false
namespace Go
open Lean Elab Tactic Meta

partial def rhWalk (keep tac : TSyntax `tactic) : TacticM Unit := withMainContext do
  let t := (← instantiateMVars (← getMainTarget)).consumeMData
  unless t.isAppOfArity ``wpAnyH 9 do throwError "rh_region: the goal is no wpAnyH:\n{t}"
  let args := t.getAppArgs
  let md := args[1]!
  let ops := args[2]!
  let listed := args[6]!
  let ready ← kernelNats (mkApp3 (mkConst ``Region.ready) md ops listed)
  if ready.isEmpty then
    evalTactic (← `(tactic| refine wpAnyH_done (by kernel_rfl) ?_ _))
    return
  let mut note : Array MessageData := #[]
  for i in ready do
    let some oe := opAt ops i | throwError "rh_region: the region is not written out"
    let oStx ← Term.exprToSyntax oe
    let wanted ← mkAppM ``Region.wanted #[oe, ← mkAppM ``yielded #[ops, ← mkAppM ``Act.tmps #[args[7]!]]]
    let yes ← ofExceptKernelException (Kernel.whnf (← getEnv) (← getLCtx) (← instantiateMVars wanted))
    let free ← kernelBool (mkApp4 (mkConst ``Region.free) md ops listed (mkNatLit i))
    unless free do note := note.push m!"{opWords ops i}: not free"; continue
    if yes.isConstOf ``Bool.false then
      evalTactic (← `(tactic| refine wpAnyH_take (i := $(quote i)) (oi := $oStx) (v := undef) rfl (by kernel_rfl) (by kernel_rfl) (by kernel_rfl) (fun _ _ _ h => h) (Or.inr ⟨rfl, rfl⟩) (by assumption) ?_))
      evalTactic (← `(tactic| try simp only [Act.put, List.setIfInBounds_toArray, List.set_cons_zero, List.set_cons_succ]))
      rhWalk keep tac
      return
    unless yes.isConstOf ``Bool.true do note := note.push m!"{opWords ops i}: its guard is open: {yes}"; continue
    if opHead ops i == some ``Op.call then note := note.push m!"{opWords ops i}: a call"; continue
    let s ← saveState
    let took ← try
      evalTactic (← `(tactic| refine wpAnyH_take (i := $(quote i)) (oi := $oStx) (v := ?_) rfl (by kernel_rfl) (by kernel_rfl) (by kernel_rfl) (fun _ _ _ h => h) (Or.inl ⟨rfl, ?_⟩) (by assumption) ?_))
      let gs ← getGoals
      let [_, hy, rest] := gs | throwError "three goals expected"
      setGoals [hy]
      evalTactic (← `(tactic| (intro w hSw; (try dsimp only at hSw); go_simp)))
      unless (← getGoals).isEmpty do evalTactic (← `(tactic| with_reducible rfl))
      setGoals [rest]
      evalTactic (← `(tactic| try simp only [Act.put, List.setIfInBounds_toArray, List.set_cons_zero, List.set_cons_succ]))
      pure true
    catch e =>
      s.restore
      note := note.push m!"{opWords ops i}: not taken: {e.toMessageData}"
      pure false
    if took then
      rhWalk keep tac
      return
  let [i] := ready | throwError "rh_region: more than one may come up: {ready}: {note}"
  let some oe := opAt ops i | throwError "rh_region: the region is not written out"
  let oStx ← Term.exprToSyntax oe
  evalTactic (← `(tactic| refine wpAnyH_ready (rs := [$(quote i)]) (by kernel_rfl) (by simp) (AllReadyH.cons (o := $oStx) rfl (fun K hK => ?_) AllReadyH.nil)))
  evalTactic (← `(tactic| go_simp))
  unless (← instantiateMVars (← getMainTarget)).consumeMData.getAppFn.isFVar do
    try evalTactic tac catch e => throwError "rh_region: at {opWords ops i}: no arm fitted: {e.toMessageData}\n{note}"
  unless (← instantiateMVars (← getMainTarget)).consumeMData.getAppFn.isFVar do
    evalTactic (← `(tactic| go_wp2_with fail))
  unless (← getGoals).length == 1 do throwError "rh_region: behind {opWords ops i}: {(← getGoals).length} goals"
  evalTactic (← `(tactic| refine hK.out _ _ ?_ (fun hHeld => ?_)))
  let [hS, rest] ← getGoals | throwError "rh_region: two goals expected"
  setGoals [hS]
  evalTactic (← `(tactic| try dsimp only))
  unless (← getUnsolvedGoals).isEmpty do evalTactic keep
  setGoals [rest]
  evalTactic (← `(tactic| clear hK K))
  evalTactic (← `(tactic| try simp only [Act.put, List.setIfInBounds_toArray, List.set_cons_zero, List.set_cons_succ]))
  rhWalk keep tac

syntax "rh_region " term:max " (" tactic ") " "(" tactic ")" : tactic
elab_rules : tactic
  | `(tactic| rh_region $S ($keep) ($tac)) => do
    evalTactic (← `(tactic| refine wp_region_held_drew (S := $S) (by kernel_rfl) ?_ (fun hHeld => ?_)))
    let [hS, rest] ← getGoals | throwError "rh_region: two goals expected at the beginning"
    setGoals [hS]
    evalTactic (← `(tactic| try dsimp only))
    unless (← getUnsolvedGoals).isEmpty do evalTactic keep
    setGoals [rest]
    rhWalk keep tac
end Go
