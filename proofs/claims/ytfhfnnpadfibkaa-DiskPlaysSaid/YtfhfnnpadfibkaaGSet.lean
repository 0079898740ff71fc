/-
  A map[int]bool that the call makes, every element true, told by the list of its keys.
-/
import Derived.Test.YtfhfnnpadfibkaaGBase
import Derived.Test.YtfhfnnpadfibkaaProg
import Derived.Maps.Own
import Derived.Maps.Views
set_option linter.unusedVariables false
set_option linter.unusedSimpArgs false
namespace Go.Proofs.Ytfhfnnpadfibkaa
open Go.RowKit

def setT (S : List Int) : DataW Unit := S.foldl (fun m n => m.put (.int .i64 n) (.lit (.bool true))) (.map [])
theorem setT_snoc (S : List Int) (n : Int) : setT (S ++ [n]) = (setT S).put (.int .i64 n) (.lit (.bool true)) := by simp [setT, List.foldl_append]
theorem atKey_fold (n : Int) : ∀ (S : List Int) (m : DataW Unit), Maps.IsMap m → (S.foldl (fun m n => m.put (.int .i64 n) (.lit (.bool true))) m).atKey (.int .i64 n) (.lit (.bool false)) = if n ∈ S then .lit (.bool true) else m.atKey (.int .i64 n) (.lit (.bool false))
  | [], m, _ => by simp
  | x :: S, m, hm => by
    rw [List.foldl_cons, atKey_fold n S _ (hm.put _ _)]
    by_cases h : n ∈ S
    · simp [h]
    · by_cases e : n = x
      · subst e
        rw [Maps.atKey_put_same hm (show WideAt.IsKeyLit (.int .i64 n) from trivial)]
        simp [h]
      · rw [Maps.atKey_put_other (by intro q; injection q; contradiction)]
        simp [h, e]
theorem atKey_setT (n : Int) (S : List Int) : (setT S).atKey (.int .i64 n) (.lit (.bool false)) = .lit (.bool (decide (n ∈ S))) := by
  rw [setT, atKey_fold n S _ Maps.isMap_empty]
  by_cases h : n ∈ S <;> simp [h] <;> rfl

def SetAt (w : World) (k e : TypeId) (b : Nat) (S : List Int) : Prop := w.ownsMap Try.prog k (plainElem (H := Unit) Try.prog e) b S.length (setT S)
theorem setAt_made (w : World) (k e : TypeId) : SetAt (w.alloc (.map #[] 0)) k e w.heap.size [] := World.ownsMap_made _ _ _ _

theorem wpList_lookup_set (w : World) {ops : Array Oper} {rest : List Oper} {o : Oper} {a : Act} {Q : Exit → Act → World → Prop}
    (hg : o.guard = none) (m x : Operand) (t : TypeId) (hop : o.op = Op.lookup t m x false) (k e : TypeId) (hk : Try.prog.underlying k = some (.int .i64)) (ht : Try.prog.underlying t = some (.map k e)) (he : Try.prog.underlying e = some .bool)
    (hz : ∀ w, (zeroValue e).run Try.prog w = .ok (.bool false) w) (b : Nat) (S : List Int) (hm : a.eval m = .map (some b)) (hown : SetAt w k e b S) (n : Int) (hx : a.eval x = .int .i64 n) (hn : (Lit.int .i64 n).wf = true) (bb : Bool) (hbb : decide (n ∈ S) = bb)
    (hK : wpList Try.prog ops Q rest (a.put o.dst (.bool bb)) w) : wpList Try.prog ops Q (o :: rest) a w := by
  subst hbb
  obtain ⟨v, ps, hrun, hv⟩ := World.ownsMap.lookup hown (Maps.int_keyed hk) ht (hz w) (plainElem_bool he false) (Maps.keyOf_int_mk hk hn)
  rw [atKey_setT] at hv
  have hvb : v = .bool (decide (n ∈ S)) := by
    unfold plainElem at hv
    rw [he] at hv
    cases v <;> simp at hv
    rw [hv.1]
  subst hvb
  refine wpList_plain hg fun K' hK' => ?_
  unfold Oper.wp
  simp [execOp, hop, hm, hx, hrun, Result.andThen]
  exact hK' _ _ hK

theorem wpList_put_set (w : World) {ops : Array Oper} {rest : List Oper} {o : Oper} {a : Act} {Q : Exit → Act → World → Prop}
    (hg : o.guard = none) (m x v : Operand) (t : TypeId) (hop : o.op = Op.mapUpdate t m x v) (k e : TypeId) (hk : Try.prog.underlying k = some (.int .i64)) (ht : Try.prog.underlying t = some (.map k e)) (he : Try.prog.underlying e = some .bool)
    (b : Nat) (S : List Int) (hm : a.eval m = .map (some b)) (hown : SetAt w k e b S) (hl : S.length < maxLen) (n : Int) (hx : a.eval x = .int .i64 n) (hv : a.eval v = .bool true) (hn : (Lit.int .i64 n).wf = true)
    (hK : ∀ w', SetAt w' k e b (S ++ [n]) → w.grownBy w' (some b) → wpList Try.prog ops Q rest (a.put o.dst undef) w') : wpList Try.prog ops Q (o :: rest) a w :=
  wpList_mapUpdate_own w hg m x v t hop k e (Maps.int_keyed hk) ht _ b S.length _ hm hown hl _ _ _ hx hv (Maps.keyOf_int_mk hk hn) (.lit (.bool true)) [] (plainElem_bool he true) (fun w' h1 h2 => hK w' (by unfold SetAt; rw [setT_snoc, List.length_append]; exact h1) h2)
end Go.Proofs.Ytfhfnnpadfibkaa
