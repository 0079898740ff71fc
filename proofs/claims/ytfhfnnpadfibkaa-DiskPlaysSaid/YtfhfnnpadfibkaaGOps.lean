/-
  A store of a whole struct into a block that is known whole.
-/
import Derived.Test.YtfhfnnpadfibkaaGBase
import Derived.Test.YtfhfnnpadfibkaaGSet
import Derived.Test.YtfhfnnpadfibkaaWMore
set_option linter.unusedVariables false
set_option linter.unusedSimpArgs false
namespace Go.Proofs.Ytfhfnnpadfibkaa
open Go.RowKit Go.Proofs.YtfhfnnpadfibkaaW.PrintWords

section
variable {P : Program} {ops : Array Oper} {rest : List Oper} {o : Oper} {a : Act} {Q : Exit → Act → World → Prop} {W : World}
theorem agg_event (hgd : o.guard = none) (ty : TypeId) (x v : Operand) (ho : o.op = .store ty x v) (g : Nat) (hx : a.eval x = .pointer (some ⟨g, 0, none⟩)) (xs cs : Array Value) (hv : a.eval v = .agg xs)
    (hg : W.heap[g]? = some (.cells cs ty (0, 0))) (hi : (P.info? ty).map (·.size) = some xs.size) (hsz : xs.size = cs.size) (h1 : ∀ v ∈ xs.toList, v.oneCell' = true)
    (h : ∀ w', w'.heap[g]? = some (.cells xs ty (0, 0)) → W.grownBy w' (some g) → w'.heap.size = W.heap.size → wpList P ops Q rest (a.put o.dst undef) w') : wpList P ops Q (o :: rest) a W := by
  refine wpList_plain hgd fun K hK => ?_
  have hst := run_storeCells_at P g 0 ty xs.toList 0 cs W hg (by simp [hsz]) h1
  have e : (cs.toList.take (0 + 0) ++ xs.toList ++ cs.toList.drop (0 + 0 + xs.toList.length)).toArray = xs := by
    have : cs.toList.drop xs.size = [] := List.drop_eq_nil_of_le (by simp [hsz])
    simp [this]
  rw [e] at hst
  unfold Oper.wp execOp
  cases hq : P.info? ty with
  | none => simp [hq] at hi
  | some i =>
    have hs : i.size = xs.size := by simpa [hq] using hi
    simp [ho, hx, hv, Instr.storeAt, Instr.sureAddr, Sem.run_bind, Result.andThen_ok, storeVar, sizeOf, typeInfo, hq, hs, Value.cells, hst]
    refine hK _ _ (h _ ?_ ?_ ?_)
    · rw [setRow_heap W g _ _ ty _ hg]
    · exact ⟨rfl, rfl, rfl, by simp, fun k hk hn => setRow_other W g k _ (fun q => hn (by rw [q]))⟩
    · simp
/-- .. of one cell. -/
theorem put_event (hgd : o.guard = none) (ty : TypeId) (x v : Operand) (ho : o.op = .store ty x v) (g i : Nat) (hx : a.eval x = .pointer (some ⟨g, i, none⟩)) (u : Value) (cs : Array Value) (t : TypeId) (hv : a.eval v = u)
    (hg : W.heap[g]? = some (.cells cs t (0, 0))) (hi : (P.info? ty).map (·.size) = some 1) (hlt : i < cs.size) (h1 : u.oneCell' = true) (hc : u.cells = #[u])
    (h : ∀ w', w'.heap[g]? = some (.cells (cs.setIfInBounds i u) t (0, 0)) → W.grownBy w' (some g) → w'.heap.size = W.heap.size → wpList P ops Q rest (a.put o.dst undef) w') : wpList P ops Q (o :: rest) a W := by
  refine wpList_plain hgd fun K hK => ?_
  have hst := run_storeCells_at P g i t [u] 0 cs W hg (by simp; omega) (by simpa using h1)
  have e : (cs.toList.take (i + 0) ++ [u] ++ cs.toList.drop (i + 0 + [u].length)).toArray = cs.setIfInBounds i u := by
    apply Array.toList_inj.1
    rw [Array.toList_setIfInBounds]
    simp
    rw [List.set_eq_take_append_cons_drop, if_pos (by simpa using hlt)]
  rw [e] at hst
  unfold Oper.wp execOp
  cases hq : P.info? ty with
  | none => simp [hq] at hi
  | some inf =>
    have hs : inf.size = 1 := by simpa [hq] using hi
    simp [ho, hx, hv, Instr.storeAt, Instr.sureAddr, Sem.run_bind, Result.andThen_ok, storeVar, sizeOf, typeInfo, hq, hs, hc, hst]
    refine hK _ _ (h _ ?_ ?_ ?_)
    · rw [setRow_heap W g _ _ t _ hg]
    · exact ⟨rfl, rfl, rfl, by simp, fun k hk hn => setRow_other W g k _ (fun q => hn (by rw [q]))⟩
    · simp
end
/-- A row of two rows. -/
theorem reads_two {α : Type} {d : Kd α} {e : Nat} {w : World} {g : Nat} {t : TypeId} {A B : Option Addr} {xs ys : List α} {c c' : Nat} (h : w.heap[g]? = some (.cells #[.slice A xs.length c, .slice B ys.length c'] t (0, 0)))
    (h1 : xs.length ≤ c) (h2 : ys.length ≤ c') (hx : d.C w A xs.length xs) (hy : d.C w B ys.length ys) : Kd.C (Kd.slice e d) w (some ⟨g, 0, none⟩) [xs, ys].length [xs, ys] := by
  refine ⟨rfl, by simp, fun _ => ⟨_, rfl, fun j p hj => ?_⟩⟩
  match j, hj with
  | 0, hj =>
    simp at hj; subst hj
    refine ⟨[.slice A xs.length c], rfl, ⟨A, c, rfl, h1, hx⟩, fun i u hu => ?_⟩
    match i, hu with
    | 0, hu =>
      simp at hu; subst hu
      show w.cell? ⟨g, 0, none⟩ = _
      exact (blk_cell h 0).trans rfl
  | 1, hj =>
    simp at hj; subst hj
    refine ⟨[.slice B ys.length c'], rfl, ⟨B, c', rfl, h2, hy⟩, fun i u hu => ?_⟩
    match i, hu with
    | 0, hu =>
      simp at hu; subst hu
      show w.cell? ((⟨g, 0, none⟩ : Addr).add (1 * 1 + 0)) = _
      rw [add_plain]
      exact (blk_cell h 1).trans rfl
end Go.Proofs.Ytfhfnnpadfibkaa
