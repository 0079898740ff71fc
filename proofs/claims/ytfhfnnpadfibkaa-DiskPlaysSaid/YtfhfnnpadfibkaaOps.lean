/-
  Laws at single operations: aggregates of many cells, in blocks that are known whole; the world behind is a letter.
-/
import Derived.Test.YtfhfnnpadfibkaaBase
import Derived.Deep.MidRow
import Derived.Deep.WholeRow
import Derived.Deep.RegionHeld3
import Derived.Great.BuildSlice
import Derived.StillTailTactics
set_option linter.unusedVariables false
set_option linter.unusedSimpArgs false
namespace Go.Proofs.Ytfhfnnpadfibkaa
open Go.RowKit

section
variable {P : Program} {ops : Array Oper} {rest : List Oper} {o : Oper} {a : Act} {Q : Exit → Act → World → Prop} {w : World}

theorem plain_add (g o j : Nat) : (⟨g, o, none⟩ : Addr).add j = ⟨g, o + j, none⟩ := by unfold Addr.add; split <;> simp_all

/-- A composite literal of a struct or an array, its run as a fact. -/
theorem wpList_build (hgd : o.guard = none) (t : TypeId) (parts : Array (Nat × Operand)) (ho : o.op = .build t parts) (v : Value)
    (hrun : (Instr.build t (parts.map fun x => (x.1, a.eval x.2))).run P w = .ok v w) (h : wpList P ops Q rest (a.put o.dst v) w) : wpList P ops Q (o :: rest) a w := by
  refine wpList_plain hgd fun K hK => ?_
  unfold Oper.wp execOp
  simp only [ho, Sem.run_bind, Sem.run_pure, hrun, Result.andThen_ok]
  exact hK _ _ h

theorem wpList_build1 (hgd : o.guard = none) (t : TypeId) (i : Nat) (x : Operand) (ho : o.op = .build t #[(i, x)]) (v0 v : Value) (hx : a.eval x = v0)
    (hrun : (Instr.build t #[(i, v0)]).run P w = .ok v w) (h : wpList P ops Q rest (a.put o.dst v) w) : wpList P ops Q (o :: rest) a w :=
  wpList_build hgd t _ ho v (by simpa [hx] using hrun) h

/-- A load of n cells out of a block that is known whole. -/
theorem run_loadVar_at (w : World) (g off : Nat) (t ty : TypeId) (cs : List Value) (xs : List Value) (fr : Nat × Nat) (d : TypeDesc) (hg : w.heap[g]? = some (.cells cs.toArray t fr))
    (hu : P.underlying ty = some d) (hd : (match d with | .struct _ | .array _ _ => true | _ => false) = true) (hi : (P.info? ty).map (·.size) = some xs.length) (hx : ∀ j v, xs[j]? = some v → cs[off + j]? = some v) :
    (loadVar ty ⟨g, off, none⟩).run P w = .ok (.agg xs.toArray) w := by
  have hl : (loadCells ⟨g, off, none⟩ xs.length).run P w = .ok xs.toArray w :=
    run_loadCells_list (P := P) w ⟨g, off, none⟩ xs (fun j v hv => by
      rw [plain_add, cell_of_row w g (off + j) _ t fr hg]
      simpa using hx j v hv)
  cases hq : P.info? ty with
  | none => simp [hq] at hi
  | some i =>
    have hs : i.size = xs.length := by simpa [hq] using hi
    have hagg : (isAgg ty).run P w = .ok true w := by
      unfold isAgg
      rw [Sem.run_bind, run_underlying hu w]
      cases d <;> simp_all
    simp [loadVar, Sem.run_bind, hagg, sizeOf, typeInfo, hq, hs, hl]

theorem wpList_loadA (hgd : o.guard = none) (ty : TypeId) (x : Operand) (ho : o.op = .load ty x)
    (g off : Nat) (hx : a.eval x = .pointer (some ⟨g, off, none⟩)) (t : TypeId) (cs xs : List Value) (fr : Nat × Nat) (d : TypeDesc) (hg : w.heap[g]? = some (.cells cs.toArray t fr))
    (hu : P.underlying ty = some d) (hd : (match d with | .struct _ | .array _ _ => true | _ => false) = true) (hi : (P.info? ty).map (·.size) = some xs.length) (hxs : ∀ j v, xs[j]? = some v → cs[off + j]? = some v)
    (h : wpList P ops Q rest (a.put o.dst (.agg xs.toArray)) w) : wpList P ops Q (o :: rest) a w := by
  refine wpList_plain hgd fun K hK => ?_
  unfold Oper.wp execOp
  simp only [ho, hx, Instr.loadAt, Instr.sureAddr, Sem.run_bind, Sem.run_pure, Result.andThen_ok, run_loadVar_at w g off t ty cs xs fr d hg hu hd hi hxs]
  exact hK _ _ h

/-- A store of n cells into a block that is known whole. -/
theorem wpList_storeA (hgd : o.guard = none) (ty : TypeId) (x v : Operand) (ho : o.op = .store ty x v)
    (g off : Nat) (hx : a.eval x = .pointer (some ⟨g, off, none⟩)) (t : TypeId) (cs xs : List Value) (hv : a.eval v = .agg xs.toArray) (hg : w.heap[g]? = some (.cells cs.toArray t (0, 0)))
    (hi : (P.info? ty).map (·.size) = some xs.length) (hfit : off + xs.length ≤ cs.length) (h1 : ∀ v ∈ xs, v.oneCell' = true)
    (h : ∀ w', w'.heap[g]? = some (.cells (splice cs off xs).toArray t (0, 0)) → Fr (only g) w w' → wpList P ops Q rest (a.put o.dst undef) w') : wpList P ops Q (o :: rest) a w := by
  refine wpList_plain hgd fun K hK => ?_
  have hst := run_storeCells_at P g off t xs 0 cs.toArray w hg (by simpa using hfit) h1
  unfold Oper.wp execOp
  cases hq : P.info? ty with
  | none => simp [hq] at hi
  | some i =>
    have hs : i.size = xs.length := by simpa [hq] using hi
    simp [ho, hx, hv, Instr.storeAt, Instr.sureAddr, Sem.run_bind, Result.andThen_ok, storeVar, sizeOf, typeInfo, hq, hs, Value.cells, hst]
    refine hK _ _ (h _ ?_ ?_)
    · rw [setRow_heap w g _ _ t _ hg]
      simp [splice]
    · exact Fr.setRow_only _ _ _

/-- copy(dst, s), s a string that fits. -/
theorem wpList_copyS (hgd : o.guard = none) (d s : Operand) (dT sT : TypeId)
    (ho : o.op = .call { callee := .builtin .copy, args := #[d, s], argTypes := #[dT, sT] }) (elem : TypeId) (hu : P.underlying dT = some (.slice elem)) (hz : (P.info? elem).map (·.size) = some 1)
    (g off dLen dCap : Nat) (hd : a.eval d = .slice (some ⟨g, off, none⟩) dLen dCap) (b : ByteArray) (hs : a.eval s = .string b) (hle : b.size ≤ dLen)
    (cs : List Value) (t : TypeId) (hg : w.heap[g]? = some (.cells cs.toArray t (0, 0))) (hfit : off + b.size ≤ cs.length)
    (h : ∀ w', w'.heap[g]? = some (.cells (splice cs off (b.data.toList.map fun x => Value.int .u8 (x.toNat : Int))).toArray t (0, 0)) → Fr (only g) w w' → wpList P ops Q rest (a.put o.dst (goInt b.size)) w') : wpList P ops Q (o :: rest) a w := by
  refine wpList_plain hgd fun K hK => ?_
  have hl : (b.data.toList.map fun x => Value.int .u8 (x.toNat : Int)).length = b.size := by rw [List.length_map, ← Lib.size_eq]
  have hmin : Nat.min b.size dLen = b.size := Nat.min_eq_left hle
  have hst := run_storeCells_at P g off t (b.data.toList.map fun x => Value.int .u8 (x.toNat : Int)) 0 cs.toArray w hg (by rw [hl]; simpa using hfit) (by
    intro v hv
    obtain ⟨x, _, rfl⟩ := List.mem_map.1 hv
    rfl)
  unfold Oper.wp
  cases hq : P.info? elem with
  | none => simp [hq] at hz
  | some i =>
    simp [execOp, ho, resolve, invoke, builtin, hd, hs, Result.andThen, Builtin.copy_, run_underlying hu, Builtin.lenOf, Builtin.firstCells, sizeOf, typeInfo, hq, hmin]
    rw [List.take_of_length_le (by rw [hl]; exact Nat.le_refl _), hst]
    refine hK _ _ (h _ ?_ ?_)
    · rw [setRow_heap w g _ _ t _ hg]
      simp [splice]
    · exact Fr.setRow_only _ _ _

/-- copy(dst, src) of cells, between rows that are known whole (or one row). -/
theorem wpList_copyC (hgd : o.guard = none) (d s : Operand) (dT sT : TypeId)
    (ho : o.op = .call { callee := .builtin .copy, args := #[d, s], argTypes := #[dT, sT] }) (elem : TypeId) (hu : P.underlying dT = some (.slice elem)) (hz : (P.info? elem).map (·.size) = some 1)
    (g off dLen dCap : Nat) (hd : a.eval d = .slice (some ⟨g, off, none⟩) dLen dCap) (g2 off2 sLen sCap : Nat) (hs : a.eval s = .slice (some ⟨g2, off2, none⟩) sLen sCap)
    (cs : List Value) (t : TypeId) (hg : w.heap[g]? = some (.cells cs.toArray t (0, 0))) (xs : List Value) (hn : xs.length = Nat.min sLen dLen)
    (cs2 : List Value) (t2 : TypeId) (fr2 : Nat × Nat) (hg2 : w.heap[g2]? = some (.cells cs2.toArray t2 fr2)) (hx : ∀ j v, xs[j]? = some v → cs2[off2 + j]? = some v)
    (hfit : off + xs.length ≤ cs.length) (h1 : ∀ v ∈ xs, v.oneCell' = true)
    (h : ∀ w', w'.heap[g]? = some (.cells (splice cs off xs).toArray t (0, 0)) → Fr (only g) w w' → wpList P ops Q rest (a.put o.dst (goInt xs.length)) w') : wpList P ops Q (o :: rest) a w := by
  refine wpList_copy_own hgd d s dT sT ho elem hu hz g off dLen dCap ⟨g2, off2, none⟩ sLen sCap hd hs cs.toArray t hg xs hn (fun j v hv => ?_) (by simpa using hfit) h1 ?_
  · rw [plain_add, cell_of_row w g2 (off2 + j) _ t2 fr2 hg2]
    simpa using hx j v hv
  · refine h _ ?_ ?_
    · rw [setRow_heap w g _ _ t _ hg]
      simp [splice]
    · exact Fr.setRow_only _ _ _

/-- A new variable of many cells: its block a letter, the world behind a letter. -/
theorem wpList_allocA (hgd : o.guard = none) (ty : TypeId) (ho : o.op = .alloc ty) (Z : List Value) (hz : ∀ w, (zeroValue ty).run P w = .ok (.agg Z.toArray) w)
    (h : ∀ g w', w.heap.size ≤ g → w'.heap[g]? = some (.cells Z.toArray ty (0, 0)) → w'.heap.size ≤ g + 1 → Fr (fun _ => False) w w' → wpList P ops Q rest (a.put o.dst (.pointer (some ⟨g, 0, none⟩))) w') : wpList P ops Q (o :: rest) a w := by
  refine wpList_plain hgd fun K hK => ?_
  unfold Oper.wp execOp
  simp only [ho, Instr.alloc, newVar, newRow, Sem.run_bind, hz, Result.andThen_ok, Sem.run_pure, Value.cells]
  exact hK _ _ (h _ _ (Nat.le_refl _) (heap_alloc_new w _) (by simp) ((Fr.refl _ _).alloc _))

theorem foldl_place : ∀ (l : List Value) (k : Nat) (cs : List Value), k + l.length ≤ cs.length →
      List.foldl (fun (cs : Array Value) (x : Value × Nat) => cs.setIfInBounds x.2 x.1) cs.toArray (l.zipIdx k) = (splice cs k l).toArray := by
  intro l
  induction l with
  | nil => intro k cs _; simp [splice]
  | cons x l ih =>
    intro k cs hk
    simp only [List.length_cons] at hk
    simp only [List.zipIdx_cons, List.foldl_cons, List.setIfInBounds_toArray]
    rw [ih (k + 1) (cs.set k x) (by simp; omega)]
    congr 1
    have := list_seg_step cs k x l (by omega)
    simpa [splice, Nat.add_assoc, Nat.add_comm 1] using this

theorem fill_one (f : Nat → Option (Nat × Nat)) (B : Array Value) (xs : List Value) (hB : B.size = xs.length) (hf : f 0 = some (0, xs.length)) : Instr.fill f B [(0, .agg xs.toArray)] = some xs.toArray := by
  have h1 : List.foldl (fun cs (x : Value × Nat) => cs.setIfInBounds x.2 x.1) B xs.zipIdx = xs.toArray := by
    have := foldl_place xs 0 B.toList (by simp [hB])
    simp only [Array.toArray_toList] at this
    rw [this]
    simp [splice, ← hB, List.drop_eq_nil_of_le]
  simp [Instr.fill, hf, Value.cells, hB, h1]

/-- A slice literal of one element of many cells. -/
theorem run_buildSlice1 (t e : TypeId) (xs : List Value) (hu : P.underlying t = some (.slice e)) (hi : (P.info? e).map (fun i => (i.zero.map (·.cells.size), i.size)) = some (some xs.length, xs.length)) (hpos : 0 < xs.length) (hsm : xs.length ≤ 16777216) (w : World) :
    (Instr.buildSlice t 1 #[(0, .agg xs.toArray)]).run P w = .ok (.slice (some ⟨w.heap.size, 0, none⟩) 1 1) (w.alloc (.cells xs.toArray e)) := by
  obtain ⟨ie, hie, hzz⟩ := Option.map_eq_some_iff.1 hi
  simp only [Prod.mk.injEq] at hzz
  obtain ⟨hz, hs⟩ := hzz
  obtain ⟨z, hz, hzs⟩ := Option.map_eq_some_iff.1 hz
  refine run_buildSlice w t e 1 _ xs.toArray ie z hu hie hz (by rw [hs]; omega) (by rw [hs]; omega) ?_
  exact fill_one _ _ xs (by simp [hs]) (by simp [hs])

/-! Loads, stores, copies of many cells, kept from the walk's simp, which then takes them by facts alone. -/
noncomputable def LoadA (T : TypeId) (p : Value) : Sem Value := Instr.loadAt T p
noncomputable def StoreA (T : TypeId) (p v : Value) : Sem Unit := Instr.storeAt T p v
noncomputable def BuildS (T : TypeId) (n : Nat) (parts : Array (Nat × Value)) : Sem Value := Instr.buildSlice T n parts
noncomputable def CopyA (ts : Array TypeId) (t : TypeId) (vs : Array Value) : Sem Value := Builtin.copy_ ts t vs
theorem copyA_any (ts : Array TypeId) (t : TypeId) (vs : Array Value) : Builtin.copy_ ts t vs = CopyA ts t vs := rfl

theorem run_loadA {W : World} {g off : Nat} {t ty : TypeId} {cs xs : List Value} {fr : Nat × Nat} {d : TypeDesc} (hg : W.heap[g]? = some (.cells cs.toArray t fr))
    (hu : P.underlying ty = some d) (hd : (match d with | .struct _ | .array _ _ => true | _ => false) = true) (hi : (P.info? ty).map (·.size) = some xs.length) (hxs : ∀ j v, xs[j]? = some v → cs[off + j]? = some v) :
    (LoadA ty (.pointer (some ⟨g, off, none⟩))).run P W = .ok (.agg xs.toArray) W := by
  simp only [LoadA, Instr.loadAt, Instr.sureAddr, Sem.run_bind, Sem.run_pure, Result.andThen_ok, run_loadVar_at W g off t ty cs xs fr d hg hu hd hi hxs]

theorem run_storeA {W : World} {g off : Nat} {t ty : TypeId} {cs xs : List Value} (hg : W.heap[g]? = some (.cells cs.toArray t (0, 0)))
    (hi : (P.info? ty).map (·.size) = some xs.length) (hfit : off + xs.length ≤ cs.length) (h1 : ∀ v ∈ xs, v.oneCell' = true) :
    (StoreA ty (.pointer (some ⟨g, off, none⟩)) (.agg xs.toArray)).run P W = .ok () (W.setRow g (splice cs off xs).toArray) := by
  have hst := run_storeCells_at P g off t xs 0 cs.toArray W hg (by simpa using hfit) h1
  cases hq : P.info? ty with
  | none => simp [hq] at hi
  | some i =>
    have hs : i.size = xs.length := by simpa [hq] using hi
    simp [StoreA, Instr.storeAt, Instr.sureAddr, Sem.run_bind, Result.andThen_ok, storeVar, sizeOf, typeInfo, hq, hs, Value.cells, hst, splice]

theorem run_copyA {W : World} {dT sT ty elem : TypeId} {g off dLen dCap g2 off2 sLen sCap : Nat} {cs cs2 xs : List Value} {t t2 : TypeId} {fr2 : Nat × Nat}
    (hu : P.underlying dT = some (.slice elem)) (hz : (P.info? elem).map (·.size) = some 1) (hg : W.heap[g]? = some (.cells cs.toArray t (0, 0))) (hn : xs.length = Nat.min sLen dLen)
    (hg2 : W.heap[g2]? = some (.cells cs2.toArray t2 fr2)) (hx : ∀ j v, xs[j]? = some v → cs2[off2 + j]? = some v) (hfit : off + xs.length ≤ cs.length) (h1 : ∀ v ∈ xs, v.oneCell' = true) :
    (CopyA #[dT, sT] ty #[.slice (some ⟨g, off, none⟩) dLen dCap, .slice (some ⟨g2, off2, none⟩) sLen sCap]).run P W = .ok (goInt xs.length) (W.setRow g (splice cs off xs).toArray) := by
  rw [CopyA, run_copy_row P W dT sT ty elem g off dLen dCap ⟨g2, off2, none⟩ sLen sCap cs.toArray t xs hu hz hg hn (fun j v hv => by
    rw [plain_add, cell_of_row W g2 (off2 + j) _ t2 fr2 hg2]
    simpa using hx j v hv) (by simpa using hfit) h1]
  simp [splice]

/-- A region that draws its order: reads and reckonings, then from operation n on one behind the other. -/
theorem region_tail {id : Nat} {l : List Oper} (n : Nat) (hm : P.follows .mixedOrders = true) (hB : Region.lexTailB .any l.toArray n = true)
    (h : wpStill P l.toArray w.drew (fun a' => wpList P l.toArray Q (l.drop n) a' w.drew) (l.take n) a) : (Code.region id l.toArray true).wp P Q a w :=
  wp_region_still_tail n hm hB h
end
end Go.Proofs.Ytfhfnnpadfibkaa
