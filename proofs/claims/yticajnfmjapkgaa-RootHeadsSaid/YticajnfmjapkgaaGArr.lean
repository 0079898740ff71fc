/-
  Blocks of bytes that are known whole; a region that reads and reckons and then stores.
-/
import Derived.Test.YticajnfmjapkgaaGOps
import Derived.StillTailTactics
import Derived.Laws.CopyOwn
import Derived.Lib.LazyBuf
import Derived.Deep.MidRow
import Derived.Deep.WholeRow
import Derived.IntWalk
set_option linter.unusedVariables false
set_option linter.unusedSimpArgs false
namespace Go.Proofs.Yticajnfmjapkgaa
open Go.RowKit Go.Proofs.YticajnfmjapkgaaW.PrintWords

section
variable {P : Program} {Q : Exit → Act → World → Prop} {a : Act} {w : World}
/-- A region that draws its order: reads and reckonings, then from operation n on one behind the other. -/
theorem region_tail {id : Nat} {l : List Oper} (n : Nat) (hm : P.follows .mixedOrders = true) (hB : Region.lexTailB .any l.toArray n = true)
    (h : wpStill P l.toArray w.drew (fun a' => wpList P l.toArray Q (l.drop n) a' w.drew) (l.take n) a) : (Code.region id l.toArray true).wp P Q a w :=
  wp_region_still_tail n hm hB h
end
def BytesAt (w : World) (g : Nat) (T : TypeId) (bs : List Int) : Prop := w.heap[g]? = some (.cells (nums .u8 bs).toArray T (0, 0))
theorem BytesAt.cell {w : World} {g : Nat} {T : TypeId} {bs : List Int} (h : BytesAt w g T bs) (j : Nat) (hj : j < bs.length) : w.cell? ⟨g, j, none⟩ = some (.int .u8 (bs.getD j 0)) := by
  rw [blk_cell h]
  simp [nums, List.getD, hj]
theorem BytesAt.frozen {w : World} {g : Nat} {T : TypeId} {bs : List Int} (h : BytesAt w g T bs) (j : Nat) : w.frozen? ⟨g, j, none⟩ = false := blk_frozen h j
theorem BytesAt.set {w : World} {g : Nat} {T : TypeId} {bs : List Int} (h : BytesAt w g T bs) (j : Nat) (x : Int) : BytesAt (w.setCell ⟨g, j, none⟩ (.int .u8 x)) g T (bs.set j x) := by
  unfold BytesAt at *
  rw [heap_setCell_same _ _ _ _ _ _ h]
  simp [nums, List.map_set]
theorem BytesAt.drew {w : World} {g : Nat} {T : TypeId} {bs : List Int} (h : BytesAt w g T bs) : BytesAt w.drew g T bs := h
theorem grown_refl (w : World) (row : Option Nat) : w.grownBy w row := ⟨rfl, rfl, rfl, Nat.le_refl _, fun _ _ _ => rfl⟩
theorem grown_trans {a b c : World} {row : Option Nat} (h : a.grownBy b row) (k : b.grownBy c row) : a.grownBy c row :=
  ⟨k.os.trans h.os, k.tape.trans h.tape, k.output.trans h.output, Nat.le_trans h.size k.size, fun i hi hn => (k.block i (Nat.lt_of_lt_of_le hi h.size) hn).trans (h.block i hi hn)⟩
theorem grown_set (w : World) (g j : Nat) (u : Value) : w.grownBy (w.setCell ⟨g, j, none⟩ u) (some g) :=
  ⟨rfl, rfl, rfl, by simp [World.setCell], fun k _ hn => Below.heap_setCell _ _ _ _ (by rintro rfl; exact hn rfl)⟩
theorem grown_drew (w : World) (row : Option Nat) : w.grownBy w.drew row := ⟨rfl, rfl, rfl, Nat.le_refl _, fun _ _ _ => rfl⟩
theorem pow_eight (k : Nat) : (2 : Int) ^ (8 * k) = 256 ^ k := by rw [Int.pow_mul]; rfl
theorem splice_step (bs l : List Int) (p : Nat) (x : Int) (h : p < bs.length) (h2 : p + 1 + l.length ≤ bs.length) : (splice bs (p + 1) l).set p x = splice bs p (x :: l) := by
  unfold splice
  rw [List.set_append_left _ _ (by simp; omega)]
  have hm : min p bs.length = p := Nat.min_eq_left (Nat.le_of_lt h)
  have e : (bs.take (p + 1)).set p x = bs.take p ++ [x] := by
    rw [List.take_succ_eq_append_getElem h, List.set_append_right _ _ (by simp; omega)]
    simp [hm]
  rw [e]
  simp [Nat.add_assoc, Nat.add_comm 1]
theorem splice_set (bs l : List Int) (p : Nat) (x : Int) (h : p < bs.length) : splice (bs.set p x) (p + 1) l = splice bs p (x :: l) := by
  have hm : min p bs.length = p := Nat.min_eq_left (Nat.le_of_lt h)
  unfold splice
  have e1 : (bs.set p x).take (p + 1) = bs.take p ++ [x] := by
    rw [List.take_set, List.take_succ_eq_append_getElem h, List.set_append_right _ _ (by simp; omega)]
    simp [hm]
  have e2 : (bs.set p x).drop (p + 1 + l.length) = bs.drop (p + 1 + l.length) := by
    rw [List.drop_set_of_lt (by omega)]
  rw [e1, e2]
  simp [Nat.add_assoc, Nat.add_comm 1]
theorem BytesAt.setCells {g : Nat} {T : TypeId} : ∀ (xs : List Int) (o : Nat) {w : World} {bs : List Int}, BytesAt w g T bs → o + xs.length ≤ bs.length → BytesAt (w.setCells g o (xs.map (Value.int .u8))) g T (splice bs o xs)
  | [], o, w, bs, h, _ => by simpa [World.setCells, splice] using h
  | x :: xs, o, w, bs, h, hl => by
    have h2 := BytesAt.setCells xs (o + 1) (h.set o x) (by simp at hl ⊢; omega)
    rw [splice_set _ _ _ _ (by simp at hl; omega)] at h2
    exact h2
theorem grown_cells (g : Nat) : ∀ (vs : List Value) (o : Nat) (w : World), w.grownBy (w.setCells g o vs) (some g)
  | [], _, w => grown_refl w _
  | v :: vs, o, w => grown_trans (grown_set w g o v) (grown_cells g vs (o + 1) _)
/-- A text's bytes. -/
def bytesOf (s : ByteArray) : List Int := s.data.toList.map fun x => (x.toNat : Int)
theorem bytesOf_length (s : ByteArray) : (bytesOf s).length = s.size := by rw [bytesOf, List.length_map, ← Lib.size_eq]
theorem copy_str_event {P : Program} {ops : Array Oper} {rest : List Oper} {o : Oper} {a : Act} {Q : Exit → Act → World → Prop} {w : World} (hgd : o.guard = none) (d s : Operand) (dT sT elem : TypeId) (ho : o.op = .call { callee := .builtin .copy, args := #[d, s], argTypes := #[dT, sT] })
    (hu : P.underlying dT = some (.slice elem)) (hz : ∀ w, (Go.sizeOf elem).run P w = .ok 1 w) (g dLen dCap : Nat) (t : ByteArray) (hd : a.eval d = .slice (some ⟨g, 0, none⟩) dLen dCap) (hs : a.eval s = .string t) (T : TypeId) (bs : List Int) (hB : BytesAt w g T bs) (hle : t.size ≤ dLen) (hfit : t.size ≤ bs.length)
    (h : ∀ w', BytesAt w' g T (splice bs 0 (bytesOf t)) → w.grownBy w' (some g) → wpList P ops Q rest (a.put o.dst (goInt t.size)) w') : wpList P ops Q (o :: rest) a w := by
  refine wpList_plain hgd fun K hK => ?_
  have hr := run_copy_string (P := P) w dT sT o.type elem g 0 dLen dCap t hu hz hle (fun j hj => by rw [Nat.zero_add, hB.cell j (by omega)]; rfl) (fun j _ => hB.frozen _)
  have e : (t.data.toList.map fun x => Value.int .u8 (x.toNat : Int)) = (bytesOf t).map (Value.int .u8) := by simp [bytesOf]
  rw [e] at hr
  unfold Oper.wp execOp
  simp only [ho, resolve, invoke, builtin, Sem.run_bind, Sem.run_pure, Result.andThen_ok, List.map_toArray, List.map_cons, List.map_nil, hs, hd, hr]
  exact hK _ _ (h _ (BytesAt.setCells _ 0 hB (by rw [bytesOf_length]; omega)) (grown_cells g _ _ _))
/-- v<<8 | c. -/
theorem or_byte (v c : Int) (h0 : 0 ≤ v) (h1 : v ≤ 18014398509481984) (c0 : 0 ≤ c) (c1 : c < 256) : bits .or .i64 (v * 256) c = v * 256 + c := by
  obtain ⟨V, rfl⟩ := Int.eq_ofNat_of_zero_le h0
  obtain ⟨C, rfl⟩ := Int.eq_ofNat_of_zero_le c0
  have h : (BitVec.ofInt 64 ((V : Int) * 256) ||| BitVec.ofInt 64 (C : Int)).toNat = V * 256 + C := by
    rw [BitVec.toNat_or, BitVec.toNat_ofInt, BitVec.toNat_ofInt]
    have e1 : (((V : Int) * 256) % ((2 ^ 64 : Nat) : Int)).toNat = V <<< 8 := by
      rw [Nat.shiftLeft_eq]
      have : ((2 ^ 64 : Nat) : Int) = 18446744073709551616 := by decide
      rw [this]
      omega
    have e2 : ((C : Int) % ((2 ^ 64 : Nat) : Int)).toNat = C := by
      have : ((2 ^ 64 : Nat) : Int) = 18446744073709551616 := by decide
      rw [this]
      omega
    rw [e1, e2, ← Nat.shiftLeft_add_eq_or_of_lt (by omega : C < 2 ^ 8), Nat.shiftLeft_eq]
  show IntKind.i64.wrap (((BitVec.ofInt 64 ((V : Int) * 256) ||| BitVec.ofInt 64 (C : Int)).toNat : Nat) : Int) = _
  rw [h, IntKind.wrap_i64]
  omega
theorem bytesOf_bound (s : ByteArray) : ∀ x ∈ bytesOf s, 0 ≤ x ∧ x < 256 := by
  intro x hx
  obtain ⟨u, _, rfl⟩ := List.mem_map.1 hx
  have := u.toNat_lt
  omega
end Go.Proofs.Yticajnfmjapkgaa
