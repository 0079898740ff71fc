/-
  Words of this seat's proofs: which blocks a call may have written ('Fr'), and small laws on blocks.
-/
import Derived.WalkKit
import Derived.Deep.AppendLies
import Derived.Laws.CopyOwn
import Derived.Lib.LazyBuf
import Derived.Lib.Hide
import Derived.Deep.Draws
import Derived.KernelRfl
set_option linter.unusedVariables false
set_option linter.unusedSimpArgs false
namespace Go.Proofs.Ytfhfnnpadfibkaa
open Go.RowKit

/-- But for the blocks of S, and new ones, the world is as it was. -/
structure Fr (S : Nat → Prop) (w w' : World) : Prop where
  os : w'.os = w.os
  tape : w'.tape = w.tape
  output : w'.output = w.output
  size : w.heap.size ≤ w'.heap.size
  block : ∀ k, k < w.heap.size → ¬ S k → w'.heap[k]? = w.heap[k]?

/-- What an object's blocks may be behind a call: those of ahead, and new ones. -/
def gro (F : Nat → Prop) (w w' : World) : Nat → Prop := fun k => F k ∨ (w.heap.size ≤ k ∧ k < w'.heap.size)

theorem Fr.refl (S : Nat → Prop) (w : World) : Fr S w w := ⟨rfl, rfl, rfl, Nat.le_refl _, fun _ _ _ => rfl⟩
theorem Fr.mono {S T : Nat → Prop} {w w' : World} (h : Fr S w w') (hs : ∀ k, S k → T k) : Fr T w w' := ⟨h.os, h.tape, h.output, h.size, fun k hk hn => h.block k hk (fun q => hn (hs k q))⟩
theorem Fr.trans {S : Nat → Prop} {a b c : World} (h : Fr S a b) (k : Fr (gro S a b) b c) : Fr S a c :=
  ⟨k.os.trans h.os, k.tape.trans h.tape, k.output.trans h.output, Nat.le_trans h.size k.size, fun i hi hn =>
    (k.block i (Nat.lt_of_lt_of_le hi h.size) (fun q => by rcases q with q | q; exact hn q; omega)).trans (h.block i hi hn)⟩
theorem Fr.trans' {S : Nat → Prop} {a b c : World} (h : Fr S a b) (k : Fr S b c) : Fr S a c := h.trans (k.mono fun _ q => Or.inl q)
theorem Fr.drew {S : Nat → Prop} {a w : World} (h : Fr S a w) : Fr S a w.drew := ⟨h.os, h.tape, h.output, h.size, h.block⟩
theorem Fr.drewN {S : Nat → Prop} {a w : World} (h : Fr S a w) (n : Nat) : Fr S a (w.drewN n) := ⟨h.os, h.tape, h.output, h.size, h.block⟩
theorem Fr.alloc {S : Nat → Prop} {a w : World} (h : Fr S a w) (o : Obj) : Fr S a (w.alloc o) :=
  h.trans ⟨rfl, rfl, rfl, by simp, fun k hk _ => Below.heap_alloc w o k hk⟩
theorem Fr.setCell {S : Nat → Prop} {a w : World} (h : Fr S a w) {p : Addr} (hp : S p.block ∨ a.heap.size ≤ p.block) (u : Value) : Fr S a (w.setCell p u) :=
  ⟨h.os, h.tape, h.output, by simpa [World.setCell] using h.size, fun k hk hn => (Below.heap_setCell _ _ _ _ (by rintro rfl; rcases hp with hp | hp; exact hn hp; omega)).trans (h.block k hk hn)⟩
theorem Fr.setCells {S : Nat → Prop} {a : World} {b : Nat} (hp : S b ∨ a.heap.size ≤ b) : ∀ (vs : List Value) (o : Nat) (w : World), Fr S a w → Fr S a (w.setCells b o vs)
  | [], _, _, h => h
  | v :: r, o, _, h => Fr.setCells hp r (o + 1) _ (h.setCell (p := ⟨b, o, none⟩) hp v)
theorem Fr.setRow {S : Nat → Prop} {a w : World} (h : Fr S a w) {g : Nat} (hp : S g ∨ a.heap.size ≤ g) (cs : Array Value) : Fr S a (w.setRow g cs) :=
  ⟨h.os, h.tape, h.output, by simpa using h.size, fun k hk hn => (setRow_other w g k cs (by rintro rfl; rcases hp with hp | hp; exact hn hp; omega)).trans (h.block k hk hn)⟩
theorem Fr.grown {S : Nat → Prop} {a w w' : World} {row : Option Nat} (h : Fr S a w) (hg : w.grownBy w' row) (hr : ∀ k, row = some k → S k ∨ a.heap.size ≤ k) : Fr S a w' :=
  ⟨hg.os.trans h.os, hg.tape.trans h.tape, hg.output.trans h.output, Nat.le_trans h.size hg.size, fun k hk hn =>
    (hg.block k (Nat.lt_of_lt_of_le hk h.size) (fun e => by rcases hr k e.symm with q | q; exact hn q; omega)).trans (h.block k hk hn)⟩
theorem Fr.below {S : Nat → Prop} {w w' : World} {B : Nat} (h : Fr S w w') (hB : B ≤ w.heap.size) (hS : ∀ k, S k → B ≤ k) : Below B w w' :=
  ⟨h.os, h.tape, h.output, h.size, fun k hk => h.block k (Nat.lt_of_lt_of_le hk hB) (fun q => by have := hS k q; omega)⟩
theorem Fr.ofBelow {w w' : World} (h : Below w.heap.size w w') (S : Nat → Prop) : Fr S w w' := ⟨h.os, h.tape, h.output, h.size, fun k hk _ => h.block k hk⟩
/-- A block that is none of S holds what it held. -/
theorem Fr.at {S : Nat → Prop} {w w' : World} (h : Fr S w w') {b : Nat} {o : Obj} (hb : w.heap[b]? = some o) (hn : ¬ S b) : w'.heap[b]? = some o :=
  (h.block b (Array.getElem?_eq_some_iff.1 hb).1 hn).trans hb
theorem lt_heap {w : World} {b : Nat} {o : Obj} (hb : w.heap[b]? = some o) : b < w.heap.size := (Array.getElem?_eq_some_iff.1 hb).1
theorem Fr.row {S : Nat → Prop} {w w' : World} (h : Fr S w w') {base : Nat} {e : TypeId} {size n : Nat} {v : Value} {xs : List Value} (ho : w.ownsRow base e size v n xs) (hn : ∀ k, v.ownBlock = some k → ¬ S k) : w'.ownsRow base e size v n xs := by
  refine ⟨ho.1, ?_⟩
  rcases ho.2 with q | ⟨g, cap, cur, rfl, hb, hg, r⟩
  · exact .inl q
  · exact .inr ⟨g, cap, cur, rfl, hb, h.at hg (hn g rfl), r⟩

/-- One block. -/
def only (g : Nat) : Nat → Prop := fun k => k = g
theorem Fr.setRow_only (w : World) (g : Nat) (cs : Array Value) : Fr (only g) w (w.setRow g cs) := Fr.setRow (S := only g) (Fr.refl _ _) (Or.inl rfl) _
theorem Fr.setCell_only (w : World) (a : Addr) (v : Value) : Fr (only a.block) w (w.setCell a v) := Fr.setCell (S := only a.block) (Fr.refl _ _) (Or.inl rfl) _
/-- A block that was there, behind a call that wrote others. -/
theorem Fr.at_only {g : Nat} {w w' : World} (h : Fr (only g) w w') {b : Nat} {o : Obj} (hb : w.heap[b]? = some o) (hn : b ≠ g) : w'.heap[b]? = some o := h.at hb hn
theorem Fr.cell_only {g : Nat} {w w' : World} (h : Fr (only g) w w') {p : Addr} {v : Value} (hc : w.cell? p = some v) (hn : p.block ≠ g) : w'.cell? p = some v :=
  (World.cell?_of_block (h.block p.block (World.block_lt_of_cell? w p hc) hn)).trans hc
theorem Fr.cell {S : Nat → Prop} {w w' : World} (h : Fr S w w') {p : Addr} {v : Value} (hc : w.cell? p = some v) (hn : ¬ S p.block) : w'.cell? p = some v :=
  (World.cell?_of_block (h.block p.block (World.block_lt_of_cell? w p hc) hn)).trans hc

/-- A row of another element type is another block. -/
theorem own_ne {w : World} {base : Nat} {e : TypeId} {size n : Nat} {v : Value} {xs : List Value} {b : Nat} {cs : Array Value} {t : TypeId} {fr : Nat × Nat} (h : w.ownsRow base e size v n xs) (hb : w.heap[b]? = some (.cells cs t fr)) (hne : e ≠ t) : ∀ k, v.ownBlock = some k → k ≠ b := by
  rintro k hk rfl
  rcases h.2 with ⟨rfl, _⟩ | ⟨g, cap, cur, rfl, _, hg, _⟩
  · simp [Value.ownBlock] at hk
  · simp [Value.ownBlock] at hk
    subst hk
    rw [hb] at hg
    simp at hg
    exact hne hg.2.1.symm
theorem own_lt' {w : World} {base : Nat} {e : TypeId} {size n : Nat} {v : Value} {xs : List Value} (h : w.ownsRow base e size v n xs) : ∀ k, v.ownBlock = some k → k < w.heap.size := fun k hk => (h.lt k hk).2
theorem grown_at {w w' : World} {row : Option Nat} (hg : w.grownBy w' row) {b : Nat} {o : Obj} (hb : w.heap[b]? = some o) (hne : ∀ k, row = some k → k ≠ b) : w'.heap[b]? = some o :=
  (hg.block b (lt_heap hb) (fun e => hne b e.symm rfl)).trans hb
theorem cells5 {w : World} {b : Nat} {v0 v1 v2 v3 v4 : Value} {t : TypeId} (h : w.heap[b]? = some (.cells #[v0, v1, v2, v3, v4] t (0, 0))) :
    (w.cell? ⟨b, 0, none⟩ = some v0 ∧ w.cell? ⟨b, 1, none⟩ = some v1 ∧ w.cell? ⟨b, 2, none⟩ = some v2 ∧ w.cell? ⟨b, 3, none⟩ = some v3 ∧ w.cell? ⟨b, 4, none⟩ = some v4) ∧ ∀ o, w.frozen? ⟨b, o, none⟩ = false := by
  simp [World.cell?, World.frozen?, h]

/-! Rows of elements that have one length each. -/
section
variable {α β : Type} (f : α → List β) (L : Nat)
theorem flat_length (l : List α) (hl : ∀ x ∈ l, (f x).length = L) : (l.map f).flatten.length = l.length * L := by
  induction l with
  | nil => simp
  | cons x l ih =>
    simp only [List.map_cons, List.flatten_cons, List.length_append, List.length_cons, ih (fun y hy => hl y (by simp [hy])), hl x (by simp), Nat.add_mul, Nat.one_mul]
    omega
theorem flat_get (l : List α) (hl : ∀ x ∈ l, (f x).length = L) (n : Nat) (x : α) (hx : l[n]? = some x) (j : Nat) (v : β) (hv : (f x)[j]? = some v) : (l.map f).flatten[n * L + j]? = some v := by
  induction l generalizing n with
  | nil => simp at hx
  | cons y l ih =>
    have hy : (f y).length = L := hl y (by simp)
    have hj : j < L := by
      have h1 := (List.getElem?_eq_some_iff.1 hv).1
      have h2 : x ∈ y :: l := List.mem_of_getElem? hx
      rw [hl x h2] at h1
      exact h1
    cases n with
    | zero =>
      simp at hx
      subst hx
      simp only [List.map_cons, List.flatten_cons, Nat.zero_mul, Nat.zero_add]
      rw [List.getElem?_append_left (by omega)]
      exact hv
    | succ n =>
      simp only [List.getElem?_cons_succ] at hx
      simp only [List.map_cons, List.flatten_cons]
      rw [List.getElem?_append_right (by rw [hy, Nat.add_mul]; omega), hy, show (n + 1) * L + j - L = n * L + j by rw [Nat.add_mul]; omega]
      exact ih (fun z hz => hl z (by simp [hz])) n hx
theorem flat_set (l : List α) (hl : ∀ x ∈ l, (f x).length = L) (n : Nat) (hn : n < l.length) (y : α) (hy : (f y).length = L) : splice (l.map f).flatten (n * L) (f y) = ((l.set n y).map f).flatten := by
  induction l generalizing n with
  | nil => simp at hn
  | cons z l ih =>
    have hz : (f z).length = L := hl z (by simp)
    cases n with
    | zero =>
      simp only [List.set_cons_zero, List.map_cons, List.flatten_cons, splice, Nat.zero_mul, List.take_zero, List.nil_append, Nat.zero_add, hy]
      rw [← hz, List.drop_left]
    | succ n =>
      have := ih (fun x hx => hl x (by simp [hx])) n (by simpa using hn)
      simp only [List.set_cons_succ, List.map_cons, List.flatten_cons]
      rw [← this]
      simp only [splice]
      rw [show (n + 1) * L = (f z).length + n * L by rw [hz, Nat.add_mul]; omega, List.take_length_add_append, Nat.add_assoc, List.drop_append, List.drop_eq_nil_of_le (by omega)]
      simp
end

theorem madeCells_replicate (v : Value) (size n : Nat) (hs : 0 < size) : madeCells (Array.replicate size v) n = (List.replicate n v).toArray := by
  apply Array.ext
  · simp [madeCells]
  · intro i h1 h2
    have : i % size < size := Nat.mod_lt _ hs
    simp [madeCells, this]

/-- make([]T, n), T of as many cells as may be, all of one zero. -/
theorem run_make_many {P : Program} (t e : TypeId) (v : Value) (size bytes : Nat) (ht : P.underlying t = some (.slice e)) (hinfo : (P.info? e).map (fun i => (i.zero, i.size, i.bytes)) = some (some (.agg (Array.replicate size v)), size, bytes)) (hs : 0 < size)
    (n : Nat) (hbytes : bytes * n ≤ 281474976710656) (h63 : n ≤ 9223372036854775807) (w : World) :
    (Instr.makeSlice t (.int .i64 (n : Int)) (.int .i64 (n : Int))).run P w = .ok (.slice (some ⟨w.heap.size, 0, none⟩) n n) (w.alloc (.cells (List.replicate (n * size) v).toArray e)) := by
  obtain ⟨i, hi, hzz⟩ := Option.map_eq_some_iff.1 hinfo
  simp only [Prod.mk.injEq] at hzz
  obtain ⟨hz, hsize, hby⟩ := hzz
  have hb' : (i.bytes : Int) * (n : Int) ≤ 281474976710656 := by
    have h : ((i.bytes * n : Nat) : Int) ≤ 281474976710656 := by rw [hby]; omega
    rwa [Int.natCast_mul] at h
  have hr := run_make (P := P) w t e i _ ht hi hz .i64 .i64 n n (by omega) (Int.le_refl _) hb' (by omega)
  simp only [Int.toNat_natCast, hsize, Value.cells] at hr
  rw [madeCells_replicate _ _ _ hs] at hr
  exact hr

end Go.Proofs.Ytfhfnnpadfibkaa
