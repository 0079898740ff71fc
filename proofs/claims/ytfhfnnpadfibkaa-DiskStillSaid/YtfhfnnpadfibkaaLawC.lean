/-
  What comes in as slices of whole numbers and of texts; min and max by facts; the walk of DiskLasts.
-/
import Derived.Test.YtfhfnnpadfibkaaLawB
import Derived.OpenShut
set_option linter.unusedVariables false
set_option linter.unusedSimpArgs false
namespace Go.Proofs.Ytfhfnnpadfibkaa
open Go.RowKit

def IntsIn (W : World) (A : Option Addr) (n : Nat) (xs : List Int) : Prop := IntsAt W A n xs (Up W.heap.size) ∧ ∀ x ∈ xs, -9223372036854775808 ≤ x ∧ x ≤ 9223372036854775807
theorem intsIn_nil (W : World) : IntsIn W none 0 [] := ⟨intsAt_nil W _, by simp⟩
theorem intsIn_some {W : World} {x : Addr} {l c : Nat} {zs : List Int} (hl : l ≤ c) (hm : c ≤ maxLen) (hz : zs.length = c) (hcell : ∀ i, i < zs.length → W.cell? (x.add i) = some (.int .i64 (zs.getD i 0))) (hwz : ∀ n ∈ zs, (Lit.int .i64 n).wf = true) : IntsIn W (some x) l (zs.take l) := by
  refine ⟨⟨by simp; omega, by unfold maxLen at hm; omega, fun hp => ⟨x, rfl, fun j hj => ?_, ?_⟩⟩, fun y hy => bounds_i64 (hwz y (List.mem_of_mem_take hy))⟩
  · rw [hcell j (by omega)]
    simp [List.getD, hj]
  · have := World.block_lt_of_cell? _ _ (hcell 0 (by omega))
    rw [add_block] at this
    intro q
    have : W.heap.size ≤ x.block := q
    omega

structure StrsIn (W : World) (A : Option Addr) (n : Nat) (ss : List ByteArray) : Prop where
  len : ss.length = n
  most : n ≤ 9223372036854775807
  cells : 0 < n → ∃ ad, A = some ad ∧ (∀ j, j < n → W.cell? (ad.add j) = some (.string (ss.getD j ByteArray.empty))) ∧ ad.block < W.heap.size
  each : ∀ s ∈ ss, s.size ≤ 9223372036854775807
theorem strsIn_nil (W : World) : StrsIn W none 0 [] := ⟨rfl, by omega, fun h => absurd h (by omega), by simp⟩
theorem strsIn_some {W : World} {x : Addr} {l c : Nat} {zs : List ByteArray} (hl : l ≤ c) (hm : c ≤ maxLen) (hz : zs.length = c) (hcell : ∀ i, i < zs.length → W.cell? (x.add i) = some (.string (zs.getD i ByteArray.empty))) (hwz : ∀ s ∈ zs, s.size ≤ maxLen) : StrsIn W (some x) l (zs.take l) := by
  refine ⟨by simp; omega, by unfold maxLen at hm; omega, fun hp => ⟨x, rfl, fun j hj => ?_, ?_⟩, fun y hy => hwz y (List.mem_of_mem_take hy)⟩
  · rw [hcell j (by omega)]
    simp [List.getD, hj]
  · have := World.block_lt_of_cell? _ _ (hcell 0 (by omega))
    rwa [add_block] at this

/-! min and max, kept from the walk's simp -/
noncomputable def MinA (ts : Array TypeId) (t : TypeId) (vs : Array Value) : Sem Value := Builtin.min_ ts t vs
noncomputable def MaxA (ts : Array TypeId) (t : TypeId) (vs : Array Value) : Sem Value := Builtin.max_ ts t vs
theorem minA_any (ts : Array TypeId) (t : TypeId) (vs : Array Value) : Builtin.min_ ts t vs = MinA ts t vs := rfl
theorem maxA_any (ts : Array TypeId) (t : TypeId) (vs : Array Value) : Builtin.max_ ts t vs = MaxA ts t vs := rfl
theorem run_minA (x y : Int) (w : World) : (MinA #[3, 3] 3 #[.int .i64 x, .int .i64 y]).run Try.prog w = .ok (.int .i64 (min x y)) w := by
  rw [MinA, run_min_int2]
  congr 2
  omega
theorem run_maxA (x y : Int) (w : World) : (MaxA #[3, 3] 3 #[.int .i64 x, .int .i64 y]).run Try.prog w = .ok (.int .i64 (max x y)) w := by
  rw [MaxA, run_max_int2]
  congr 2
  omega
/-- len(s) against 64. -/
theorem min_size (s : ByteArray) : ∃ m : Nat, m ≤ s.size ∧ m ≤ 64 ∧ ∀ w, (MinA #[3, 3] 3 #[.int .i64 (s.size : Int), .int .i64 64]).run Try.prog w = .ok (.int .i64 (m : Int)) w :=
  ⟨min s.size 64, by omega, by omega, fun w => by rw [run_minA]; congr 2; omega⟩

def padB (s : ByteArray) : ByteArray := ⟨(pad s.data.toList).toArray⟩

/-! The plain part of DiskLasts -/
def lastsD (A B : List UInt8) (keeps : List Int) (torn bytes : Int) : DSt := ((((((DSt.init 3).write 0 A).1.write 1 A).1.sync.1.write 1 B).1.write 2 B).1).crash keeps torn bytes
theorem lasts_states (A B : List UInt8) (hA : A.length ≤ 64) (hB : B.length ≤ 64) : ((DSt.init 3).write 0 A).1 = ⟨List.replicate 3 (List.replicate 64 0), [(0, pad A)], -1, false, 1⟩ ∧
    (((DSt.init 3).write 0 A).1.write 1 A).1 = ⟨List.replicate 3 (List.replicate 64 0), [(0, pad A), (1, pad A)], -1, false, 2⟩ ∧
    (((DSt.init 3).write 0 A).1.write 1 A).1.sync.1 = ⟨[pad A, pad A, List.replicate 64 0], [], -1, false, 2⟩ ∧
    ((((DSt.init 3).write 0 A).1.write 1 A).1.sync.1.write 1 B).1 = ⟨[pad A, pad A, List.replicate 64 0], [(1, pad B)], -1, false, 3⟩ ∧
    (((((DSt.init 3).write 0 A).1.write 1 A).1.sync.1.write 1 B).1.write 2 B).1 = ⟨[pad A, pad A, List.replicate 64 0], [(1, pad B), (2, pad B)], -1, false, 4⟩ := by
  have e1 : ((DSt.init 3).write 0 A).1 = ⟨List.replicate 3 (List.replicate 64 0), [(0, pad A)], -1, false, 1⟩ := by
    rw [write_ok _ _ _ rfl (by omega) (by decide) hA (by decide)]; rfl
  have e2 : (((DSt.init 3).write 0 A).1.write 1 A).1 = ⟨List.replicate 3 (List.replicate 64 0), [(0, pad A), (1, pad A)], -1, false, 2⟩ := by
    rw [e1, write_ok _ _ _ rfl (by omega) (by simp) hA (by show (-1 : Int) ≠ 0; decide)]; rfl
  have e3 : (((DSt.init 3).write 0 A).1.write 1 A).1.sync.1 = ⟨[pad A, pad A, List.replicate 64 0], [], -1, false, 2⟩ := by
    rw [e2]; rfl
  have e4 : ((((DSt.init 3).write 0 A).1.write 1 A).1.sync.1.write 1 B).1 = ⟨[pad A, pad A, List.replicate 64 0], [(1, pad B)], -1, false, 3⟩ := by
    rw [e3, write_ok _ _ _ rfl (by omega) (by simp) hB (by show (-1 : Int) ≠ 0; decide)]; rfl
  refine ⟨e1, e2, e3, e4, ?_⟩
  rw [e4, write_ok _ _ _ rfl (by omega) (by simp) hB (by show (-1 : Int) ≠ 0; decide)]; rfl
theorem lasts_crash (A B : List UInt8) (hA : A.length ≤ 64) (hB : B.length ≤ 64) (keeps : List Int) (torn bytes : Int) : lastsD A B keeps torn bytes = ⟨[pad A, (pad B).take (crashN keeps torn bytes 0) ++ (pad A).drop (crashN keeps torn bytes 0), (pad B).take (crashN keeps torn bytes 1) ++ (List.replicate 64 0).drop (crashN keeps torn bytes 1)], [], -1, false, 4⟩ := by
  rw [lastsD, (lasts_states A B hA hB).2.2.2.2]
  rfl
end Go.Proofs.Ytfhfnnpadfibkaa
