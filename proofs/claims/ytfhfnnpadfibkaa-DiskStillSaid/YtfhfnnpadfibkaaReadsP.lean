/-
  DiskReads, the plain part: what each sector reads as.
-/
import Derived.Test.YtfhfnnpadfibkaaDkx
set_option linter.unusedVariables false
set_option linter.unusedSimpArgs false
namespace Go.Proofs.Ytfhfnnpadfibkaa
open Go.RowKit

structure ReadsAt (d : DSt) (want : List ByteArray) (n k : Nat) : Prop where
  lasts : d.lasts.length = n
  down : d.down = false
  fuse : d.fuse = -1
  many : d.many ≤ k
  cache : d.cache.length ≤ k
  wl : want.length = n
  ws : ∀ s ∈ want, s.size ≤ 64
  tops : ∀ j, j < n → d.top j = pad (want.getD j ByteArray.empty).data.toList

theorem putAll_getD (j : Nat) (l : List (Nat × List UInt8)) : ∀ (L : List (List UInt8)), j < L.length → (putAll L l).getD j [] = topOf j (L.getD j []) l := by
  induction l with
  | nil => intro L h; rfl
  | cons p l ih =>
    intro L h
    show (putAll (L.set p.1 p.2) l).getD j [] = topOf j (if p.1 = j then p.2 else L.getD j []) l
    rw [ih _ (by simpa using h)]
    congr 1
    rw [List.getD_eq_getElem?_getD, List.getElem?_set]
    by_cases e : p.1 = j
    · subst e; simp [h]
    · simp [e, List.getD]

theorem reads_init (n : Nat) : ReadsAt (DSt.init n) (List.replicate n ByteArray.empty) n 0 where
  lasts := by simp [DSt.init]
  down := rfl
  fuse := rfl
  many := by simp [DSt.init]
  cache := by simp [DSt.init]
  wl := by simp
  ws := fun s hs => by rw [(List.mem_replicate.mp hs).2]; decide
  tops := fun j hj => by
    show topOf j ((List.replicate n (List.replicate 64 (0 : UInt8))).getD j []) [] = _
    rw [List.getD_eq_getElem?_getD, List.getD_eq_getElem?_getD]
    simp [List.getElem?_replicate, hj]
    rfl

theorem ReadsAt.fault {d : DSt} {want : List ByteArray} {n k : Nat} (h : ReadsAt d want n k) (i : Nat) (hi : i < n) : d.fault (i : Int) = 0 :=
  fault_ok d i h.down (by omega) (by rw [h.lasts]; omega)

theorem ReadsAt.write {d : DSt} {want : List ByteArray} {n k : Nat} (h : ReadsAt d want n k) (i : Nat) (hi : i < n) (s : ByteArray) (hs : s.size ≤ 64) :
    (d.write (i : Int) s.data.toList).2 = 0 ∧ ReadsAt (d.write (i : Int) s.data.toList).1 (want.set i s) n (k + 1) := by
  rw [write_ok d i s.data.toList h.down (by omega) (by rw [h.lasts]; omega) (by rw [bytes_length]; exact hs) (by rw [h.fuse]; decide)]
  refine ⟨rfl, ⟨h.lasts, h.down, ?_, ?_, ?_, ?_, ?_, ?_⟩⟩
  · rw [h.fuse]; rfl
  · have := h.many; show d.many + 1 ≤ k + 1; omega
  · have := h.cache; show (d.cache ++ [_]).length ≤ k + 1; simp; omega
  · simpa using h.wl
  · intro x hx
    rcases List.mem_or_eq_of_mem_set hx with q | q
    · exact h.ws x q
    · rw [q]; exact hs
  · intro j hj
    show topOf j (d.lasts.getD j []) (d.cache ++ [(((i : Int)).toNat, pad s.data.toList)]) = _
    rw [topOf_snoc]
    have := h.tops j hj
    unfold DSt.top at this
    rw [this, List.getD_eq_getElem?_getD (l := want.set i s), List.getElem?_set]
    by_cases e : i = j
    · subst e; simp [h.wl, hi]
    · simp [e, List.getD]

theorem ReadsAt.sync {d : DSt} {want : List ByteArray} {n k : Nat} (h : ReadsAt d want n k) : d.sync.2 = 0 ∧ ReadsAt d.sync.1 want n k := by
  unfold DSt.sync
  rw [if_neg (by simp [h.down])]
  refine ⟨rfl, ⟨by rw [putAll_length]; exact h.lasts, h.down, h.fuse, h.many, by simp, h.wl, h.ws, fun j hj => ?_⟩⟩
  show topOf j ((putAll d.lasts d.cache).getD j []) [] = _
  rw [putAll_getD j _ _ (by rw [h.lasts]; exact hj)]
  exact h.tops j hj

theorem ReadsAt.read {d : DSt} {want : List ByteArray} {n k : Nat} (h : ReadsAt d want n k) (j : Nat) (hj : j < n) : d.read (j : Int) = (pad (want.getD j ByteArray.empty).data.toList, 0) := by
  unfold DSt.read
  rw [h.fault j hj, if_pos rfl]
  exact congrArg (·, 0) (h.tops j hj)

theorem ReadsAt.more {d : DSt} {want : List ByteArray} {n k l : Nat} (h : ReadsAt d want n k) (hl : k ≤ l) : ReadsAt d want n l :=
  ⟨h.lasts, h.down, h.fuse, Nat.le_trans h.many hl, Nat.le_trans h.cache hl, h.wl, h.ws, h.tops⟩
theorem ReadsAt.size {d : DSt} {want : List ByteArray} {n k : Nat} (h : ReadsAt d want n k) (j : Nat) (hj : j < n) : (want.getD j ByteArray.empty).size ≤ 64 := by
  rw [List.getD_eq_getElem?_getD, List.getElem?_eq_getElem (by rw [h.wl]; exact hj)]
  exact h.ws _ (List.getElem_mem _)
end Go.Proofs.Ytfhfnnpadfibkaa
