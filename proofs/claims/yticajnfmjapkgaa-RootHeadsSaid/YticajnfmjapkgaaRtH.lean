/-
  Layer 6, the plain part of heads: a head's bytes, and what they tell.
-/
import Derived.Test.YticajnfmjapkgaaRtB
set_option linter.unusedVariables false
set_option linter.unusedSimpArgs false
namespace Go.Proofs.Yticajnfmjapkgaa.PD
open Go.RowKit Go.Proofs.Yticajnfmjapkgaa Go.Proofs.YticajnfmjapkgaaW.PrintWords

theorem be_snoc (k : Nat) : ∀ n : Int, pack_Num.be (k + 1) n = pack_Num.be k (n / 256) ++ [n % 256] := by
  induction k with
  | zero => intro n; simp [pack_Num.be]
  | succ k ih =>
    intro n
    have e : n / 256 ^ (k + 1) = n / 256 / 256 ^ k := by
      rw [Int.pow_succ, Int.mul_comm, Int.ediv_ediv_of_nonneg (by omega)]
    have h1 : pack_Num.be (k + 1 + 1) n = n / 256 ^ (k + 1) % 256 :: pack_Num.be (k + 1) n := rfl
    have h2 : pack_Num.be (k + 1) (n / 256) = n / 256 / 256 ^ k % 256 :: pack_Num.be k (n / 256) := rfl
    rw [h1, ih n, h2, e]
    rfl
theorem be_inj (k : Nat) : ∀ n m : Int, 0 ≤ n → n < 256 ^ k → 0 ≤ m → m < 256 ^ k → pack_Num.be k n = pack_Num.be k m → n = m := by
  induction k with
  | zero => intro n m h1 h2 h3 h4 _; simp at h2 h4; omega
  | succ k ih =>
    intro n m h1 h2 h3 h4 h
    rw [be_snoc, be_snoc] at h
    have hl : (pack_Num.be k (n / 256)).length = (pack_Num.be k (m / 256)).length := by rw [root_Head.be_length, root_Head.be_length]
    obtain ⟨e1, e2⟩ := List.append_inj h hl
    rw [Int.pow_succ] at h2 h4
    have := ih (n / 256) (m / 256) (by omega) (Int.ediv_lt_of_lt_mul (by omega) h2) (by omega) (Int.ediv_lt_of_lt_mul (by omega) h4) e1
    simp at e2
    omega
theorem be_bound (k : Nat) (n : Int) : ∀ x ∈ pack_Num.be k n, 0 ≤ x ∧ x < 256 := by
  induction k with
  | zero => intro x hx; simp [pack_Num.be] at hx
  | succ k ih =>
    intro x hx
    simp only [pack_Num.be, List.mem_cons] at hx
    rcases hx with rfl | hx
    · omega
    · exact ih x hx
def headL (s z : Int) : List Int := [80, 76] ++ (pack_Num.be 7 s ++ (pack_Num.be 2 z ++ (List.replicate 45 0 ++ (pack_Num.be 7 s ++ [69]))))
theorem cells_eq (s z : Int) : root_Head.cells s z = headL s z := by rfl
theorem headL_length (s z : Int) : (headL s z).length = 64 := by simp [headL, root_Head.be_length]
theorem headL_bound (s z : Int) : ∀ x ∈ headL s z, 0 ≤ x ∧ x < 256 := by
  intro x hx
  simp only [headL, List.mem_append] at hx
  rcases hx with hx | hx | hx | hx | hx | hx
  · simp at hx; omega
  · exact be_bound _ _ x hx
  · exact be_bound _ _ x hx
  · have := (List.mem_replicate.1 hx).2; omega
  · exact be_bound _ _ x hx
  · simp at hx; omega
theorem bytesOf_str (l : List Int) (h : ∀ x ∈ l, 0 ≤ x ∧ x < 256) : bytesOf (strOfNums l) = l := by
  unfold bytesOf strOfNums
  simp only [List.map_map]
  conv => rhs; rw [← List.map_id l]
  apply List.map_congr_left
  intro x hx
  have := h x hx
  simp
  omega
theorem bytesOf_inj {a b : ByteArray} (h : bytesOf a = bytesOf b) : a = b := by
  apply ByteArray.ext
  apply Array.toList_inj.1
  unfold bytesOf at h
  exact List.map_inj_right (f := fun x : UInt8 => (x.toNat : Int)) (fun x y e => UInt8.toNat_inj.1 (Int.ofNat.inj e)) |>.1 h
theorem bytesOf_append (a b : ByteArray) : bytesOf (a ++ b) = bytesOf a ++ bytesOf b := by
  simp [bytesOf, ByteArray.data_append]
theorem bytesOf_extract (a : ByteArray) (i j : Nat) : bytesOf (a.extract i j) = ((bytesOf a).drop i).take (j - i) := by
  simp [bytesOf, ByteArray.data_extract, List.map_take, List.map_drop]
theorem str_size (l : List Int) : (strOfNums l).size = l.length := by
  exact strOfNums_size l
/-- A head's ranges. -/
def inR (s z : Int) : Prop := 1 ≤ s ∧ s ≤ 9007199254740991 ∧ 0 ≤ z ∧ z ≤ 512
instance (s z : Int) : Decidable (inR s z) := by unfold inR; exact inferInstance
theorem Head_some (s z : Int) : root_Head.f s z = some (if inR s z then (strOfNums (headL s z), none) else (⟨#[]⟩, some 1)) := by
  unfold root_Head.f
  by_cases h : inR s z
  · have : ¬ (s < 1 ∨ 9007199254740991 < s ∨ z < 0 ∨ 512 < z) := by unfold inR at h; omega
    rw [if_pos h, if_neg this, cells_eq]
  · have : s < 1 ∨ 9007199254740991 < s ∨ z < 0 ∨ 512 < z := by unfold inR at h; omega
    rw [if_neg h, if_pos this]
/-- What is read of 64 bytes: none, or two numbers whose head they are. -/
theorem Read_some (b : ByteArray) (hb : b.size = 64) : root_ReadHead.f b = some (0, 0, some 3) ∨ ∃ s z, inR s z ∧ bytesOf b = headL s z ∧ root_ReadHead.f b = some (s, z, none) := by
  unfold root_ReadHead.f root_ReadHead.tell
  rw [if_neg (by omega), if_neg (by omega)]
  generalize root_ReadHead.num (((bytesOf b).drop 2).take 7) = s
  generalize root_ReadHead.num (((bytesOf b).drop 9).take 2) = z
  by_cases h : s < 1 ∨ 9007199254740991 < s ∨ z < 0 ∨ 512 < z ∨ strOfNums (root_Head.cells s z) ≠ b
  · rw [if_pos h]; exact Or.inl rfl
  · rw [if_neg h]
    refine Or.inr ⟨s, z, ?_, ?_, rfl⟩
    · unfold inR
      refine ⟨?_, ?_, ?_, ?_⟩ <;> (apply Classical.byContradiction; intro q; apply h; first | (left; omega) | (right; left; omega) | (right; right; left; omega) | (right; right; right; left; omega))
    · have hc : strOfNums (root_Head.cells s z) = b := Classical.byContradiction fun q => h (Or.inr (Or.inr (Or.inr (Or.inr q))))
      rw [← hc, cells_eq, bytesOf_str _ (headL_bound s z)]
theorem headL_inj {s z s' z' : Int} (h : inR s z) (h' : inR s' z') : (pack_Num.be 7 s = pack_Num.be 7 s' → s = s') ∧ (pack_Num.be 2 z = pack_Num.be 2 z' → z = z') := by
  unfold inR at h h'
  exact ⟨be_inj 7 s s' (by omega) (by omega) (by omega) (by omega), be_inj 2 z z' (by omega) (by omega) (by omega) (by omega)⟩
theorem headL_9 (s z : Int) : (headL s z).take 9 = [80, 76] ++ pack_Num.be 7 s := by
  rw [headL, ← List.append_assoc, List.take_left' (by simp [root_Head.be_length])]
theorem headL_11 (s z : Int) : (headL s z).take 11 = ([80, 76] ++ pack_Num.be 7 s) ++ pack_Num.be 2 z := by
  rw [headL, ← List.append_assoc, ← List.append_assoc, List.take_left' (by simp [root_Head.be_length])]
theorem headL_92 (s z : Int) : ((headL s z).drop 9).take 2 = pack_Num.be 2 z := by
  rw [headL, ← List.append_assoc, List.drop_left' (by simp [root_Head.be_length]), List.take_left' (by simp [root_Head.be_length])]
theorem headL_56 (s z : Int) : (headL s z).drop 56 = pack_Num.be 7 s ++ [69] := by
  rw [headL, ← List.append_assoc, ← List.append_assoc, ← List.append_assoc, List.drop_left' (by simp [root_Head.be_length])]
end Go.Proofs.Yticajnfmjapkgaa.PD
