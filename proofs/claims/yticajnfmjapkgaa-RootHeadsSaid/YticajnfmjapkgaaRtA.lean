/-
  Layer 6, the plain part: what root.Right answers, in closed form.
-/
import Derived.Test.YticajnfmjapkgaaGood
import Derived.Test.YticajnfmjapkgaaPDx29
set_option linter.unusedVariables false
set_option linter.unusedSimpArgs false
namespace Go.Proofs.Yticajnfmjapkgaa.PD
open Go.RowKit Go.Proofs.Yticajnfmjapkgaa Go.Proofs.YticajnfmjapkgaaW.PrintWords

abbrev FileT := S42
def runOf (f : FileT) : RunT := ⟨f.f1, f.f2⟩
/-- Rising numbers below the next one, behind the first sectors. -/
def fok (next : Int) : Int → List FileT → Bool
  | _, [] => true
  | last, f :: l => decide (last < f.f0) && (decide (f.f0 < next) && (decide (18 ≤ f.f1) && fok next f.f0 l))
def rgood (total seq next cur : Int) (l : List FileT) : Bool :=
  decide (1 ≤ seq ∧ seq ≤ 9007199254740991 ∧ 1 ≤ next ∧ next ≤ 9007199254740991 ∧ l.length ≤ 24) && (fok next 0 l && ((cur == 0 || l.any fun f => f.f0 == cur) && good total (l.map runOf)))
theorem rdF_mid (pre rest : List FileT) (r : FileT) : rd_T42 (pre ++ r :: rest) (pre.length : Int) = r := by
  simp [rd_T42, List.getD]
theorem rRight_loop (total seq next cur : Int) (xs : List FileT) (hx : xs.length ≤ 24) : ∀ (rest pre : List FileT) (last : Int) (c : Bool) (used : List RunT) (k : Nat), xs = pre ++ rest → used.length ≤ pre.length → rest.length + 1 ≤ k →
    root_Right.l0 k total last c used xs (xs.length : Int) (pre.length : Int) seq next cur xs = some (fok next last rest && ((c || rest.any fun f => f.f0 == cur) && good total (used ++ rest.map runOf))) := by
  intro rest
  induction rest with
  | nil =>
    intro pre last c used k he hu hk
    obtain ⟨k, rfl⟩ : ∃ m, k = m + 1 := ⟨k - 1, by omega⟩
    have hl : xs.length = pre.length := by rw [he]; simp
    simp only [root_Right.l0]
    rw [if_neg (by omega)]
    cases c
    · simp [fok]
    · simp [fok, Right_some]
  | cons f rest ih =>
    intro pre last c used k he hu hk
    obtain ⟨k, rfl⟩ : ∃ m, k = m + 1 := ⟨k - 1, by omega⟩
    have hl : xs.length = pre.length + (rest.length + 1) := by rw [he]; simp
    have hrd : rd_T42 xs (pre.length : Int) = f := by rw [he]; exact rdF_mid pre rest f
    have E1 : Hid (wrap64 ((pre.length : Int) + 1) = ((pre.length + 1 : Nat) : Int)) := Lib.hid (by rw [wrapS _ (by omega) (by omega)]; omega)
    have hi := fun last c => ih (pre ++ [f]) last c (used ++ [runOf f]) k (by rw [he]; simp) (by simp; omega) (by simp at hk; omega)
    simp only [List.length_append, List.length_singleton] at hi
    simp only [root_Right.l0]
    rw [if_pos (by omega), if_pos (by omega), if_pos (by omega), hrd]
    by_cases b1 : f.f0 ≤ last
    · rw [if_pos b1]; simp [fok, show ¬ last < f.f0 by omega]
    rw [if_neg b1]
    by_cases b2 : f.f0 ≥ next
    · rw [if_pos b2]; simp [fok, show ¬ f.f0 < next by omega]
    rw [if_neg b2]
    by_cases b3 : f.f1 < 18
    · rw [if_pos b3]; simp [fok, show ¬ 18 ≤ f.f1 by omega]
    rw [if_neg b3]
    have hf : fok next last (f :: rest) = fok next f.f0 rest := by simp [fok, show last < f.f0 by omega, show f.f0 < next by omega, show 18 ≤ f.f1 by omega]
    rw [hf]
    cases c
    · rw [if_neg (by simp), if_pos (by omega), E1.out]
      have := hi f.f0 (f.f0 == cur)
      simp only [runOf] at this
      rw [this]
      simp [runOf, Bool.or_comm]
    · rw [if_pos rfl, if_pos (by omega), E1.out]
      have := hi f.f0 true
      simp only [runOf] at this
      rw [this]
      simp [runOf]
theorem rRight_some (total seq next cur : Int) (l : List FileT) (k : Nat) (hk : l.length + 3 ≤ k) (hl : l.length ≤ 8796093022207) : root_Right.f k total seq next cur l = some (rgood total seq next cur l) := by
  obtain ⟨k, rfl⟩ : ∃ m, k = m + 1 := ⟨k - 1, by omega⟩
  unfold root_Right.f rgood
  have out : root_Right.j0 (k + 1) total true seq next cur l = some false := by rw [root_Right.j0, if_pos rfl]
  by_cases c1 : seq < 1
  · rw [if_pos c1, out]; simp [show ¬ 1 ≤ seq by omega]
  rw [if_neg c1]
  by_cases c2 : seq > 9007199254740991
  · rw [if_pos c2, out]; simp [show ¬ seq ≤ 9007199254740991 by omega]
  rw [if_neg c2]
  by_cases c3 : next < 1
  · rw [if_pos c3, out]; simp [show ¬ 1 ≤ next by omega]
  rw [if_neg c3]
  by_cases c4 : next > 9007199254740991
  · rw [if_pos c4, out]; simp [show ¬ next ≤ 9007199254740991 by omega]
  rw [if_neg c4]
  by_cases c5 : l.length ≤ 24
  · have : decide ((l.length : Int) > 24) = false := by simp; omega
    rw [this, root_Right.j0, if_neg (by simp)]
    have := rRight_loop total seq next cur l c5 l [] 0 (cur == 0) [] k rfl (by simp) (by omega)
    simp only [List.length_nil, Int.natCast_zero, List.nil_append] at this
    rw [this]
    have hd : (1 ≤ seq ∧ seq ≤ 9007199254740991 ∧ 1 ≤ next ∧ next ≤ 9007199254740991 ∧ l.length ≤ 24) := by omega
    simp [hd]
  · have : decide ((l.length : Int) > 24) = true := by simp; omega
    rw [this, out]; simp [c5]
end Go.Proofs.Yticajnfmjapkgaa.PD
