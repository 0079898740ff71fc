/-
  Layer 6, the plain part: what a right root's files are; the chapter's examples.
-/
import Derived.Test.YticajnfmjapkgaaRtA
import Derived.Test.YticajnfmjapkgaaPDx33
set_option linter.unusedVariables false
set_option linter.unusedSimpArgs false
namespace Go.Proofs.Yticajnfmjapkgaa.PD
open Go.RowKit Go.Proofs.Yticajnfmjapkgaa Go.Proofs.YticajnfmjapkgaaW.PrintWords

theorem ex_first : palinodelaw06_examples.f 40 = some true := by kernel_rfl
theorem ex_some (k : Nat) (hk : 40 ≤ k) : palinodelaw06_examples.f k = some true := by
  obtain ⟨j, rfl⟩ : ∃ j, k = 40 + j := ⟨k - 40, by omega⟩
  clear hk
  induction j with
  | zero => exact ex_first
  | succ j ih => exact palinodelaw06_examples.mono (40 + j) _ ih
theorem neg_wrap (x : Int) (h : -9223372036854775808 ≤ x) (hn : x < 0) : wrap64 (-(wrap64 (x + 1))) = -(x + 1) := by unfold wrap64; omega

theorem fok_cons {next last : Int} {f : FileT} {l : List FileT} (h : fok next last (f :: l) = true) : last < f.f0 ∧ f.f0 < next ∧ 18 ≤ f.f1 ∧ fok next f.f0 l = true := by
  simpa only [fok, Bool.and_eq_true, decide_eq_true_eq] using h
theorem fok_all (next : Int) (l : List FileT) : ∀ last, fok next last l = true → ∀ f ∈ l, last < f.f0 ∧ f.f0 < next ∧ 18 ≤ f.f1 := by
  induction l with
  | nil => intro last _ f hf; simp at hf
  | cons g l ih =>
    intro last h f hf
    obtain ⟨h1, h2, h3, h4⟩ := fok_cons h
    rcases List.mem_cons.1 hf with rfl | hf
    · exact ⟨h1, h2, h3⟩
    · have := ih _ h4 f hf
      exact ⟨by omega, this.2.1, this.2.2⟩
theorem fok_last (next : Int) (l : List FileT) (g : FileT) : ∀ last, fok next last (l ++ [g]) = true → fok next last l = true ∧ last < g.f0 ∧ g.f0 < next ∧ 18 ≤ g.f1 ∧ ∀ f ∈ l, f.f0 < g.f0 := by
  induction l with
  | nil =>
    intro last h
    obtain ⟨h1, h2, h3, _⟩ := fok_cons h
    exact ⟨rfl, h1, h2, h3, by simp⟩
  | cons x l ih =>
    intro last h
    obtain ⟨h1, h2, h3, h4⟩ := fok_cons (l := l ++ [g]) h
    obtain ⟨i1, i2, i3, i4, i5⟩ := ih _ h4
    refine ⟨by simp only [fok, Bool.and_eq_true, decide_eq_true_eq]; exact ⟨h1, h2, h3, i1⟩, by omega, i3, i4, fun f hf => ?_⟩
    rcases List.mem_cons.1 hf with rfl | hf
    · exact i2
    · exact i5 f hf
theorem rgood_iff (total seq next cur : Int) (l : List FileT) : rgood total seq next cur l = true ↔ (1 ≤ seq ∧ seq ≤ 9007199254740991 ∧ 1 ≤ next ∧ next ≤ 9007199254740991 ∧ l.length ≤ 24) ∧ fok next 0 l = true ∧ (cur = 0 ∨ ∃ f ∈ l, f.f0 = cur) ∧ good total (l.map runOf) = true := by
  simp [rgood]
theorem good_valid {total : Int} {l : List RunT} (h : good total l = true) : ∀ r ∈ l, valid total r := by
  obtain ⟨_, _, _, h4⟩ := good_of h
  exact ((ok_iff total l).1 h4).1
end Go.Proofs.Yticajnfmjapkgaa.PD
