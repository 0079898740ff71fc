/-
  Which runs may be used: what space.Right answers, in closed form, and what it says of the runs.
-/
import Derived.Test.YticajnfmjapkgaaPDx28
set_option linter.unusedVariables false
set_option linter.unusedSimpArgs false
namespace Go.Proofs.Yticajnfmjapkgaa.PD
open Go.RowKit Go.Proofs.Yticajnfmjapkgaa Go.Proofs.YticajnfmjapkgaaW.PrintWords

abbrev RunT := S62
theorem wrapS (n : Int) (h0 : -4611686018427387904 ≤ n) (h : n ≤ 4611686018427387904) : wrap64 n = n := by unfold wrap64; omega
def good (total : Int) (l : List RunT) : Bool := decide (0 ≤ total ∧ total ≤ 4000 ∧ l.length ≤ 200) && space_sorted.ok total 0 (space_sorted.sort l)
theorem sorted_some (total : Int) (l : List RunT) : space_sorted.f total l = some (if good total l = true then (space_sorted.sort l, true) else ([], false)) := by
  unfold space_sorted.f good
  by_cases h : total < 0 ∨ 4000 < total ∨ 200 < l.length
  · have h2 : ¬ (0 ≤ total ∧ total ≤ 4000 ∧ l.length ≤ 200) := by omega
    rw [if_pos h]
    simp [h2]
  · have h2 : 0 ≤ total ∧ total ≤ 4000 ∧ l.length ≤ 200 := by omega
    rw [if_neg h]
    simp only [h2, and_self, decide_true, Bool.true_and]
theorem good_of {total : Int} {l : List RunT} (h : good total l = true) : 0 ≤ total ∧ total ≤ 4000 ∧ l.length ≤ 200 ∧ space_sorted.ok total 0 (space_sorted.sort l) = true := by
  simp only [good, Bool.and_eq_true, decide_eq_true_eq] at h
  exact ⟨h.1.1, h.1.2.1, h.1.2.2, h.2⟩
theorem sort_length (l : List RunT) : (space_sorted.sort l).length = l.length := (space_sorted.sort_perm l).length_eq

theorem ok_cons {total e : Int} {r : RunT} {l : List RunT} (h : space_sorted.ok total e (r :: l) = true) : 1 ≤ r.f1 ∧ e ≤ r.f0 ∧ r.f0 ≤ total ∧ r.f1 ≤ total - r.f0 ∧ space_sorted.ok total (r.f0 + r.f1) l = true := by
  simpa only [space_sorted.ok, Bool.and_eq_true, decide_eq_true_eq] using h
theorem ok_all (total : Int) (l : List RunT) : ∀ e, 0 ≤ e → space_sorted.ok total e l = true → ∀ r ∈ l, e ≤ r.f0 ∧ r.f0 ≤ total ∧ 1 ≤ r.f1 ∧ r.f1 ≤ total - r.f0 := by
  induction l with
  | nil => intro e _ _ r hr; simp at hr
  | cons x l ih =>
    intro e he h r hr
    obtain ⟨h1, h2, h3, h4, h5⟩ := ok_cons h
    rcases List.mem_cons.1 hr with rfl | hr
    · exact ⟨h2, h3, h1, h4⟩
    · have := ih _ (by omega) h5 r hr
      exact ⟨by omega, by omega, by omega, by omega⟩

theorem Right_some (total : Int) (l : List RunT) : space_Right.f total l = some (good total l) := by
  unfold space_Right.f
  rw [sorted_some]
  simp only [Option.bind_some]
  by_cases hg : good total l = true
  · simp [hg]
  · simp [hg]

def valid (total : Int) (r : RunT) : Prop := 1 ≤ r.f1 ∧ 0 ≤ r.f0 ∧ r.f0 ≤ total ∧ r.f1 ≤ total - r.f0
instance (total : Int) (r : RunT) : Decidable (valid total r) := by unfold valid; exact inferInstance
def apartR (r s : RunT) : Prop := r.f0 + r.f1 ≤ s.f0 ∨ s.f0 + s.f1 ≤ r.f0
instance (r s : RunT) : Decidable (apartR r s) := by unfold apartR; exact inferInstance
theorem apartR_symm {r s : RunT} (h : apartR r s) : apartR s r := by unfold apartR at *; omega

theorem ok_apart (total : Int) (l : List RunT) : ∀ e, 0 ≤ e → space_sorted.ok total e l = true → l.Pairwise apartR := by
  induction l with
  | nil => intro e _ _; exact List.Pairwise.nil
  | cons r l ih =>
    intro e he h
    obtain ⟨h1, h2, h3, h4, h5⟩ := ok_cons h
    rw [List.pairwise_cons]
    exact ⟨fun s hs => Or.inl (ok_all total l _ (by omega) h5 s hs).1, ih _ (by omega) h5⟩
theorem ok_of (total : Int) (l : List RunT) : ∀ e, (∀ s ∈ l, e ≤ s.f0) → (l.Pairwise fun a b => a.f0 ≤ b.f0) → (∀ r ∈ l, valid total r) → l.Pairwise apartR → space_sorted.ok total e l = true := by
  induction l with
  | nil => intro e _ _ _ _; rfl
  | cons r l ih =>
    intro e he hs hv hp
    rw [List.pairwise_cons] at hs hp
    have hr := hv r (by simp)
    unfold valid at hr
    have h0 := he r (by simp)
    simp only [space_sorted.ok, Bool.and_eq_true, decide_eq_true_eq]
    refine ⟨hr.1, h0, hr.2.2.1, hr.2.2.2, ih _ (fun s hs2 => ?_) hs.2 (fun s hs2 => hv s (by simp [hs2])) hp.2⟩
    have h1 := hs.1 s hs2
    have h2 := hp.1 s hs2
    have h3 := hv s (by simp [hs2])
    unfold valid at h3
    unfold apartR at h2
    omega
theorem ok_iff (total : Int) (l : List RunT) : space_sorted.ok total 0 (space_sorted.sort l) = true ↔ (∀ r ∈ l, valid total r) ∧ l.Pairwise apartR := by
  have hp := space_sorted.sort_perm l
  constructor
  · intro h
    refine ⟨fun r hr => ?_, (hp.pairwise_iff (fun h => apartR_symm h)).1 (ok_apart total _ 0 (by omega) h)⟩
    have := ok_all total _ 0 (by omega) h r (hp.mem_iff.2 hr)
    unfold valid
    omega
  · rintro ⟨h1, h2⟩
    exact ok_of total _ 0 (fun s hs => (h1 s (hp.mem_iff.1 hs)).2.1) (space_sorted.sort_sorted l) (fun r hr => h1 r (hp.mem_iff.1 hr)) ((hp.pairwise_iff (fun h => apartR_symm h)).2 h2)

end Go.Proofs.Yticajnfmjapkgaa.PD
