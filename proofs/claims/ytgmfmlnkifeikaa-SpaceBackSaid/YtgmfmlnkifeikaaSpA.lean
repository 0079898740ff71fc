/-
  Layer 5, the plain part: what Free, Fit, Room and Right answer, in closed form.
-/
import Derived.Test.YtgmfmlnkifeikaaPDx25
import Derived.Test.YtgmfmlnkifeikaaPDx26
import Derived.Test.YtgmfmlnkifeikaaPDx27
set_option linter.unusedVariables false
set_option linter.unusedSimpArgs false
namespace Go.Proofs.Ytgmfmlnkifeikaa.PD
open Go.RowKit Go.Proofs.Ytgmfmlnkifeikaa Go.Proofs.YtgmfmlnkifeikaaW.PrintWords

abbrev RunT := S32
theorem wrapS (n : Int) (h0 : -4611686018427387904 ≤ n) (h : n ≤ 4611686018427387904) : wrap64 n = n := by unfold wrap64; omega
theorem rd_mid (pre rest : List RunT) (r : RunT) : rd_T32 (pre ++ r :: rest) (pre.length : Int) = r := by
  simp [rd_T32, List.getD]

/-- The gaps up to the last run, that may be a run of nothing. -/
def gapsS : Int → List RunT → List RunT
  | _, [] => []
  | at_, r :: l => (if r.f0 > at_ then [⟨at_, r.f0 - at_⟩] else []) ++ gapsS (r.f0 + r.f1) l
/-- What is free. -/
def gaps (total : Int) (at_ : Int) (l : List RunT) : List RunT := gapsS at_ (l ++ [⟨total, 0⟩])
theorem gapsS_length (l : List RunT) : ∀ at_, (gapsS at_ l).length ≤ l.length := by
  induction l with
  | nil => intro at_; simp [gapsS]
  | cons r l ih =>
    intro at_
    have := ih (r.f0 + r.f1)
    simp only [gapsS, List.length_append, List.length_cons]
    split <;> simp <;> omega
theorem gaps_length (total at_ : Int) (l : List RunT) : (gaps total at_ l).length ≤ l.length + 1 := by
  have := gapsS_length (l ++ [⟨total, 0⟩]) at_
  simpa [gaps] using this

def good (total : Int) (l : List RunT) : Bool := decide (0 ≤ total ∧ total ≤ 4000 ∧ l.length ≤ 200) && space_sorted.ok total 0 (space_sorted.sort l)
theorem sorted_some (total : Int) (l : List RunT) : space_sorted.f total l = some (if good total l = true then (space_sorted.sort l, true) else ([], false)) := by
  unfold space_sorted.f good
  by_cases h : total < 0 ∨ 4000 < total ∨ 200 < l.length
  · have h2 : ¬ (0 ≤ total ∧ total ≤ 4000 ∧ l.length ≤ 200) := by omega
    rw [if_pos h]
    simp [h2]
  · have h2 : 0 ≤ total ∧ total ≤ 4000 ∧ l.length ≤ 200 := by omega
    rw [if_neg h]
    simp only [h2, and_self, decide_true, Bool.true_and]
theorem good_of {total : Int} {l : List RunT} (h : good total l = true) : 0 ≤ total ∧ total ≤ 4000 ∧ l.length ≤ 200 ∧ space_sorted.ok total 0 (space_sorted.sort l) = true := by
  simp only [good, Bool.and_eq_true, decide_eq_true_eq] at h
  exact ⟨h.1.1, h.1.2.1, h.1.2.2, h.2⟩
theorem sort_length (l : List RunT) : (space_sorted.sort l).length = l.length := (space_sorted.sort_perm l).length_eq

theorem ok_cons {total e : Int} {r : RunT} {l : List RunT} (h : space_sorted.ok total e (r :: l) = true) : 1 ≤ r.f1 ∧ e ≤ r.f0 ∧ r.f0 ≤ total ∧ r.f1 ≤ total - r.f0 ∧ space_sorted.ok total (r.f0 + r.f1) l = true := by
  simpa only [space_sorted.ok, Bool.and_eq_true, decide_eq_true_eq] using h
theorem ok_all (total : Int) (l : List RunT) : ∀ e, 0 ≤ e → space_sorted.ok total e l = true → ∀ r ∈ l, e ≤ r.f0 ∧ r.f0 ≤ total ∧ 1 ≤ r.f1 ∧ r.f1 ≤ total - r.f0 := by
  induction l with
  | nil => intro e _ _ r hr; simp at hr
  | cons x l ih =>
    intro e he h r hr
    obtain ⟨h1, h2, h3, h4, h5⟩ := ok_cons h
    rcases List.mem_cons.1 hr with rfl | hr
    · exact ⟨h2, h3, h1, h4⟩
    · have := ih _ (by omega) h5 r hr
      exact ⟨by omega, by omega, by omega, by omega⟩

theorem Free_loop (xs : List RunT) (hb : ∀ r ∈ xs, 0 ≤ r.f0 ∧ r.f0 ≤ 4000 ∧ 0 ≤ r.f1 ∧ r.f1 ≤ 4000) (hx : xs.length ≤ 1000) : ∀ (rest pre acc : List RunT) (at_ : Int) (k : Nat), xs = pre ++ rest → 0 ≤ at_ → at_ ≤ 8000 → acc.length ≤ pre.length → rest.length + 1 ≤ k →
    space_Free.l0 k acc at_ xs (xs.length : Int) (pre.length : Int) = some (acc ++ gapsS at_ rest, none) := by
  intro rest
  induction rest with
  | nil =>
    intro pre acc at_ k he h0 h1 ha hk
    obtain ⟨k, rfl⟩ : ∃ m, k = m + 1 := ⟨k - 1, by omega⟩
    have hl : xs.length = pre.length := by rw [he]; simp
    simp only [space_Free.l0]
    rw [if_neg (by omega)]
    simp [gapsS]
  | cons r rest ih =>
    intro pre acc at_ k he h0 h1 ha hk
    obtain ⟨k, rfl⟩ : ∃ m, k = m + 1 := ⟨k - 1, by omega⟩
    have hl : xs.length = pre.length + (rest.length + 1) := by rw [he]; simp
    have hrd : rd_T32 xs (pre.length : Int) = r := by rw [he]; exact rd_mid pre rest r
    have hr := hb r (by rw [he]; simp)
    have hi := ih (pre ++ [r])
    simp only [List.length_append, List.length_singleton] at hi
    have e1 : wrap64 ((pre.length : Int) + 1) = ((pre.length + 1 : Nat) : Int) := by rw [wrapS _ (by omega) (by omega)]; omega
    have e2 : wrap64 (r.f0 + r.f1) = r.f0 + r.f1 := wrapS _ (by omega) (by omega)
    simp only [space_Free.l0]
    rw [if_pos (by omega), if_pos (by omega), if_pos (by omega), hrd, e1, e2]
    by_cases hg : r.f0 > at_
    · have e3 : wrap64 (r.f0 - at_) = r.f0 - at_ := wrapS _ (by omega) (by omega)
      rw [if_pos hg, if_pos (by omega), e3, hi _ _ k (by rw [he]; simp) (by omega) (by omega) (by simp; omega) (by simp at hk; omega)]
      simp [gapsS, hg]
    · rw [if_neg hg, hi _ _ k (by rw [he]; simp) (by omega) (by omega) (by omega) (by simp at hk; omega)]
      simp [gapsS, hg]
theorem Free_some (total : Int) (l : List RunT) (k : Nat) (hk : l.length + 3 ≤ k) : space_Free.f k total l = some (if good total l = true then (gaps total 0 (space_sorted.sort l), none) else ([], some 1)) := by
  unfold space_Free.f
  rw [sorted_some]
  simp only [Option.bind_some]
  by_cases hg : good total l = true
  · obtain ⟨h1, h2, h3, h4⟩ := good_of hg
    have hs := sort_length l
    rw [if_pos hg]
    simp only [if_true]
    rw [if_pos (by omega), if_pos hg]
    have hb := ok_all total _ 0 (by omega) h4
    have := Free_loop (space_sorted.sort l ++ [⟨total, 0⟩]) (fun r hr => by
      rcases List.mem_append.1 hr with hr | hr
      · have := hb r hr; omega
      · simp at hr; subst hr; simp; omega) (by simp; omega) (space_sorted.sort l ++ [⟨total, 0⟩]) [] [] 0 k rfl (by omega) (by omega) (by simp) (by simp; omega)
    simpa [gaps] using this
  · rw [if_neg hg]
    simp [hg]
theorem Right_some (total : Int) (l : List RunT) : space_Right.f total l = some (good total l) := by
  unfold space_Right.f
  rw [sorted_some]
  simp only [Option.bind_some]
  by_cases hg : good total l = true
  · simp [hg]
  · simp [hg]

def sum1 (l : List RunT) : Int := (l.map (·.f1)).sum
theorem sum1_nil : sum1 [] = 0 := rfl
theorem sum1_cons (r : RunT) (l : List RunT) : sum1 (r :: l) = r.f1 + sum1 l := by simp [sum1]
theorem sum1_append (a b : List RunT) : sum1 (a ++ b) = sum1 a + sum1 b := by simp [sum1]
theorem sum1_perm {a b : List RunT} (h : a.Perm b) : sum1 a = sum1 b := by
  induction h with
  | nil => rfl
  | cons x _ ih => rw [sum1_cons, sum1_cons, ih]
  | swap x y l => simp only [sum1_cons]; omega
  | trans _ _ h1 h2 => exact h1.trans h2
theorem gaps_sum (total : Int) (l : List RunT) : ∀ at_, at_ ≤ total → space_sorted.ok total at_ l = true → sum1 (gaps total at_ l) = total - at_ - sum1 l := by
  induction l with
  | nil =>
    intro at_ h _
    simp only [gaps, List.nil_append, gapsS, List.append_nil]
    split
    · simp [sum1]
    · simp [sum1]; omega
  | cons r l ih =>
    intro at_ h hok
    obtain ⟨h1, h2, h3, h4, h5⟩ := ok_cons hok
    have := ih _ (by omega) h5
    simp only [gaps] at this
    simp only [gaps, List.cons_append, gapsS, sum1_append, sum1_cons, this]
    split
    · simp [sum1]; omega
    · simp [sum1]; omega
theorem gaps_each (total : Int) (l : List RunT) : ∀ at_, 0 ≤ at_ → at_ ≤ total → space_sorted.ok total at_ l = true → ∀ g ∈ gaps total at_ l, at_ ≤ g.f0 ∧ 1 ≤ g.f1 ∧ g.f0 + g.f1 ≤ total := by
  induction l with
  | nil =>
    intro at_ h0 h _ g hg
    simp only [gaps, List.nil_append, gapsS, List.append_nil] at hg
    split at hg
    · simp at hg; subst hg; simp; omega
    · simp at hg
  | cons r l ih =>
    intro at_ h0 h hok g hg
    obtain ⟨h1, h2, h3, h4, h5⟩ := ok_cons hok
    simp only [gaps, List.cons_append, gapsS] at hg
    rcases List.mem_append.1 hg with hg | hg
    · split at hg
      · simp at hg; subst hg; simp; omega
      · simp at hg
    · have := ih _ (by omega) (by omega) h5 g hg
      omega

theorem Room_loop (e : Option Int) (xs : List RunT) (hb : ∀ r ∈ xs, 0 ≤ r.f1 ∧ r.f1 ≤ 4000) (hx : xs.length ≤ 1000) : ∀ (rest pre : List RunT) (acc : Int) (k : Nat), xs = pre ++ rest → 0 ≤ acc → acc ≤ 4000 * pre.length → rest.length + 1 ≤ k →
    space_Room.l0 k e acc xs (xs.length : Int) (pre.length : Int) = some (acc + sum1 rest, e) := by
  intro rest
  induction rest with
  | nil =>
    intro pre acc k he h0 h1 hk
    obtain ⟨k, rfl⟩ : ∃ m, k = m + 1 := ⟨k - 1, by omega⟩
    have hl : xs.length = pre.length := by rw [he]; simp
    simp only [space_Room.l0]
    rw [if_neg (by omega)]
    simp [sum1]
  | cons r rest ih =>
    intro pre acc k he h0 h1 hk
    obtain ⟨k, rfl⟩ : ∃ m, k = m + 1 := ⟨k - 1, by omega⟩
    have hl : xs.length = pre.length + (rest.length + 1) := by rw [he]; simp
    have hrd : rd_T32 xs (pre.length : Int) = r := by rw [he]; exact rd_mid pre rest r
    have hr := hb r (by rw [he]; simp)
    have hi := ih (pre ++ [r]) (acc + r.f1) k (by rw [he]; simp) (by omega) (by simp; omega) (by simp at hk; omega)
    simp only [List.length_append, List.length_singleton] at hi
    have e1 : wrap64 ((pre.length : Int) + 1) = ((pre.length + 1 : Nat) : Int) := by rw [wrapS _ (by omega) (by omega)]; omega
    have e2 : wrap64 (acc + r.f1) = acc + r.f1 := wrapS _ (by omega) (by omega)
    simp only [space_Room.l0]
    rw [if_pos (by omega), if_pos (by omega), if_pos (by omega), hrd, e1, e2, hi, sum1_cons, Int.add_assoc]
theorem Room_some (total : Int) (l : List RunT) (k : Nat) (hk : l.length + 3 ≤ k) : space_Room.f k total l = some (if good total l = true then (total - sum1 l, none) else (0, some 1)) := by
  unfold space_Room.f
  rw [Free_some total l k hk]
  simp only [Option.bind_some]
  by_cases hg : good total l = true
  · obtain ⟨h1, h2, h3, h4⟩ := good_of hg
    have hs := sort_length l
    rw [if_pos hg, if_pos hg]
    have hb := gaps_each total _ 0 (by omega) h1 h4
    have hl := gaps_length total 0 (space_sorted.sort l)
    have := Room_loop none (gaps total 0 (space_sorted.sort l)) (fun r hr => by have := hb r hr; omega) (by omega) (gaps total 0 (space_sorted.sort l)) [] 0 k rfl (by omega) (by simp) (by omega)
    simp only [List.length_nil, Int.natCast_zero, Int.zero_add] at this
    rw [this, gaps_sum total _ 0 h1 h4, sum1_perm (space_sorted.sort_perm l), Int.sub_zero]
  · rw [if_neg hg, if_neg hg]
    obtain ⟨k, rfl⟩ : ∃ m, k = m + 1 := ⟨k - 1, by omega⟩
    simp [space_Room.l0]

/-- The first gap that is great enough. -/
def firstFit (many : Int) : List RunT → Option Int
  | [] => none
  | r :: l => if r.f1 ≥ many then some r.f0 else firstFit many l
def fitOf (total : Int) (l : List RunT) (many : Int) : Int × Option Int :=
  if good total l = true ∧ 1 ≤ many then (match firstFit many (gaps total 0 (space_sorted.sort l)) with | some p => (p, none) | none => (0, some 7)) else (0, some 1)
theorem Fit_loop (many : Int) (xs : List RunT) (hb : ∀ r ∈ xs, 0 ≤ r.f0) (hx : xs.length ≤ 1000) : ∀ (rest pre : List RunT) (k : Nat), xs = pre ++ rest → rest.length + 1 ≤ k →
    space_Fit.l0 k many (-1) xs (xs.length : Int) (pre.length : Int) = some (match firstFit many rest with | some p => (p, none) | none => (0, some 7)) := by
  intro rest
  induction rest with
  | nil =>
    intro pre k he hk
    obtain ⟨k, rfl⟩ : ∃ m, k = m + 1 := ⟨k - 1, by omega⟩
    have hl : xs.length = pre.length := by rw [he]; simp
    simp only [space_Fit.l0]
    rw [if_neg (by omega), if_pos (by omega)]
    rfl
  | cons r rest ih =>
    intro pre k he hk
    obtain ⟨k, rfl⟩ : ∃ m, k = m + 1 := ⟨k - 1, by omega⟩
    have hl : xs.length = pre.length + (rest.length + 1) := by rw [he]; simp
    have hrd : rd_T32 xs (pre.length : Int) = r := by rw [he]; exact rd_mid pre rest r
    have hr := hb r (by rw [he]; simp)
    have hi := ih (pre ++ [r]) k (by rw [he]; simp) (by simp at hk; omega)
    simp only [List.length_append, List.length_singleton] at hi
    have e1 : wrap64 ((pre.length : Int) + 1) = ((pre.length + 1 : Nat) : Int) := by rw [wrapS _ (by omega) (by omega)]; omega
    simp only [space_Fit.l0]
    rw [if_pos (by omega), if_pos (by omega), if_pos (by omega), hrd, e1]
    by_cases hm : r.f1 ≥ many
    · rw [if_pos hm, if_neg (by omega)]
      simp [firstFit, hm]
    · rw [if_neg hm, hi]
      simp [firstFit, hm]
theorem Fit_some (total : Int) (l : List RunT) (many : Int) (k : Nat) (hk : l.length + 4 ≤ k) : space_Fit.f k total l many = some (fitOf total l many) := by
  unfold space_Fit.f fitOf
  rw [Free_some total l k (by omega)]
  simp only [Option.bind_some]
  obtain ⟨k, rfl⟩ : ∃ m, k = m + 1 := ⟨k - 1, by omega⟩
  by_cases hg : good total l = true
  · obtain ⟨h1, h2, h3, h4⟩ := good_of hg
    have hs := sort_length l
    rw [if_pos hg]
    simp only [Option.isNone_none, if_true]
    simp only [space_Fit.j0]
    by_cases hm : many < 1
    · rw [if_pos (by simpa using hm), if_neg (by omega)]
    · rw [if_neg (by simpa using hm), if_pos ⟨hg, by omega⟩]
      have hb := gaps_each total _ 0 (by omega) h1 h4
      have hl := gaps_length total 0 (space_sorted.sort l)
      have := Fit_loop many (gaps total 0 (space_sorted.sort l)) (fun r hr => (hb r hr).1) (by omega) (gaps total 0 (space_sorted.sort l)) [] k rfl (by omega)
      simpa using this
  · rw [if_neg hg]
    simp [space_Fit.j0, hg]
theorem firstFit_mem (many : Int) (l : List RunT) (p : Int) (h : firstFit many l = some p) : ∃ r ∈ l, r.f0 = p ∧ many ≤ r.f1 := by
  induction l with
  | nil => simp [firstFit] at h
  | cons r l ih =>
    simp only [firstFit] at h
    split at h
    · rename_i hm; injection h with h; exact ⟨r, by simp, h, hm⟩
    · obtain ⟨x, hx, h1⟩ := ih h; exact ⟨x, by simp [hx], h1⟩
end Go.Proofs.Ytgmfmlnkifeikaa.PD
