/-
  SpaceTakes: the plain law. Taken run by run, each where there is room, all is used in the end, and never two share a sector.
-/
import Derived.Test.YtgmfmlnkifeikaaSpA
import Derived.Test.YtgmfmlnkifeikaaPDx35
set_option linter.unusedVariables false
set_option linter.unusedSimpArgs false
namespace Go.Proofs.Ytgmfmlnkifeikaa.PD
open Go.RowKit Go.Proofs.Ytgmfmlnkifeikaa Go.Proofs.YtgmfmlnkifeikaaW.PrintWords

theorem ex_first : palinodelaw05_examples.f 20 = some true := by kernel_rfl
theorem ex_some (k : Nat) (hk : 20 ≤ k) : palinodelaw05_examples.f k = some true := by
  obtain ⟨j, rfl⟩ : ∃ j, k = 20 + j := ⟨k - 20, by omega⟩
  clear hk
  induction j with
  | zero => exact ex_first
  | succ j ih => exact palinodelaw05_examples.mono (20 + j) _ ih

/-- Runs one behind the other, from e to t. -/
def chain : Int → List RunT → Int → Prop
  | e, [], t => e = t
  | e, r :: l, t => r.f0 = e ∧ 1 ≤ r.f1 ∧ chain (e + r.f1) l t
theorem chain_le (l : List RunT) : ∀ e t, chain e l t → e ≤ t := by
  induction l with
  | nil => intro e t h; exact Int.le_of_eq h
  | cons r l ih => intro e t h; have := ih _ _ h.2.2; have := h.2.1; omega
theorem chain_snoc (l : List RunT) (n : Int) (hn : 1 ≤ n) : ∀ e t, chain e l t → chain e (l ++ [⟨t, n⟩]) (t + n) := by
  induction l with
  | nil => intro e t h; simp only [chain] at h; subst h; exact ⟨rfl, hn, rfl⟩
  | cons r l ih => intro e t h; exact ⟨h.1, h.2.1, ih _ _ h.2.2⟩
theorem chain_ok (total : Int) (l : List RunT) : ∀ e t, chain e l t → t ≤ total → space_sorted.ok total e l = true := by
  induction l with
  | nil => intro e t _ _; rfl
  | cons r l ih =>
    intro e t h ht
    have h1 := chain_le _ _ _ h.2.2
    have h2 := ih _ _ h.2.2 ht
    have h3 := h.1
    have h4 := h.2.1
    simp only [space_sorted.ok, Bool.and_eq_true, decide_eq_true_eq]
    rw [h3]
    exact ⟨h4, by omega, by omega, by omega, h2⟩
theorem chain_sort (total : Int) (l : List RunT) (e t : Int) (h : chain e l t) : space_sorted.sort l = l := by
  have h1 := (space_sorted.ok_strict t l e (chain_ok t l e t h (Int.le_refl _))).2
  exact (space_sorted.only l _ (space_sorted.sort_perm l).symm h1 (space_sorted.sort_sorted l)).symm
theorem chain_sum (l : List RunT) : ∀ e t, chain e l t → sum1 l = t - e := by
  induction l with
  | nil => intro e t h; simp only [chain] at h; subst h; simp [sum1]
  | cons r l ih => intro e t h; rw [sum1_cons, ih _ _ h.2.2]; omega
theorem chain_gaps (total : Int) (l : List RunT) : ∀ e t, chain e l t → gaps total e l = if total > t then [⟨t, total - t⟩] else [] := by
  induction l with
  | nil => intro e t h; simp only [chain] at h; subst h; simp [gaps, gapsS]
  | cons r l ih =>
    intro e t h
    have := ih _ _ h.2.2
    have h1 := h.1
    simp only [gaps] at this
    simp only [gaps, List.cons_append, gapsS]
    rw [if_neg (by omega), h1, this, List.nil_append]
theorem chain_good (total : Int) (l : List RunT) (t : Int) (h0 : 0 ≤ total) (h1 : total ≤ 4000) (hl : l.length ≤ 200) (h : chain 0 l t) (ht : t ≤ total) : good total l = true := by
  simp only [good, Bool.and_eq_true, decide_eq_true_eq]
  exact ⟨⟨h0, h1, hl⟩, by rw [chain_sort total l 0 t h]; exact chain_ok total l 0 t h ht⟩
theorem chain_fit (total : Int) (l : List RunT) (t n : Int) (h0 : 0 ≤ total) (h1 : total ≤ 4000) (hl : l.length ≤ 200) (h : chain 0 l t) (ht : t ≤ total) (hn : 1 ≤ n) : fitOf total l n = if n ≤ total - t then (t, none) else (0, some 7) := by
  rw [fitOf, if_pos ⟨chain_good total l t h0 h1 hl h ht, hn⟩, chain_sort total l 0 t h, chain_gaps total l 0 t h]
  by_cases hg : n ≤ total - t
  · rw [if_pos (by omega : total > t), if_pos hg]
    simp [firstFit, hg]
  · rw [if_neg hg]
    by_cases h2 : total > t
    · rw [if_pos h2]
      simp [firstFit]
      rw [if_neg hg]
    · rw [if_neg h2]
      simp [firstFit]
theorem neg_wrap (x : Int) (h : -9223372036854775808 ≤ x) (hn : x < 0) : wrap64 (-(wrap64 (x + 1))) = -(x + 1) := by unfold wrap64; omega
theorem is_seven : palinodelaw05_is.f (some 7) 7 = some true := by simp [palinodelaw05_is.f]

theorem Takes_loop (total : Int) (sizes : List Int) (hb : ∀ x ∈ sizes, -9223372036854775808 ≤ x ∧ x ≤ 9223372036854775807) (hlen : sizes.length ≤ 1000000000000000) (h0 : 0 ≤ total) (h1 : total ≤ 200) : ∀ (d i k : Nat) (used : List RunT) (t : Int), i + d = 50 → i ≤ sizes.length → chain 0 used t → t ≤ total → used.length ≤ i → 4 * d + 300 ≤ k →
    palinodelaw05_SpaceTakes.l0 k total sizes true used (total - t) (i : Int) = some true := by
  intro d
  induction d with
  | zero =>
    intro i k used t hi hil hc ht hu hk
    obtain ⟨k, rfl⟩ : ∃ m, k = m + 2 := ⟨k - 2, by omega⟩
    simp only [palinodelaw05_SpaceTakes.l0, palinodelaw05_SpaceTakes.j2]
    have : decide ((i : Int) < 50) = false := by simp; omega
    rw [this]
    split <;> simp
  | succ d ih =>
    intro i k used t hi hil hc ht hu hk
    obtain ⟨k, rfl⟩ : ∃ m, k = m + 3 := ⟨k - 3, by omega⟩
    simp only [palinodelaw05_SpaceTakes.l0]
    by_cases hlt : i < sizes.length
    · rw [if_pos (by omega)]
      have h50 : decide ((i : Int) < 50) = true := by simp; omega
      simp only [palinodelaw05_SpaceTakes.j2, h50, if_true]
      rw [if_pos (by omega), if_pos (by omega)]
      have hx : rd sizes (i : Int) ∈ sizes := by simp [rd, List.getD, hlt]
      have hxb := hb _ hx
      generalize rd sizes (i : Int) = x at hxb
      have key : ∀ y : Int, 0 ≤ y → y ≤ 9223372036854775807 → palinodelaw05_SpaceTakes.j3 (k + 1) total sizes true used (total - t) (i : Int) y = some true := by
        intro y hy0 hy1
        have hm : Int.tmod y 30 = y % 30 := Int.tmod_eq_emod_of_nonneg hy0
        obtain ⟨n, hn⟩ : ∃ n, n = 1 + y % 30 := ⟨_, rfl⟩
        have hn1 : 1 ≤ n := by omega
        have hn2 : n ≤ 30 := by omega
        have hul : used.length ≤ 200 := by omega
        have ht0 := chain_le _ _ _ hc
        have E0 : Hid (wrap64 (1 + Int.tmod y 30) = n) := Lib.hid (by rw [hm, wrapS _ (by omega) (by omega), hn])
        clear hm hn
        have E1 : Hid (wrap64 ((i : Int) + 1) = ((i + 1 : Nat) : Int)) := Lib.hid (by rw [wrapS _ (by omega) (by omega)]; omega)
        have E2 : Hid (wrap64 (total - t - n) = total - t - n) := Lib.hid (wrapS _ (by omega) (by omega))
        have E3 : Hid (wrap64 (wrap64 (total - (total - t - n)) - n) = t) := Lib.hid (by rw [wrapS (total - (total - t - n)) (by omega) (by omega), wrapS _ (by omega) (by omega)]; omega)
        simp only [palinodelaw05_SpaceTakes.j3, E0.out, E1.out, E2.out]
        rw [Fit_some total used n _ (by omega), chain_fit total used t n h0 (by omega) hul hc ht hn1]
        simp only [Option.bind_some]
        by_cases hf : n ≤ total - t
        · rw [if_pos hf]
          have hc2 := chain_snoc used n hn1 0 t hc
          have hl2 : (used ++ [(⟨t, n⟩ : RunT)]).length = used.length + 1 := by simp
          have hg2 := chain_good total _ (t + n) h0 (by omega) (by omega) hc2 (by omega)
          simp only [Option.isNone_none, if_true]
          rw [if_pos (by omega), Room_some total _ _ (by omega), if_pos hg2]
          simp only [Option.bind_some, Option.isNone_none, if_true]
          rw [E3.out, if_pos rfl, chain_sum _ 0 (t + n) hc2, if_pos (by omega), Right_some, hg2]
          simp only [Option.bind_some, if_true]
          have := ih (i + 1) k (used ++ [⟨t, n⟩]) (t + n) (by omega) (by omega) hc2 (by omega) (by omega) (by omega)
          rw [← this]
          congr 1
          omega
        · rw [if_neg hf]
          simp only [Option.isNone_some, Bool.false_eq_true, if_false, Option.getD_some]
          rw [if_neg (by omega), is_seven]
          simp only [Option.bind_some, if_true]
          exact ih (i + 1) k used t (by omega) (by omega) hc ht (by omega) (by omega)
      by_cases hneg : x < 0
      · rw [if_pos hneg]
        rw [neg_wrap x hxb.1 hneg]
        exact key _ (by omega) (by omega)
      · rw [if_neg hneg]
        exact key _ (by omega) (by omega)
    · rw [if_neg (by omega)]
      simp only [palinodelaw05_SpaceTakes.j2, Bool.false_eq_true, if_false]
theorem SpaceTakes_true (a0 : Int) (l1 : List Int) (ha : -9223372036854775808 ≤ a0 ∧ a0 ≤ 9223372036854775807) (hl : l1.length ≤ 1000000000000000 ∧ ∀ x ∈ l1, -9223372036854775808 ≤ x ∧ x ≤ 9223372036854775807) : ∃ k, palinodelaw05_SpaceTakes.f k a0 l1 = some true := by
  refine ⟨601, ?_⟩
  unfold palinodelaw05_SpaceTakes.f
  rw [ex_some 601 (by omega)]
  simp only [Option.bind_some]
  have key : ∀ y : Int, 0 ≤ y → y ≤ 9223372036854775807 → palinodelaw05_SpaceTakes.j0 601 y l1 true = some true := by
    intro y hy0 hy1
    simp only [palinodelaw05_SpaceTakes.j0]
    rw [Int.tmod_eq_emod_of_nonneg hy0]
    have := Takes_loop (y % 201) l1 hl.2 hl.1 (by omega) (by omega) 50 0 600 [] 0 (by omega) (by omega) rfl (by omega) (by simp) (by omega)
    simpa using this
  by_cases hneg : a0 < 0
  · rw [if_pos hneg]
    rw [neg_wrap a0 ha.1 hneg]
    exact key _ (by omega) (by omega)
  · rw [if_neg hneg]
    exact key _ (by omega) (by omega)
end Go.Proofs.Ytgmfmlnkifeikaa.PD
