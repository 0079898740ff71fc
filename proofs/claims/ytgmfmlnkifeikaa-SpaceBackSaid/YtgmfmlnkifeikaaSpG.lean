/-
  SpaceBack: the plain law. What is given back is free again, as if it had never been taken; the order of runs plays no part.
-/
import Derived.Test.YtgmfmlnkifeikaaSpC
import Derived.Test.YtgmfmlnkifeikaaPDx36
set_option linter.unusedVariables false
set_option linter.unusedSimpArgs false
namespace Go.Proofs.Ytgmfmlnkifeikaa.PD
open Go.RowKit Go.Proofs.Ytgmfmlnkifeikaa Go.Proofs.YtgmfmlnkifeikaaW.PrintWords

theorem ex_first : palinodelaw05_examples.f 20 = some true := by kernel_rfl
theorem ex_some (k : Nat) (hk : 20 ≤ k) : palinodelaw05_examples.f k = some true := by
  obtain ⟨j, rfl⟩ : ∃ j, k = 20 + j := ⟨k - 20, by omega⟩
  clear hk
  induction j with
  | zero => exact ex_first
  | succ j ih => exact palinodelaw05_examples.mono (20 + j) _ ih

theorem good_perm {total : Int} {a b : List RunT} (h : a.Perm b) (hg : good total a = true) : good total b = true ∧ space_sorted.sort b = space_sorted.sort a := by
  obtain ⟨g1, g2, g3, g4⟩ := good_of hg
  have hs : space_sorted.sort a = space_sorted.sort b :=
    space_sorted.only _ _ ((space_sorted.sort_perm a).trans (h.trans (space_sorted.sort_perm b).symm)) (space_sorted.ok_strict total _ 0 g4).2 (space_sorted.sort_sorted b)
  refine ⟨?_, hs.symm⟩
  have := h.length_eq
  simp only [good, Bool.and_eq_true, decide_eq_true_eq]
  exact ⟨⟨g1, g2, by omega⟩, by rw [← hs]; exact g4⟩
theorem fit_perm {total : Int} {a b : List RunT} (many : Int) (h : a.Perm b) (hg : good total a = true) : fitOf total b many = fitOf total a many := by
  obtain ⟨h1, h2⟩ := good_perm h hg
  simp only [fitOf, h1, h2, hg]
theorem good_tail {total : Int} {r : RunT} {l : List RunT} (hg : good total (r :: l) = true) : good total l = true := by
  obtain ⟨g1, g2, g3, g4⟩ := good_of hg
  obtain ⟨v1, v2⟩ := (ok_iff total (r :: l)).1 g4
  simp only [good, Bool.and_eq_true, decide_eq_true_eq]
  simp at g3
  exact ⟨⟨g1, g2, by omega⟩, (ok_iff total l).2 ⟨fun x hx => v1 x (by simp [hx]), (List.pairwise_cons.1 v2).2⟩⟩

theorem Back_last (total : Int) (r : RunT) (l : List RunT) (a2 : Int) (hg : good total (r :: l) = true) (k : Nat) (hk : 300 ≤ k) :
    palinodelaw05_SpaceBack.l0 (k + 1) total (r :: l) a2 true (r :: l).reverse (-1) = some true := by
  obtain ⟨g1, g2, g3, g4⟩ := good_of hg
  have g3' := g3
  rw [List.length_cons] at g3'
  have ht := good_tail hg
  have hfp : fitOf total (r :: l).reverse a2 = fitOf total (r :: l) a2 := fit_perm a2 (List.reverse_perm _).symm hg
  have hrl : (r :: l).reverse.length = l.length + 1 := by simp
  have hs0 := gaps_sum total _ 0 g1 g4
  have hv := ((ok_iff total (r :: l)).1 g4).1 r (by simp)
  unfold valid at hv
  have hsl : 0 ≤ sum1 l ∧ sum1 l ≤ 4000 := by
    obtain ⟨t1, t2, t3, t4⟩ := good_of ht
    have h1 := gaps_sum total _ 0 t1 t4
    rw [sum1_perm (space_sorted.sort_perm l)] at h1
    have h2 : ∀ x : List RunT, (∀ y ∈ x, 0 ≤ y.f1) → 0 ≤ sum1 x := fun x => by
      induction x with
      | nil => intro _; simp [sum1]
      | cons y x ih => intro q; have := ih (fun z hz => q z (by simp [hz])); have := q y (by simp); rw [sum1_cons]; omega
    have h3 := h2 _ (fun y hy => by have := (gaps_each total _ 0 (by omega) t1 t4 y hy).2.1; omega)
    have h4 := h2 l (fun y hy => by have := ((ok_iff total l).1 t4).1 y hy; unfold valid at this; omega)
    omega
  rw [palinodelaw05_SpaceBack.l0, if_neg (by omega), Fit_some _ _ _ _ (by rw [List.length_cons]; omega)]
  simp only [Option.bind_some]
  rw [Fit_some _ _ _ _ (by omega)]
  simp only [Option.bind_some]
  rw [if_pos (by simp; omega), Room_some _ _ _ (by simp; omega)]
  simp only [Option.bind_some]
  rw [Room_some _ _ _ (by rw [List.length_cons]; omega)]
  have hd : (r :: l).drop 1 = l := rfl
  have hrd : rd_T32 (r :: l) 0 = r := rfl
  have hw : wrap64 (total - sum1 (r :: l) + r.f1) = total - sum1 l := by rw [sum1_cons, wrapS _ (by omega) (by omega)]; omega
  simp only [Option.bind_some, hfp, hd, ht, hg, if_true, hrd, hw]
  cases (fitOf total (r :: l) a2).2 <;> simp
theorem Back_loop (total : Int) (L : List RunT) (a2 : Int) (hL : L ≠ []) (hg : good total L = true) : ∀ (d k : Nat), d ≤ L.length → d + 400 ≤ k →
    palinodelaw05_SpaceBack.l0 k total L a2 true (L.drop d).reverse ((d : Int) - 1) = some true := by
  intro d
  obtain ⟨g1, g2, g3, g4⟩ := good_of hg
  induction d with
  | zero =>
    intro k _ hk
    obtain ⟨k, rfl⟩ : ∃ m, k = m + 1 := ⟨k - 1, by omega⟩
    cases L with
    | nil => exact absurd rfl hL
    | cons r l => exact Back_last total r l a2 hg k (by omega)
  | succ d ih =>
    intro k hd hk
    obtain ⟨k, rfl⟩ : ∃ m, k = m + 1 := ⟨k - 1, by omega⟩
    have hlt : d < L.length := by omega
    have he : ((d + 1 : Nat) : Int) - 1 = (d : Int) := by omega
    have hrd : rd_T32 L (d : Int) = L[d] := by simp [rd_T32, List.getD, hlt]
    have hrev : (L.drop (d + 1)).reverse ++ [(⟨L[d].f0, L[d].f1⟩ : RunT)] = (L.drop d).reverse := by
      rw [List.drop_eq_getElem_cons hlt, List.reverse_cons]
    have E1 : Hid (wrap64 ((d : Int) - 1) = (d : Int) - 1) := Lib.hid (wrapS _ (by omega) (by omega))
    rw [he, palinodelaw05_SpaceBack.l0, if_pos (by omega), if_pos (by omega), if_pos (by omega), if_pos (by simp; omega), hrd, hrev, E1.out]
    exact ih k (by omega) (by omega)
theorem SpaceBack_true (a0 : Int) (l1 : List RunT) (a2 : Int) (_h0 : -9223372036854775808 ≤ a0 ∧ a0 ≤ 9223372036854775807) (_h1 : l1.length ≤ 8796093022207 ∧ ∀ x ∈ l1, (-9223372036854775808 ≤ x.f0 ∧ x.f0 ≤ 9223372036854775807) ∧ (-9223372036854775808 ≤ x.f1 ∧ x.f1 ≤ 9223372036854775807)) (_h2 : -9223372036854775808 ≤ a2 ∧ a2 ≤ 9223372036854775807) : ∃ k, palinodelaw05_SpaceBack.f k a0 l1 a2 = some true := by
  refine ⟨1001, ?_⟩
  unfold palinodelaw05_SpaceBack.f
  rw [ex_some _ (by omega)]
  simp only [Option.bind_some]
  have out : palinodelaw05_SpaceBack.j0 1001 a0 l1 a2 true true = some true := by rw [palinodelaw05_SpaceBack.j0, if_pos rfl]
  by_cases c1 : a0 < 0
  · rw [if_pos c1]; exact out
  · rw [if_neg c1]
    by_cases c2 : a0 > 300
    · rw [if_pos c2]; exact out
    · rw [if_neg c2, Right_some]
      simp only [Option.bind_some]
      by_cases hg : good a0 l1 = true
      · rw [if_pos hg]
        obtain ⟨g1, g2, g3, g4⟩ := good_of hg
        by_cases hl : l1 = []
        · subst hl
          exact out
        · have hpos : 0 < l1.length := List.length_pos_iff.2 hl
          have : ((l1.length : Int) == 0) = false := by simp; exact hl
          rw [this, palinodelaw05_SpaceBack.j0, if_neg (by simp)]
          have h1 := Back_loop a0 l1 a2 hl hg l1.length 1000 (Nat.le_refl _) (by omega)
          rw [List.drop_length, List.reverse_nil] at h1
          rw [wrapS _ (by omega) (by omega)]
          exact h1
      · rw [if_neg hg]; exact out
end Go.Proofs.Ytgmfmlnkifeikaa.PD
