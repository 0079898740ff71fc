/-
  RootSpoils: the plain law. A root with a file that is not right is none.
-/
import Derived.Test.YticajnfmjapkgaaRtB
import Derived.Test.YticajnfmjapkgaaPDx38
set_option linter.unusedVariables false
set_option linter.unusedSimpArgs false
namespace Go.Proofs.Yticajnfmjapkgaa.PD
open Go.RowKit Go.Proofs.Yticajnfmjapkgaa Go.Proofs.YticajnfmjapkgaaW.PrintWords

theorem spoil_set (total seq next cur : Int) (l : List FileT) (i : Nat) (hi : i < l.length) (g : FileT) (hg : ¬ (g.f0 < next ∧ 18 ≤ g.f1 ∧ 1 ≤ g.f2)) : rgood total seq next cur (l.set i g) = false := by
  rw [Bool.eq_false_iff]
  intro h
  obtain ⟨_, h2, _, h4⟩ := (rgood_iff _ _ _ _ _).1 h
  have hm : g ∈ l.set i g := List.mem_set hi g
  have a := fok_all next _ 0 h2 g hm
  have b := good_valid h4 (runOf g) (List.mem_map.2 ⟨g, hm, rfl⟩)
  unfold valid runOf at b
  exact hg ⟨a.2.1, a.2.2, b.1⟩
theorem spoil_more (total seq next cur : Int) (l : List FileT) (f g : FileT) (hf : f ∈ l) (hg : g.f0 = f.f0) : rgood total seq next cur (l ++ [g]) = false := by
  rw [Bool.eq_false_iff]
  intro h
  obtain ⟨_, h2, _, h4⟩ := (rgood_iff _ _ _ _ _).1 h
  have := (fok_last next l g 0 h2).2.2.2.2 f hf
  omega
theorem spoil_cur (total seq next : Int) (l : List FileT) : rgood total seq next next l = false := by
  rw [Bool.eq_false_iff]
  intro h
  obtain ⟨h1, h2, h3, h4⟩ := (rgood_iff _ _ _ _ _).1 h
  rcases h3 with h3 | ⟨f, hf, h3⟩
  · omega
  · have := fok_all next _ 0 h2 f hf
    omega
theorem Spoils_j2 (total seq next cur : Int) (l : List FileT) (hl : l.length ≤ 24) (h0 : l ≠ []) (x2 x3 : Int) (h2 : 0 ≤ x2) (h3 : 0 ≤ x3) (k : Nat) (hk : 100 ≤ k) :
    palinodelaw06_RootSpoils.j2 k total x2 x3 true seq next cur l = some true := by
  obtain ⟨k, rfl⟩ : ∃ m, k = m + 1 := ⟨k - 1, by omega⟩
  have hpos : 0 < l.length := List.length_pos_iff.2 h0
  rw [palinodelaw06_RootSpoils.j2, if_neg (by omega), if_pos (by simp; omega)]
  simp only [Option.bind_some, List.nil_append]
  rw [Int.tmod_eq_emod_of_nonneg h3, Int.tmod_eq_emod_of_nonneg h2]
  obtain ⟨i, hi⟩ := Int.eq_ofNat_of_zero_le (show 0 ≤ x2 % (l.length : Int) from Int.emod_nonneg _ (by omega))
  have hlt : x2 % (l.length : Int) < l.length := Int.emod_lt_of_pos _ (by omega)
  rw [hi] at hlt ⊢
  have hil : i < l.length := by omega
  have hrd : rd_T42 l (i : Int) = l[i] := by simp [rd_T42, List.getD, hil]
  rw [hrd, Int.toNat_natCast]
  have hs := fun g => rRight_some total seq next cur (l.set i g) k (by simp; omega) (by simp; omega)
  generalize x3 % 5 = m
  by_cases m0 : m = 0
  · rw [if_pos m0, if_pos (by omega), if_pos (by omega), hs, spoil_set total seq next cur l i hil _ (by simp only; omega)]
    rfl
  rw [if_neg m0]
  by_cases m1 : m = 1
  · rw [if_pos m1, if_pos (by omega), if_pos (by omega), hs, spoil_set total seq next cur l i hil _ (by simp only; omega)]
    rfl
  rw [if_neg m1]
  by_cases m2 : m = 2
  · rw [if_pos m2, if_pos (by omega), if_pos (by omega), if_pos (by omega), rRight_some total seq next cur _ k (by simp; omega) (by simp; omega), spoil_more total seq next cur l l[i] ⟨l[i].f0, l[i].f1, 1⟩ (List.getElem_mem hil) rfl]
    rfl
  rw [if_neg m2]
  by_cases m3 : m = 3
  · rw [if_pos m3, if_pos (by omega), if_pos (by omega), hs, spoil_set total seq next cur l i hil _ (by simp only; omega)]
    rfl
  rw [if_neg m3, rRight_some total seq next next l k (by omega) (by omega), spoil_cur]
  rfl
theorem RootSpoils_true (a0 seq next cur : Int) (l : List FileT) (a2 a3 : Int) (_h0 : -9223372036854775808 ≤ a0 ∧ a0 ≤ 9223372036854775807) (hg0 : l.length ≤ 5864062014804 ∧ (∀ b ∈ l, (-9223372036854775808 ≤ b.f0 ∧ b.f0 ≤ 9223372036854775807) ∧ (-9223372036854775808 ≤ b.f1 ∧ b.f1 ≤ 9223372036854775807) ∧ (-9223372036854775808 ≤ b.f2 ∧ b.f2 ≤ 9223372036854775807)) ∧ (-9223372036854775808 ≤ seq ∧ seq ≤ 9223372036854775807) ∧ (-9223372036854775808 ≤ next ∧ next ≤ 9223372036854775807) ∧ (-9223372036854775808 ≤ cur ∧ cur ≤ 9223372036854775807)) (h2' : -9223372036854775808 ≤ a2 ∧ a2 ≤ 9223372036854775807) (h3' : -9223372036854775808 ≤ a3 ∧ a3 ≤ 9223372036854775807) : ∃ k, palinodelaw06_RootSpoils.f k a0 seq next cur l a2 a3 = some true := by
  have hl : l.length ≤ 8796093022207 := by have := hg0.1; omega
  have h2 := h2'.1
  have h3 := h3'.1
  obtain ⟨K, hK⟩ : ∃ K, K = l.length + 1000 := ⟨_, rfl⟩
  refine ⟨K + 2, ?_⟩
  unfold palinodelaw06_RootSpoils.f
  rw [ex_some _ (by omega), Option.bind_some, rRight_some a0 seq next cur l _ (by omega) hl, Option.bind_some]
  have out : palinodelaw06_RootSpoils.j0 (K + 2) a0 a2 a3 true true seq next cur l = some true := by rw [palinodelaw06_RootSpoils.j0, if_pos rfl]
  by_cases hg : rgood a0 seq next cur l = true
  · rw [if_pos hg]
    have hlen := ((rgood_iff _ _ _ _ _).1 hg).1.2.2.2.2
    by_cases h0 : l = []
    · subst h0; exact out
    · have : ((l.length : Int) == 0) = false := by simp; exact h0
      have key : ∀ x2 x3 : Int, 0 ≤ x2 → 0 ≤ x3 → palinodelaw06_RootSpoils.j2 K a0 x2 x3 true seq next cur l = some true := fun x2 x3 q2 q3 => Spoils_j2 a0 seq next cur l hlen h0 x2 x3 q2 q3 K (by omega)
      have key2 : ∀ x2 : Int, 0 ≤ x2 → palinodelaw06_RootSpoils.j1 (K + 1) a0 x2 a3 true seq next cur l = some true := fun x2 q2 => by
        rw [palinodelaw06_RootSpoils.j1]
        by_cases n3 : a3 < 0
        · rw [if_pos n3, neg_wrap a3 h3 n3]; exact key _ _ q2 (by omega)
        · rw [if_neg n3]; exact key _ _ q2 (by omega)
      rw [this, palinodelaw06_RootSpoils.j0, if_neg (by simp)]
      by_cases n2 : a2 < 0
      · rw [if_pos n2, neg_wrap a2 h2 n2]; exact key2 _ (by omega)
      · rw [if_neg n2]; exact key2 _ (by omega)
  · rw [if_neg hg]; exact out
end Go.Proofs.Yticajnfmjapkgaa.PD
