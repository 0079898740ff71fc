/-
  PickRest: the plain law. Where nothing is picked of a right version, its first level has less than three tables, and the next two no more bytes than their limits.
-/
import Derived.Test.YtepgnefkpjnmlaaP4x
set_option linter.unusedVariables false
set_option linter.unusedSimpArgs false
namespace Go.Proofs.Ytepgnefkpjnmlaa.P4
open Go.RowKit Go.Proofs.Ytepgnefkpjnmlaa Go.Proofs.YtepgnefkpjnmlaaW.PrintWords

theorem right_bytes {l : List S49} {g : List Int} {a : Int} (h : version_Right.tell l g a = true) : l.length ≤ 200 ∧ ∀ m ∈ l, 1 ≤ m.f4 ∧ m.f4 ≤ 1048576 := by
  unfold version_Right.tell at h
  simp only [Bool.and_eq_true, decide_eq_true_eq, List.all_eq_true, List.mem_range] at h
  obtain ⟨hl, -, -, -, -, -, hall⟩ := h
  refine ⟨hl, fun m hm => ?_⟩
  obtain ⟨i, hi, rfl⟩ := List.getElem_of_mem hm
  have h1 := hall i hi
  unfold version_Right.good_ at h1
  rw [Bool.and_eq_true] at h1
  have h2 := h1.1
  rw [List.getD_eq_getElem?_getD, List.getElem?_eq_getElem hi, Option.getD_some] at h2
  unfold version_Right.meta_ version_meta.f at h2
  by_cases c1 : l[i].f4 < 1
  · exfalso
    revert h2
    simp only [c1, if_true]
    repeat' split
    all_goals simp
  · by_cases c2 : l[i].f4 > 1048576
    · exfalso
      revert h2
      simp only [c1, c2, if_true, if_false]
      repeat' split
      all_goals simp
    · omega
theorem wrap_fit (n : Int) (h0 : -9223372036854775808 ≤ n) (h : n ≤ 9223372036854775807) : wrap64 n = n := by unfold wrap64; omega
theorem rest_l1 (x6 : Int) (L : List S49) (lim : Int) (hlim : pick_Limit.f x6 = some lim) (hb : ∀ m ∈ L, 1 ≤ m.f4 ∧ m.f4 ≤ 1048576) (hLl : L.length ≤ 200) (hs : pick_first.sum L ≤ lim) (V : List S49) (G : List Int) (a : Int) (K0 : Nat)
    (hnext : ∀ k, K0 ≤ k → palinodelaw16_PickRest.l0 k true (wrap64 (x6 + 1)) V G a = some true) :
    ∀ (d i k : Nat), L.length = i + d → K0 + d + 1 ≤ k → palinodelaw16_PickRest.l1 k true x6 L (pick_first.sum (L.take i)) (i : Int) V G a = some true
  | 0, i, k, he, hk => by
    obtain ⟨k, rfl⟩ : ∃ k', k = k' + 1 := ⟨k - 1, by omega⟩
    unfold palinodelaw16_PickRest.l1
    rw [if_neg (by omega), hlim, Option.bind_some, List.take_of_length_le (by omega), if_neg (by omega)]
    exact hnext k (by omega)
  | d + 1, i, k, he, hk => by
    obtain ⟨k, rfl⟩ : ∃ k', k = k' + 1 := ⟨k - 1, by omega⟩
    have h1 := pick_first.sum_take L hb i
    have h2 := pick_first.sum_take L hb (i + 1)
    have h3 := pick_first.sum_snoc L i (by omega)
    have hw : wrap64 (pick_first.sum (L.take i) + (rd_T49 L (i : Int)).f4) = pick_first.sum (L.take (i + 1)) := by
      rw [rd_T49, Int.toNat_natCast, ← h3]
      exact wrap_fit _ (by omega) (by omega)
    have hw2 : wrap64 ((i : Int) + 1) = ((i + 1 : Nat) : Int) := wrap_fit _ (by omega) (by omega)
    clear h1 h2 h3
    unfold palinodelaw16_PickRest.l1
    rw [if_pos (by omega), if_pos (by omega), hw, hw2]
    exact rest_l1 x6 L lim hlim hb hLl hs V G a K0 hnext d (i + 1) k (by omega) (by omega)
theorem level_any (V : List S49) (G : List Int) (a n : Int) (hV : V.length ≤ 200) (k : Nat) (hk : V.length < k) : version_Level.f k V G a n = some (pick_first.lev V n) := by
  unfold version_Level.f
  have := pick_first.level_loop V n (by omega) V.length k 0 [] (by omega) (by omega) (by simp) (by omega)
  simpa [pick_first.lev] using this
theorem rest_l0_end (V : List S49) (G : List Int) (a : Int) (hV : V.length ≤ 200) (h0 : ¬ 3 ≤ (pick_first.lev V 0).length) (k : Nat) (hk : 202 ≤ k) : palinodelaw16_PickRest.l0 k true 3 V G a = some true := by
  obtain ⟨k, rfl⟩ : ∃ k', k = k' + 1 := ⟨k - 1, by omega⟩
  unfold palinodelaw16_PickRest.l0
  rw [if_neg (by omega), if_pos rfl, level_any V G a 0 hV k (by omega), Option.bind_some]
  exact congrArg some (decide_eq_true (by omega))
theorem rest_l0_step (V : List S49) (G : List Int) (a x6 lim : Int) (hV : V.length ≤ 200) (hb : ∀ m ∈ V, 1 ≤ m.f4 ∧ m.f4 ≤ 1048576) (hx : x6 < 3) (hlim : pick_Limit.f x6 = some lim) (hs : pick_first.sum (pick_first.lev V x6) ≤ lim) (K0 : Nat)
    (hnext : ∀ k, K0 ≤ k → palinodelaw16_PickRest.l0 k true (wrap64 (x6 + 1)) V G a = some true) (k : Nat) (hk : K0 + 203 ≤ k) : palinodelaw16_PickRest.l0 k true x6 V G a = some true := by
  obtain ⟨k, rfl⟩ : ∃ k', k = k' + 1 := ⟨k - 1, by omega⟩
  have hl : (pick_first.lev V x6).length ≤ 200 := Nat.le_trans (List.length_filter_le _ _) hV
  unfold palinodelaw16_PickRest.l0
  rw [if_pos hx, level_any V G a x6 hV k (by omega), Option.bind_some]
  exact rest_l1 x6 (pick_first.lev V x6) lim hlim (fun m hm => hb m (List.mem_filter.1 hm).1) hl hs V G a K0 hnext (pick_first.lev V x6).length 0 k (by omega) (by omega)
theorem rest_j0 (k : Nat) (x5 x21 : Bool) (V : List S49) (G : List Int) (a : Int) : palinodelaw16_PickRest.j0 (k + 1) true x5 x21 V G a = if x21 = true then (if x5 = true then ((version_Right.f V G a).bind fun t => some (x5 == t)) else some (x5 == false)) else palinodelaw16_PickRest.l0 k true 1 V G a := rfl
/-- The plain law. -/
theorem PickRest_true (V : List S49) (G : List Int) (a : Int) (hg : (V.length ≤ 9223372036854775807 ∧ ∀ m ∈ V, -9223372036854775808 ≤ m.f0 ∧ m.f0 ≤ 9223372036854775807) ∧ (∀ n ∈ G, -9223372036854775808 ≤ n ∧ n ≤ 9223372036854775807)) :
    ∃ k, palinodelaw16_PickRest.f k V G a = some true := by
  refine ⟨999 + 1, ?_⟩
  have hR : version_Right.f V G a = some (version_Right.tell V G a) := by rw [version_Right.f, if_pos ⟨hg.1.2, hg.2⟩]
  unfold palinodelaw16_PickRest.f
  rw [palinodelaw16_examples.sure, Option.bind_some]
  unfold pick_Pick.f
  rw [hR, Option.bind_some]
  cases hT : version_Right.tell V G a with
  | false =>
    rw [if_neg (by simp), Option.bind_some, if_neg (by simp), Option.bind_some]
    rfl
  | true =>
    obtain ⟨hV, hb⟩ := right_bytes hT
    have hF : pick_first.f V G a = some (pick_first.tell V) := by rw [pick_first.f, if_pos ⟨hV, hb⟩]
    rw [if_pos rfl, hF, Option.bind_some]
    by_cases hn : (pick_first.tell V).1 < 0
    · rw [if_pos hn, Option.bind_some, if_neg (by simp), Option.bind_some]
      have h3 : ¬ 3 ≤ (pick_first.lev V 0).length ∧ ¬ 4000 < pick_first.sum (pick_first.lev V 1) ∧ ¬ 16000 < pick_first.sum (pick_first.lev V 2) := by
        unfold pick_first.tell at hn
        by_cases c0 : 3 ≤ (pick_first.lev V 0).length
        · rw [if_pos c0] at hn
          exact absurd hn (by dsimp only; omega)
        · by_cases c1 : 4000 < pick_first.sum (pick_first.lev V 1)
          · rw [if_neg c0, if_pos c1] at hn
            exact absurd hn (by dsimp only; omega)
          · by_cases c2 : 16000 < pick_first.sum (pick_first.lev V 2)
            · rw [if_neg c0, if_neg c1, if_pos c2] at hn
              exact absurd hn (by dsimp only; omega)
            · exact ⟨c0, c1, c2⟩
      refine (rest_j0 999 false (!true) V G a).trans ?_
      rw [if_neg (by decide)]
      exact rest_l0_step V G a 1 4000 hV hb (by omega) (by kernel_rfl) (by omega) 405
        (fun k hk => (show wrap64 ((1 : Int) + 1) = 2 by kernel_rfl) ▸ rest_l0_step V G a 2 16000 hV hb (by omega) (by kernel_rfl) (by omega) 202 (fun k hk => (show wrap64 ((2 : Int) + 1) = 3 by kernel_rfl) ▸ rest_l0_end V G a hV h3.1 k hk) k (by omega)) 999 (by omega)
    · rw [if_neg hn, Option.bind_some]
      have ht : (pick_Pick.tell V (pick_first.tell V).2 (pick_first.tell V).1).2.2.2.2 = true := rfl
      rw [if_pos ht]
      refine (rest_j0 999 true true V G a).trans ?_
      rw [if_pos rfl, if_pos rfl, hR, Option.bind_some, hT]
      rfl
end Go.Proofs.Ytepgnefkpjnmlaa.P4
