/-
  SpaceTells: the plain law. Of any runs it is told whether they are right, what is free between, how much, and where there is room, as the chapter says.
-/
import Derived.Test.YtgmfmlnkifeikaaSpD
import Derived.Test.YtgmfmlnkifeikaaPDx33
set_option linter.unusedVariables false
set_option linter.unusedSimpArgs false
namespace Go.Proofs.Ytgmfmlnkifeikaa.PD
open Go.RowKit Go.Proofs.Ytgmfmlnkifeikaa Go.Proofs.YtgmfmlnkifeikaaW.PrintWords

theorem ex_first : palinodelaw05_examples.f 20 = some true := by kernel_rfl
theorem ex_some (k : Nat) (hk : 20 ≤ k) : palinodelaw05_examples.f k = some true := by
  obtain ⟨j, rfl⟩ : ∃ j, k = 20 + j := ⟨k - 20, by omega⟩
  clear hk
  induction j with
  | zero => exact ex_first
  | succ j ih => exact palinodelaw05_examples.mono (20 + j) _ ih

def gone : RunT := ⟨-1, 0⟩
theorem Tells_l1 (x0 : Int) (x1 : List RunT) (x2 : Int) (x7 : Bool) (x8 W : List RunT) (x10 : Bool) (x11 : Int) (hW : W.length ≤ 1000) : ∀ (d i k : Nat), i + d = W.length → d + 1 ≤ k →
    palinodelaw05_SpaceTells.l1 k x0 x1 x2 x7 x8 W x10 x11 (List.replicate i gone ++ W.drop i) (i : Int) = palinodelaw05_SpaceTells.l0 (k - (d + 1)) x0 x1 x2 x7 x8 W x10 (wrap64 (x11 + 1)) := by
  intro d
  induction d with
  | zero =>
    intro i k hi hk
    obtain ⟨k, rfl⟩ : ∃ m, k = m + 1 := ⟨k - 1, by omega⟩
    rw [palinodelaw05_SpaceTells.l1, if_neg (by simp; omega)]
    rfl
  | succ d ih =>
    intro i k hi hk
    obtain ⟨k, rfl⟩ : ∃ m, k = m + 1 := ⟨k - 1, by omega⟩
    have e1 : wrap64 ((i : Int) + 1) = ((i + 1 : Nat) : Int) := by rw [wrapS _ (by omega) (by omega)]; omega
    have hlen : ((List.replicate i gone ++ W.drop i).length : Int) = W.length := by simp; omega
    have hiW : i < W.length := by omega
    have hr1 : rd_T32 (List.replicate i gone ++ W.drop i) (i : Int) = W[i] := by
      simp [rd_T32, List.getD, List.getElem?_append_right, hiW]
    have hr2 : rd_T32 W (i : Int) = W[i] := by
      simp [rd_T32, List.getD, hiW]
    have hset : (List.replicate i gone ++ W.drop i).set i (⟨-1, 0⟩ : RunT) = List.replicate (i + 1) gone ++ W.drop (i + 1) := by
      rw [List.set_append_right _ _ (by simp), List.length_replicate, Nat.sub_self, List.drop_eq_getElem_cons hiW, List.set_cons_zero, List.replicate_succ', List.append_assoc]
      rfl
    rw [palinodelaw05_SpaceTells.l1, if_pos (by rw [hlen]; omega), if_pos (by omega), if_pos (by omega), hr1, hr2, if_neg (by simp), Int.toNat_natCast, hset, e1, ih (i + 1) k (by omega) (by omega)]
    rw [show k + 1 - (d + 1 + 1) = k - (d + 1) by omega]
theorem is_code (o : Option Int) (h : ∀ c, o = some c → c ≠ 0) : palinodelaw05_is.f o (o.getD 0) = some true := by
  cases o with
  | none => simp [palinodelaw05_is.f]
  | some c => simp [palinodelaw05_is.f, h c rfl]
theorem fit_code (total : Int) (l : List RunT) (many : Int) (c : Int) (h : (fitOf total l many).2 = some c) : c ≠ 0 := by
  unfold fitOf at h
  split at h
  · split at h
    · cases h
    · simp at h; omega
  · simp at h; omega
theorem Tells_l2 (total : Int) (l : List RunT) (a2 : Int) (hl : l.length ≤ 8796093022207) : ∀ (d i k : Nat), i + d = l.length → d + 1 ≤ k →
    palinodelaw05_SpaceTells.l2 k total l true l (good total l) (fitOf total l a2).1 (fitOf total l a2).1 (if good total l = true then (total - sum1 l, (none : Option Int)) else (0, some 1)).1 (if good total l = true then (total - sum1 l, (none : Option Int)) else (0, some 1)).2 (if good total l = true then (total - sum1 l, true) else (0, false)).1 (if good total l = true then (total - sum1 l, true) else (0, false)).2 true (i : Int) = some true := by
  intro d
  induction d with
  | zero =>
    intro i k hi hk
    obtain ⟨k, rfl⟩ : ∃ m, k = m + 1 := ⟨k - 1, by omega⟩
    rw [palinodelaw05_SpaceTells.l2, if_neg (by omega)]
    by_cases hg : good total l = true
    · simp [hg, Right_some]
    · simp [hg, Right_some]
  | succ d ih =>
    intro i k hi hk
    obtain ⟨k, rfl⟩ : ∃ m, k = m + 1 := ⟨k - 1, by omega⟩
    have e1 : wrap64 ((i : Int) + 1) = ((i + 1 : Nat) : Int) := by rw [wrapS _ (by omega) (by omega)]; omega
    rw [palinodelaw05_SpaceTells.l2, if_pos (by omega), if_pos (by omega), if_pos (by omega), if_neg (by simp), e1]
    exact ih (i + 1) k (by omega) (by omega)
theorem Tells_turn (total : Int) (l : List RunT) (a2 : Int) (hl : l.length ≤ 8796093022207) (t : Nat) (ht : t < 2) (k : Nat) (hk : l.length + 1000 ≤ k) :
    ∃ q, k ≤ q + 500 ∧ palinodelaw05_SpaceTells.l0 k total l a2 true l (if good total l = true then (gaps total 0 (space_sorted.sort l), true) else ([], false)).1 (if good total l = true then (gaps total 0 (space_sorted.sort l), true) else ([], false)).2 (t : Int)
      = palinodelaw05_SpaceTells.l0 q total l a2 true l (if good total l = true then (gaps total 0 (space_sorted.sort l), true) else ([], false)).1 (if good total l = true then (gaps total 0 (space_sorted.sort l), true) else ([], false)).2 ((t + 1 : Nat) : Int) := by
  obtain ⟨k, rfl⟩ : ∃ m, k = m + 2 := ⟨k - 2, by omega⟩
  have e1 : wrap64 ((t : Int) + 1) = ((t + 1 : Nat) : Int) := by rw [wrapS _ (by omega) (by omega)]; omega
  by_cases hg : good total l = true
  · obtain ⟨g1, g2, g3, g4⟩ := good_of hg
    have hs := sort_length l
    have hgl := gaps_length total 0 (space_sorted.sort l)
    have := Tells_l1 total l a2 true l (gaps total 0 (space_sorted.sort l)) true (t : Int) (by omega) (gaps total 0 (space_sorted.sort l)).length 0 k (by omega) (by omega)
    refine ⟨k - ((gaps total 0 (space_sorted.sort l)).length + 1), by omega, ?_⟩
    rw [palinodelaw05_SpaceTells.l0, if_pos (by omega), Free_some total l (k + 1) (by omega)]
    simp only [hg, if_true, Option.bind_some, Option.isNone_none]
    rw [if_neg (by simp)]
    rw [palinodelaw05_SpaceTells.j1, if_neg (by simp)]
    rw [← e1, ← this]
    rfl
  · have := Tells_l1 total l a2 true l [] false (t : Int) (by simp) 0 0 k (by simp) (by omega)
    refine ⟨k - 1, by omega, ?_⟩
    have hg2 : good total l = false := by simpa using hg
    rw [palinodelaw05_SpaceTells.l0, if_pos (by omega), Free_some total l (k + 1) (by omega)]
    simp only [hg2, Bool.false_eq_true, if_false, Option.bind_some, if_true, Option.isNone_some, Option.getD_some]
    rw [if_neg (by simp)]
    have hone : palinodelaw05_is.f (some 1) 1 = some true := by simp [palinodelaw05_is.f]
    rw [hone]
    simp only [Option.bind_some]
    rw [palinodelaw05_SpaceTells.j1, if_neg (by simp)]
    rw [← e1]
    exact this
theorem SpaceTells_true (a0 : Int) (l1 : List RunT) (a2 : Int) (_h0 : -9223372036854775808 ≤ a0 ∧ a0 ≤ 9223372036854775807) (h1 : l1.length ≤ 8796093022207 ∧ ∀ x ∈ l1, (-9223372036854775808 ≤ x.f0 ∧ x.f0 ≤ 9223372036854775807) ∧ (-9223372036854775808 ≤ x.f1 ∧ x.f1 ≤ 9223372036854775807)) (_h2 : -9223372036854775808 ≤ a2 ∧ a2 ≤ 9223372036854775807) : ∃ k, palinodelaw05_SpaceTells.f k a0 l1 a2 = some true := by
  have hl := h1.1
  obtain ⟨K, hK⟩ : ∃ K, K = l1.length + 1000000 := ⟨_, rfl⟩
  refine ⟨K, ?_⟩
  unfold palinodelaw05_SpaceTells.f
  rw [ex_some _ (by omega)]
  simp only [Option.bind_some]
  rw [if_pos (by simp; omega), refFree_some a0 l1 _ (by omega)]
  simp only [Option.bind_some, List.nil_append]
  obtain ⟨q1, hq1, e1⟩ := Tells_turn a0 l1 a2 hl 0 (by omega) K (by omega)
  obtain ⟨q2, hq2, e2⟩ := Tells_turn a0 l1 a2 hl 1 (by omega) q1 (by omega)
  simp only [Int.natCast_zero] at e1
  rw [e1, e2]
  obtain ⟨q2, rfl⟩ : ∃ m, q2 = m + 1 := ⟨q2 - 1, by omega⟩
  rw [palinodelaw05_SpaceTells.l0, if_neg (by omega), Fit_some a0 l1 a2 _ (by omega)]
  simp only [Option.bind_some]
  rw [refFit_some a0 l1 a2 _ (by omega)]
  simp only [Option.bind_some]
  rw [Room_some a0 l1 _ (by omega)]
  simp only [Option.bind_some]
  rw [refRoom_some a0 l1 _ (by omega)]
  simp only [Option.bind_some]
  rw [is_code _ (fit_code a0 l1 a2)]
  simp only [Option.bind_some]
  have := Tells_l2 a0 l1 a2 hl l1.length 0 q2 (by omega) (by omega)
  simp only [Int.natCast_zero] at this
  rw [← this]
  congr 1
  by_cases hg : good a0 l1 = true
  · simp [hg]
  · simp [hg]
end Go.Proofs.Ytgmfmlnkifeikaa.PD
