-- printed by gprint.py (own tool) over the kit's print
import Derived.Test.YtepgnefkpjnmlaaP3x0
import Derived.Test.YtepgnefkpjnmlaaP3x2
import Derived.Test.YtepgnefkpjnmlaaP3x3
import Derived.Test.YtepgnefkpjnmlaaP3x4
import Derived.Test.YtepgnefkpjnmlaaP3x5
namespace Go.Proofs.Ytepgnefkpjnmlaa.P3
open Go.RowKit Go.Proofs.Ytepgnefkpjnmlaa Go.Proofs.YtepgnefkpjnmlaaW.PrintWords Go.Proofs.YtepgnefkpjnmlaaW.PrintLast Go.Proofs.YtepgnefkpjnmlaaW.PrintMore
attribute [local go_sem] max2_int min2_int max_two min_two max_three min_three max_four min_four   -- for this text's walks alone
attribute [local go_sem] min2_str max2_str leq_str gtr_str geq_str
set_option linter.unusedVariables false
set_option linter.unusedSimpArgs false

/-! ### palinodelaw16_PickJobs: function 5 -/
mutual
def palinodelaw16_PickJobs.j0 : Nat → Bool → Bool → List (S49) → List Int → Int → Int → List Int → List Int → Bool → Option (Bool)
  | 0, _, _, _, _, _, _, _, _, _ => none
  | k + 1, x3, x53, x192000, x192001, x192002, x203000, x203001, x203002, x203003 => if x53 = true then (some false) else (if ([] : List Int).length + x203001.length < 17592186044416 then ((some (([] : List Int) ++ x203001 : List Int)).bind fun y204 => (if y204.length + x203002.length < 17592186044416 then (palinodelaw16_PickJobs.l0 k x3 (y204 ++ x203002) 0 x192000 x192001 x192002 x203000 x203001 x203002 x203003) else (none))) else (none))
def palinodelaw16_PickJobs.l0 : Nat → Bool → List Int → Int → List (S49) → List Int → Int → Int → List Int → List Int → Bool → Option (Bool)
  | 0, _, _, _, _, _, _, _, _, _, _ => none
  | k + 1, x3, x6, x7, x192000, x192001, x192002, x203000, x203001, x203002, x203003 => if x7 < (x6.length : Int) then (palinodelaw16_PickJobs.l1 k x3 x6 x7 0 x192000 x192001 x192002 x203000 x203001 x203002 x203003) else (palinodelaw16_PickJobs.l2 k x3 x6 0 0 x192000 x192001 x192002 x203000 x203001 x203002 x203003)
def palinodelaw16_PickJobs.l1 : Nat → Bool → List Int → Int → Int → List (S49) → List Int → Int → Int → List Int → List Int → Bool → Option (Bool)
  | 0, _, _, _, _, _, _, _, _, _, _, _ => none
  | k + 1, x3, x6, x7, x8, x192000, x192001, x192002, x203000, x203001, x203002, x203003 => if x8 < x7 then (if 0 ≤ x7 then (if x7 < (x6.length : Int) then (if 0 ≤ x8 then (if x8 < (x6.length : Int) then (if (rd x6 x7) = (rd x6 x8) then (some false) else (palinodelaw16_PickJobs.l1 k x3 x6 x7 (wrap64 (x8 + 1)) x192000 x192001 x192002 x203000 x203001 x203002 x203003)) else (none)) else (none)) else (none)) else (none)) else (palinodelaw16_PickJobs.l0 k x3 x6 (wrap64 (x7 + 1)) x192000 x192001 x192002 x203000 x203001 x203002 x203003)
def palinodelaw16_PickJobs.l2 : Nat → Bool → List Int → Int → Int → List (S49) → List Int → Int → Int → List Int → List Int → Bool → Option (Bool)
  | 0, _, _, _, _, _, _, _, _, _, _, _ => none
  | k + 1, x3, x6, x9, x10, x192000, x192001, x192002, x203000, x203001, x203002, x203003 => if x10 < (x192000.length : Int) then (if 0 ≤ x10 then ((palinodelaw16_within.f k x203001 ((rd_T49 x192000 x10).f0)).bind fun t214 => ((palinodelaw16_within.f k x203002 ((rd_T49 x192000 x10).f0)).bind fun t215 => (if t214 = true then (if ((rd_T49 x192000 x10).f1) = x203000 then (if t215 = true then (palinodelaw16_PickJobs.j4 k x3 x6 x9 x10 t214 t215 (((rd_T49 x192000 x10).f1) != (wrap64 (x203000 + 1))) x192000 x192001 x192002 x203000 x203001 x203002 x203003 ((rd_T49 x192000 x10).f0) ((rd_T49 x192000 x10).f1) ((rd_T49 x192000 x10).f2) ((rd_T49 x192000 x10).f3) ((rd_T49 x192000 x10).f4)) else (palinodelaw16_PickJobs.j4 k x3 x6 x9 x10 t214 t215 false x192000 x192001 x192002 x203000 x203001 x203002 x203003 ((rd_T49 x192000 x10).f0) ((rd_T49 x192000 x10).f1) ((rd_T49 x192000 x10).f2) ((rd_T49 x192000 x10).f3) ((rd_T49 x192000 x10).f4))) else (palinodelaw16_PickJobs.j4 k x3 x6 x9 x10 t214 t215 true x192000 x192001 x192002 x203000 x203001 x203002 x203003 ((rd_T49 x192000 x10).f0) ((rd_T49 x192000 x10).f1) ((rd_T49 x192000 x10).f2) ((rd_T49 x192000 x10).f3) ((rd_T49 x192000 x10).f4))) else (if t215 = true then (palinodelaw16_PickJobs.j4 k x3 x6 x9 x10 t214 t215 (((rd_T49 x192000 x10).f1) != (wrap64 (x203000 + 1))) x192000 x192001 x192002 x203000 x203001 x203002 x203003 ((rd_T49 x192000 x10).f0) ((rd_T49 x192000 x10).f1) ((rd_T49 x192000 x10).f2) ((rd_T49 x192000 x10).f3) ((rd_T49 x192000 x10).f4)) else (palinodelaw16_PickJobs.j4 k x3 x6 x9 x10 t214 t215 false x192000 x192001 x192002 x203000 x203001 x203002 x203003 ((rd_T49 x192000 x10).f0) ((rd_T49 x192000 x10).f1) ((rd_T49 x192000 x10).f2) ((rd_T49 x192000 x10).f3) ((rd_T49 x192000 x10).f4)))))) else (none)) else (if x3 = true then (some (x9 == (x6.length : Int))) else (some false))
def palinodelaw16_PickJobs.j4 : Nat → Bool → List Int → Int → Int → Bool → Bool → Bool → List (S49) → List Int → Int → Int → List Int → List Int → Bool → Int → Int → ByteArray → ByteArray → Int → Option (Bool)
  | 0, _, _, _, _, _, _, _, _, _, _, _, _, _, _, _, _, _, _, _ => none
  | k + 1, x3, x6, x9, x10, x12, x13, x120, x192000, x192001, x192002, x203000, x203001, x203002, x203003, x214000, x214001, x214002, x214003, x214004 => if x120 = true then (some false) else (if x12 = true then (palinodelaw16_PickJobs.j5 k x3 x6 x9 x10 x13 true x192000 x192001 x192002 x203000 x203001 x203002 x203003 x214000 x214001 x214002 x214003 x214004) else (palinodelaw16_PickJobs.j5 k x3 x6 x9 x10 x13 x13 x192000 x192001 x192002 x203000 x203001 x203002 x203003 x214000 x214001 x214002 x214003 x214004))
def palinodelaw16_PickJobs.j5 : Nat → Bool → List Int → Int → Int → Bool → Bool → List (S49) → List Int → Int → Int → List Int → List Int → Bool → Int → Int → ByteArray → ByteArray → Int → Option (Bool)
  | 0, _, _, _, _, _, _, _, _, _, _, _, _, _, _, _, _, _, _ => none
  | k + 1, x3, x6, x9, x10, x13, x124, x192000, x192001, x192002, x203000, x203001, x203002, x203003, x214000, x214001, x214002, x214003, x214004 => if x124 = true then (palinodelaw16_PickJobs.j6 k x3 x6 (wrap64 (x9 + 1)) x10 x13 x192000 x192001 x192002 x203000 x203001 x203002 x203003 x214000 x214001 x214002 x214003 x214004) else (palinodelaw16_PickJobs.j6 k x3 x6 x9 x10 x13 x192000 x192001 x192002 x203000 x203001 x203002 x203003 x214000 x214001 x214002 x214003 x214004)
def palinodelaw16_PickJobs.j6 : Nat → Bool → List Int → Int → Int → Bool → List (S49) → List Int → Int → Int → List Int → List Int → Bool → Int → Int → ByteArray → ByteArray → Int → Option (Bool)
  | 0, _, _, _, _, _, _, _, _, _, _, _, _, _, _, _, _, _ => none
  | k + 1, x3, x6, x9, x10, x13, x192000, x192001, x192002, x203000, x203001, x203002, x203003, x214000, x214001, x214002, x214003, x214004 => if x214001 = (wrap64 (x203000 + 1)) then ((palinodelaw16_meets.f k x192000 x192001 x192002 x203001 x214000 x214001 x214002 x214003 x214004).bind fun t216 => (if (x13 != t216) = true then (some false) else (if x13 = true then (palinodelaw16_PickJobs.l2 k x3 x6 x9 (wrap64 (x10 + 1)) x192000 x192001 x192002 x203000 x203001 x203002 x203003) else ((palinodelaw16_meets.f k x192000 x192001 x192002 x6 x214000 x214001 x214002 x214003 x214004).bind fun t217 => (if t217 = true then (some false) else (palinodelaw16_PickJobs.l2 k x3 x6 x9 (wrap64 (x10 + 1)) x192000 x192001 x192002 x203000 x203001 x203002 x203003)))))) else (palinodelaw16_PickJobs.l2 k x3 x6 x9 (wrap64 (x10 + 1)) x192000 x192001 x192002 x203000 x203001 x203002 x203003)
end
def palinodelaw16_PickJobs.f (k : Nat) (l0_0 : List (S49)) (l0_1 : List Int) (a0_2 : Int) : Option (Bool) := (palinodelaw16_examples.f).bind fun t192 => ((pick_Pick.f l0_0 l0_1 a0_2).bind fun bt193 => (if bt193.2.2.2.2 = true then ((version_Right.f l0_0 l0_1 a0_2).bind fun t203 => (if t203 = true then (if bt193.1 < 0 then (palinodelaw16_PickJobs.j0 k t192 true l0_0 l0_1 a0_2 bt193.1 bt193.2.1 bt193.2.2.1 bt193.2.2.2.1) else (if bt193.1 ≥ 3 then (palinodelaw16_PickJobs.j0 k t192 true l0_0 l0_1 a0_2 bt193.1 bt193.2.1 bt193.2.2.1 bt193.2.2.2.1) else (palinodelaw16_PickJobs.j0 k t192 ((bt193.2.1.length : Int) == 0) l0_0 l0_1 a0_2 bt193.1 bt193.2.1 bt193.2.2.1 bt193.2.2.2.1))) else (palinodelaw16_PickJobs.j0 k t192 true l0_0 l0_1 a0_2 bt193.1 bt193.2.1 bt193.2.2.1 bt193.2.2.2.1))) else (if t192 = true then (if (bt193.2.1.length : Int) = 0 then (some ((bt193.2.2.1.length : Int) == 0)) else (some false)) else (some false))))
theorem palinodelaw16_PickJobs.mono_l : ∀ k, (∀ y0 y1 y2 y3 y4 y5 y6 y7 y8, LeO (palinodelaw16_PickJobs.j0 k y0 y1 y2 y3 y4 y5 y6 y7 y8) (palinodelaw16_PickJobs.j0 (k + 1) y0 y1 y2 y3 y4 y5 y6 y7 y8)) ∧ (∀ y0 y1 y2 y3 y4 y5 y6 y7 y8 y9, LeO (palinodelaw16_PickJobs.l0 k y0 y1 y2 y3 y4 y5 y6 y7 y8 y9) (palinodelaw16_PickJobs.l0 (k + 1) y0 y1 y2 y3 y4 y5 y6 y7 y8 y9)) ∧ (∀ y0 y1 y2 y3 y4 y5 y6 y7 y8 y9 y10, LeO (palinodelaw16_PickJobs.l1 k y0 y1 y2 y3 y4 y5 y6 y7 y8 y9 y10) (palinodelaw16_PickJobs.l1 (k + 1) y0 y1 y2 y3 y4 y5 y6 y7 y8 y9 y10)) ∧ (∀ y0 y1 y2 y3 y4 y5 y6 y7 y8 y9 y10, LeO (palinodelaw16_PickJobs.l2 k y0 y1 y2 y3 y4 y5 y6 y7 y8 y9 y10) (palinodelaw16_PickJobs.l2 (k + 1) y0 y1 y2 y3 y4 y5 y6 y7 y8 y9 y10)) ∧ (∀ y0 y1 y2 y3 y4 y5 y6 y7 y8 y9 y10 y11 y12 y13 y14 y15 y16 y17 y18, LeO (palinodelaw16_PickJobs.j4 k y0 y1 y2 y3 y4 y5 y6 y7 y8 y9 y10 y11 y12 y13 y14 y15 y16 y17 y18) (palinodelaw16_PickJobs.j4 (k + 1) y0 y1 y2 y3 y4 y5 y6 y7 y8 y9 y10 y11 y12 y13 y14 y15 y16 y17 y18)) ∧ (∀ y0 y1 y2 y3 y4 y5 y6 y7 y8 y9 y10 y11 y12 y13 y14 y15 y16 y17, LeO (palinodelaw16_PickJobs.j5 k y0 y1 y2 y3 y4 y5 y6 y7 y8 y9 y10 y11 y12 y13 y14 y15 y16 y17) (palinodelaw16_PickJobs.j5 (k + 1) y0 y1 y2 y3 y4 y5 y6 y7 y8 y9 y10 y11 y12 y13 y14 y15 y16 y17)) ∧ (∀ y0 y1 y2 y3 y4 y5 y6 y7 y8 y9 y10 y11 y12 y13 y14 y15 y16, LeO (palinodelaw16_PickJobs.j6 k y0 y1 y2 y3 y4 y5 y6 y7 y8 y9 y10 y11 y12 y13 y14 y15 y16) (palinodelaw16_PickJobs.j6 (k + 1) y0 y1 y2 y3 y4 y5 y6 y7 y8 y9 y10 y11 y12 y13 y14 y15 y16))
  | 0 => ⟨fun _ _ _ _ _ _ _ _ _ r h => by simp [palinodelaw16_PickJobs.j0] at h, fun _ _ _ _ _ _ _ _ _ _ r h => by simp [palinodelaw16_PickJobs.l0] at h, fun _ _ _ _ _ _ _ _ _ _ _ r h => by simp [palinodelaw16_PickJobs.l1] at h, fun _ _ _ _ _ _ _ _ _ _ _ r h => by simp [palinodelaw16_PickJobs.l2] at h, fun _ _ _ _ _ _ _ _ _ _ _ _ _ _ _ _ _ _ _ r h => by simp [palinodelaw16_PickJobs.j4] at h, fun _ _ _ _ _ _ _ _ _ _ _ _ _ _ _ _ _ _ r h => by simp [palinodelaw16_PickJobs.j5] at h, fun _ _ _ _ _ _ _ _ _ _ _ _ _ _ _ _ _ r h => by simp [palinodelaw16_PickJobs.j6] at h⟩
  | k + 1 => by
    obtain ⟨ih0, ih1, ih2, ih3, ih4, ih5, ih6⟩ := palinodelaw16_PickJobs.mono_l k
    refine ⟨?_, ?_, ?_, ?_, ?_, ?_, ?_⟩
    · intro y0 y1 y2 y3 y4 y5 y6 y7 y8
      unfold palinodelaw16_PickJobs.j0
      repeat' first
      | (with_reducible exact ih0 _ _ _ _ _ _ _ _ _)
      | (with_reducible exact ih1 _ _ _ _ _ _ _ _ _ _)
      | (with_reducible exact ih2 _ _ _ _ _ _ _ _ _ _ _)
      | (with_reducible exact ih3 _ _ _ _ _ _ _ _ _ _ _)
      | (with_reducible exact ih4 _ _ _ _ _ _ _ _ _ _ _ _ _ _ _ _ _ _ _)
      | (with_reducible exact ih5 _ _ _ _ _ _ _ _ _ _ _ _ _ _ _ _ _ _)
      | (with_reducible exact ih6 _ _ _ _ _ _ _ _ _ _ _ _ _ _ _ _ _)
      | (with_reducible exact palinodelaw16_meets.mono _ _ _ _ _ _ _ _ _ _)
      | (with_reducible exact palinodelaw16_within.mono _ _ _)
      | (with_reducible exact LeO.refl _)
      | (with_reducible exact LeO.none _)
      | (with_reducible refine LeO.ite ?_ ?_)
      | (with_reducible refine LeO.bind ?_ (fun _ => ?_))
      | exact ih0 _ _ _ _ _ _ _ _ _
      | exact ih1 _ _ _ _ _ _ _ _ _ _
      | exact ih2 _ _ _ _ _ _ _ _ _ _ _
      | exact ih3 _ _ _ _ _ _ _ _ _ _ _
      | exact ih4 _ _ _ _ _ _ _ _ _ _ _ _ _ _ _ _ _ _ _
      | exact ih5 _ _ _ _ _ _ _ _ _ _ _ _ _ _ _ _ _ _
      | exact ih6 _ _ _ _ _ _ _ _ _ _ _ _ _ _ _ _ _
      | exact palinodelaw16_meets.mono _ _ _ _ _ _ _ _ _ _
      | exact palinodelaw16_within.mono _ _ _
      | exact LeO.none _
      | refine LeO.ite ?_ ?_
      | refine LeO.bind ?_ (fun _ => ?_)
    · intro y0 y1 y2 y3 y4 y5 y6 y7 y8 y9
      unfold palinodelaw16_PickJobs.l0
      repeat' first
      | (with_reducible exact ih0 _ _ _ _ _ _ _ _ _)
      | (with_reducible exact ih1 _ _ _ _ _ _ _ _ _ _)
      | (with_reducible exact ih2 _ _ _ _ _ _ _ _ _ _ _)
      | (with_reducible exact ih3 _ _ _ _ _ _ _ _ _ _ _)
      | (with_reducible exact ih4 _ _ _ _ _ _ _ _ _ _ _ _ _ _ _ _ _ _ _)
      | (with_reducible exact ih5 _ _ _ _ _ _ _ _ _ _ _ _ _ _ _ _ _ _)
      | (with_reducible exact ih6 _ _ _ _ _ _ _ _ _ _ _ _ _ _ _ _ _)
      | (with_reducible exact palinodelaw16_meets.mono _ _ _ _ _ _ _ _ _ _)
      | (with_reducible exact palinodelaw16_within.mono _ _ _)
      | (with_reducible exact LeO.refl _)
      | (with_reducible exact LeO.none _)
      | (with_reducible refine LeO.ite ?_ ?_)
      | (with_reducible refine LeO.bind ?_ (fun _ => ?_))
      | exact ih0 _ _ _ _ _ _ _ _ _
      | exact ih1 _ _ _ _ _ _ _ _ _ _
      | exact ih2 _ _ _ _ _ _ _ _ _ _ _
      | exact ih3 _ _ _ _ _ _ _ _ _ _ _
      | exact ih4 _ _ _ _ _ _ _ _ _ _ _ _ _ _ _ _ _ _ _
      | exact ih5 _ _ _ _ _ _ _ _ _ _ _ _ _ _ _ _ _ _
      | exact ih6 _ _ _ _ _ _ _ _ _ _ _ _ _ _ _ _ _
      | exact palinodelaw16_meets.mono _ _ _ _ _ _ _ _ _ _
      | exact palinodelaw16_within.mono _ _ _
      | exact LeO.none _
      | refine LeO.ite ?_ ?_
      | refine LeO.bind ?_ (fun _ => ?_)
    · intro y0 y1 y2 y3 y4 y5 y6 y7 y8 y9 y10
      unfold palinodelaw16_PickJobs.l1
      repeat' first
      | (with_reducible exact ih0 _ _ _ _ _ _ _ _ _)
      | (with_reducible exact ih1 _ _ _ _ _ _ _ _ _ _)
      | (with_reducible exact ih2 _ _ _ _ _ _ _ _ _ _ _)
      | (with_reducible exact ih3 _ _ _ _ _ _ _ _ _ _ _)
      | (with_reducible exact ih4 _ _ _ _ _ _ _ _ _ _ _ _ _ _ _ _ _ _ _)
      | (with_reducible exact ih5 _ _ _ _ _ _ _ _ _ _ _ _ _ _ _ _ _ _)
      | (with_reducible exact ih6 _ _ _ _ _ _ _ _ _ _ _ _ _ _ _ _ _)
      | (with_reducible exact palinodelaw16_meets.mono _ _ _ _ _ _ _ _ _ _)
      | (with_reducible exact palinodelaw16_within.mono _ _ _)
      | (with_reducible exact LeO.refl _)
      | (with_reducible exact LeO.none _)
      | (with_reducible refine LeO.ite ?_ ?_)
      | (with_reducible refine LeO.bind ?_ (fun _ => ?_))
      | exact ih0 _ _ _ _ _ _ _ _ _
      | exact ih1 _ _ _ _ _ _ _ _ _ _
      | exact ih2 _ _ _ _ _ _ _ _ _ _ _
      | exact ih3 _ _ _ _ _ _ _ _ _ _ _
      | exact ih4 _ _ _ _ _ _ _ _ _ _ _ _ _ _ _ _ _ _ _
      | exact ih5 _ _ _ _ _ _ _ _ _ _ _ _ _ _ _ _ _ _
      | exact ih6 _ _ _ _ _ _ _ _ _ _ _ _ _ _ _ _ _
      | exact palinodelaw16_meets.mono _ _ _ _ _ _ _ _ _ _
      | exact palinodelaw16_within.mono _ _ _
      | exact LeO.none _
      | refine LeO.ite ?_ ?_
      | refine LeO.bind ?_ (fun _ => ?_)
    · intro y0 y1 y2 y3 y4 y5 y6 y7 y8 y9 y10
      unfold palinodelaw16_PickJobs.l2
      repeat' first
      | (with_reducible exact ih0 _ _ _ _ _ _ _ _ _)
      | (with_reducible exact ih1 _ _ _ _ _ _ _ _ _ _)
      | (with_reducible exact ih2 _ _ _ _ _ _ _ _ _ _ _)
      | (with_reducible exact ih3 _ _ _ _ _ _ _ _ _ _ _)
      | (with_reducible exact ih4 _ _ _ _ _ _ _ _ _ _ _ _ _ _ _ _ _ _ _)
      | (with_reducible exact ih5 _ _ _ _ _ _ _ _ _ _ _ _ _ _ _ _ _ _)
      | (with_reducible exact ih6 _ _ _ _ _ _ _ _ _ _ _ _ _ _ _ _ _)
      | (with_reducible exact palinodelaw16_meets.mono _ _ _ _ _ _ _ _ _ _)
      | (with_reducible exact palinodelaw16_within.mono _ _ _)
      | (with_reducible exact LeO.refl _)
      | (with_reducible exact LeO.none _)
      | (with_reducible refine LeO.ite ?_ ?_)
      | (with_reducible refine LeO.bind ?_ (fun _ => ?_))
      | exact ih0 _ _ _ _ _ _ _ _ _
      | exact ih1 _ _ _ _ _ _ _ _ _ _
      | exact ih2 _ _ _ _ _ _ _ _ _ _ _
      | exact ih3 _ _ _ _ _ _ _ _ _ _ _
      | exact ih4 _ _ _ _ _ _ _ _ _ _ _ _ _ _ _ _ _ _ _
      | exact ih5 _ _ _ _ _ _ _ _ _ _ _ _ _ _ _ _ _ _
      | exact ih6 _ _ _ _ _ _ _ _ _ _ _ _ _ _ _ _ _
      | exact palinodelaw16_meets.mono _ _ _ _ _ _ _ _ _ _
      | exact palinodelaw16_within.mono _ _ _
      | exact LeO.none _
      | refine LeO.ite ?_ ?_
      | refine LeO.bind ?_ (fun _ => ?_)
    · intro y0 y1 y2 y3 y4 y5 y6 y7 y8 y9 y10 y11 y12 y13 y14 y15 y16 y17 y18
      unfold palinodelaw16_PickJobs.j4
      repeat' first
      | (with_reducible exact ih0 _ _ _ _ _ _ _ _ _)
      | (with_reducible exact ih1 _ _ _ _ _ _ _ _ _ _)
      | (with_reducible exact ih2 _ _ _ _ _ _ _ _ _ _ _)
      | (with_reducible exact ih3 _ _ _ _ _ _ _ _ _ _ _)
      | (with_reducible exact ih4 _ _ _ _ _ _ _ _ _ _ _ _ _ _ _ _ _ _ _)
      | (with_reducible exact ih5 _ _ _ _ _ _ _ _ _ _ _ _ _ _ _ _ _ _)
      | (with_reducible exact ih6 _ _ _ _ _ _ _ _ _ _ _ _ _ _ _ _ _)
      | (with_reducible exact palinodelaw16_meets.mono _ _ _ _ _ _ _ _ _ _)
      | (with_reducible exact palinodelaw16_within.mono _ _ _)
      | (with_reducible exact LeO.refl _)
      | (with_reducible exact LeO.none _)
      | (with_reducible refine LeO.ite ?_ ?_)
      | (with_reducible refine LeO.bind ?_ (fun _ => ?_))
      | exact ih0 _ _ _ _ _ _ _ _ _
      | exact ih1 _ _ _ _ _ _ _ _ _ _
      | exact ih2 _ _ _ _ _ _ _ _ _ _ _
      | exact ih3 _ _ _ _ _ _ _ _ _ _ _
      | exact ih4 _ _ _ _ _ _ _ _ _ _ _ _ _ _ _ _ _ _ _
      | exact ih5 _ _ _ _ _ _ _ _ _ _ _ _ _ _ _ _ _ _
      | exact ih6 _ _ _ _ _ _ _ _ _ _ _ _ _ _ _ _ _
      | exact palinodelaw16_meets.mono _ _ _ _ _ _ _ _ _ _
      | exact palinodelaw16_within.mono _ _ _
      | exact LeO.none _
      | refine LeO.ite ?_ ?_
      | refine LeO.bind ?_ (fun _ => ?_)
    · intro y0 y1 y2 y3 y4 y5 y6 y7 y8 y9 y10 y11 y12 y13 y14 y15 y16 y17
      unfold palinodelaw16_PickJobs.j5
      repeat' first
      | (with_reducible exact ih0 _ _ _ _ _ _ _ _ _)
      | (with_reducible exact ih1 _ _ _ _ _ _ _ _ _ _)
      | (with_reducible exact ih2 _ _ _ _ _ _ _ _ _ _ _)
      | (with_reducible exact ih3 _ _ _ _ _ _ _ _ _ _ _)
      | (with_reducible exact ih4 _ _ _ _ _ _ _ _ _ _ _ _ _ _ _ _ _ _ _)
      | (with_reducible exact ih5 _ _ _ _ _ _ _ _ _ _ _ _ _ _ _ _ _ _)
      | (with_reducible exact ih6 _ _ _ _ _ _ _ _ _ _ _ _ _ _ _ _ _)
      | (with_reducible exact palinodelaw16_meets.mono _ _ _ _ _ _ _ _ _ _)
      | (with_reducible exact palinodelaw16_within.mono _ _ _)
      | (with_reducible exact LeO.refl _)
      | (with_reducible exact LeO.none _)
      | (with_reducible refine LeO.ite ?_ ?_)
      | (with_reducible refine LeO.bind ?_ (fun _ => ?_))
      | exact ih0 _ _ _ _ _ _ _ _ _
      | exact ih1 _ _ _ _ _ _ _ _ _ _
      | exact ih2 _ _ _ _ _ _ _ _ _ _ _
      | exact ih3 _ _ _ _ _ _ _ _ _ _ _
      | exact ih4 _ _ _ _ _ _ _ _ _ _ _ _ _ _ _ _ _ _ _
      | exact ih5 _ _ _ _ _ _ _ _ _ _ _ _ _ _ _ _ _ _
      | exact ih6 _ _ _ _ _ _ _ _ _ _ _ _ _ _ _ _ _
      | exact palinodelaw16_meets.mono _ _ _ _ _ _ _ _ _ _
      | exact palinodelaw16_within.mono _ _ _
      | exact LeO.none _
      | refine LeO.ite ?_ ?_
      | refine LeO.bind ?_ (fun _ => ?_)
    · intro y0 y1 y2 y3 y4 y5 y6 y7 y8 y9 y10 y11 y12 y13 y14 y15 y16
      unfold palinodelaw16_PickJobs.j6
      repeat' first
      | (with_reducible exact ih0 _ _ _ _ _ _ _ _ _)
      | (with_reducible exact ih1 _ _ _ _ _ _ _ _ _ _)
      | (with_reducible exact ih2 _ _ _ _ _ _ _ _ _ _ _)
      | (with_reducible exact ih3 _ _ _ _ _ _ _ _ _ _ _)
      | (with_reducible exact ih4 _ _ _ _ _ _ _ _ _ _ _ _ _ _ _ _ _ _ _)
      | (with_reducible exact ih5 _ _ _ _ _ _ _ _ _ _ _ _ _ _ _ _ _ _)
      | (with_reducible exact ih6 _ _ _ _ _ _ _ _ _ _ _ _ _ _ _ _ _)
      | (with_reducible exact palinodelaw16_meets.mono _ _ _ _ _ _ _ _ _ _)
      | (with_reducible exact palinodelaw16_within.mono _ _ _)
      | (with_reducible exact LeO.refl _)
      | (with_reducible exact LeO.none _)
      | (with_reducible refine LeO.ite ?_ ?_)
      | (with_reducible refine LeO.bind ?_ (fun _ => ?_))
      | exact ih0 _ _ _ _ _ _ _ _ _
      | exact ih1 _ _ _ _ _ _ _ _ _ _
      | exact ih2 _ _ _ _ _ _ _ _ _ _ _
      | exact ih3 _ _ _ _ _ _ _ _ _ _ _
      | exact ih4 _ _ _ _ _ _ _ _ _ _ _ _ _ _ _ _ _ _ _
      | exact ih5 _ _ _ _ _ _ _ _ _ _ _ _ _ _ _ _ _ _
      | exact ih6 _ _ _ _ _ _ _ _ _ _ _ _ _ _ _ _ _
      | exact palinodelaw16_meets.mono _ _ _ _ _ _ _ _ _ _
      | exact palinodelaw16_within.mono _ _ _
      | exact LeO.none _
      | refine LeO.ite ?_ ?_
      | refine LeO.bind ?_ (fun _ => ?_)
theorem palinodelaw16_PickJobs.mono : ∀ a0 a1 a2 k, LeO (palinodelaw16_PickJobs.f k a0 a1 a2) (palinodelaw16_PickJobs.f (k + 1) a0 a1 a2) := by
  intro a0 a1 a2 k
  obtain ⟨ih0, ih1, ih2, ih3, ih4, ih5, ih6⟩ := palinodelaw16_PickJobs.mono_l k
  unfold palinodelaw16_PickJobs.f
  repeat' first
      | (with_reducible exact ih0 _ _ _ _ _ _ _ _ _)
      | (with_reducible exact ih1 _ _ _ _ _ _ _ _ _ _)
      | (with_reducible exact ih2 _ _ _ _ _ _ _ _ _ _ _)
      | (with_reducible exact ih3 _ _ _ _ _ _ _ _ _ _ _)
      | (with_reducible exact ih4 _ _ _ _ _ _ _ _ _ _ _ _ _ _ _ _ _ _ _)
      | (with_reducible exact ih5 _ _ _ _ _ _ _ _ _ _ _ _ _ _ _ _ _ _)
      | (with_reducible exact ih6 _ _ _ _ _ _ _ _ _ _ _ _ _ _ _ _ _)
      | (with_reducible exact palinodelaw16_meets.mono _ _ _ _ _ _ _ _ _ _)
      | (with_reducible exact palinodelaw16_within.mono _ _ _)
      | (with_reducible exact LeO.refl _)
      | (with_reducible exact LeO.none _)
      | (with_reducible refine LeO.ite ?_ ?_)
      | (with_reducible refine LeO.bind ?_ (fun _ => ?_))
      | exact ih0 _ _ _ _ _ _ _ _ _
      | exact ih1 _ _ _ _ _ _ _ _ _ _
      | exact ih2 _ _ _ _ _ _ _ _ _ _ _
      | exact ih3 _ _ _ _ _ _ _ _ _ _ _
      | exact ih4 _ _ _ _ _ _ _ _ _ _ _ _ _ _ _ _ _ _ _
      | exact ih5 _ _ _ _ _ _ _ _ _ _ _ _ _ _ _ _ _ _
      | exact ih6 _ _ _ _ _ _ _ _ _ _ _ _ _ _ _ _ _
      | exact palinodelaw16_meets.mono _ _ _ _ _ _ _ _ _ _
      | exact palinodelaw16_within.mono _ _ _
      | exact LeO.none _
      | refine LeO.ite ?_ ?_
      | refine LeO.bind ?_ (fun _ => ?_)
def palinodelaw16_PickJobs.T14 : Bool × List (List Nat × List Nat) := (true, [([], []), ([], []), ([0, 1], [0, 1]), ([2], [2]), ([], []), ([], []), ([4, 5], [4, 5]), ([6], [6]), ([3, 7], [3, 7])])
def palinodelaw16_PickJobs.B14 : List Nat := [0, 0, 3, 7, 0, 0, 48, 112, 255]
theorem palinodelaw16_PickJobs.tab14 : rtab .any (opsOf Try.f5 14) = palinodelaw16_PickJobs.T14 := by kernel_rfl
theorem palinodelaw16_PickJobs.bits14 : waitsOk palinodelaw16_PickJobs.T14.2 palinodelaw16_PickJobs.B14 = true := by kernel_rfl
set_option maxHeartbeats 8000000 in
set_option maxRecDepth 100000 in
theorem palinodelaw16_PickJobs.calls (k : Nat) (A0_0 : Option Addr) (c0_0 : Nat) (l0_0 : List (S49)) (A0_1 : Option Addr) (c0_1 : Nat) (l0_1 : List Int) (a0_2 : Int) (r : Bool) (w : World) (hr0_0 : Kd.C k49 w A0_0 l0_0.length l0_0) (hc0_0 : l0_0.length ≤ c0_0) (hr0_1 : Kd.C (Kd.int .i64) w A0_1 l0_1.length l0_1) (hc0_1 : l0_1.length ≤ c0_1) (h : palinodelaw16_PickJobs.f k l0_0 l0_1 a0_2 = some r) :
    Calls Try.prog 5 #[.agg #[.slice A0_0 l0_0.length c0_0, .slice A0_1 l0_1.length c0_1, .int .i64 a0_2]] w fun e w' => e = .returned (.bool r) ∧ Below w.heap.size w w' := by
  have hu25 := Try.underlying25
  have hu28 := Try.underlying28
  have hu49 := Try.underlying49
  have HR0_0 := Aside0.mk hr0_0
  have HC0_0 := Aside0.mk hc0_0
  clear hr0_0 hc0_0
  have HR0_1 := Aside0.mk hr0_1
  have HC0_1 := Aside0.mk hc0_1
  clear hr0_1 hc0_1
  have HB := Aside0.mk (Below.refl w.heap.size w)
  have H : ((palinodelaw16_examples.f).bind fun t192 => ((pick_Pick.f l0_0 l0_1 a0_2).bind fun bt193 => (if bt193.2.2.2.2 = true then ((version_Right.f l0_0 l0_1 a0_2).bind fun t203 => (if t203 = true then (if bt193.1 < 0 then (palinodelaw16_PickJobs.j0 k t192 true l0_0 l0_1 a0_2 bt193.1 bt193.2.1 bt193.2.2.1 bt193.2.2.2.1) else (if bt193.1 ≥ 3 then (palinodelaw16_PickJobs.j0 k t192 true l0_0 l0_1 a0_2 bt193.1 bt193.2.1 bt193.2.2.1 bt193.2.2.2.1) else (palinodelaw16_PickJobs.j0 k t192 ((bt193.2.1.length : Int) == 0) l0_0 l0_1 a0_2 bt193.1 bt193.2.1 bt193.2.2.1 bt193.2.2.2.1))) else (palinodelaw16_PickJobs.j0 k t192 true l0_0 l0_1 a0_2 bt193.1 bt193.2.1 bt193.2.2.1 bt193.2.2.2.1))) else (if t192 = true then (if (bt193.2.1.length : Int) = 0 then (some ((bt193.2.2.1.length : Int) == 0)) else (some false)) else (some false))))) = some r := h
  clear h
  replace H := Option.bind_eq_some_iff.mp H
  obtain ⟨t192, A20, H⟩ := H
  replace H : ((pick_Pick.f l0_0 l0_1 a0_2).bind fun bt193 => (if bt193.2.2.2.2 = true then ((version_Right.f l0_0 l0_1 a0_2).bind fun t203 => (if t203 = true then (if bt193.1 < 0 then (palinodelaw16_PickJobs.j0 k t192 true l0_0 l0_1 a0_2 bt193.1 bt193.2.1 bt193.2.2.1 bt193.2.2.2.1) else (if bt193.1 ≥ 3 then (palinodelaw16_PickJobs.j0 k t192 true l0_0 l0_1 a0_2 bt193.1 bt193.2.1 bt193.2.2.1 bt193.2.2.2.1) else (palinodelaw16_PickJobs.j0 k t192 ((bt193.2.1.length : Int) == 0) l0_0 l0_1 a0_2 bt193.1 bt193.2.1 bt193.2.2.1 bt193.2.2.2.1))) else (palinodelaw16_PickJobs.j0 k t192 true l0_0 l0_1 a0_2 bt193.1 bt193.2.1 bt193.2.2.1 bt193.2.2.2.1))) else (if t192 = true then (if (bt193.2.1.length : Int) = 0 then (some ((bt193.2.2.1.length : Int) == 0)) else (some false)) else (some false)))) = some r := H
  have A2 := Aside0.mk A20
  clear A20
  replace H := Option.bind_eq_some_iff.mp H
  obtain ⟨⟨t193, t194, t197, t200, t201⟩, A30, H⟩ := H
  replace H : (if t201 = true then ((version_Right.f l0_0 l0_1 a0_2).bind fun t203 => (if t203 = true then (if t193 < 0 then (palinodelaw16_PickJobs.j0 k t192 true l0_0 l0_1 a0_2 t193 t194 t197 t200) else (if t193 ≥ 3 then (palinodelaw16_PickJobs.j0 k t192 true l0_0 l0_1 a0_2 t193 t194 t197 t200) else (palinodelaw16_PickJobs.j0 k t192 ((t194.length : Int) == 0) l0_0 l0_1 a0_2 t193 t194 t197 t200))) else (palinodelaw16_PickJobs.j0 k t192 true l0_0 l0_1 a0_2 t193 t194 t197 t200))) else (if t192 = true then (if (t194.length : Int) = 0 then (some ((t197.length : Int) == 0)) else (some false)) else (some false))) = some r := H
  have A3 := Aside0.mk A30
  clear A30
  by_cases c4 : t201 = true
  rotate_left
  · replace c4 := Bool.eq_false_iff.mpr c4
    subst c4
    have H1 : (if t192 = true then (if (t194.length : Int) = 0 then (some ((t197.length : Int) == 0)) else (some false)) else (some false)) = some r := by rw [if_neg (show ¬ (false = true) by decide)] at H; exact H
    clear H
    have H := H1
    clear H1
    by_cases c142 : t192 = true
    rotate_left
    · replace c142 := Bool.eq_false_iff.mpr c142
      subst c142
      have H1 : (some false) = some r := by rw [if_neg (show ¬ (false = true) by decide)] at H; exact H
      clear H
      have H := H1
      clear H1
      obtain rfl := Option.some.inj H
      go_enter Try.func5, Try.ntmps5
      go_wp2_with (first | ((with_reducible refine gate_dst (N := 1) rfl ?_); (try (refine gate_guard (by rfl) ?_; dsimp only)); refine box_event ?hg (N := 1) ?hd (cs := #[.slice A0_0 l0_0.length c0_0, .slice A0_1 l0_1.length c0_1, .int .i64 a0_2]) (t := 25) ?hr ?_; (case hd => rfl); (case hg => rfl); (case hr => first | (go_simp; done) | (go_simp; rfl)); intro gb191 hg w162 hbox hb; have n0_ := Aside0.mk (below_step (by repeat (first | (with_reducible first | exact HB.out | apply below_alloc | apply pw_below_drewN | apply below_drew1) | exact HB.out)) hb); have n1_ := Aside0.mk (hbox); have n2_ := Aside0.mk ((by rw [hg]; exact (below_size (by repeat (first | (with_reducible first | exact HB.out | apply below_alloc | apply pw_below_drewN | apply below_drew1) | exact HB.out))) : w.heap.size ≤ gb191)); have n3_ := Aside0.mk ((by rw [hg]; exact (below_size (by repeat (first | (with_reducible first | exact HB.out | apply below_alloc | apply pw_below_drewN | apply below_drew1) | exact HB.out))) : w.heap.size ≤ gb191)); clear HB; have HB := n0_; have BK191 := n1_; have GW191 := n2_; have GE191 := n3_; clear n0_ n1_ n2_ n3_; clear hb hbox hg) | ((with_reducible refine gate_callee (f := 8) rfl ?_); refine goesL_ (some 14) rfl rfl Try.func8 (by kernel_rfl) rfl #[] rfl (by (try simp only [List.map_toArray, List.map_cons, List.map_nil]); first | done | rfl | (simp only [List.length_drop, List.length_take]; rfl)) ?_; (with_reducible refine (palinodelaw16_examples.calls  false _ A2.out).mono ?_); rintro e w163 ⟨rfl, hb⟩; refine ⟨_, rfl, ?_⟩; have n0_ := Aside0.mk (blk_below (g := gb191) (o := .cells #[.slice A0_0 l0_0.length c0_0, .slice A0_1 l0_1.length c0_1, .int .i64 a0_2] 25 (0, 0)) (by (with_reducible repeat (first | refine blk_drewN ?_ _ | refine blk_drew ?_ | refine blk_alloc ?_ _)); exact BK191.out) hb); have n1_ := Aside0.mk (below_step (by repeat (first | (with_reducible first | exact HB.out | apply below_alloc | apply pw_below_drewN | apply below_drew1 | refine below_set ?_ GE191.out) | exact HB.out)) hb); clear BK191; clear HB; have BK191 := n0_; have HB := n1_; clear n0_ n1_; (try clear hb); (try clear hb2); (try clear hk); (try clear hi); have hcz164_0 : w163.cell? ⟨gb191, 0, none⟩ = some (.slice A0_0 l0_0.length c0_0) := (blk_cell BK191.out 0).trans rfl; have hcz164_1 : w163.cell? ⟨gb191, 1, none⟩ = some (.slice A0_1 l0_1.length c0_1) := (blk_cell BK191.out 1).trans rfl; have hcz164_2 : w163.cell? ⟨gb191, 2, none⟩ = some (.int .i64 a0_2) := (blk_cell BK191.out 2).trans rfl; have hfz164_0 := blk_frozen BK191.out 0; have hfz164_1 := blk_frozen BK191.out 1; have hfz164_2 := blk_frozen BK191.out 2) | ((with_reducible refine gate_callee (f := 9) rfl ?_); refine goesL_ (some 17) rfl rfl Try.func9 (by kernel_rfl) rfl #[.agg #[.slice A0_0 l0_0.length c0_0, .slice A0_1 l0_1.length c0_1, .int .i64 a0_2]] rfl (by (try simp only [List.map_toArray, List.map_cons, List.map_nil]); first | done | rfl | (simp only [List.length_drop, List.length_take]; rfl)) ?_; (with_reducible refine (pick_Pick.calls _ _ l0_0 _ _ l0_1 a0_2 t193 t194 t197 t200 false _ ?side1 ?side2 ?side3 ?side4 A3.out).mono ?_); (case side1 => repeat (first | exact (Kd.C_below HR0_0.out HB.out) | (with_reducible refine Kd.C_alloc ?_ _) | (with_reducible refine Kd.C_drewN ?_ _) | (with_reducible refine Kd.C_drew ?_))); (case side2 => exact HC0_0.out); (case side3 => repeat (first | exact (Kd.C_below HR0_1.out HB.out) | (with_reducible refine Kd.C_alloc ?_ _) | (with_reducible refine Kd.C_drewN ?_ _) | (with_reducible refine Kd.C_drew ?_))); (case side4 => exact HC0_1.out); rintro e w165 ⟨v195, v198, rfl, ho0, ho1, hb⟩; refine ⟨_, rfl, ?_⟩; have n0_ := Aside0.mk (Kd.R_lower ho0 (below_size (by repeat (first | (with_reducible first | exact HB.out | apply below_alloc | apply pw_below_drewN | apply below_drew1 | refine below_set ?_ GE191.out) | exact HB.out)))); have n1_ := Aside0.mk (Kd.R_lower ho1 (below_size (by repeat (first | (with_reducible first | exact HB.out | apply below_alloc | apply pw_below_drewN | apply below_drew1 | refine below_set ?_ GE191.out) | exact HB.out)))); have n2_ := Aside0.mk (blk_below (g := gb191) (o := .cells #[.slice A0_0 l0_0.length c0_0, .slice A0_1 l0_1.length c0_1, .int .i64 a0_2] 25 (0, 0)) (by (with_reducible repeat (first | refine blk_drewN ?_ _ | refine blk_drew ?_ | refine blk_alloc ?_ _)); exact BK191.out) hb); have n3_ := Aside0.mk (below_step (by repeat (first | (with_reducible first | exact HB.out | apply below_alloc | apply pw_below_drewN | apply below_drew1 | refine below_set ?_ GE191.out) | exact HB.out)) hb); clear BK191; clear HB; have HO196 := n0_; have HO199 := n1_; have BK191 := n2_; have HB := n3_; clear n0_ n1_ n2_ n3_; (try clear hb); (try clear hb2); (try clear hk); (try clear hi); (try clear ho0); (try clear ho1)) | ((with_reducible refine gate_dst (N := 4) rfl ?_); (try (refine gate_guard (by rfl) ?_; dsimp only)); refine box_event ?hg (N := 4) ?hd (cs := #[.int .i64 0, .slice none 0 0, .slice none 0 0, .bool false]) (t := 28) ?hr ?_; (case hd => rfl); (case hg => rfl); (case hr => first | (go_simp; done) | (go_simp; rfl)); intro gb202 hg w166 hbox hb; have n0_ := Aside0.mk (Kd.R_below (by (with_reducible repeat (first | apply Kd.R_alloc | apply Kd.R_drewN | apply Kd.R_drew)); exact HO196.out) hb); have n1_ := Aside0.mk (Kd.R_below (by (with_reducible repeat (first | apply Kd.R_alloc | apply Kd.R_drewN | apply Kd.R_drew)); exact HO199.out) hb); have n2_ := Aside0.mk (blk_below (g := gb191) (o := .cells #[.slice A0_0 l0_0.length c0_0, .slice A0_1 l0_1.length c0_1, .int .i64 a0_2] 25 (0, 0)) (by (with_reducible repeat (first | refine blk_drewN ?_ _ | refine blk_drew ?_ | refine blk_alloc ?_ _)); exact BK191.out) hb); have n3_ := Aside0.mk (below_step (by repeat (first | (with_reducible first | exact HB.out | apply below_alloc | apply pw_below_drewN | apply below_drew1 | refine below_set ?_ GE191.out) | exact HB.out)) hb); have n4_ := Aside0.mk (hbox); have n5_ := Aside0.mk ((by rw [hg]; exact (below_size (by repeat (first | (with_reducible first | exact HB.out | apply below_alloc | apply pw_below_drewN | apply below_drew1 | refine below_set ?_ GE191.out) | exact HB.out))) : w.heap.size ≤ gb202)); have n6_ := Aside0.mk ((by rw [hg]; exact (below_size (by repeat (first | (with_reducible first | exact HB.out | apply below_alloc | apply pw_below_drewN | apply below_drew1 | refine below_set ?_ GE191.out) | exact HB.out))) : w.heap.size ≤ gb202)); have n7_ := Aside0.mk ((by rw [hg]; exact Nat.ne_of_lt (blk_lt (g := gb191) (o := .cells #[.slice A0_0 l0_0.length c0_0, .slice A0_1 l0_1.length c0_1, .int .i64 a0_2] 25 (0, 0)) (by (with_reducible repeat (first | refine blk_drewN ?_ _ | refine blk_drew ?_ | refine blk_alloc ?_ _)); exact BK191.out)) : gb191 ≠ gb202)); have n8_ := Aside0.mk ((by rw [hg]; exact Nat.ne_of_gt (blk_lt (g := gb191) (o := .cells #[.slice A0_0 l0_0.length c0_0, .slice A0_1 l0_1.length c0_1, .int .i64 a0_2] 25 (0, 0)) (by (with_reducible repeat (first | refine blk_drewN ?_ _ | refine blk_drew ?_ | refine blk_alloc ?_ _)); exact BK191.out)) : gb202 ≠ gb191)); clear HO196; clear HO199; clear BK191; clear HB; have HO196 := n0_; have HO199 := n1_; have BK191 := n2_; have HB := n3_; have BK202 := n4_; have GW202 := n5_; have GE202 := n6_; have NB191_202 := n7_; have NB202_191 := n8_; clear n0_ n1_ n2_ n3_ n4_ n5_ n6_ n7_ n8_; clear hb hbox hg; have hnb167 := NB202_191.out; have hnc167 := NB191_202.out; have hcz168_0 : w166.cell? ⟨gb202, 0, none⟩ = some (.int .i64 0) := (blk_cell BK202.out 0).trans rfl; have hcz168_1 : w166.cell? ⟨gb202, 1, none⟩ = some (.slice none 0 0) := (blk_cell BK202.out 1).trans rfl; have hcz168_2 : w166.cell? ⟨gb202, 2, none⟩ = some (.slice none 0 0) := (blk_cell BK202.out 2).trans rfl; have hcz168_3 : w166.cell? ⟨gb202, 3, none⟩ = some (.bool false) := (blk_cell BK202.out 3).trans rfl; have hfz168_0 := blk_frozen BK202.out 0; have hfz168_1 := blk_frozen BK202.out 1; have hfz168_2 := blk_frozen BK202.out 2; have hfz168_3 := blk_frozen BK202.out 3; obtain ⟨Ao169, co169, eo169⟩ := Kd.R_slice HO196.out; subst eo169; obtain ⟨Ao170, co170, eo170⟩ := Kd.R_slice HO199.out; subst eo170))
      go_ret
      exact ⟨by first | rfl | (simp [errW_none, errW_some] <;> rfl) | (simp [*, errW_none, errW_some] <;> rfl), by repeat (first | (with_reducible first | exact HB.out | apply below_alloc | apply pw_below_drewN | apply below_drew1 | refine below_set ?_ GE191.out | refine below_set ?_ GE202.out) | exact HB.out)⟩
    subst c142
    have H1 : (if (t194.length : Int) = 0 then (some ((t197.length : Int) == 0)) else (some false)) = some r := by rw [if_pos rfl] at H; exact H
    clear H
    have H := H1
    clear H1
    by_cases c143 : (t194.length : Int) = 0
    · rw [if_pos c143] at H
      have c143b0 : ((t194.length : Int) == 0) = true := beq_iff_eq.mpr c143
      have c143b1 : ((t194.length : Int) != 0) = false := bne_eq_false_iff_eq.mpr c143
      clear c143
      obtain rfl := Option.some.inj H
      go_enter Try.func5, Try.ntmps5
      go_wp2_with (first | ((with_reducible refine gate_dst (N := 1) rfl ?_); (try (refine gate_guard (by rfl) ?_; dsimp only)); refine box_event ?hg (N := 1) ?hd (cs := #[.slice A0_0 l0_0.length c0_0, .slice A0_1 l0_1.length c0_1, .int .i64 a0_2]) (t := 25) ?hr ?_; (case hd => rfl); (case hg => rfl); (case hr => first | (go_simp; done) | (go_simp; rfl)); intro gb191 hg w144 hbox hb; have n0_ := Aside0.mk (below_step (by repeat (first | (with_reducible first | exact HB.out | apply below_alloc | apply pw_below_drewN | apply below_drew1) | exact HB.out)) hb); have n1_ := Aside0.mk (hbox); have n2_ := Aside0.mk ((by rw [hg]; exact (below_size (by repeat (first | (with_reducible first | exact HB.out | apply below_alloc | apply pw_below_drewN | apply below_drew1) | exact HB.out))) : w.heap.size ≤ gb191)); have n3_ := Aside0.mk ((by rw [hg]; exact (below_size (by repeat (first | (with_reducible first | exact HB.out | apply below_alloc | apply pw_below_drewN | apply below_drew1) | exact HB.out))) : w.heap.size ≤ gb191)); clear HB; have HB := n0_; have BK191 := n1_; have GW191 := n2_; have GE191 := n3_; clear n0_ n1_ n2_ n3_; clear hb hbox hg) | ((with_reducible refine gate_callee (f := 8) rfl ?_); refine goesL_ (some 14) rfl rfl Try.func8 (by kernel_rfl) rfl #[] rfl (by (try simp only [List.map_toArray, List.map_cons, List.map_nil]); first | done | rfl | (simp only [List.length_drop, List.length_take]; rfl)) ?_; (with_reducible refine (palinodelaw16_examples.calls  true _ A2.out).mono ?_); rintro e w145 ⟨rfl, hb⟩; refine ⟨_, rfl, ?_⟩; have n0_ := Aside0.mk (blk_below (g := gb191) (o := .cells #[.slice A0_0 l0_0.length c0_0, .slice A0_1 l0_1.length c0_1, .int .i64 a0_2] 25 (0, 0)) (by (with_reducible repeat (first | refine blk_drewN ?_ _ | refine blk_drew ?_ | refine blk_alloc ?_ _)); exact BK191.out) hb); have n1_ := Aside0.mk (below_step (by repeat (first | (with_reducible first | exact HB.out | apply below_alloc | apply pw_below_drewN | apply below_drew1 | refine below_set ?_ GE191.out) | exact HB.out)) hb); clear BK191; clear HB; have BK191 := n0_; have HB := n1_; clear n0_ n1_; (try clear hb); (try clear hb2); (try clear hk); (try clear hi); have hcz146_0 : w145.cell? ⟨gb191, 0, none⟩ = some (.slice A0_0 l0_0.length c0_0) := (blk_cell BK191.out 0).trans rfl; have hcz146_1 : w145.cell? ⟨gb191, 1, none⟩ = some (.slice A0_1 l0_1.length c0_1) := (blk_cell BK191.out 1).trans rfl; have hcz146_2 : w145.cell? ⟨gb191, 2, none⟩ = some (.int .i64 a0_2) := (blk_cell BK191.out 2).trans rfl; have hfz146_0 := blk_frozen BK191.out 0; have hfz146_1 := blk_frozen BK191.out 1; have hfz146_2 := blk_frozen BK191.out 2) | ((with_reducible refine gate_callee (f := 9) rfl ?_); refine goesL_ (some 17) rfl rfl Try.func9 (by kernel_rfl) rfl #[.agg #[.slice A0_0 l0_0.length c0_0, .slice A0_1 l0_1.length c0_1, .int .i64 a0_2]] rfl (by (try simp only [List.map_toArray, List.map_cons, List.map_nil]); first | done | rfl | (simp only [List.length_drop, List.length_take]; rfl)) ?_; (with_reducible refine (pick_Pick.calls _ _ l0_0 _ _ l0_1 a0_2 t193 t194 t197 t200 false _ ?side1 ?side2 ?side3 ?side4 A3.out).mono ?_); (case side1 => repeat (first | exact (Kd.C_below HR0_0.out HB.out) | (with_reducible refine Kd.C_alloc ?_ _) | (with_reducible refine Kd.C_drewN ?_ _) | (with_reducible refine Kd.C_drew ?_))); (case side2 => exact HC0_0.out); (case side3 => repeat (first | exact (Kd.C_below HR0_1.out HB.out) | (with_reducible refine Kd.C_alloc ?_ _) | (with_reducible refine Kd.C_drewN ?_ _) | (with_reducible refine Kd.C_drew ?_))); (case side4 => exact HC0_1.out); rintro e w147 ⟨v195, v198, rfl, ho0, ho1, hb⟩; refine ⟨_, rfl, ?_⟩; have n0_ := Aside0.mk (Kd.R_lower ho0 (below_size (by repeat (first | (with_reducible first | exact HB.out | apply below_alloc | apply pw_below_drewN | apply below_drew1 | refine below_set ?_ GE191.out) | exact HB.out)))); have n1_ := Aside0.mk (Kd.R_lower ho1 (below_size (by repeat (first | (with_reducible first | exact HB.out | apply below_alloc | apply pw_below_drewN | apply below_drew1 | refine below_set ?_ GE191.out) | exact HB.out)))); have n2_ := Aside0.mk (blk_below (g := gb191) (o := .cells #[.slice A0_0 l0_0.length c0_0, .slice A0_1 l0_1.length c0_1, .int .i64 a0_2] 25 (0, 0)) (by (with_reducible repeat (first | refine blk_drewN ?_ _ | refine blk_drew ?_ | refine blk_alloc ?_ _)); exact BK191.out) hb); have n3_ := Aside0.mk (below_step (by repeat (first | (with_reducible first | exact HB.out | apply below_alloc | apply pw_below_drewN | apply below_drew1 | refine below_set ?_ GE191.out) | exact HB.out)) hb); clear BK191; clear HB; have HO196 := n0_; have HO199 := n1_; have BK191 := n2_; have HB := n3_; clear n0_ n1_ n2_ n3_; (try clear hb); (try clear hb2); (try clear hk); (try clear hi); (try clear ho0); (try clear ho1)) | ((with_reducible refine gate_dst (N := 4) rfl ?_); (try (refine gate_guard (by rfl) ?_; dsimp only)); refine box_event ?hg (N := 4) ?hd (cs := #[.int .i64 0, .slice none 0 0, .slice none 0 0, .bool false]) (t := 28) ?hr ?_; (case hd => rfl); (case hg => rfl); (case hr => first | (go_simp; done) | (go_simp; rfl)); intro gb202 hg w148 hbox hb; have n0_ := Aside0.mk (Kd.R_below (by (with_reducible repeat (first | apply Kd.R_alloc | apply Kd.R_drewN | apply Kd.R_drew)); exact HO196.out) hb); have n1_ := Aside0.mk (Kd.R_below (by (with_reducible repeat (first | apply Kd.R_alloc | apply Kd.R_drewN | apply Kd.R_drew)); exact HO199.out) hb); have n2_ := Aside0.mk (blk_below (g := gb191) (o := .cells #[.slice A0_0 l0_0.length c0_0, .slice A0_1 l0_1.length c0_1, .int .i64 a0_2] 25 (0, 0)) (by (with_reducible repeat (first | refine blk_drewN ?_ _ | refine blk_drew ?_ | refine blk_alloc ?_ _)); exact BK191.out) hb); have n3_ := Aside0.mk (below_step (by repeat (first | (with_reducible first | exact HB.out | apply below_alloc | apply pw_below_drewN | apply below_drew1 | refine below_set ?_ GE191.out) | exact HB.out)) hb); have n4_ := Aside0.mk (hbox); have n5_ := Aside0.mk ((by rw [hg]; exact (below_size (by repeat (first | (with_reducible first | exact HB.out | apply below_alloc | apply pw_below_drewN | apply below_drew1 | refine below_set ?_ GE191.out) | exact HB.out))) : w.heap.size ≤ gb202)); have n6_ := Aside0.mk ((by rw [hg]; exact (below_size (by repeat (first | (with_reducible first | exact HB.out | apply below_alloc | apply pw_below_drewN | apply below_drew1 | refine below_set ?_ GE191.out) | exact HB.out))) : w.heap.size ≤ gb202)); have n7_ := Aside0.mk ((by rw [hg]; exact Nat.ne_of_lt (blk_lt (g := gb191) (o := .cells #[.slice A0_0 l0_0.length c0_0, .slice A0_1 l0_1.length c0_1, .int .i64 a0_2] 25 (0, 0)) (by (with_reducible repeat (first | refine blk_drewN ?_ _ | refine blk_drew ?_ | refine blk_alloc ?_ _)); exact BK191.out)) : gb191 ≠ gb202)); have n8_ := Aside0.mk ((by rw [hg]; exact Nat.ne_of_gt (blk_lt (g := gb191) (o := .cells #[.slice A0_0 l0_0.length c0_0, .slice A0_1 l0_1.length c0_1, .int .i64 a0_2] 25 (0, 0)) (by (with_reducible repeat (first | refine blk_drewN ?_ _ | refine blk_drew ?_ | refine blk_alloc ?_ _)); exact BK191.out)) : gb202 ≠ gb191)); clear HO196; clear HO199; clear BK191; clear HB; have HO196 := n0_; have HO199 := n1_; have BK191 := n2_; have HB := n3_; have BK202 := n4_; have GW202 := n5_; have GE202 := n6_; have NB191_202 := n7_; have NB202_191 := n8_; clear n0_ n1_ n2_ n3_ n4_ n5_ n6_ n7_ n8_; clear hb hbox hg; have hnb149 := NB202_191.out; have hnc149 := NB191_202.out; have hcz150_0 : w148.cell? ⟨gb202, 0, none⟩ = some (.int .i64 0) := (blk_cell BK202.out 0).trans rfl; have hcz150_1 : w148.cell? ⟨gb202, 1, none⟩ = some (.slice none 0 0) := (blk_cell BK202.out 1).trans rfl; have hcz150_2 : w148.cell? ⟨gb202, 2, none⟩ = some (.slice none 0 0) := (blk_cell BK202.out 2).trans rfl; have hcz150_3 : w148.cell? ⟨gb202, 3, none⟩ = some (.bool false) := (blk_cell BK202.out 3).trans rfl; have hfz150_0 := blk_frozen BK202.out 0; have hfz150_1 := blk_frozen BK202.out 1; have hfz150_2 := blk_frozen BK202.out 2; have hfz150_3 := blk_frozen BK202.out 3; obtain ⟨Ao151, co151, eo151⟩ := Kd.R_slice HO196.out; subst eo151; obtain ⟨Ao152, co152, eo152⟩ := Kd.R_slice HO199.out; subst eo152))
      go_ret
      exact ⟨by first | rfl | (simp [errW_none, errW_some] <;> rfl) | (simp [*, errW_none, errW_some] <;> rfl), by repeat (first | (with_reducible first | exact HB.out | apply below_alloc | apply pw_below_drewN | apply below_drew1 | refine below_set ?_ GE191.out | refine below_set ?_ GE202.out) | exact HB.out)⟩
    rw [if_neg c143] at H
    have c143b0 : ((t194.length : Int) == 0) = false := beq_eq_false_iff_ne.mpr c143
    have c143b1 : ((t194.length : Int) != 0) = true := bne_iff_ne.mpr c143
    have c143b2 : ¬ (t194 = []) := fun h_ => c143 (by rw [h_]; rfl)
    obtain rfl := Option.some.inj H
    go_enter Try.func5, Try.ntmps5
    go_wp2_with (first | ((with_reducible refine gate_dst (N := 1) rfl ?_); (try (refine gate_guard (by rfl) ?_; dsimp only)); refine box_event ?hg (N := 1) ?hd (cs := #[.slice A0_0 l0_0.length c0_0, .slice A0_1 l0_1.length c0_1, .int .i64 a0_2]) (t := 25) ?hr ?_; (case hd => rfl); (case hg => rfl); (case hr => first | (go_simp; done) | (go_simp; rfl)); intro gb191 hg w153 hbox hb; have n0_ := Aside0.mk (below_step (by repeat (first | (with_reducible first | exact HB.out | apply below_alloc | apply pw_below_drewN | apply below_drew1) | exact HB.out)) hb); have n1_ := Aside0.mk (hbox); have n2_ := Aside0.mk ((by rw [hg]; exact (below_size (by repeat (first | (with_reducible first | exact HB.out | apply below_alloc | apply pw_below_drewN | apply below_drew1) | exact HB.out))) : w.heap.size ≤ gb191)); have n3_ := Aside0.mk ((by rw [hg]; exact (below_size (by repeat (first | (with_reducible first | exact HB.out | apply below_alloc | apply pw_below_drewN | apply below_drew1) | exact HB.out))) : w.heap.size ≤ gb191)); clear HB; have HB := n0_; have BK191 := n1_; have GW191 := n2_; have GE191 := n3_; clear n0_ n1_ n2_ n3_; clear hb hbox hg) | ((with_reducible refine gate_callee (f := 8) rfl ?_); refine goesL_ (some 14) rfl rfl Try.func8 (by kernel_rfl) rfl #[] rfl (by (try simp only [List.map_toArray, List.map_cons, List.map_nil]); first | done | rfl | (simp only [List.length_drop, List.length_take]; rfl)) ?_; (with_reducible refine (palinodelaw16_examples.calls  true _ A2.out).mono ?_); rintro e w154 ⟨rfl, hb⟩; refine ⟨_, rfl, ?_⟩; have n0_ := Aside0.mk (blk_below (g := gb191) (o := .cells #[.slice A0_0 l0_0.length c0_0, .slice A0_1 l0_1.length c0_1, .int .i64 a0_2] 25 (0, 0)) (by (with_reducible repeat (first | refine blk_drewN ?_ _ | refine blk_drew ?_ | refine blk_alloc ?_ _)); exact BK191.out) hb); have n1_ := Aside0.mk (below_step (by repeat (first | (with_reducible first | exact HB.out | apply below_alloc | apply pw_below_drewN | apply below_drew1 | refine below_set ?_ GE191.out) | exact HB.out)) hb); clear BK191; clear HB; have BK191 := n0_; have HB := n1_; clear n0_ n1_; (try clear hb); (try clear hb2); (try clear hk); (try clear hi); have hcz155_0 : w154.cell? ⟨gb191, 0, none⟩ = some (.slice A0_0 l0_0.length c0_0) := (blk_cell BK191.out 0).trans rfl; have hcz155_1 : w154.cell? ⟨gb191, 1, none⟩ = some (.slice A0_1 l0_1.length c0_1) := (blk_cell BK191.out 1).trans rfl; have hcz155_2 : w154.cell? ⟨gb191, 2, none⟩ = some (.int .i64 a0_2) := (blk_cell BK191.out 2).trans rfl; have hfz155_0 := blk_frozen BK191.out 0; have hfz155_1 := blk_frozen BK191.out 1; have hfz155_2 := blk_frozen BK191.out 2) | ((with_reducible refine gate_callee (f := 9) rfl ?_); refine goesL_ (some 17) rfl rfl Try.func9 (by kernel_rfl) rfl #[.agg #[.slice A0_0 l0_0.length c0_0, .slice A0_1 l0_1.length c0_1, .int .i64 a0_2]] rfl (by (try simp only [List.map_toArray, List.map_cons, List.map_nil]); first | done | rfl | (simp only [List.length_drop, List.length_take]; rfl)) ?_; (with_reducible refine (pick_Pick.calls _ _ l0_0 _ _ l0_1 a0_2 t193 t194 t197 t200 false _ ?side1 ?side2 ?side3 ?side4 A3.out).mono ?_); (case side1 => repeat (first | exact (Kd.C_below HR0_0.out HB.out) | (with_reducible refine Kd.C_alloc ?_ _) | (with_reducible refine Kd.C_drewN ?_ _) | (with_reducible refine Kd.C_drew ?_))); (case side2 => exact HC0_0.out); (case side3 => repeat (first | exact (Kd.C_below HR0_1.out HB.out) | (with_reducible refine Kd.C_alloc ?_ _) | (with_reducible refine Kd.C_drewN ?_ _) | (with_reducible refine Kd.C_drew ?_))); (case side4 => exact HC0_1.out); rintro e w156 ⟨v195, v198, rfl, ho0, ho1, hb⟩; refine ⟨_, rfl, ?_⟩; have n0_ := Aside0.mk (Kd.R_lower ho0 (below_size (by repeat (first | (with_reducible first | exact HB.out | apply below_alloc | apply pw_below_drewN | apply below_drew1 | refine below_set ?_ GE191.out) | exact HB.out)))); have n1_ := Aside0.mk (Kd.R_lower ho1 (below_size (by repeat (first | (with_reducible first | exact HB.out | apply below_alloc | apply pw_below_drewN | apply below_drew1 | refine below_set ?_ GE191.out) | exact HB.out)))); have n2_ := Aside0.mk (blk_below (g := gb191) (o := .cells #[.slice A0_0 l0_0.length c0_0, .slice A0_1 l0_1.length c0_1, .int .i64 a0_2] 25 (0, 0)) (by (with_reducible repeat (first | refine blk_drewN ?_ _ | refine blk_drew ?_ | refine blk_alloc ?_ _)); exact BK191.out) hb); have n3_ := Aside0.mk (below_step (by repeat (first | (with_reducible first | exact HB.out | apply below_alloc | apply pw_below_drewN | apply below_drew1 | refine below_set ?_ GE191.out) | exact HB.out)) hb); clear BK191; clear HB; have HO196 := n0_; have HO199 := n1_; have BK191 := n2_; have HB := n3_; clear n0_ n1_ n2_ n3_; (try clear hb); (try clear hb2); (try clear hk); (try clear hi); (try clear ho0); (try clear ho1)) | ((with_reducible refine gate_dst (N := 4) rfl ?_); (try (refine gate_guard (by rfl) ?_; dsimp only)); refine box_event ?hg (N := 4) ?hd (cs := #[.int .i64 0, .slice none 0 0, .slice none 0 0, .bool false]) (t := 28) ?hr ?_; (case hd => rfl); (case hg => rfl); (case hr => first | (go_simp; done) | (go_simp; rfl)); intro gb202 hg w157 hbox hb; have n0_ := Aside0.mk (Kd.R_below (by (with_reducible repeat (first | apply Kd.R_alloc | apply Kd.R_drewN | apply Kd.R_drew)); exact HO196.out) hb); have n1_ := Aside0.mk (Kd.R_below (by (with_reducible repeat (first | apply Kd.R_alloc | apply Kd.R_drewN | apply Kd.R_drew)); exact HO199.out) hb); have n2_ := Aside0.mk (blk_below (g := gb191) (o := .cells #[.slice A0_0 l0_0.length c0_0, .slice A0_1 l0_1.length c0_1, .int .i64 a0_2] 25 (0, 0)) (by (with_reducible repeat (first | refine blk_drewN ?_ _ | refine blk_drew ?_ | refine blk_alloc ?_ _)); exact BK191.out) hb); have n3_ := Aside0.mk (below_step (by repeat (first | (with_reducible first | exact HB.out | apply below_alloc | apply pw_below_drewN | apply below_drew1 | refine below_set ?_ GE191.out) | exact HB.out)) hb); have n4_ := Aside0.mk (hbox); have n5_ := Aside0.mk ((by rw [hg]; exact (below_size (by repeat (first | (with_reducible first | exact HB.out | apply below_alloc | apply pw_below_drewN | apply below_drew1 | refine below_set ?_ GE191.out) | exact HB.out))) : w.heap.size ≤ gb202)); have n6_ := Aside0.mk ((by rw [hg]; exact (below_size (by repeat (first | (with_reducible first | exact HB.out | apply below_alloc | apply pw_below_drewN | apply below_drew1 | refine below_set ?_ GE191.out) | exact HB.out))) : w.heap.size ≤ gb202)); have n7_ := Aside0.mk ((by rw [hg]; exact Nat.ne_of_lt (blk_lt (g := gb191) (o := .cells #[.slice A0_0 l0_0.length c0_0, .slice A0_1 l0_1.length c0_1, .int .i64 a0_2] 25 (0, 0)) (by (with_reducible repeat (first | refine blk_drewN ?_ _ | refine blk_drew ?_ | refine blk_alloc ?_ _)); exact BK191.out)) : gb191 ≠ gb202)); have n8_ := Aside0.mk ((by rw [hg]; exact Nat.ne_of_gt (blk_lt (g := gb191) (o := .cells #[.slice A0_0 l0_0.length c0_0, .slice A0_1 l0_1.length c0_1, .int .i64 a0_2] 25 (0, 0)) (by (with_reducible repeat (first | refine blk_drewN ?_ _ | refine blk_drew ?_ | refine blk_alloc ?_ _)); exact BK191.out)) : gb202 ≠ gb191)); clear HO196; clear HO199; clear BK191; clear HB; have HO196 := n0_; have HO199 := n1_; have BK191 := n2_; have HB := n3_; have BK202 := n4_; have GW202 := n5_; have GE202 := n6_; have NB191_202 := n7_; have NB202_191 := n8_; clear n0_ n1_ n2_ n3_ n4_ n5_ n6_ n7_ n8_; clear hb hbox hg; have hnb158 := NB202_191.out; have hnc158 := NB191_202.out; have hcz159_0 : w157.cell? ⟨gb202, 0, none⟩ = some (.int .i64 0) := (blk_cell BK202.out 0).trans rfl; have hcz159_1 : w157.cell? ⟨gb202, 1, none⟩ = some (.slice none 0 0) := (blk_cell BK202.out 1).trans rfl; have hcz159_2 : w157.cell? ⟨gb202, 2, none⟩ = some (.slice none 0 0) := (blk_cell BK202.out 2).trans rfl; have hcz159_3 : w157.cell? ⟨gb202, 3, none⟩ = some (.bool false) := (blk_cell BK202.out 3).trans rfl; have hfz159_0 := blk_frozen BK202.out 0; have hfz159_1 := blk_frozen BK202.out 1; have hfz159_2 := blk_frozen BK202.out 2; have hfz159_3 := blk_frozen BK202.out 3; obtain ⟨Ao160, co160, eo160⟩ := Kd.R_slice HO196.out; subst eo160; obtain ⟨Ao161, co161, eo161⟩ := Kd.R_slice HO199.out; subst eo161))
    go_ret
    exact ⟨by first | rfl | (simp [errW_none, errW_some] <;> rfl) | (simp [*, errW_none, errW_some] <;> rfl), by repeat (first | (with_reducible first | exact HB.out | apply below_alloc | apply pw_below_drewN | apply below_drew1 | refine below_set ?_ GE191.out | refine below_set ?_ GE202.out) | exact HB.out)⟩
  subst c4
  have H1 : ((version_Right.f l0_0 l0_1 a0_2).bind fun t203 => (if t203 = true then (if t193 < 0 then (palinodelaw16_PickJobs.j0 k t192 true l0_0 l0_1 a0_2 t193 t194 t197 t200) else (if t193 ≥ 3 then (palinodelaw16_PickJobs.j0 k t192 true l0_0 l0_1 a0_2 t193 t194 t197 t200) else (palinodelaw16_PickJobs.j0 k t192 ((t194.length : Int) == 0) l0_0 l0_1 a0_2 t193 t194 t197 t200))) else (palinodelaw16_PickJobs.j0 k t192 true l0_0 l0_1 a0_2 t193 t194 t197 t200))) = some r := by rw [if_pos rfl] at H; exact H
  clear H
  have H := H1
  clear H1
  have HC5 := Aside0.mk H
  clear H
  go_enter Try.func5, Try.ntmps5
  go_upto_region 5 with (first | ((with_reducible refine gate_dst (N := 1) rfl ?_); (try (refine gate_guard (by rfl) ?_; dsimp only)); refine box_event ?hg (N := 1) ?hd (cs := #[.slice A0_0 l0_0.length c0_0, .slice A0_1 l0_1.length c0_1, .int .i64 a0_2]) (t := 25) ?hr ?_; (case hd => rfl); (case hg => rfl); (case hr => first | (go_simp; done) | (go_simp; rfl)); intro gb191 hg w6 hbox hb; have n0_ := Aside0.mk (below_step (by repeat (first | (with_reducible first | exact HB.out | apply below_alloc | apply pw_below_drewN | apply below_drew1) | exact HB.out)) hb); have n1_ := Aside0.mk (hbox); have n2_ := Aside0.mk ((by rw [hg]; exact (below_size (by repeat (first | (with_reducible first | exact HB.out | apply below_alloc | apply pw_below_drewN | apply below_drew1) | exact HB.out))) : w.heap.size ≤ gb191)); have n3_ := Aside0.mk ((by rw [hg]; exact (below_size (by repeat (first | (with_reducible first | exact HB.out | apply below_alloc | apply pw_below_drewN | apply below_drew1) | exact HB.out))) : w.heap.size ≤ gb191)); clear HB; have HB := n0_; have BK191 := n1_; have GW191 := n2_; have GE191 := n3_; clear n0_ n1_ n2_ n3_; clear hb hbox hg) | ((with_reducible refine gate_callee (f := 8) rfl ?_); refine goesL_ (some 14) rfl rfl Try.func8 (by kernel_rfl) rfl #[] rfl (by (try simp only [List.map_toArray, List.map_cons, List.map_nil]); first | done | rfl | (simp only [List.length_drop, List.length_take]; rfl)) ?_; (with_reducible refine (palinodelaw16_examples.calls  t192 _ A2.out).mono ?_); rintro e w7 ⟨rfl, hb⟩; refine ⟨_, rfl, ?_⟩; have n0_ := Aside0.mk (blk_below (g := gb191) (o := .cells #[.slice A0_0 l0_0.length c0_0, .slice A0_1 l0_1.length c0_1, .int .i64 a0_2] 25 (0, 0)) (by (with_reducible repeat (first | refine blk_drewN ?_ _ | refine blk_drew ?_ | refine blk_alloc ?_ _)); exact BK191.out) hb); have n1_ := Aside0.mk (below_step (by repeat (first | (with_reducible first | exact HB.out | apply below_alloc | apply pw_below_drewN | apply below_drew1 | refine below_set ?_ GE191.out) | exact HB.out)) hb); clear BK191; clear HB; have BK191 := n0_; have HB := n1_; clear n0_ n1_; (try clear hb); (try clear hb2); (try clear hk); (try clear hi); have hcz8_0 : w7.cell? ⟨gb191, 0, none⟩ = some (.slice A0_0 l0_0.length c0_0) := (blk_cell BK191.out 0).trans rfl; have hcz8_1 : w7.cell? ⟨gb191, 1, none⟩ = some (.slice A0_1 l0_1.length c0_1) := (blk_cell BK191.out 1).trans rfl; have hcz8_2 : w7.cell? ⟨gb191, 2, none⟩ = some (.int .i64 a0_2) := (blk_cell BK191.out 2).trans rfl; have hfz8_0 := blk_frozen BK191.out 0; have hfz8_1 := blk_frozen BK191.out 1; have hfz8_2 := blk_frozen BK191.out 2) | ((with_reducible refine gate_callee (f := 9) rfl ?_); refine goesL_ (some 17) rfl rfl Try.func9 (by kernel_rfl) rfl #[.agg #[.slice A0_0 l0_0.length c0_0, .slice A0_1 l0_1.length c0_1, .int .i64 a0_2]] rfl (by (try simp only [List.map_toArray, List.map_cons, List.map_nil]); first | done | rfl | (simp only [List.length_drop, List.length_take]; rfl)) ?_; (with_reducible refine (pick_Pick.calls _ _ l0_0 _ _ l0_1 a0_2 t193 t194 t197 t200 true _ ?side1 ?side2 ?side3 ?side4 A3.out).mono ?_); (case side1 => repeat (first | exact (Kd.C_below HR0_0.out HB.out) | (with_reducible refine Kd.C_alloc ?_ _) | (with_reducible refine Kd.C_drewN ?_ _) | (with_reducible refine Kd.C_drew ?_))); (case side2 => exact HC0_0.out); (case side3 => repeat (first | exact (Kd.C_below HR0_1.out HB.out) | (with_reducible refine Kd.C_alloc ?_ _) | (with_reducible refine Kd.C_drewN ?_ _) | (with_reducible refine Kd.C_drew ?_))); (case side4 => exact HC0_1.out); rintro e w9 ⟨v195, v198, rfl, ho0, ho1, hb⟩; refine ⟨_, rfl, ?_⟩; have n0_ := Aside0.mk (Kd.R_lower ho0 (below_size (by repeat (first | (with_reducible first | exact HB.out | apply below_alloc | apply pw_below_drewN | apply below_drew1 | refine below_set ?_ GE191.out) | exact HB.out)))); have n1_ := Aside0.mk (Kd.R_lower ho1 (below_size (by repeat (first | (with_reducible first | exact HB.out | apply below_alloc | apply pw_below_drewN | apply below_drew1 | refine below_set ?_ GE191.out) | exact HB.out)))); have n2_ := Aside0.mk (blk_below (g := gb191) (o := .cells #[.slice A0_0 l0_0.length c0_0, .slice A0_1 l0_1.length c0_1, .int .i64 a0_2] 25 (0, 0)) (by (with_reducible repeat (first | refine blk_drewN ?_ _ | refine blk_drew ?_ | refine blk_alloc ?_ _)); exact BK191.out) hb); have n3_ := Aside0.mk (below_step (by repeat (first | (with_reducible first | exact HB.out | apply below_alloc | apply pw_below_drewN | apply below_drew1 | refine below_set ?_ GE191.out) | exact HB.out)) hb); clear BK191; clear HB; have HO196 := n0_; have HO199 := n1_; have BK191 := n2_; have HB := n3_; clear n0_ n1_ n2_ n3_; (try clear hb); (try clear hb2); (try clear hk); (try clear hi); (try clear ho0); (try clear ho1)) | ((with_reducible refine gate_dst (N := 4) rfl ?_); (try (refine gate_guard (by rfl) ?_; dsimp only)); refine box_event ?hg (N := 4) ?hd (cs := #[.int .i64 0, .slice none 0 0, .slice none 0 0, .bool false]) (t := 28) ?hr ?_; (case hd => rfl); (case hg => rfl); (case hr => first | (go_simp; done) | (go_simp; rfl)); intro gb202 hg w10 hbox hb; have n0_ := Aside0.mk (Kd.R_below (by (with_reducible repeat (first | apply Kd.R_alloc | apply Kd.R_drewN | apply Kd.R_drew)); exact HO196.out) hb); have n1_ := Aside0.mk (Kd.R_below (by (with_reducible repeat (first | apply Kd.R_alloc | apply Kd.R_drewN | apply Kd.R_drew)); exact HO199.out) hb); have n2_ := Aside0.mk (blk_below (g := gb191) (o := .cells #[.slice A0_0 l0_0.length c0_0, .slice A0_1 l0_1.length c0_1, .int .i64 a0_2] 25 (0, 0)) (by (with_reducible repeat (first | refine blk_drewN ?_ _ | refine blk_drew ?_ | refine blk_alloc ?_ _)); exact BK191.out) hb); have n3_ := Aside0.mk (below_step (by repeat (first | (with_reducible first | exact HB.out | apply below_alloc | apply pw_below_drewN | apply below_drew1 | refine below_set ?_ GE191.out) | exact HB.out)) hb); have n4_ := Aside0.mk (hbox); have n5_ := Aside0.mk ((by rw [hg]; exact (below_size (by repeat (first | (with_reducible first | exact HB.out | apply below_alloc | apply pw_below_drewN | apply below_drew1 | refine below_set ?_ GE191.out) | exact HB.out))) : w.heap.size ≤ gb202)); have n6_ := Aside0.mk ((by rw [hg]; exact (below_size (by repeat (first | (with_reducible first | exact HB.out | apply below_alloc | apply pw_below_drewN | apply below_drew1 | refine below_set ?_ GE191.out) | exact HB.out))) : w.heap.size ≤ gb202)); have n7_ := Aside0.mk ((by rw [hg]; exact Nat.ne_of_lt (blk_lt (g := gb191) (o := .cells #[.slice A0_0 l0_0.length c0_0, .slice A0_1 l0_1.length c0_1, .int .i64 a0_2] 25 (0, 0)) (by (with_reducible repeat (first | refine blk_drewN ?_ _ | refine blk_drew ?_ | refine blk_alloc ?_ _)); exact BK191.out)) : gb191 ≠ gb202)); have n8_ := Aside0.mk ((by rw [hg]; exact Nat.ne_of_gt (blk_lt (g := gb191) (o := .cells #[.slice A0_0 l0_0.length c0_0, .slice A0_1 l0_1.length c0_1, .int .i64 a0_2] 25 (0, 0)) (by (with_reducible repeat (first | refine blk_drewN ?_ _ | refine blk_drew ?_ | refine blk_alloc ?_ _)); exact BK191.out)) : gb202 ≠ gb191)); clear HO196; clear HO199; clear BK191; clear HB; have HO196 := n0_; have HO199 := n1_; have BK191 := n2_; have HB := n3_; have BK202 := n4_; have GW202 := n5_; have GE202 := n6_; have NB191_202 := n7_; have NB202_191 := n8_; clear n0_ n1_ n2_ n3_ n4_ n5_ n6_ n7_ n8_; clear hb hbox hg; have hnb11 := NB202_191.out; have hnc11 := NB191_202.out; have hcz12_0 : w10.cell? ⟨gb202, 0, none⟩ = some (.int .i64 0) := (blk_cell BK202.out 0).trans rfl; have hcz12_1 : w10.cell? ⟨gb202, 1, none⟩ = some (.slice none 0 0) := (blk_cell BK202.out 1).trans rfl; have hcz12_2 : w10.cell? ⟨gb202, 2, none⟩ = some (.slice none 0 0) := (blk_cell BK202.out 2).trans rfl; have hcz12_3 : w10.cell? ⟨gb202, 3, none⟩ = some (.bool false) := (blk_cell BK202.out 3).trans rfl; have hfz12_0 := blk_frozen BK202.out 0; have hfz12_1 := blk_frozen BK202.out 1; have hfz12_2 := blk_frozen BK202.out 2; have hfz12_3 := blk_frozen BK202.out 3; obtain ⟨Ao13, co13, eo13⟩ := Kd.R_slice HO196.out; subst eo13; obtain ⟨Ao14, co14, eo14⟩ := Kd.R_slice HO199.out; subst eo14))
  (try simp only [Act.put, List.setIfInBounds_toArray, List.set_cons_zero, List.set_cons_succ])
  go_cut [53] (fun v53 wc => ∃ (kq : Nat) (x53_4 : Bool), v53 = .bool x53_4 ∧ Aside0 (palinodelaw16_PickJobs.j0 kq t192 x53_4 l0_0 l0_1 a0_2 t193 t194 t197 t200 = some r) ∧ Aside0 (kq ≤ k) ∧ Aside0 (Kd.R (Kd.int .i64) 3 wc w.heap.size (fun k_ => some k_ ≠ ((.slice Ao14 t197.length co14) : Value).ownBlock) (.slice Ao13 t194.length co13) t194) ∧ Aside0 (Kd.R (Kd.int .i64) 3 wc w.heap.size (fun k_ => some k_ ≠ ((.slice Ao13 t194.length co13) : Value).ownBlock) (.slice Ao14 t197.length co14) t197) ∧ Aside0 (wc.heap[gb191]? = some (.cells #[(.slice A0_0 l0_0.length c0_0), (.slice A0_1 l0_1.length c0_1), .int .i64 a0_2] 25 (0, 0))) ∧ Aside0 (wc.heap[gb202]? = some (.cells #[.int .i64 t193, (.slice Ao13 t194.length co13), (.slice Ao14 t197.length co14), .bool t200] 28 (0, 0))) ∧ Aside0 (Below w.heap.size w wc))
  case first =>
    have H := HC5.out
    clear HC5
    replace H := Option.bind_eq_some_iff.mp H
    obtain ⟨t203, A150, H⟩ := H
    replace H : (if t203 = true then (if t193 < 0 then (palinodelaw16_PickJobs.j0 k t192 true l0_0 l0_1 a0_2 t193 t194 t197 t200) else (if t193 ≥ 3 then (palinodelaw16_PickJobs.j0 k t192 true l0_0 l0_1 a0_2 t193 t194 t197 t200) else (palinodelaw16_PickJobs.j0 k t192 ((t194.length : Int) == 0) l0_0 l0_1 a0_2 t193 t194 t197 t200))) else (palinodelaw16_PickJobs.j0 k t192 true l0_0 l0_1 a0_2 t193 t194 t197 t200)) = some r := H
    have A15 := Aside0.mk A150
    clear A150
    by_cases c16 : t203 = true
    rotate_left
    · replace c16 := Bool.eq_false_iff.mpr c16
      subst c16
      have H1 : (palinodelaw16_PickJobs.j0 k t192 true l0_0 l0_1 a0_2 t193 t194 t197 t200) = some r := by rw [if_neg (show ¬ (false = true) by decide)] at H; exact H
      clear H
      have H := H1
      clear H1
      have H' := Aside0.mk H
      clear H
      have hnb31 := NB191_202.out
      have hnc31 := NB202_191.out
      have hcz32_0 : w10.cell? ⟨gb191, 0, none⟩ = some (.slice A0_0 l0_0.length c0_0) := (blk_cell BK191.out 0).trans rfl
      have hcz32_1 : w10.cell? ⟨gb191, 1, none⟩ = some (.slice A0_1 l0_1.length c0_1) := (blk_cell BK191.out 1).trans rfl
      have hcz32_2 : w10.cell? ⟨gb191, 2, none⟩ = some (.int .i64 a0_2) := (blk_cell BK191.out 2).trans rfl
      have hfz32_0 := blk_frozen BK191.out 0
      have hfz32_1 := blk_frozen BK191.out 1
      have hfz32_2 := blk_frozen BK191.out 2
      go_wp2_with (first | ((with_reducible refine gate_callee (f := 18) rfl ?_); refine goesL_ (some 36) rfl rfl Try.func18 (by kernel_rfl) rfl #[.agg #[.slice A0_0 l0_0.length c0_0, .slice A0_1 l0_1.length c0_1, .int .i64 a0_2]] rfl (by (try simp only [List.map_toArray, List.map_cons, List.map_nil]); first | done | rfl | (simp only [List.length_drop, List.length_take]; rfl)) ?_; (with_reducible refine (version_Right.calls _ _ l0_0 _ _ l0_1 a0_2 false _ ?side1 ?side2 ?side3 ?side4 A15.out).mono ?_); (case side1 => exact Kd.C_below HR0_0.out (by repeat (first | (with_reducible first | exact HB.out | apply below_alloc | apply pw_below_drewN | apply below_drew1 | refine below_set ?_ GE191.out | refine below_set ?_ GE202.out) | exact HB.out))); (case side2 => exact HC0_0.out); (case side3 => exact Kd.C_below HR0_1.out (by repeat (first | (with_reducible first | exact HB.out | apply below_alloc | apply pw_below_drewN | apply below_drew1 | refine below_set ?_ GE191.out | refine below_set ?_ GE202.out) | exact HB.out))); (case side4 => exact HC0_1.out); rintro e w33 ⟨rfl, hb⟩; refine ⟨_, rfl, ?_⟩; have n0_ := Aside0.mk (Kd.R_below (by (with_reducible repeat (first | apply Kd.R_alloc | apply Kd.R_drewN | apply Kd.R_drew)); exact (Kd.R_mono (Kd.R_far (p := ⟨gb202, 3, none⟩) (Kd.R_far (p := ⟨gb202, 2, none⟩) (Kd.R_far (p := ⟨gb202, 1, none⟩) (Kd.R_far (p := ⟨gb202, 0, none⟩) (Kd.R_types HO196.out BK202.out (by decide)) (fun _ hk => hk.2) (.int .i64 t193)) (fun _ hk => hk.2) (.slice Ao13 t194.length co13)) (fun _ hk => hk.2) (.slice Ao14 t197.length co14)) (fun _ hk => hk.2) (.bool t200)) (fun _ h_ => h_.1))) hb); have n1_ := Aside0.mk (Kd.R_below (by (with_reducible repeat (first | apply Kd.R_alloc | apply Kd.R_drewN | apply Kd.R_drew)); exact (Kd.R_mono (Kd.R_far (p := ⟨gb202, 3, none⟩) (Kd.R_far (p := ⟨gb202, 2, none⟩) (Kd.R_far (p := ⟨gb202, 1, none⟩) (Kd.R_far (p := ⟨gb202, 0, none⟩) (Kd.R_types HO199.out BK202.out (by decide)) (fun _ hk => hk.2) (.int .i64 t193)) (fun _ hk => hk.2) (.slice Ao13 t194.length co13)) (fun _ hk => hk.2) (.slice Ao14 t197.length co14)) (fun _ hk => hk.2) (.bool t200)) (fun _ h_ => h_.1))) hb); have n2_ := Aside0.mk (blk_below (g := gb191) (o := .cells #[.slice A0_0 l0_0.length c0_0, .slice A0_1 l0_1.length c0_1, .int .i64 a0_2] 25 (0, 0)) (by (with_reducible repeat (first | refine blk_drewN ?_ _ | refine blk_drew ?_ | refine blk_alloc ?_ _)); refine blk_far ?_ NB191_202.out _; (with_reducible repeat (first | refine blk_drewN ?_ _ | refine blk_drew ?_ | refine blk_alloc ?_ _)); refine blk_far ?_ NB191_202.out _; (with_reducible repeat (first | refine blk_drewN ?_ _ | refine blk_drew ?_ | refine blk_alloc ?_ _)); refine blk_far ?_ NB191_202.out _; (with_reducible repeat (first | refine blk_drewN ?_ _ | refine blk_drew ?_ | refine blk_alloc ?_ _)); refine blk_far ?_ NB191_202.out _; (with_reducible repeat (first | refine blk_drewN ?_ _ | refine blk_drew ?_ | refine blk_alloc ?_ _)); exact BK191.out) hb); have n3_ := Aside0.mk (blk_below (g := gb202) (o := .cells #[.int .i64 t193, .slice Ao13 t194.length co13, .slice Ao14 t197.length co14, .bool t200] 28 (0, 0)) (by (with_reducible repeat (first | refine blk_drewN ?_ _ | refine blk_drew ?_ | refine blk_alloc ?_ _)); refine blk_put (cs := #[.int .i64 t193, .slice Ao13 t194.length co13, .slice Ao14 t197.length co14, .bool false]) ?_ 3 _ rfl; (with_reducible repeat (first | refine blk_drewN ?_ _ | refine blk_drew ?_ | refine blk_alloc ?_ _)); refine blk_put (cs := #[.int .i64 t193, .slice Ao13 t194.length co13, .slice none 0 0, .bool false]) ?_ 2 _ rfl; (with_reducible repeat (first | refine blk_drewN ?_ _ | refine blk_drew ?_ | refine blk_alloc ?_ _)); refine blk_put (cs := #[.int .i64 t193, .slice none 0 0, .slice none 0 0, .bool false]) ?_ 1 _ rfl; (with_reducible repeat (first | refine blk_drewN ?_ _ | refine blk_drew ?_ | refine blk_alloc ?_ _)); refine blk_put (cs := #[.int .i64 0, .slice none 0 0, .slice none 0 0, .bool false]) ?_ 0 _ rfl; (with_reducible repeat (first | refine blk_drewN ?_ _ | refine blk_drew ?_ | refine blk_alloc ?_ _)); exact BK202.out) hb); have n4_ := Aside0.mk (below_step (by repeat (first | (with_reducible first | exact HB.out | apply below_alloc | apply pw_below_drewN | apply below_drew1 | refine below_set ?_ GE191.out | refine below_set ?_ GE202.out) | exact HB.out)) hb); clear HO196; clear HO199; clear BK191; clear BK202; clear HB; have HO196 := n0_; have HO199 := n1_; have BK191 := n2_; have BK202 := n3_; have HB := n4_; clear n0_ n1_ n2_ n3_ n4_; (try clear hb); (try clear hb2); (try clear hk); (try clear hi)))
      go_meet
      case rel => exact ⟨_, (true), (by first | rfl | (simp; done) | (simp [*]; done)), H', ⟨by first | omega | exact Nat.le_refl _⟩, ⟨by (with_reducible repeat (first | apply Kd.R_alloc | apply Kd.R_drewN | apply Kd.R_drew)); exact HO196.out⟩, ⟨by (with_reducible repeat (first | apply Kd.R_alloc | apply Kd.R_drewN | apply Kd.R_drew)); exact HO199.out⟩, ⟨by (with_reducible repeat (first | refine blk_drewN ?_ _ | refine blk_drew ?_ | refine blk_alloc ?_ _)); exact BK191.out⟩, ⟨by (with_reducible repeat (first | refine blk_drewN ?_ _ | refine blk_drew ?_ | refine blk_alloc ?_ _)); exact BK202.out⟩, ⟨by repeat (first | (with_reducible first | exact HB.out | apply below_alloc | apply pw_below_drewN | apply below_drew1 | refine below_set ?_ GE191.out | refine below_set ?_ GE202.out) | exact HB.out)⟩⟩
    subst c16
    have H1 : (if t193 < 0 then (palinodelaw16_PickJobs.j0 k t192 true l0_0 l0_1 a0_2 t193 t194 t197 t200) else (if t193 ≥ 3 then (palinodelaw16_PickJobs.j0 k t192 true l0_0 l0_1 a0_2 t193 t194 t197 t200) else (palinodelaw16_PickJobs.j0 k t192 ((t194.length : Int) == 0) l0_0 l0_1 a0_2 t193 t194 t197 t200))) = some r := by rw [if_pos rfl] at H; exact H
    clear H
    have H := H1
    clear H1
    by_cases c17 : t193 < 0
    · rw [if_pos c17] at H
      have c17b0 : decide (t193 < 0) = true := decide_eq_true c17
      clear c17
      (first | rw [c17b0] | (simp only [i64_w, i32_w]; rw [c17b0]) | skip)
      have H' := Aside0.mk H
      clear H
      have hnb18 := NB191_202.out
      have hnc18 := NB202_191.out
      have hcz19_0 : w10.cell? ⟨gb191, 0, none⟩ = some (.slice A0_0 l0_0.length c0_0) := (blk_cell BK191.out 0).trans rfl
      have hcz19_1 : w10.cell? ⟨gb191, 1, none⟩ = some (.slice A0_1 l0_1.length c0_1) := (blk_cell BK191.out 1).trans rfl
      have hcz19_2 : w10.cell? ⟨gb191, 2, none⟩ = some (.int .i64 a0_2) := (blk_cell BK191.out 2).trans rfl
      have hfz19_0 := blk_frozen BK191.out 0
      have hfz19_1 := blk_frozen BK191.out 1
      have hfz19_2 := blk_frozen BK191.out 2
      go_wp2_with (first | ((with_reducible refine gate_callee (f := 18) rfl ?_); refine goesL_ (some 36) rfl rfl Try.func18 (by kernel_rfl) rfl #[.agg #[.slice A0_0 l0_0.length c0_0, .slice A0_1 l0_1.length c0_1, .int .i64 a0_2]] rfl (by (try simp only [List.map_toArray, List.map_cons, List.map_nil]); first | done | rfl | (simp only [List.length_drop, List.length_take]; rfl)) ?_; (with_reducible refine (version_Right.calls _ _ l0_0 _ _ l0_1 a0_2 true _ ?side1 ?side2 ?side3 ?side4 A15.out).mono ?_); (case side1 => exact Kd.C_below HR0_0.out (by repeat (first | (with_reducible first | exact HB.out | apply below_alloc | apply pw_below_drewN | apply below_drew1 | refine below_set ?_ GE191.out | refine below_set ?_ GE202.out) | exact HB.out))); (case side2 => exact HC0_0.out); (case side3 => exact Kd.C_below HR0_1.out (by repeat (first | (with_reducible first | exact HB.out | apply below_alloc | apply pw_below_drewN | apply below_drew1 | refine below_set ?_ GE191.out | refine below_set ?_ GE202.out) | exact HB.out))); (case side4 => exact HC0_1.out); rintro e w20 ⟨rfl, hb⟩; refine ⟨_, rfl, ?_⟩; have n0_ := Aside0.mk (Kd.R_below (by (with_reducible repeat (first | apply Kd.R_alloc | apply Kd.R_drewN | apply Kd.R_drew)); exact (Kd.R_mono (Kd.R_far (p := ⟨gb202, 3, none⟩) (Kd.R_far (p := ⟨gb202, 2, none⟩) (Kd.R_far (p := ⟨gb202, 1, none⟩) (Kd.R_far (p := ⟨gb202, 0, none⟩) (Kd.R_types HO196.out BK202.out (by decide)) (fun _ hk => hk.2) (.int .i64 t193)) (fun _ hk => hk.2) (.slice Ao13 t194.length co13)) (fun _ hk => hk.2) (.slice Ao14 t197.length co14)) (fun _ hk => hk.2) (.bool t200)) (fun _ h_ => h_.1))) hb); have n1_ := Aside0.mk (Kd.R_below (by (with_reducible repeat (first | apply Kd.R_alloc | apply Kd.R_drewN | apply Kd.R_drew)); exact (Kd.R_mono (Kd.R_far (p := ⟨gb202, 3, none⟩) (Kd.R_far (p := ⟨gb202, 2, none⟩) (Kd.R_far (p := ⟨gb202, 1, none⟩) (Kd.R_far (p := ⟨gb202, 0, none⟩) (Kd.R_types HO199.out BK202.out (by decide)) (fun _ hk => hk.2) (.int .i64 t193)) (fun _ hk => hk.2) (.slice Ao13 t194.length co13)) (fun _ hk => hk.2) (.slice Ao14 t197.length co14)) (fun _ hk => hk.2) (.bool t200)) (fun _ h_ => h_.1))) hb); have n2_ := Aside0.mk (blk_below (g := gb191) (o := .cells #[.slice A0_0 l0_0.length c0_0, .slice A0_1 l0_1.length c0_1, .int .i64 a0_2] 25 (0, 0)) (by (with_reducible repeat (first | refine blk_drewN ?_ _ | refine blk_drew ?_ | refine blk_alloc ?_ _)); refine blk_far ?_ NB191_202.out _; (with_reducible repeat (first | refine blk_drewN ?_ _ | refine blk_drew ?_ | refine blk_alloc ?_ _)); refine blk_far ?_ NB191_202.out _; (with_reducible repeat (first | refine blk_drewN ?_ _ | refine blk_drew ?_ | refine blk_alloc ?_ _)); refine blk_far ?_ NB191_202.out _; (with_reducible repeat (first | refine blk_drewN ?_ _ | refine blk_drew ?_ | refine blk_alloc ?_ _)); refine blk_far ?_ NB191_202.out _; (with_reducible repeat (first | refine blk_drewN ?_ _ | refine blk_drew ?_ | refine blk_alloc ?_ _)); exact BK191.out) hb); have n3_ := Aside0.mk (blk_below (g := gb202) (o := .cells #[.int .i64 t193, .slice Ao13 t194.length co13, .slice Ao14 t197.length co14, .bool t200] 28 (0, 0)) (by (with_reducible repeat (first | refine blk_drewN ?_ _ | refine blk_drew ?_ | refine blk_alloc ?_ _)); refine blk_put (cs := #[.int .i64 t193, .slice Ao13 t194.length co13, .slice Ao14 t197.length co14, .bool false]) ?_ 3 _ rfl; (with_reducible repeat (first | refine blk_drewN ?_ _ | refine blk_drew ?_ | refine blk_alloc ?_ _)); refine blk_put (cs := #[.int .i64 t193, .slice Ao13 t194.length co13, .slice none 0 0, .bool false]) ?_ 2 _ rfl; (with_reducible repeat (first | refine blk_drewN ?_ _ | refine blk_drew ?_ | refine blk_alloc ?_ _)); refine blk_put (cs := #[.int .i64 t193, .slice none 0 0, .slice none 0 0, .bool false]) ?_ 1 _ rfl; (with_reducible repeat (first | refine blk_drewN ?_ _ | refine blk_drew ?_ | refine blk_alloc ?_ _)); refine blk_put (cs := #[.int .i64 0, .slice none 0 0, .slice none 0 0, .bool false]) ?_ 0 _ rfl; (with_reducible repeat (first | refine blk_drewN ?_ _ | refine blk_drew ?_ | refine blk_alloc ?_ _)); exact BK202.out) hb); have n4_ := Aside0.mk (below_step (by repeat (first | (with_reducible first | exact HB.out | apply below_alloc | apply pw_below_drewN | apply below_drew1 | refine below_set ?_ GE191.out | refine below_set ?_ GE202.out) | exact HB.out)) hb); clear HO196; clear HO199; clear BK191; clear BK202; clear HB; have HO196 := n0_; have HO199 := n1_; have BK191 := n2_; have BK202 := n3_; have HB := n4_; clear n0_ n1_ n2_ n3_ n4_; (try clear hb); (try clear hb2); (try clear hk); (try clear hi); have hcz21_0 : w20.cell? ⟨gb202, 0, none⟩ = some (.int .i64 t193) := (blk_cell BK202.out 0).trans rfl; have hcz21_1 : w20.cell? ⟨gb202, 1, none⟩ = some (.slice Ao13 t194.length co13) := (blk_cell BK202.out 1).trans rfl; have hcz21_2 : w20.cell? ⟨gb202, 2, none⟩ = some (.slice Ao14 t197.length co14) := (blk_cell BK202.out 2).trans rfl; have hcz21_3 : w20.cell? ⟨gb202, 3, none⟩ = some (.bool t200) := (blk_cell BK202.out 3).trans rfl; have hfz21_0 := blk_frozen BK202.out 0; have hfz21_1 := blk_frozen BK202.out 1; have hfz21_2 := blk_frozen BK202.out 2; have hfz21_3 := blk_frozen BK202.out 3))
      go_meet
      case rel => exact ⟨_, (true), (by first | rfl | (simp; done) | (simp [*]; done)), H', ⟨by first | omega | exact Nat.le_refl _⟩, ⟨by (with_reducible repeat (first | apply Kd.R_alloc | apply Kd.R_drewN | apply Kd.R_drew)); exact HO196.out⟩, ⟨by (with_reducible repeat (first | apply Kd.R_alloc | apply Kd.R_drewN | apply Kd.R_drew)); exact HO199.out⟩, ⟨by (with_reducible repeat (first | refine blk_drewN ?_ _ | refine blk_drew ?_ | refine blk_alloc ?_ _)); exact BK191.out⟩, ⟨by (with_reducible repeat (first | refine blk_drewN ?_ _ | refine blk_drew ?_ | refine blk_alloc ?_ _)); exact BK202.out⟩, ⟨by repeat (first | (with_reducible first | exact HB.out | apply below_alloc | apply pw_below_drewN | apply below_drew1 | refine below_set ?_ GE191.out | refine below_set ?_ GE202.out) | exact HB.out)⟩⟩
    rw [if_neg c17] at H
    have c17b0 : decide (t193 < 0) = false := decide_eq_false c17
    clear c17
    (first | rw [c17b0] | (simp only [i64_w, i32_w]; rw [c17b0]) | skip)
    by_cases c22 : t193 ≥ 3
    · rw [if_pos c22] at H
      have c22b0 : decide (3 ≤ t193) = true := decide_eq_true c22
      clear c22
      have H' := Aside0.mk H
      clear H
      have hnb23 := NB191_202.out
      have hnc23 := NB202_191.out
      have hcz24_0 : w10.cell? ⟨gb191, 0, none⟩ = some (.slice A0_0 l0_0.length c0_0) := (blk_cell BK191.out 0).trans rfl
      have hcz24_1 : w10.cell? ⟨gb191, 1, none⟩ = some (.slice A0_1 l0_1.length c0_1) := (blk_cell BK191.out 1).trans rfl
      have hcz24_2 : w10.cell? ⟨gb191, 2, none⟩ = some (.int .i64 a0_2) := (blk_cell BK191.out 2).trans rfl
      have hfz24_0 := blk_frozen BK191.out 0
      have hfz24_1 := blk_frozen BK191.out 1
      have hfz24_2 := blk_frozen BK191.out 2
      go_wp2_with (first | ((with_reducible refine gate_callee (f := 18) rfl ?_); refine goesL_ (some 36) rfl rfl Try.func18 (by kernel_rfl) rfl #[.agg #[.slice A0_0 l0_0.length c0_0, .slice A0_1 l0_1.length c0_1, .int .i64 a0_2]] rfl (by (try simp only [List.map_toArray, List.map_cons, List.map_nil]); first | done | rfl | (simp only [List.length_drop, List.length_take]; rfl)) ?_; (with_reducible refine (version_Right.calls _ _ l0_0 _ _ l0_1 a0_2 true _ ?side1 ?side2 ?side3 ?side4 A15.out).mono ?_); (case side1 => exact Kd.C_below HR0_0.out (by repeat (first | (with_reducible first | exact HB.out | apply below_alloc | apply pw_below_drewN | apply below_drew1 | refine below_set ?_ GE191.out | refine below_set ?_ GE202.out) | exact HB.out))); (case side2 => exact HC0_0.out); (case side3 => exact Kd.C_below HR0_1.out (by repeat (first | (with_reducible first | exact HB.out | apply below_alloc | apply pw_below_drewN | apply below_drew1 | refine below_set ?_ GE191.out | refine below_set ?_ GE202.out) | exact HB.out))); (case side4 => exact HC0_1.out); rintro e w25 ⟨rfl, hb⟩; refine ⟨_, rfl, ?_⟩; have n0_ := Aside0.mk (Kd.R_below (by (with_reducible repeat (first | apply Kd.R_alloc | apply Kd.R_drewN | apply Kd.R_drew)); exact (Kd.R_mono (Kd.R_far (p := ⟨gb202, 3, none⟩) (Kd.R_far (p := ⟨gb202, 2, none⟩) (Kd.R_far (p := ⟨gb202, 1, none⟩) (Kd.R_far (p := ⟨gb202, 0, none⟩) (Kd.R_types HO196.out BK202.out (by decide)) (fun _ hk => hk.2) (.int .i64 t193)) (fun _ hk => hk.2) (.slice Ao13 t194.length co13)) (fun _ hk => hk.2) (.slice Ao14 t197.length co14)) (fun _ hk => hk.2) (.bool t200)) (fun _ h_ => h_.1))) hb); have n1_ := Aside0.mk (Kd.R_below (by (with_reducible repeat (first | apply Kd.R_alloc | apply Kd.R_drewN | apply Kd.R_drew)); exact (Kd.R_mono (Kd.R_far (p := ⟨gb202, 3, none⟩) (Kd.R_far (p := ⟨gb202, 2, none⟩) (Kd.R_far (p := ⟨gb202, 1, none⟩) (Kd.R_far (p := ⟨gb202, 0, none⟩) (Kd.R_types HO199.out BK202.out (by decide)) (fun _ hk => hk.2) (.int .i64 t193)) (fun _ hk => hk.2) (.slice Ao13 t194.length co13)) (fun _ hk => hk.2) (.slice Ao14 t197.length co14)) (fun _ hk => hk.2) (.bool t200)) (fun _ h_ => h_.1))) hb); have n2_ := Aside0.mk (blk_below (g := gb191) (o := .cells #[.slice A0_0 l0_0.length c0_0, .slice A0_1 l0_1.length c0_1, .int .i64 a0_2] 25 (0, 0)) (by (with_reducible repeat (first | refine blk_drewN ?_ _ | refine blk_drew ?_ | refine blk_alloc ?_ _)); refine blk_far ?_ NB191_202.out _; (with_reducible repeat (first | refine blk_drewN ?_ _ | refine blk_drew ?_ | refine blk_alloc ?_ _)); refine blk_far ?_ NB191_202.out _; (with_reducible repeat (first | refine blk_drewN ?_ _ | refine blk_drew ?_ | refine blk_alloc ?_ _)); refine blk_far ?_ NB191_202.out _; (with_reducible repeat (first | refine blk_drewN ?_ _ | refine blk_drew ?_ | refine blk_alloc ?_ _)); refine blk_far ?_ NB191_202.out _; (with_reducible repeat (first | refine blk_drewN ?_ _ | refine blk_drew ?_ | refine blk_alloc ?_ _)); exact BK191.out) hb); have n3_ := Aside0.mk (blk_below (g := gb202) (o := .cells #[.int .i64 t193, .slice Ao13 t194.length co13, .slice Ao14 t197.length co14, .bool t200] 28 (0, 0)) (by (with_reducible repeat (first | refine blk_drewN ?_ _ | refine blk_drew ?_ | refine blk_alloc ?_ _)); refine blk_put (cs := #[.int .i64 t193, .slice Ao13 t194.length co13, .slice Ao14 t197.length co14, .bool false]) ?_ 3 _ rfl; (with_reducible repeat (first | refine blk_drewN ?_ _ | refine blk_drew ?_ | refine blk_alloc ?_ _)); refine blk_put (cs := #[.int .i64 t193, .slice Ao13 t194.length co13, .slice none 0 0, .bool false]) ?_ 2 _ rfl; (with_reducible repeat (first | refine blk_drewN ?_ _ | refine blk_drew ?_ | refine blk_alloc ?_ _)); refine blk_put (cs := #[.int .i64 t193, .slice none 0 0, .slice none 0 0, .bool false]) ?_ 1 _ rfl; (with_reducible repeat (first | refine blk_drewN ?_ _ | refine blk_drew ?_ | refine blk_alloc ?_ _)); refine blk_put (cs := #[.int .i64 0, .slice none 0 0, .slice none 0 0, .bool false]) ?_ 0 _ rfl; (with_reducible repeat (first | refine blk_drewN ?_ _ | refine blk_drew ?_ | refine blk_alloc ?_ _)); exact BK202.out) hb); have n4_ := Aside0.mk (below_step (by repeat (first | (with_reducible first | exact HB.out | apply below_alloc | apply pw_below_drewN | apply below_drew1 | refine below_set ?_ GE191.out | refine below_set ?_ GE202.out) | exact HB.out)) hb); clear HO196; clear HO199; clear BK191; clear BK202; clear HB; have HO196 := n0_; have HO199 := n1_; have BK191 := n2_; have BK202 := n3_; have HB := n4_; clear n0_ n1_ n2_ n3_ n4_; (try clear hb); (try clear hb2); (try clear hk); (try clear hi); have hcz26_0 : w25.cell? ⟨gb202, 0, none⟩ = some (.int .i64 t193) := (blk_cell BK202.out 0).trans rfl; have hcz26_1 : w25.cell? ⟨gb202, 1, none⟩ = some (.slice Ao13 t194.length co13) := (blk_cell BK202.out 1).trans rfl; have hcz26_2 : w25.cell? ⟨gb202, 2, none⟩ = some (.slice Ao14 t197.length co14) := (blk_cell BK202.out 2).trans rfl; have hcz26_3 : w25.cell? ⟨gb202, 3, none⟩ = some (.bool t200) := (blk_cell BK202.out 3).trans rfl; have hfz26_0 := blk_frozen BK202.out 0; have hfz26_1 := blk_frozen BK202.out 1; have hfz26_2 := blk_frozen BK202.out 2; have hfz26_3 := blk_frozen BK202.out 3))
      go_meet
      case rel => exact ⟨_, (true), (by first | rfl | (simp; done) | (simp [*]; done)), H', ⟨by first | omega | exact Nat.le_refl _⟩, ⟨by (with_reducible repeat (first | apply Kd.R_alloc | apply Kd.R_drewN | apply Kd.R_drew)); exact HO196.out⟩, ⟨by (with_reducible repeat (first | apply Kd.R_alloc | apply Kd.R_drewN | apply Kd.R_drew)); exact HO199.out⟩, ⟨by (with_reducible repeat (first | refine blk_drewN ?_ _ | refine blk_drew ?_ | refine blk_alloc ?_ _)); exact BK191.out⟩, ⟨by (with_reducible repeat (first | refine blk_drewN ?_ _ | refine blk_drew ?_ | refine blk_alloc ?_ _)); exact BK202.out⟩, ⟨by repeat (first | (with_reducible first | exact HB.out | apply below_alloc | apply pw_below_drewN | apply below_drew1 | refine below_set ?_ GE191.out | refine below_set ?_ GE202.out) | exact HB.out)⟩⟩
    rw [if_neg c22] at H
    have c22b0 : decide (3 ≤ t193) = false := decide_eq_false c22
    clear c22
    have H' := Aside0.mk H
    clear H
    have hnb27 := NB191_202.out
    have hnc27 := NB202_191.out
    have hcz28_0 : w10.cell? ⟨gb191, 0, none⟩ = some (.slice A0_0 l0_0.length c0_0) := (blk_cell BK191.out 0).trans rfl
    have hcz28_1 : w10.cell? ⟨gb191, 1, none⟩ = some (.slice A0_1 l0_1.length c0_1) := (blk_cell BK191.out 1).trans rfl
    have hcz28_2 : w10.cell? ⟨gb191, 2, none⟩ = some (.int .i64 a0_2) := (blk_cell BK191.out 2).trans rfl
    have hfz28_0 := blk_frozen BK191.out 0
    have hfz28_1 := blk_frozen BK191.out 1
    have hfz28_2 := blk_frozen BK191.out 2
    go_wp2_with (first | ((with_reducible refine gate_callee (f := 18) rfl ?_); refine goesL_ (some 36) rfl rfl Try.func18 (by kernel_rfl) rfl #[.agg #[.slice A0_0 l0_0.length c0_0, .slice A0_1 l0_1.length c0_1, .int .i64 a0_2]] rfl (by (try simp only [List.map_toArray, List.map_cons, List.map_nil]); first | done | rfl | (simp only [List.length_drop, List.length_take]; rfl)) ?_; (with_reducible refine (version_Right.calls _ _ l0_0 _ _ l0_1 a0_2 true _ ?side1 ?side2 ?side3 ?side4 A15.out).mono ?_); (case side1 => exact Kd.C_below HR0_0.out (by repeat (first | (with_reducible first | exact HB.out | apply below_alloc | apply pw_below_drewN | apply below_drew1 | refine below_set ?_ GE191.out | refine below_set ?_ GE202.out) | exact HB.out))); (case side2 => exact HC0_0.out); (case side3 => exact Kd.C_below HR0_1.out (by repeat (first | (with_reducible first | exact HB.out | apply below_alloc | apply pw_below_drewN | apply below_drew1 | refine below_set ?_ GE191.out | refine below_set ?_ GE202.out) | exact HB.out))); (case side4 => exact HC0_1.out); rintro e w29 ⟨rfl, hb⟩; refine ⟨_, rfl, ?_⟩; have n0_ := Aside0.mk (Kd.R_below (by (with_reducible repeat (first | apply Kd.R_alloc | apply Kd.R_drewN | apply Kd.R_drew)); exact (Kd.R_mono (Kd.R_far (p := ⟨gb202, 3, none⟩) (Kd.R_far (p := ⟨gb202, 2, none⟩) (Kd.R_far (p := ⟨gb202, 1, none⟩) (Kd.R_far (p := ⟨gb202, 0, none⟩) (Kd.R_types HO196.out BK202.out (by decide)) (fun _ hk => hk.2) (.int .i64 t193)) (fun _ hk => hk.2) (.slice Ao13 t194.length co13)) (fun _ hk => hk.2) (.slice Ao14 t197.length co14)) (fun _ hk => hk.2) (.bool t200)) (fun _ h_ => h_.1))) hb); have n1_ := Aside0.mk (Kd.R_below (by (with_reducible repeat (first | apply Kd.R_alloc | apply Kd.R_drewN | apply Kd.R_drew)); exact (Kd.R_mono (Kd.R_far (p := ⟨gb202, 3, none⟩) (Kd.R_far (p := ⟨gb202, 2, none⟩) (Kd.R_far (p := ⟨gb202, 1, none⟩) (Kd.R_far (p := ⟨gb202, 0, none⟩) (Kd.R_types HO199.out BK202.out (by decide)) (fun _ hk => hk.2) (.int .i64 t193)) (fun _ hk => hk.2) (.slice Ao13 t194.length co13)) (fun _ hk => hk.2) (.slice Ao14 t197.length co14)) (fun _ hk => hk.2) (.bool t200)) (fun _ h_ => h_.1))) hb); have n2_ := Aside0.mk (blk_below (g := gb191) (o := .cells #[.slice A0_0 l0_0.length c0_0, .slice A0_1 l0_1.length c0_1, .int .i64 a0_2] 25 (0, 0)) (by (with_reducible repeat (first | refine blk_drewN ?_ _ | refine blk_drew ?_ | refine blk_alloc ?_ _)); refine blk_far ?_ NB191_202.out _; (with_reducible repeat (first | refine blk_drewN ?_ _ | refine blk_drew ?_ | refine blk_alloc ?_ _)); refine blk_far ?_ NB191_202.out _; (with_reducible repeat (first | refine blk_drewN ?_ _ | refine blk_drew ?_ | refine blk_alloc ?_ _)); refine blk_far ?_ NB191_202.out _; (with_reducible repeat (first | refine blk_drewN ?_ _ | refine blk_drew ?_ | refine blk_alloc ?_ _)); refine blk_far ?_ NB191_202.out _; (with_reducible repeat (first | refine blk_drewN ?_ _ | refine blk_drew ?_ | refine blk_alloc ?_ _)); exact BK191.out) hb); have n3_ := Aside0.mk (blk_below (g := gb202) (o := .cells #[.int .i64 t193, .slice Ao13 t194.length co13, .slice Ao14 t197.length co14, .bool t200] 28 (0, 0)) (by (with_reducible repeat (first | refine blk_drewN ?_ _ | refine blk_drew ?_ | refine blk_alloc ?_ _)); refine blk_put (cs := #[.int .i64 t193, .slice Ao13 t194.length co13, .slice Ao14 t197.length co14, .bool false]) ?_ 3 _ rfl; (with_reducible repeat (first | refine blk_drewN ?_ _ | refine blk_drew ?_ | refine blk_alloc ?_ _)); refine blk_put (cs := #[.int .i64 t193, .slice Ao13 t194.length co13, .slice none 0 0, .bool false]) ?_ 2 _ rfl; (with_reducible repeat (first | refine blk_drewN ?_ _ | refine blk_drew ?_ | refine blk_alloc ?_ _)); refine blk_put (cs := #[.int .i64 t193, .slice none 0 0, .slice none 0 0, .bool false]) ?_ 1 _ rfl; (with_reducible repeat (first | refine blk_drewN ?_ _ | refine blk_drew ?_ | refine blk_alloc ?_ _)); refine blk_put (cs := #[.int .i64 0, .slice none 0 0, .slice none 0 0, .bool false]) ?_ 0 _ rfl; (with_reducible repeat (first | refine blk_drewN ?_ _ | refine blk_drew ?_ | refine blk_alloc ?_ _)); exact BK202.out) hb); have n4_ := Aside0.mk (below_step (by repeat (first | (with_reducible first | exact HB.out | apply below_alloc | apply pw_below_drewN | apply below_drew1 | refine below_set ?_ GE191.out | refine below_set ?_ GE202.out) | exact HB.out)) hb); clear HO196; clear HO199; clear BK191; clear BK202; clear HB; have HO196 := n0_; have HO199 := n1_; have BK191 := n2_; have BK202 := n3_; have HB := n4_; clear n0_ n1_ n2_ n3_ n4_; (try clear hb); (try clear hb2); (try clear hk); (try clear hi); have hcz30_0 : w29.cell? ⟨gb202, 0, none⟩ = some (.int .i64 t193) := (blk_cell BK202.out 0).trans rfl; have hcz30_1 : w29.cell? ⟨gb202, 1, none⟩ = some (.slice Ao13 t194.length co13) := (blk_cell BK202.out 1).trans rfl; have hcz30_2 : w29.cell? ⟨gb202, 2, none⟩ = some (.slice Ao14 t197.length co14) := (blk_cell BK202.out 2).trans rfl; have hcz30_3 : w29.cell? ⟨gb202, 3, none⟩ = some (.bool t200) := (blk_cell BK202.out 3).trans rfl; have hfz30_0 := blk_frozen BK202.out 0; have hfz30_1 := blk_frozen BK202.out 1; have hfz30_2 := blk_frozen BK202.out 2; have hfz30_3 := blk_frozen BK202.out 3))
    go_meet
    case rel => exact ⟨_, (((t194.length : Int) == 0)), (by first | rfl | (simp; done) | (simp [*]; done)), H', ⟨by first | omega | exact Nat.le_refl _⟩, ⟨by (with_reducible repeat (first | apply Kd.R_alloc | apply Kd.R_drewN | apply Kd.R_drew)); exact HO196.out⟩, ⟨by (with_reducible repeat (first | apply Kd.R_alloc | apply Kd.R_drewN | apply Kd.R_drew)); exact HO199.out⟩, ⟨by (with_reducible repeat (first | refine blk_drewN ?_ _ | refine blk_drew ?_ | refine blk_alloc ?_ _)); exact BK191.out⟩, ⟨by (with_reducible repeat (first | refine blk_drewN ?_ _ | refine blk_drew ?_ | refine blk_alloc ?_ _)); exact BK202.out⟩, ⟨by repeat (first | (with_reducible first | exact HB.out | apply below_alloc | apply pw_below_drewN | apply below_drew1 | refine below_set ?_ GE191.out | refine below_set ?_ GE202.out) | exact HB.out)⟩⟩
  case rest =>
    clear HC5
    try clear c1
    try clear c2
    try clear p2
    try clear c3
    try clear c4
    try clear c5
    try clear c8
    try clear c9
    try clear c11
    try clear c16
    try clear c17
    try clear c17b0
    try clear c18
    try clear c22
    try clear c22b0
    try clear c23
    try clear c27
    try clear c31
    try clear hcz12_0
    try clear hcz12_1
    try clear hcz12_2
    try clear hcz12_3
    try clear hcz19_0
    try clear hcz19_1
    try clear hcz19_2
    try clear hcz21_0
    try clear hcz21_1
    try clear hcz21_2
    try clear hcz21_3
    try clear hcz24_0
    try clear hcz24_1
    try clear hcz24_2
    try clear hcz26_0
    try clear hcz26_1
    try clear hcz26_2
    try clear hcz26_3
    try clear hcz28_0
    try clear hcz28_1
    try clear hcz28_2
    try clear hcz30_0
    try clear hcz30_1
    try clear hcz30_2
    try clear hcz30_3
    try clear hcz32_0
    try clear hcz32_1
    try clear hcz32_2
    try clear hcz8_0
    try clear hcz8_1
    try clear hcz8_2
    try clear hfz12_0
    try clear hfz12_1
    try clear hfz12_2
    try clear hfz12_3
    try clear hfz19_0
    try clear hfz19_1
    try clear hfz19_2
    try clear hfz21_0
    try clear hfz21_1
    try clear hfz21_2
    try clear hfz21_3
    try clear hfz24_0
    try clear hfz24_1
    try clear hfz24_2
    try clear hfz26_0
    try clear hfz26_1
    try clear hfz26_2
    try clear hfz26_3
    try clear hfz28_0
    try clear hfz28_1
    try clear hfz28_2
    try clear hfz30_0
    try clear hfz30_1
    try clear hfz30_2
    try clear hfz30_3
    try clear hfz32_0
    try clear hfz32_1
    try clear hfz32_2
    try clear hfz8_0
    try clear hfz8_1
    try clear hfz8_2
    obtain ⟨kq, x53_4, rfl, HA, HJ4, HO_203001, HO_203002, BK191, BK202, HB⟩ := hcut
    cases kq with
    | zero => exact absurd HA.out (by simp [palinodelaw16_PickJobs.j0])
    | succ kj4 =>
      have H := HA.out
      clear HA
      simp only [palinodelaw16_PickJobs.j0] at H
      by_cases c34 : x53_4 = true
      · subst c34
        have H1 : (some false) = some r := by rw [if_pos rfl] at H; exact H
        clear H
        have H := H1
        clear H1
        obtain rfl := Option.some.inj H
        go_wp2
        go_ret
        exact ⟨by first | rfl | (simp [errW_none, errW_some] <;> rfl) | (simp [*, errW_none, errW_some] <;> rfl), by repeat (first | (with_reducible first | exact HB.out | apply below_alloc | apply pw_below_drewN | apply below_drew1 | refine below_set ?_ GE191.out | refine below_set ?_ GE202.out) | exact HB.out)⟩
      replace c34 := Bool.eq_false_iff.mpr c34
      subst c34
      have H1 : (if ([] : List Int).length + t194.length < 17592186044416 then ((some (([] : List Int) ++ t194 : List Int)).bind fun y204 => (if y204.length + t197.length < 17592186044416 then (palinodelaw16_PickJobs.l0 kj4 t192 (y204 ++ t197) 0 l0_0 l0_1 a0_2 t193 t194 t197 t200) else (none))) else (none)) = some r := by rw [if_neg (show ¬ (false = true) by decide)] at H; exact H
      clear H
      have H := H1
      clear H1
      by_cases c35 : ([] : List Int).length + t194.length < 17592186044416
      rotate_left
      · rw [if_neg c35] at H
        exact absurd H (by simp)
      rw [if_pos c35] at H
      have LMc35 := Aside0.mk c35
      clear c35
      obtain ⟨y204, hy204⟩ : ∃ y_ : List Int, y_ = (([] : List Int) ++ t194) := ⟨_, rfl⟩
      replace H : (if y204.length + t197.length < 17592186044416 then (palinodelaw16_PickJobs.l0 kj4 t192 (y204 ++ t197) 0 l0_0 l0_1 a0_2 t193 t194 t197 t200) else (none)) = some r := by first | (rw [hy204]; with_reducible exact H) | (have H2_ := (Option.bind_some _ _).symm.trans H; rw [hy204]; with_reducible exact H2_) | (have H2_ := (Option.bind_some _ _).symm.trans H; with_reducible exact H2_) | with_reducible exact H | (rw [hy204]; exact H) | exact H
      have Ny204 := Aside0.mk hy204
      clear hy204
      by_cases c36 : y204.length + t197.length < 17592186044416
      rotate_left
      · rw [if_neg c36] at H
        exact absurd H (by simp)
      rw [if_pos c36] at H
      have LMc36 := Aside0.mk c36
      clear c36
      obtain ⟨y207, hy207⟩ : ∃ y_ : List Int, y_ = (y204 ++ t197) := ⟨_, rfl⟩
      replace H : (palinodelaw16_PickJobs.l0 kj4 t192 y207 0 l0_0 l0_1 a0_2 t193 t194 t197 t200) = some r := by first | (rw [hy207]; with_reducible exact H) | (have H2_ := (Option.bind_some _ _).symm.trans H; rw [hy207]; with_reducible exact H2_) | (have H2_ := (Option.bind_some _ _).symm.trans H; with_reducible exact H2_) | with_reducible exact H | (rw [hy207]; exact H) | exact H
      have Ny207 := Aside0.mk hy207
      clear hy207
      have H' := Aside0.mk H
      clear H
      try go_wp2
      have n0_ := Aside0.mk (Kd.R_drew HO_203001.out)
      have n1_ := Aside0.mk (Kd.R_drew HO_203002.out)
      have n2_ := Aside0.mk (blk_drew BK191.out)
      have n3_ := Aside0.mk (blk_drew BK202.out)
      have n4_ := Aside0.mk (below_drew1 HB.out)
      clear HO_203001
      clear HO_203002
      clear BK191
      clear BK202
      clear HB
      have HO_203001 := n0_
      have HO_203002 := n1_
      have BK191 := n2_
      have BK202 := n3_
      have HB := n4_
      clear n0_ n1_ n2_ n3_ n4_
      refine start_ (n := 7) (S := fun w' => w'.cell? ⟨gb202, 0, none⟩ = some (.int .i64 t193) ∧ w'.cell? ⟨gb202, 1, none⟩ = some (.slice Ao13 t194.length co13) ∧ w'.cell? ⟨gb202, 2, none⟩ = some (.slice Ao14 t197.length co14) ∧ w'.cell? ⟨gb202, 3, none⟩ = some (.bool t200)) (ds := []) #[false, false, false, false, false, false, false] (by kernel_rfl) rfl rfl ⟨(blk_cell BK202.out 0).trans rfl, (blk_cell BK202.out 1).trans rfl, (blk_cell BK202.out 2).trans rfl, (blk_cell BK202.out 3).trans rfl⟩ (fun hHeld => ?_)
      generalize wc.drew = w37 at HO_203001 HO_203002 BK191 BK202 HB hHeld ⊢
      refine pure_ (i := 0) (N := some 54) (v := ?_) (a' := ?_) #[true, false, false, false, false, false, false] rfl rfl (by kernel_rfl) (fun _ _ _ h => h) (Or.inl ⟨by rfl, ?_⟩) ?_ ?_
      rotate_left
      · intro w'
        go_simp
        with_reducible rfl
      rotate_left
      · simp only [Act.put, List.setIfInBounds_toArray, List.set_cons_zero, List.set_cons_succ, i64_w, i32_w]
        rfl
      refine pure_ (i := 3) (N := some 57) (v := ?_) (a' := ?_) #[true, false, false, true, false, false, false] rfl rfl (by kernel_rfl) (fun _ _ _ h => h) (Or.inl ⟨by rfl, ?_⟩) ?_ ?_
      rotate_left
      · intro w'
        go_simp
        with_reducible rfl
      rotate_left
      · simp only [Act.put, List.setIfInBounds_toArray, List.set_cons_zero, List.set_cons_succ, i64_w, i32_w]
        rfl
      refine take_ (i := 1) (N := some 55) (v := ?_) (a' := ?_) #[true, true, false, true, false, false, false] rfl rfl (by kernel_rfl) (fun _ _ _ h => h) (Or.inl ⟨by rfl, ?_⟩) hHeld ?_ ?_
      rotate_left
      · rintro w' ⟨s0, s1, s2, s3⟩
        go_simp
        with_reducible rfl
      rotate_left
      · simp only [Act.put, List.setIfInBounds_toArray, List.set_cons_zero, List.set_cons_succ, i64_w, i32_w]
        rfl
      refine take_ (i := 4) (N := some 58) (v := ?_) (a' := ?_) #[true, true, false, true, true, false, false] rfl rfl (by kernel_rfl) (fun _ _ _ h => h) (Or.inl ⟨by rfl, ?_⟩) hHeld ?_ ?_
      rotate_left
      · rintro w' ⟨s0, s1, s2, s3⟩
        go_simp
        with_reducible rfl
      rotate_left
      · simp only [Act.put, List.setIfInBounds_toArray, List.set_cons_zero, List.set_cons_succ, i64_w, i32_w]
        rfl
      refine one_ (i := 2) (N := some 56) #[true, true, true, true, true, false, false] rfl rfl (by kernel_rfl) (by decide) (fun K hK => ?_)
      refine Kd.R_append_rows_step (Kd.int .i64) (w0 := w) w.heap.size (by rfl) (.const (.slice none 0 0)) (.tmp 55) 23 3 (.int .i64 0) 8 rfl Try.underlying23 info3 rfl (by decide) (by omega) (.slice none 0 0) ([] : List Int) t194 _ _ _ (fun k_ => some k_ ≠ (.slice Ao13 t194.length co13 : Value).ownBlock ∧ some k_ ≠ (.slice Ao14 t197.length co14 : Value).ownBlock) (fun _ => False) rfl rfl ?aO ?aR (fun _ _ h => h) (fun _ h => h.elim) ?aF ?aB ?aS ?aL ?_
      (case aR => repeat (first | exact (Kd.R_reads' HO_203001.out).2.2 | (with_reducible refine Kd.C_alloc ?_ _) | (with_reducible refine Kd.C_drewN ?_ _) | (with_reducible refine Kd.C_drew ?_)))
      (case aB => exact (by repeat (first | (with_reducible first | exact HB.out | apply below_alloc | apply pw_below_drewN | apply below_drew1 | refine below_set ?_ GE191.out | refine below_set ?_ GE202.out) | exact HB.out)))
      (case aF => exact (fun k_ hk => ⟨Kd.fresh' (Kd.R_lt (by (with_reducible repeat (first | apply Kd.R_alloc | apply Kd.R_drewN | apply Kd.R_drew)); exact HO_203001.out)) k_ hk, Kd.fresh' (Kd.R_lt (by (with_reducible repeat (first | apply Kd.R_alloc | apply Kd.R_drewN | apply Kd.R_drew)); exact HO_203002.out)) k_ hk⟩))
      (case aO => exact ((Kd.R_nil _ _ _ _ (fun k_ => some k_ ≠ (.slice Ao13 t194.length co13 : Value).ownBlock ∧ some k_ ≠ (.slice Ao14 t197.length co14 : Value).ownBlock))))
      (case aS => exact (below_size (by repeat (first | (with_reducible first | exact HB.out | apply below_alloc | apply pw_below_drewN | apply below_drew1 | refine below_set ?_ GE191.out | refine below_set ?_ GE202.out) | exact HB.out))))
      (case aL => have := LMc35.out; omega)
      intro v205 w38 ho hb hg hat
      rw [← Ny204.out] at ho
      have n0_ := Aside0.mk (Kd.R_after (Kd.R_apart_nil (by (with_reducible repeat (first | apply Kd.R_alloc | apply Kd.R_drewN | apply Kd.R_drew)); exact HO_203001.out)) hg hat)
      have n1_ := Aside0.mk (Kd.R_after (Kd.R_apart_nil (by (with_reducible repeat (first | apply Kd.R_alloc | apply Kd.R_drewN | apply Kd.R_drew)); exact HO_203002.out)) hg hat)
      have n2_ := Aside0.mk (blk_grown (g := gb191) (o := .cells #[.slice A0_0 l0_0.length c0_0, .slice A0_1 l0_1.length c0_1, .int .i64 a0_2] 25 (0, 0)) (by (with_reducible repeat (first | refine blk_drewN ?_ _ | refine blk_drew ?_ | refine blk_alloc ?_ _)); exact BK191.out) hg (by simp [Value.ownBlock]))
      have n3_ := Aside0.mk (blk_grown (g := gb202) (o := .cells #[.int .i64 t193, .slice Ao13 t194.length co13, .slice Ao14 t197.length co14, .bool t200] 28 (0, 0)) (by (with_reducible repeat (first | refine blk_drewN ?_ _ | refine blk_drew ?_ | refine blk_alloc ?_ _)); exact BK202.out) hg (by simp [Value.ownBlock]))
      have n4_ := Aside0.mk (hb)
      have n5_ := Aside0.mk (ho)
      clear HO_203001
      clear HO_203002
      clear BK191
      clear BK202
      clear HB
      have HO_203001 := n0_
      have HO_203002 := n1_
      have BK191 := n2_
      have BK202 := n3_
      have HB := n4_
      have HO206 := n5_
      clear n0_ n1_ n2_ n3_ n4_ n5_
      clear ho hb hg hat
      refine hK.out _ _ ⟨(blk_cell BK202.out 0).trans rfl, (blk_cell BK202.out 1).trans rfl, (blk_cell BK202.out 2).trans rfl, (blk_cell BK202.out 3).trans rfl⟩ (fun hHeld => ?_)
      clear hK K
      refine norm_ (a' := ?_) ?_ ?_
      rotate_left
      · show Act.put _ (some 56) _ = _
        simp only [Act.put, List.setIfInBounds_toArray, List.set_cons_zero, List.set_cons_succ, i64_w, i32_w]
        rfl
      refine one_ (i := 5) (N := some 59) #[true, true, true, true, true, true, false] rfl rfl (by kernel_rfl) (by decide) (fun K hK => ?_)
      refine Kd.R_append_rows_step (Kd.int .i64) (w0 := w) w.heap.size (by rfl) (.tmp 56) (.tmp 58) 23 3 (.int .i64 0) 8 rfl Try.underlying23 info3 rfl (by decide) (by omega) v205 y204 t197 _ _ _ (fun k_ => some k_ ≠ (.slice Ao13 t194.length co13 : Value).ownBlock ∧ some k_ ≠ (.slice Ao14 t197.length co14 : Value).ownBlock) (fun _ => False) rfl rfl ?aO ?aR (fun _ _ h => h) (fun _ h => h.elim) ?aF ?aB ?aS ?aL ?_
      (case aR => repeat (first | exact (Kd.R_reads' HO_203002.out).2.2 | (with_reducible refine Kd.C_alloc ?_ _) | (with_reducible refine Kd.C_drewN ?_ _) | (with_reducible refine Kd.C_drew ?_)))
      (case aB => exact (by repeat (first | (with_reducible first | exact HB.out | apply below_alloc | apply pw_below_drewN | apply below_drew1 | refine below_set ?_ GE191.out | refine below_set ?_ GE202.out) | exact HB.out)))
      (case aF => exact (fun k_ hk => ⟨Kd.fresh' (Kd.R_lt (by (with_reducible repeat (first | apply Kd.R_alloc | apply Kd.R_drewN | apply Kd.R_drew)); exact HO_203001.out)) k_ hk, Kd.fresh' (Kd.R_lt (by (with_reducible repeat (first | apply Kd.R_alloc | apply Kd.R_drewN | apply Kd.R_drew)); exact HO_203002.out)) k_ hk⟩))
      (case aO => exact (by (with_reducible repeat (first | apply Kd.R_alloc | apply Kd.R_drewN | apply Kd.R_drew)); exact HO206.out))
      (case aS => exact (below_size (by repeat (first | (with_reducible first | exact HB.out | apply below_alloc | apply pw_below_drewN | apply below_drew1 | refine below_set ?_ GE191.out | refine below_set ?_ GE202.out) | exact HB.out))))
      (case aL => have := LMc36.out; omega)
      intro v208 w39 ho hb hg hat
      rw [← Ny207.out] at ho
      have n0_ := Aside0.mk (Kd.R_after (ok := (fun k_ => some k_ ≠ (.slice Ao14 t197.length co14 : Value).ownBlock)) (by (with_reducible repeat (first | apply Kd.R_alloc | apply Kd.R_drewN | apply Kd.R_drew)); exact HO_203001.out) hg hat)
      have n1_ := Aside0.mk (Kd.R_after (ok := (fun k_ => some k_ ≠ (.slice Ao13 t194.length co13 : Value).ownBlock)) (by (with_reducible repeat (first | apply Kd.R_alloc | apply Kd.R_drewN | apply Kd.R_drew)); exact HO_203002.out) hg hat)
      have n2_ := Aside0.mk (blk_grown (g := gb191) (o := .cells #[.slice A0_0 l0_0.length c0_0, .slice A0_1 l0_1.length c0_1, .int .i64 a0_2] 25 (0, 0)) (by (with_reducible repeat (first | refine blk_drewN ?_ _ | refine blk_drew ?_ | refine blk_alloc ?_ _)); exact BK191.out) hg (Kd.R_ne HO206.out BK191.out (by decide)))
      have n3_ := Aside0.mk (blk_grown (g := gb202) (o := .cells #[.int .i64 t193, .slice Ao13 t194.length co13, .slice Ao14 t197.length co14, .bool t200] 28 (0, 0)) (by (with_reducible repeat (first | refine blk_drewN ?_ _ | refine blk_drew ?_ | refine blk_alloc ?_ _)); exact BK202.out) hg (Kd.R_ne HO206.out BK202.out (by decide)))
      have n4_ := Aside0.mk (hb)
      have n5_ := Aside0.mk (ho)
      clear HO_203001
      clear HO_203002
      clear BK191
      clear BK202
      clear HB
      clear HO206
      have HO_203001 := n0_
      have HO_203002 := n1_
      have BK191 := n2_
      have BK202 := n3_
      have HB := n4_
      have HO209 := n5_
      clear n0_ n1_ n2_ n3_ n4_ n5_
      clear ho hb hg hat
      refine hK.out _ _ ⟨(blk_cell BK202.out 0).trans rfl, (blk_cell BK202.out 1).trans rfl, (blk_cell BK202.out 2).trans rfl, (blk_cell BK202.out 3).trans rfl⟩ (fun hHeld => ?_)
      clear hK K
      refine norm_ (a' := ?_) ?_ ?_
      rotate_left
      · show Act.put _ (some 59) _ = _
        simp only [Act.put, List.setIfInBounds_toArray, List.set_cons_zero, List.set_cons_succ, i64_w, i32_w]
        rfl
      refine pure_ (i := 6) (N := some 6) (v := ?_) (a' := ?_) #[true, true, true, true, true, true, true] rfl rfl (by kernel_rfl) (fun _ _ _ h => h) (Or.inl ⟨by rfl, ?_⟩) ?_ ?_
      rotate_left
      · intro w'
        go_simp
        with_reducible rfl
      rotate_left
      · simp only [Act.put, List.setIfInBounds_toArray, List.set_cons_zero, List.set_cons_succ, i64_w, i32_w]
        rfl
      refine done_ (by kernel_rfl) ?_
      try go_wp2
      go_loopg [7] kj4 (fun kq v7 w' => ∃ (x7_2 : Int), v7 = .int .i64 x7_2 ∧ Aside0 (palinodelaw16_PickJobs.l0 kq t192 y207 x7_2 l0_0 l0_1 a0_2 t193 t194 t197 t200 = some r) ∧ Aside0 (kq ≤ kj4) ∧ Aside0 (Kd.R (Kd.int .i64) 3 w' w.heap.size (fun k_ => some k_ ≠ ((.slice Ao13 t194.length co13) : Value).ownBlock ∧ some k_ ≠ ((.slice Ao14 t197.length co14) : Value).ownBlock) v208 y207) ∧ Aside0 (Kd.R (Kd.int .i64) 3 w' w.heap.size (fun k_ => some k_ ≠ (v208 : Value).ownBlock ∧ some k_ ≠ ((.slice Ao14 t197.length co14) : Value).ownBlock) (.slice Ao13 t194.length co13) t194) ∧ Aside0 (Kd.R (Kd.int .i64) 3 w' w.heap.size (fun k_ => some k_ ≠ (v208 : Value).ownBlock ∧ some k_ ≠ ((.slice Ao13 t194.length co13) : Value).ownBlock) (.slice Ao14 t197.length co14) t197) ∧ Aside0 (w'.heap[gb191]? = some (.cells #[(.slice A0_0 l0_0.length c0_0), (.slice A0_1 l0_1.length c0_1), .int .i64 a0_2] 25 (0, 0))) ∧ Aside0 (w'.heap[gb202]? = some (.cells #[.int .i64 t193, (.slice Ao13 t194.length co13), (.slice Ao14 t197.length co14), .bool t200] 28 (0, 0))) ∧ Aside0 (Below w.heap.size w w'))
      case atStart => exact ⟨(0), (by first | rfl | (simp; done) | (simp [*]; done)), H', ⟨Nat.le_refl _⟩, ⟨by (with_reducible repeat (first | apply Kd.R_alloc | apply Kd.R_drewN | apply Kd.R_drew)); exact HO209.out⟩, ⟨by (with_reducible repeat (first | apply Kd.R_alloc | apply Kd.R_drewN | apply Kd.R_drew)); exact Kd.R_mono HO_203001.out (fun _ hk => ⟨hk.2, hk.1⟩)⟩, ⟨by (with_reducible repeat (first | apply Kd.R_alloc | apply Kd.R_drewN | apply Kd.R_drew)); exact Kd.R_mono HO_203002.out (fun _ hk => ⟨hk.2, hk.1⟩)⟩, ⟨by (with_reducible repeat (first | refine blk_drewN ?_ _ | refine blk_drew ?_ | refine blk_alloc ?_ _)); exact BK191.out⟩, ⟨by (with_reducible repeat (first | refine blk_drewN ?_ _ | refine blk_drew ?_ | refine blk_alloc ?_ _)); exact BK202.out⟩, ⟨by repeat (first | (with_reducible first | exact HB.out | apply below_alloc | apply pw_below_drewN | apply below_drew1 | refine below_set ?_ GE191.out | refine below_set ?_ GE202.out) | exact HB.out)⟩⟩
      case round =>
        clear H'
        try clear c1
        try clear c2
        try clear p2
        try clear c3
        try clear c4
        try clear c5
        try clear c8
        try clear c9
        try clear c11
        try clear c16
        try clear c17
        try clear c17b0
        try clear c18
        try clear c22
        try clear c22b0
        try clear c23
        try clear c27
        try clear c31
        try clear c34
        try clear c35
        try clear c36
        try clear hcz12_0
        try clear hcz12_1
        try clear hcz12_2
        try clear hcz12_3
        try clear hcz19_0
        try clear hcz19_1
        try clear hcz19_2
        try clear hcz21_0
        try clear hcz21_1
        try clear hcz21_2
        try clear hcz21_3
        try clear hcz24_0
        try clear hcz24_1
        try clear hcz24_2
        try clear hcz26_0
        try clear hcz26_1
        try clear hcz26_2
        try clear hcz26_3
        try clear hcz28_0
        try clear hcz28_1
        try clear hcz28_2
        try clear hcz30_0
        try clear hcz30_1
        try clear hcz30_2
        try clear hcz30_3
        try clear hcz32_0
        try clear hcz32_1
        try clear hcz32_2
        try clear hcz8_0
        try clear hcz8_1
        try clear hcz8_2
        try clear hfz12_0
        try clear hfz12_1
        try clear hfz12_2
        try clear hfz12_3
        try clear hfz19_0
        try clear hfz19_1
        try clear hfz19_2
        try clear hfz21_0
        try clear hfz21_1
        try clear hfz21_2
        try clear hfz21_3
        try clear hfz24_0
        try clear hfz24_1
        try clear hfz24_2
        try clear hfz26_0
        try clear hfz26_1
        try clear hfz26_2
        try clear hfz26_3
        try clear hfz28_0
        try clear hfz28_1
        try clear hfz28_2
        try clear hfz30_0
        try clear hfz30_1
        try clear hfz30_2
        try clear hfz30_3
        try clear hfz32_0
        try clear hfz32_1
        try clear hfz32_2
        try clear hfz8_0
        try clear hfz8_1
        try clear hfz8_2
        try clear p2
        obtain ⟨x7_2, rfl, HA, HK2, HO_6, HO_203001, HO_203002, BK191, BK202, HB⟩ := hrel
        cases gk with
        | zero => exact absurd HA.out (by simp [palinodelaw16_PickJobs.l0])
        | succ k2 =>
          have H := HA.out
          clear HA
          simp only [palinodelaw16_PickJobs.l0] at H
          by_cases c40 : x7_2 < (y207.length : Int)
          · rw [if_pos c40] at H
            have c40b0 : decide (x7_2 < (y207.length : Int)) = true := decide_eq_true c40
            clear c40
            have H' := Aside0.mk H
            clear H
            obtain ⟨Ao41, co41, eo41⟩ := Kd.R_slice HO_6.out
            subst eo41
            go_wp2
            go_loopg [8] k2 (fun kq v8 w' => ∃ (x8_3 : Int), v8 = .int .i64 x8_3 ∧ Aside0 (palinodelaw16_PickJobs.l1 kq t192 y207 x7_2 x8_3 l0_0 l0_1 a0_2 t193 t194 t197 t200 = some r) ∧ Aside0 (kq ≤ k2) ∧ Aside0 (Kd.R (Kd.int .i64) 3 w' w.heap.size (fun k_ => some k_ ≠ ((.slice Ao13 t194.length co13) : Value).ownBlock ∧ some k_ ≠ ((.slice Ao14 t197.length co14) : Value).ownBlock) (.slice Ao41 y207.length co41) y207) ∧ Aside0 (Kd.R (Kd.int .i64) 3 w' w.heap.size (fun k_ => some k_ ≠ ((.slice Ao41 y207.length co41) : Value).ownBlock ∧ some k_ ≠ ((.slice Ao14 t197.length co14) : Value).ownBlock) (.slice Ao13 t194.length co13) t194) ∧ Aside0 (Kd.R (Kd.int .i64) 3 w' w.heap.size (fun k_ => some k_ ≠ ((.slice Ao41 y207.length co41) : Value).ownBlock ∧ some k_ ≠ ((.slice Ao13 t194.length co13) : Value).ownBlock) (.slice Ao14 t197.length co14) t197) ∧ Aside0 (w'.heap[gb191]? = some (.cells #[(.slice A0_0 l0_0.length c0_0), (.slice A0_1 l0_1.length c0_1), .int .i64 a0_2] 25 (0, 0))) ∧ Aside0 (w'.heap[gb202]? = some (.cells #[.int .i64 t193, (.slice Ao13 t194.length co13), (.slice Ao14 t197.length co14), .bool t200] 28 (0, 0))) ∧ Aside0 (Below w.heap.size w w'))
            case atStart => exact ⟨(0), (by first | rfl | (simp; done) | (simp [*]; done)), H', ⟨Nat.le_refl _⟩, ⟨by (with_reducible repeat (first | apply Kd.R_alloc | apply Kd.R_drewN | apply Kd.R_drew)); exact HO_6.out⟩, ⟨by (with_reducible repeat (first | apply Kd.R_alloc | apply Kd.R_drewN | apply Kd.R_drew)); exact HO_203001.out⟩, ⟨by (with_reducible repeat (first | apply Kd.R_alloc | apply Kd.R_drewN | apply Kd.R_drew)); exact HO_203002.out⟩, ⟨by (with_reducible repeat (first | refine blk_drewN ?_ _ | refine blk_drew ?_ | refine blk_alloc ?_ _)); exact BK191.out⟩, ⟨by (with_reducible repeat (first | refine blk_drewN ?_ _ | refine blk_drew ?_ | refine blk_alloc ?_ _)); exact BK202.out⟩, ⟨by repeat (first | (with_reducible first | exact HB.out | apply below_alloc | apply pw_below_drewN | apply below_drew1 | refine below_set ?_ GE191.out | refine below_set ?_ GE202.out) | exact HB.out)⟩⟩
            case round =>
              clear H'
              try clear c1
              try clear c2
              try clear p2
              try clear c3
              try clear c4
              try clear c5
              try clear c8
              try clear c9
              try clear c11
              try clear c16
              try clear c17
              try clear c17b0
              try clear c18
              try clear c22
              try clear c22b0
              try clear c23
              try clear c27
              try clear c31
              try clear c34
              try clear c35
              try clear c36
              try clear c40
              try clear c40b0
              try clear hcz12_0
              try clear hcz12_1
              try clear hcz12_2
              try clear hcz12_3
              try clear hcz19_0
              try clear hcz19_1
              try clear hcz19_2
              try clear hcz21_0
              try clear hcz21_1
              try clear hcz21_2
              try clear hcz21_3
              try clear hcz24_0
              try clear hcz24_1
              try clear hcz24_2
              try clear hcz26_0
              try clear hcz26_1
              try clear hcz26_2
              try clear hcz26_3
              try clear hcz28_0
              try clear hcz28_1
              try clear hcz28_2
              try clear hcz30_0
              try clear hcz30_1
              try clear hcz30_2
              try clear hcz30_3
              try clear hcz32_0
              try clear hcz32_1
              try clear hcz32_2
              try clear hcz8_0
              try clear hcz8_1
              try clear hcz8_2
              try clear hfz12_0
              try clear hfz12_1
              try clear hfz12_2
              try clear hfz12_3
              try clear hfz19_0
              try clear hfz19_1
              try clear hfz19_2
              try clear hfz21_0
              try clear hfz21_1
              try clear hfz21_2
              try clear hfz21_3
              try clear hfz24_0
              try clear hfz24_1
              try clear hfz24_2
              try clear hfz26_0
              try clear hfz26_1
              try clear hfz26_2
              try clear hfz26_3
              try clear hfz28_0
              try clear hfz28_1
              try clear hfz28_2
              try clear hfz30_0
              try clear hfz30_1
              try clear hfz30_2
              try clear hfz30_3
              try clear hfz32_0
              try clear hfz32_1
              try clear hfz32_2
              try clear hfz8_0
              try clear hfz8_1
              try clear hfz8_2
              try clear p2
              obtain ⟨x8_3, rfl, HA, HK3, HO_6, HO_203001, HO_203002, BK191, BK202, HB⟩ := hrel
              cases gk with
              | zero => exact absurd HA.out (by simp [palinodelaw16_PickJobs.l1])
              | succ k3 =>
                have H := HA.out
                clear HA
                simp only [palinodelaw16_PickJobs.l1] at H
                by_cases c42 : x8_3 < x7_2
                rotate_left
                · rw [if_neg c42] at H
                  have c42b0 : decide (x8_3 < x7_2) = false := decide_eq_false c42
                  clear c42
                  have H' := Aside0.mk H
                  clear H
                  go_wp2
                  go_roundg k3
                  case measure => have := HJ4.out; have := HK2.out; have := HK3.out; omega
                  case rel => exact ⟨(wrap64 (x7_2 + 1)), (by first | rfl | (simp; done) | (simp [*]; done)), H', ⟨by have := HJ4.out; have := HK2.out; have := HK3.out; omega⟩, ⟨by (with_reducible repeat (first | apply Kd.R_alloc | apply Kd.R_drewN | apply Kd.R_drew)); exact HO_6.out⟩, ⟨by (with_reducible repeat (first | apply Kd.R_alloc | apply Kd.R_drewN | apply Kd.R_drew)); exact HO_203001.out⟩, ⟨by (with_reducible repeat (first | apply Kd.R_alloc | apply Kd.R_drewN | apply Kd.R_drew)); exact HO_203002.out⟩, ⟨by (with_reducible repeat (first | refine blk_drewN ?_ _ | refine blk_drew ?_ | refine blk_alloc ?_ _)); exact BK191.out⟩, ⟨by (with_reducible repeat (first | refine blk_drewN ?_ _ | refine blk_drew ?_ | refine blk_alloc ?_ _)); exact BK202.out⟩, ⟨by repeat (first | (with_reducible first | exact HB.out | apply below_alloc | apply pw_below_drewN | apply below_drew1 | refine below_set ?_ GE191.out | refine below_set ?_ GE202.out) | exact HB.out)⟩⟩
                rw [if_pos c42] at H
                have c42b0 : decide (x8_3 < x7_2) = true := decide_eq_true c42
                clear c42
                by_cases c43 : 0 ≤ x7_2
                rotate_left
                · rw [if_neg c43] at H
                  exact absurd H (by simp)
                rw [if_pos c43] at H
                have c43b0 : decide (0 ≤ x7_2) = true := decide_eq_true c43
                clear c43
                by_cases c44 : x7_2 < (y207.length : Int)
                rotate_left
                · rw [if_neg c44] at H
                  exact absurd H (by simp)
                rw [if_pos c44] at H
                have c44b0 : decide (x7_2 < (y207.length : Int)) = true := decide_eq_true c44
                clear c44
                by_cases c45 : 0 ≤ x8_3
                rotate_left
                · rw [if_neg c45] at H
                  exact absurd H (by simp)
                rw [if_pos c45] at H
                have c45b0 : decide (0 ≤ x8_3) = true := decide_eq_true c45
                clear c45
                by_cases c46 : x8_3 < (y207.length : Int)
                rotate_left
                · rw [if_neg c46] at H
                  exact absurd H (by simp)
                rw [if_pos c46] at H
                have c46b0 : decide (x8_3 < (y207.length : Int)) = true := decide_eq_true c46
                clear c46
                by_cases c47 : (rd y207 x7_2) = (rd y207 x8_3)
                · rw [if_pos c47] at H
                  have c47b0 : ((rd y207 x7_2) == (rd y207 x8_3)) = true := beq_iff_eq.mpr c47
                  have c47b1 : ((rd y207 x7_2) != (rd y207 x8_3)) = false := bne_eq_false_iff_eq.mpr c47
                  clear c47
                  obtain rfl := Option.some.inj H
                  try go_wp2
                  have n0_ := Aside0.mk (Kd.R_drew HO_6.out)
                  have n1_ := Aside0.mk (Kd.R_drew HO_203001.out)
                  have n2_ := Aside0.mk (Kd.R_drew HO_203002.out)
                  have n3_ := Aside0.mk (blk_drew BK191.out)
                  have n4_ := Aside0.mk (blk_drew BK202.out)
                  have n5_ := Aside0.mk (below_drew1 HB.out)
                  clear HO_6
                  clear HO_203001
                  clear HO_203002
                  clear BK191
                  clear BK202
                  clear HB
                  have HO_6 := n0_
                  have HO_203001 := n1_
                  have HO_203002 := n2_
                  have BK191 := n3_
                  have BK202 := n4_
                  have HB := n5_
                  clear n0_ n1_ n2_ n3_ n4_ n5_
                  have p210 : 0 ≤ (x7_2 : Int) := of_decide_eq_true (by first | (with_reducible assumption) | assumption)
                  have q210 : x7_2 < (y207.length : Int) := of_decide_eq_true (by first | (with_reducible assumption) | assumption)
                  obtain ⟨ad210, e210, hx210_0⟩ := Kd.at_int (Kd.R_reads' HO_6.out).2.2 x7_2 p210 q210
                  cases e210
                  replace p210 := eq_true p210
                  replace q210 := eq_true q210
                  have p211 : 0 ≤ (x8_3 : Int) := of_decide_eq_true (by first | (with_reducible assumption) | assumption)
                  have q211 : x8_3 < (y207.length : Int) := of_decide_eq_true (by first | (with_reducible assumption) | assumption)
                  obtain ⟨ad211, e211, hx211_0⟩ := Kd.at_int (Kd.R_reads' HO_6.out).2.2 x8_3 p211 q211
                  obtain rfl : ad210 = ad211 := (by injection e211)
                  replace p211 := eq_true p211
                  replace q211 := eq_true q211
                  refine start_ (n := 9) (S := fun w' => w'.cell? (ad210.add (x7_2).toNat) = some (.int .i64 (rd y207 x7_2)) ∧ w'.cell? (ad210.add (x8_3).toNat) = some (.int .i64 (rd y207 x8_3))) (ds := []) #[false, false, false, false, false, false, false, false, false] (by kernel_rfl) rfl rfl ⟨hx210_0, hx211_0⟩ (fun hHeld => ?_); refine with_tabW palinodelaw16_PickJobs.tab14 palinodelaw16_PickJobs.bits14 (fun HT_ HW_ => ?_)
                  generalize wr.drew = w48 at HO_6 HO_203001 HO_203002 BK191 BK202 HB hx210_0 hx211_0 hHeld ⊢
                  refine pure_ (i := 0) (N := some 71) (v := ?_) (a' := ?_) #[true, false, false, false, false, false, false, false, false] rfl rfl (any_of HT_.out (by kernel_rfl)) (fun _ _ _ h => h) (Or.inl ⟨by rfl, ?_⟩) ?_ ?_
                  rotate_left
                  · intro w'
                    go_simp
                    with_reducible rfl
                  rotate_left
                  · simp only [Act.put, List.setIfInBounds_toArray, List.set_cons_zero, List.set_cons_succ, i64_w, i32_w]
                    rfl
                  refine pure_ (i := 1) (N := some 72) (v := ?_) (a' := ?_) #[true, true, false, false, false, false, false, false, false] rfl rfl (any_of HT_.out (by kernel_rfl)) (fun _ _ _ h => h) (Or.inl ⟨by rfl, ?_⟩) ?_ ?_
                  rotate_left
                  · intro w'
                    go_simp
                    with_reducible rfl
                  rotate_left
                  · simp only [Act.put, List.setIfInBounds_toArray, List.set_cons_zero, List.set_cons_succ, i64_w, i32_w]
                    rfl
                  refine pure_ (i := 2) (N := some 73) (v := ?_) (a' := ?_) #[true, true, true, false, false, false, false, false, false] rfl rfl (any_of HT_.out (by kernel_rfl)) (fun _ _ _ h => h) (Or.inl ⟨by rfl, ?_⟩) ?_ ?_
                  rotate_left
                  · intro w'
                    go_simp
                    with_reducible rfl
                  rotate_left
                  · simp only [Act.put, List.setIfInBounds_toArray, List.set_cons_zero, List.set_cons_succ, i64_w, i32_w]
                    rfl
                  refine pure_ (i := 4) (N := some 75) (v := ?_) (a' := ?_) #[true, true, true, false, true, false, false, false, false] rfl rfl (any_of HT_.out (by kernel_rfl)) (fun _ _ _ h => h) (Or.inl ⟨by rfl, ?_⟩) ?_ ?_
                  rotate_left
                  · intro w'
                    go_simp
                    with_reducible rfl
                  rotate_left
                  · simp only [Act.put, List.setIfInBounds_toArray, List.set_cons_zero, List.set_cons_succ, i64_w, i32_w]
                    rfl
                  refine pure_ (i := 5) (N := some 76) (v := ?_) (a' := ?_) #[true, true, true, false, true, true, false, false, false] rfl rfl (any_of HT_.out (by kernel_rfl)) (fun _ _ _ h => h) (Or.inl ⟨by rfl, ?_⟩) ?_ ?_
                  rotate_left
                  · intro w'
                    go_simp
                    with_reducible rfl
                  rotate_left
                  · simp only [Act.put, List.setIfInBounds_toArray, List.set_cons_zero, List.set_cons_succ, i64_w, i32_w]
                    rfl
                  refine pure_ (i := 6) (N := some 77) (v := ?_) (a' := ?_) #[true, true, true, false, true, true, true, false, false] rfl rfl (any_of HT_.out (by kernel_rfl)) (fun _ _ _ h => h) (Or.inl ⟨by rfl, ?_⟩) ?_ ?_
                  rotate_left
                  · intro w'
                    go_simp
                    with_reducible rfl
                  rotate_left
                  · simp only [Act.put, List.setIfInBounds_toArray, List.set_cons_zero, List.set_cons_succ, i64_w, i32_w]
                    rfl
                  refine take_ (i := 3) (N := some 74) (v := ?_) (a' := ?_) #[true, true, true, true, true, true, true, false, false] rfl rfl (take_ofW HT_.out HW_.out (by kernel_rfl)) (fun _ _ _ h => h) (Or.inl ⟨by rfl, ?_⟩) hHeld ?_ ?_
                  rotate_left
                  · rintro w' ⟨s0, s1⟩
                    go_simp
                    with_reducible rfl
                  rotate_left
                  · simp only [Act.put, List.setIfInBounds_toArray, List.set_cons_zero, List.set_cons_succ, i64_w, i32_w]
                    rfl
                  refine take_ (i := 7) (N := some 78) (v := ?_) (a' := ?_) #[true, true, true, true, true, true, true, true, false] rfl rfl (take_ofW HT_.out HW_.out (by kernel_rfl)) (fun _ _ _ h => h) (Or.inl ⟨by rfl, ?_⟩) hHeld ?_ ?_
                  rotate_left
                  · rintro w' ⟨s0, s1⟩
                    go_simp
                    with_reducible rfl
                  rotate_left
                  · simp only [Act.put, List.setIfInBounds_toArray, List.set_cons_zero, List.set_cons_succ, i64_w, i32_w]
                    rfl
                  refine pure_ (i := 8) (N := some 79) (v := ?_) (a' := ?_) #[true, true, true, true, true, true, true, true, true] rfl rfl (any_of HT_.out (by kernel_rfl)) (fun _ _ _ h => h) (Or.inl ⟨by rfl, ?_⟩) ?_ ?_
                  rotate_left
                  · intro w'
                    go_simp
                    with_reducible rfl
                  rotate_left
                  · simp only [Act.put, List.setIfInBounds_toArray, List.set_cons_zero, List.set_cons_succ, i64_w, i32_w]
                    rfl
                  refine done_ (done_of HT_.out (by kernel_rfl)) ?_
                  try go_wp2
                  go_ret
                  exact ⟨by first | rfl | (simp [errW_none, errW_some] <;> rfl) | (simp [*, errW_none, errW_some] <;> rfl), by repeat (first | (with_reducible first | exact HB.out | apply below_alloc | apply pw_below_drewN | apply below_drew1 | refine below_set ?_ GE191.out | refine below_set ?_ GE202.out) | exact HB.out)⟩
                rw [if_neg c47] at H
                have c47b0 : ((rd y207 x7_2) == (rd y207 x8_3)) = false := beq_eq_false_iff_ne.mpr c47
                have c47b1 : ((rd y207 x7_2) != (rd y207 x8_3)) = true := bne_iff_ne.mpr c47
                have H' := Aside0.mk H
                clear H
                try go_wp2
                have n0_ := Aside0.mk (Kd.R_drew HO_6.out)
                have n1_ := Aside0.mk (Kd.R_drew HO_203001.out)
                have n2_ := Aside0.mk (Kd.R_drew HO_203002.out)
                have n3_ := Aside0.mk (blk_drew BK191.out)
                have n4_ := Aside0.mk (blk_drew BK202.out)
                have n5_ := Aside0.mk (below_drew1 HB.out)
                clear HO_6
                clear HO_203001
                clear HO_203002
                clear BK191
                clear BK202
                clear HB
                have HO_6 := n0_
                have HO_203001 := n1_
                have HO_203002 := n2_
                have BK191 := n3_
                have BK202 := n4_
                have HB := n5_
                clear n0_ n1_ n2_ n3_ n4_ n5_
                have p210 : 0 ≤ (x7_2 : Int) := of_decide_eq_true (by first | (with_reducible assumption) | assumption)
                have q210 : x7_2 < (y207.length : Int) := of_decide_eq_true (by first | (with_reducible assumption) | assumption)
                obtain ⟨ad210, e210, hx210_0⟩ := Kd.at_int (Kd.R_reads' HO_6.out).2.2 x7_2 p210 q210
                cases e210
                replace p210 := eq_true p210
                replace q210 := eq_true q210
                have p211 : 0 ≤ (x8_3 : Int) := of_decide_eq_true (by first | (with_reducible assumption) | assumption)
                have q211 : x8_3 < (y207.length : Int) := of_decide_eq_true (by first | (with_reducible assumption) | assumption)
                obtain ⟨ad211, e211, hx211_0⟩ := Kd.at_int (Kd.R_reads' HO_6.out).2.2 x8_3 p211 q211
                obtain rfl : ad210 = ad211 := (by injection e211)
                replace p211 := eq_true p211
                replace q211 := eq_true q211
                refine start_ (n := 9) (S := fun w' => w'.cell? (ad210.add (x7_2).toNat) = some (.int .i64 (rd y207 x7_2)) ∧ w'.cell? (ad210.add (x8_3).toNat) = some (.int .i64 (rd y207 x8_3))) (ds := []) #[false, false, false, false, false, false, false, false, false] (by kernel_rfl) rfl rfl ⟨hx210_0, hx211_0⟩ (fun hHeld => ?_); refine with_tabW palinodelaw16_PickJobs.tab14 palinodelaw16_PickJobs.bits14 (fun HT_ HW_ => ?_)
                generalize wr.drew = w49 at HO_6 HO_203001 HO_203002 BK191 BK202 HB hx210_0 hx211_0 hHeld ⊢
                refine pure_ (i := 0) (N := some 71) (v := ?_) (a' := ?_) #[true, false, false, false, false, false, false, false, false] rfl rfl (any_of HT_.out (by kernel_rfl)) (fun _ _ _ h => h) (Or.inl ⟨by rfl, ?_⟩) ?_ ?_
                rotate_left
                · intro w'
                  go_simp
                  with_reducible rfl
                rotate_left
                · simp only [Act.put, List.setIfInBounds_toArray, List.set_cons_zero, List.set_cons_succ, i64_w, i32_w]
                  rfl
                refine pure_ (i := 1) (N := some 72) (v := ?_) (a' := ?_) #[true, true, false, false, false, false, false, false, false] rfl rfl (any_of HT_.out (by kernel_rfl)) (fun _ _ _ h => h) (Or.inl ⟨by rfl, ?_⟩) ?_ ?_
                rotate_left
                · intro w'
                  go_simp
                  with_reducible rfl
                rotate_left
                · simp only [Act.put, List.setIfInBounds_toArray, List.set_cons_zero, List.set_cons_succ, i64_w, i32_w]
                  rfl
                refine pure_ (i := 2) (N := some 73) (v := ?_) (a' := ?_) #[true, true, true, false, false, false, false, false, false] rfl rfl (any_of HT_.out (by kernel_rfl)) (fun _ _ _ h => h) (Or.inl ⟨by rfl, ?_⟩) ?_ ?_
                rotate_left
                · intro w'
                  go_simp
                  with_reducible rfl
                rotate_left
                · simp only [Act.put, List.setIfInBounds_toArray, List.set_cons_zero, List.set_cons_succ, i64_w, i32_w]
                  rfl
                refine pure_ (i := 4) (N := some 75) (v := ?_) (a' := ?_) #[true, true, true, false, true, false, false, false, false] rfl rfl (any_of HT_.out (by kernel_rfl)) (fun _ _ _ h => h) (Or.inl ⟨by rfl, ?_⟩) ?_ ?_
                rotate_left
                · intro w'
                  go_simp
                  with_reducible rfl
                rotate_left
                · simp only [Act.put, List.setIfInBounds_toArray, List.set_cons_zero, List.set_cons_succ, i64_w, i32_w]
                  rfl
                refine pure_ (i := 5) (N := some 76) (v := ?_) (a' := ?_) #[true, true, true, false, true, true, false, false, false] rfl rfl (any_of HT_.out (by kernel_rfl)) (fun _ _ _ h => h) (Or.inl ⟨by rfl, ?_⟩) ?_ ?_
                rotate_left
                · intro w'
                  go_simp
                  with_reducible rfl
                rotate_left
                · simp only [Act.put, List.setIfInBounds_toArray, List.set_cons_zero, List.set_cons_succ, i64_w, i32_w]
                  rfl
                refine pure_ (i := 6) (N := some 77) (v := ?_) (a' := ?_) #[true, true, true, false, true, true, true, false, false] rfl rfl (any_of HT_.out (by kernel_rfl)) (fun _ _ _ h => h) (Or.inl ⟨by rfl, ?_⟩) ?_ ?_
                rotate_left
                · intro w'
                  go_simp
                  with_reducible rfl
                rotate_left
                · simp only [Act.put, List.setIfInBounds_toArray, List.set_cons_zero, List.set_cons_succ, i64_w, i32_w]
                  rfl
                refine take_ (i := 3) (N := some 74) (v := ?_) (a' := ?_) #[true, true, true, true, true, true, true, false, false] rfl rfl (take_ofW HT_.out HW_.out (by kernel_rfl)) (fun _ _ _ h => h) (Or.inl ⟨by rfl, ?_⟩) hHeld ?_ ?_
                rotate_left
                · rintro w' ⟨s0, s1⟩
                  go_simp
                  with_reducible rfl
                rotate_left
                · simp only [Act.put, List.setIfInBounds_toArray, List.set_cons_zero, List.set_cons_succ, i64_w, i32_w]
                  rfl
                refine take_ (i := 7) (N := some 78) (v := ?_) (a' := ?_) #[true, true, true, true, true, true, true, true, false] rfl rfl (take_ofW HT_.out HW_.out (by kernel_rfl)) (fun _ _ _ h => h) (Or.inl ⟨by rfl, ?_⟩) hHeld ?_ ?_
                rotate_left
                · rintro w' ⟨s0, s1⟩
                  go_simp
                  with_reducible rfl
                rotate_left
                · simp only [Act.put, List.setIfInBounds_toArray, List.set_cons_zero, List.set_cons_succ, i64_w, i32_w]
                  rfl
                refine pure_ (i := 8) (N := some 79) (v := ?_) (a' := ?_) #[true, true, true, true, true, true, true, true, true] rfl rfl (any_of HT_.out (by kernel_rfl)) (fun _ _ _ h => h) (Or.inl ⟨by rfl, ?_⟩) ?_ ?_
                rotate_left
                · intro w'
                  go_simp
                  with_reducible rfl
                rotate_left
                · simp only [Act.put, List.setIfInBounds_toArray, List.set_cons_zero, List.set_cons_succ, i64_w, i32_w]
                  rfl
                refine done_ (done_of HT_.out (by kernel_rfl)) ?_
                try go_wp2
                go_roundg k3
                case measure => have := HJ4.out; have := HK2.out; have := HK3.out; omega
                case rel => exact ⟨(wrap64 (x8_3 + 1)), (by first | rfl | (simp; done) | (simp [*]; done)), H', ⟨by have := HJ4.out; have := HK2.out; have := HK3.out; omega⟩, ⟨by (with_reducible repeat (first | apply Kd.R_alloc | apply Kd.R_drewN | apply Kd.R_drew)); exact HO_6.out⟩, ⟨by (with_reducible repeat (first | apply Kd.R_alloc | apply Kd.R_drewN | apply Kd.R_drew)); exact HO_203001.out⟩, ⟨by (with_reducible repeat (first | apply Kd.R_alloc | apply Kd.R_drewN | apply Kd.R_drew)); exact HO_203002.out⟩, ⟨by (with_reducible repeat (first | refine blk_drewN ?_ _ | refine blk_drew ?_ | refine blk_alloc ?_ _)); exact BK191.out⟩, ⟨by (with_reducible repeat (first | refine blk_drewN ?_ _ | refine blk_drew ?_ | refine blk_alloc ?_ _)); exact BK202.out⟩, ⟨by repeat (first | (with_reducible first | exact HB.out | apply below_alloc | apply pw_below_drewN | apply below_drew1 | refine below_set ?_ GE191.out | refine below_set ?_ GE202.out) | exact HB.out)⟩⟩
          rw [if_neg c40] at H
          have c40b0 : decide (x7_2 < (y207.length : Int)) = false := decide_eq_false c40
          clear c40
          have H' := Aside0.mk H
          clear H
          obtain ⟨Ao50, co50, eo50⟩ := Kd.R_slice HO_6.out
          subst eo50
          go_wp2
          go_loopg [9, 10] k2 (fun kq v9 v10 w' => ∃ (x9_3 : Int) (x10_3 : Int), v9 = .int .i64 x9_3 ∧ v10 = .int .i64 x10_3 ∧ Aside0 (palinodelaw16_PickJobs.l2 kq t192 y207 x9_3 x10_3 l0_0 l0_1 a0_2 t193 t194 t197 t200 = some r) ∧ Aside0 (kq ≤ k2) ∧ Aside0 (Kd.R (Kd.int .i64) 3 w' w.heap.size (fun k_ => some k_ ≠ ((.slice Ao13 t194.length co13) : Value).ownBlock ∧ some k_ ≠ ((.slice Ao14 t197.length co14) : Value).ownBlock) (.slice Ao50 y207.length co50) y207) ∧ Aside0 (Kd.R (Kd.int .i64) 3 w' w.heap.size (fun k_ => some k_ ≠ ((.slice Ao50 y207.length co50) : Value).ownBlock ∧ some k_ ≠ ((.slice Ao14 t197.length co14) : Value).ownBlock) (.slice Ao13 t194.length co13) t194) ∧ Aside0 (Kd.R (Kd.int .i64) 3 w' w.heap.size (fun k_ => some k_ ≠ ((.slice Ao50 y207.length co50) : Value).ownBlock ∧ some k_ ≠ ((.slice Ao13 t194.length co13) : Value).ownBlock) (.slice Ao14 t197.length co14) t197) ∧ Aside0 (w'.heap[gb191]? = some (.cells #[(.slice A0_0 l0_0.length c0_0), (.slice A0_1 l0_1.length c0_1), .int .i64 a0_2] 25 (0, 0))) ∧ Aside0 (w'.heap[gb202]? = some (.cells #[.int .i64 t193, (.slice Ao13 t194.length co13), (.slice Ao14 t197.length co14), .bool t200] 28 (0, 0))) ∧ Aside0 (Below w.heap.size w w'))
          case atStart => exact ⟨(0), (0), (by first | rfl | (simp; done) | (simp [*]; done)), (by first | rfl | (simp; done) | (simp [*]; done)), H', ⟨Nat.le_refl _⟩, ⟨by (with_reducible repeat (first | apply Kd.R_alloc | apply Kd.R_drewN | apply Kd.R_drew)); exact HO_6.out⟩, ⟨by (with_reducible repeat (first | apply Kd.R_alloc | apply Kd.R_drewN | apply Kd.R_drew)); exact HO_203001.out⟩, ⟨by (with_reducible repeat (first | apply Kd.R_alloc | apply Kd.R_drewN | apply Kd.R_drew)); exact HO_203002.out⟩, ⟨by (with_reducible repeat (first | refine blk_drewN ?_ _ | refine blk_drew ?_ | refine blk_alloc ?_ _)); exact BK191.out⟩, ⟨by (with_reducible repeat (first | refine blk_drewN ?_ _ | refine blk_drew ?_ | refine blk_alloc ?_ _)); exact BK202.out⟩, ⟨by repeat (first | (with_reducible first | exact HB.out | apply below_alloc | apply pw_below_drewN | apply below_drew1 | refine below_set ?_ GE191.out | refine below_set ?_ GE202.out) | exact HB.out)⟩⟩
          case round =>
            clear H'
            try clear c1
            try clear c2
            try clear p2
            try clear q2
            try clear hx2
            try clear c3
            try clear c4
            try clear c5
            try clear p6
            try clear c8
            try clear c9
            try clear c11
            try clear c16
            try clear c17
            try clear c17b0
            try clear c18
            try clear p21
            try clear q21
            try clear hx21
            try clear c22
            try clear c22b0
            try clear c23
            try clear c27
            try clear c31
            try clear c34
            try clear c35
            try clear c36
            try clear c40
            try clear c40b0
            try clear c42
            try clear c42b0
            try clear c43
            try clear c43b0
            try clear c44
            try clear c44b0
            try clear c45
            try clear c45b0
            try clear c46
            try clear c46b0
            try clear c47
            try clear c47b0
            try clear c47b1
            try clear hcz12_0
            try clear hcz12_1
            try clear hcz12_2
            try clear hcz12_3
            try clear hcz19_0
            try clear hcz19_1
            try clear hcz19_2
            try clear hcz21_0
            try clear hcz21_1
            try clear hcz21_2
            try clear hcz21_3
            try clear hcz24_0
            try clear hcz24_1
            try clear hcz24_2
            try clear hcz26_0
            try clear hcz26_1
            try clear hcz26_2
            try clear hcz26_3
            try clear hcz28_0
            try clear hcz28_1
            try clear hcz28_2
            try clear hcz30_0
            try clear hcz30_1
            try clear hcz30_2
            try clear hcz30_3
            try clear hcz32_0
            try clear hcz32_1
            try clear hcz32_2
            try clear hcz8_0
            try clear hcz8_1
            try clear hcz8_2
            try clear hfz12_0
            try clear hfz12_1
            try clear hfz12_2
            try clear hfz12_3
            try clear hfz19_0
            try clear hfz19_1
            try clear hfz19_2
            try clear hfz21_0
            try clear hfz21_1
            try clear hfz21_2
            try clear hfz21_3
            try clear hfz24_0
            try clear hfz24_1
            try clear hfz24_2
            try clear hfz26_0
            try clear hfz26_1
            try clear hfz26_2
            try clear hfz26_3
            try clear hfz28_0
            try clear hfz28_1
            try clear hfz28_2
            try clear hfz30_0
            try clear hfz30_1
            try clear hfz30_2
            try clear hfz30_3
            try clear hfz32_0
            try clear hfz32_1
            try clear hfz32_2
            try clear hfz8_0
            try clear hfz8_1
            try clear hfz8_2
            try clear hx210_0
            try clear hx211_0
            try clear p2
            try clear p210
            try clear p211
            try clear q210
            try clear q211
            obtain ⟨x9_3, x10_3, rfl, rfl, HA, HK3, HO_6, HO_203001, HO_203002, BK191, BK202, HB⟩ := hrel
            cases gk with
            | zero => exact absurd HA.out (by simp [palinodelaw16_PickJobs.l2])
            | succ k3 =>
              have H := HA.out
              clear HA
              simp only [palinodelaw16_PickJobs.l2] at H
              by_cases c51 : x10_3 < (l0_0.length : Int)
              rotate_left
              · rw [if_neg c51] at H
                have c51b0 : decide (x10_3 < (l0_0.length : Int)) = false := decide_eq_false c51
                clear c51
                by_cases c137 : t192 = true
                · subst c137
                  have H1 : (some (x9_3 == (y207.length : Int))) = some r := by rw [if_pos rfl] at H; exact H
                  clear H
                  have H := H1
                  clear H1
                  obtain rfl := Option.some.inj H
                  have hnb138 := NB191_202.out
                  have hnc138 := NB202_191.out
                  have hcz139_0 : wr.cell? ⟨gb191, 0, none⟩ = some (.slice A0_0 l0_0.length c0_0) := (blk_cell BK191.out 0).trans rfl
                  have hcz139_1 : wr.cell? ⟨gb191, 1, none⟩ = some (.slice A0_1 l0_1.length c0_1) := (blk_cell BK191.out 1).trans rfl
                  have hcz139_2 : wr.cell? ⟨gb191, 2, none⟩ = some (.int .i64 a0_2) := (blk_cell BK191.out 2).trans rfl
                  have hfz139_0 := blk_frozen BK191.out 0
                  have hfz139_1 := blk_frozen BK191.out 1
                  have hfz139_2 := blk_frozen BK191.out 2
                  go_wp2
                  go_ret
                  exact ⟨by first | rfl | (simp [errW_none, errW_some] <;> rfl) | (simp [*, errW_none, errW_some] <;> rfl), by repeat (first | (with_reducible first | exact HB.out | apply below_alloc | apply pw_below_drewN | apply below_drew1 | refine below_set ?_ GE191.out | refine below_set ?_ GE202.out) | exact HB.out)⟩
                replace c137 := Bool.eq_false_iff.mpr c137
                subst c137
                have H1 : (some false) = some r := by rw [if_neg (show ¬ (false = true) by decide)] at H; exact H
                clear H
                have H := H1
                clear H1
                obtain rfl := Option.some.inj H
                have hnb140 := NB191_202.out
                have hnc140 := NB202_191.out
                have hcz141_0 : wr.cell? ⟨gb191, 0, none⟩ = some (.slice A0_0 l0_0.length c0_0) := (blk_cell BK191.out 0).trans rfl
                have hcz141_1 : wr.cell? ⟨gb191, 1, none⟩ = some (.slice A0_1 l0_1.length c0_1) := (blk_cell BK191.out 1).trans rfl
                have hcz141_2 : wr.cell? ⟨gb191, 2, none⟩ = some (.int .i64 a0_2) := (blk_cell BK191.out 2).trans rfl
                have hfz141_0 := blk_frozen BK191.out 0
                have hfz141_1 := blk_frozen BK191.out 1
                have hfz141_2 := blk_frozen BK191.out 2
                go_wp2
                go_ret
                exact ⟨by first | rfl | (simp [errW_none, errW_some] <;> rfl) | (simp [*, errW_none, errW_some] <;> rfl), by repeat (first | (with_reducible first | exact HB.out | apply below_alloc | apply pw_below_drewN | apply below_drew1 | refine below_set ?_ GE191.out | refine below_set ?_ GE202.out) | exact HB.out)⟩
              rw [if_pos c51] at H
              have c51b0 : decide (x10_3 < (l0_0.length : Int)) = true := decide_eq_true c51
              clear c51
              by_cases c52 : 0 ≤ x10_3
              rotate_left
              · rw [if_neg c52] at H
                exact absurd H (by simp)
              rw [if_pos c52] at H
              have c52b0 : decide (0 ≤ x10_3) = true := decide_eq_true c52
              clear c52
              replace H := Option.bind_eq_some_iff.mp H
              obtain ⟨t214, A530, H⟩ := H
              replace H : ((palinodelaw16_within.f k3 t197 ((rd_T49 l0_0 x10_3).f0)).bind fun t215 => (if t214 = true then (if ((rd_T49 l0_0 x10_3).f1) = t193 then (if t215 = true then (palinodelaw16_PickJobs.j4 k3 t192 y207 x9_3 x10_3 t214 t215 (((rd_T49 l0_0 x10_3).f1) != (wrap64 (t193 + 1))) l0_0 l0_1 a0_2 t193 t194 t197 t200 ((rd_T49 l0_0 x10_3).f0) ((rd_T49 l0_0 x10_3).f1) ((rd_T49 l0_0 x10_3).f2) ((rd_T49 l0_0 x10_3).f3) ((rd_T49 l0_0 x10_3).f4)) else (palinodelaw16_PickJobs.j4 k3 t192 y207 x9_3 x10_3 t214 t215 false l0_0 l0_1 a0_2 t193 t194 t197 t200 ((rd_T49 l0_0 x10_3).f0) ((rd_T49 l0_0 x10_3).f1) ((rd_T49 l0_0 x10_3).f2) ((rd_T49 l0_0 x10_3).f3) ((rd_T49 l0_0 x10_3).f4))) else (palinodelaw16_PickJobs.j4 k3 t192 y207 x9_3 x10_3 t214 t215 true l0_0 l0_1 a0_2 t193 t194 t197 t200 ((rd_T49 l0_0 x10_3).f0) ((rd_T49 l0_0 x10_3).f1) ((rd_T49 l0_0 x10_3).f2) ((rd_T49 l0_0 x10_3).f3) ((rd_T49 l0_0 x10_3).f4))) else (if t215 = true then (palinodelaw16_PickJobs.j4 k3 t192 y207 x9_3 x10_3 t214 t215 (((rd_T49 l0_0 x10_3).f1) != (wrap64 (t193 + 1))) l0_0 l0_1 a0_2 t193 t194 t197 t200 ((rd_T49 l0_0 x10_3).f0) ((rd_T49 l0_0 x10_3).f1) ((rd_T49 l0_0 x10_3).f2) ((rd_T49 l0_0 x10_3).f3) ((rd_T49 l0_0 x10_3).f4)) else (palinodelaw16_PickJobs.j4 k3 t192 y207 x9_3 x10_3 t214 t215 false l0_0 l0_1 a0_2 t193 t194 t197 t200 ((rd_T49 l0_0 x10_3).f0) ((rd_T49 l0_0 x10_3).f1) ((rd_T49 l0_0 x10_3).f2) ((rd_T49 l0_0 x10_3).f3) ((rd_T49 l0_0 x10_3).f4))))) = some r := H
              have A53 := Aside0.mk A530
              clear A530
              replace H := Option.bind_eq_some_iff.mp H
              obtain ⟨t215, A540, H⟩ := H
              replace H : (if t214 = true then (if ((rd_T49 l0_0 x10_3).f1) = t193 then (if t215 = true then (palinodelaw16_PickJobs.j4 k3 t192 y207 x9_3 x10_3 t214 t215 (((rd_T49 l0_0 x10_3).f1) != (wrap64 (t193 + 1))) l0_0 l0_1 a0_2 t193 t194 t197 t200 ((rd_T49 l0_0 x10_3).f0) ((rd_T49 l0_0 x10_3).f1) ((rd_T49 l0_0 x10_3).f2) ((rd_T49 l0_0 x10_3).f3) ((rd_T49 l0_0 x10_3).f4)) else (palinodelaw16_PickJobs.j4 k3 t192 y207 x9_3 x10_3 t214 t215 false l0_0 l0_1 a0_2 t193 t194 t197 t200 ((rd_T49 l0_0 x10_3).f0) ((rd_T49 l0_0 x10_3).f1) ((rd_T49 l0_0 x10_3).f2) ((rd_T49 l0_0 x10_3).f3) ((rd_T49 l0_0 x10_3).f4))) else (palinodelaw16_PickJobs.j4 k3 t192 y207 x9_3 x10_3 t214 t215 true l0_0 l0_1 a0_2 t193 t194 t197 t200 ((rd_T49 l0_0 x10_3).f0) ((rd_T49 l0_0 x10_3).f1) ((rd_T49 l0_0 x10_3).f2) ((rd_T49 l0_0 x10_3).f3) ((rd_T49 l0_0 x10_3).f4))) else (if t215 = true then (palinodelaw16_PickJobs.j4 k3 t192 y207 x9_3 x10_3 t214 t215 (((rd_T49 l0_0 x10_3).f1) != (wrap64 (t193 + 1))) l0_0 l0_1 a0_2 t193 t194 t197 t200 ((rd_T49 l0_0 x10_3).f0) ((rd_T49 l0_0 x10_3).f1) ((rd_T49 l0_0 x10_3).f2) ((rd_T49 l0_0 x10_3).f3) ((rd_T49 l0_0 x10_3).f4)) else (palinodelaw16_PickJobs.j4 k3 t192 y207 x9_3 x10_3 t214 t215 false l0_0 l0_1 a0_2 t193 t194 t197 t200 ((rd_T49 l0_0 x10_3).f0) ((rd_T49 l0_0 x10_3).f1) ((rd_T49 l0_0 x10_3).f2) ((rd_T49 l0_0 x10_3).f3) ((rd_T49 l0_0 x10_3).f4)))) = some r := H
              have A54 := Aside0.mk A540
              clear A540
              have HC55 := Aside0.mk H
              clear H
              have hnb56 := NB191_202.out
              have hnc56 := NB202_191.out
              have hcz57_0 : wr.cell? ⟨gb191, 0, none⟩ = some (.slice A0_0 l0_0.length c0_0) := (blk_cell BK191.out 0).trans rfl
              have hcz57_1 : wr.cell? ⟨gb191, 1, none⟩ = some (.slice A0_1 l0_1.length c0_1) := (blk_cell BK191.out 1).trans rfl
              have hcz57_2 : wr.cell? ⟨gb191, 2, none⟩ = some (.int .i64 a0_2) := (blk_cell BK191.out 2).trans rfl
              have hfz57_0 := blk_frozen BK191.out 0
              have hfz57_1 := blk_frozen BK191.out 1
              have hfz57_2 := blk_frozen BK191.out 2
              have p212 : 0 ≤ (x10_3 : Int) := of_decide_eq_true (by first | (with_reducible assumption) | assumption)
              have q212 : x10_3 < (l0_0.length : Int) := of_decide_eq_true (by first | (with_reducible assumption) | assumption)
              obtain ⟨ad212, e212, hx212_0, hx212_1, hx212_2, hx212_3, hx212_4⟩ := at_T49 HR0_0.out x10_3 p212 q212
              cases e212
              replace hx212_0 := (HB.out.cell (World.block_lt_of_cell? w _ hx212_0)).trans hx212_0
              replace hx212_1 := (HB.out.cell (World.block_lt_of_cell? w _ hx212_1)).trans hx212_1
              replace hx212_2 := (HB.out.cell (World.block_lt_of_cell? w _ hx212_2)).trans hx212_2
              replace hx212_3 := (HB.out.cell (World.block_lt_of_cell? w _ hx212_3)).trans hx212_3
              replace hx212_4 := (HB.out.cell (World.block_lt_of_cell? w _ hx212_4)).trans hx212_4
              replace p212 := eq_true p212
              replace q212 := eq_true q212
              go_upto_region 23 with (first | ((with_reducible refine gate_dst (N := 11) rfl ?_); (try (refine gate_guard (by rfl) ?_; dsimp only)); refine box_event ?hg (N := 11) ?hd (cs := #[.int .i64 0, .int .i64 0, .string (⟨#[]⟩ : ByteArray), .string (⟨#[]⟩ : ByteArray), .int .i64 0]) (t := 49) ?hr ?_; (case hd => rfl); (case hg => rfl); (case hr => first | (go_simp; done) | (go_simp; rfl)); intro gb213 hg w58 hbox hb; have n0_ := Aside0.mk (Kd.R_below (by (with_reducible repeat (first | apply Kd.R_alloc | apply Kd.R_drewN | apply Kd.R_drew)); exact HO_6.out) hb); have n1_ := Aside0.mk (Kd.R_below (by (with_reducible repeat (first | apply Kd.R_alloc | apply Kd.R_drewN | apply Kd.R_drew)); exact HO_203001.out) hb); have n2_ := Aside0.mk (Kd.R_below (by (with_reducible repeat (first | apply Kd.R_alloc | apply Kd.R_drewN | apply Kd.R_drew)); exact HO_203002.out) hb); have n3_ := Aside0.mk (blk_below (g := gb191) (o := .cells #[.slice (some ad212) l0_0.length c0_0, .slice A0_1 l0_1.length c0_1, .int .i64 a0_2] 25 (0, 0)) (by (with_reducible repeat (first | refine blk_drewN ?_ _ | refine blk_drew ?_ | refine blk_alloc ?_ _)); exact BK191.out) hb); have n4_ := Aside0.mk (blk_below (g := gb202) (o := .cells #[.int .i64 t193, .slice Ao13 t194.length co13, .slice Ao14 t197.length co14, .bool t200] 28 (0, 0)) (by (with_reducible repeat (first | refine blk_drewN ?_ _ | refine blk_drew ?_ | refine blk_alloc ?_ _)); exact BK202.out) hb); have n5_ := Aside0.mk (below_step (by repeat (first | (with_reducible first | exact HB.out | apply below_alloc | apply pw_below_drewN | apply below_drew1 | refine below_set ?_ GE191.out | refine below_set ?_ GE202.out) | exact HB.out)) hb); have n6_ := Aside0.mk (hbox); have n7_ := Aside0.mk ((by rw [hg]; exact (below_size (by repeat (first | (with_reducible first | exact HB.out | apply below_alloc | apply pw_below_drewN | apply below_drew1 | refine below_set ?_ GE191.out | refine below_set ?_ GE202.out) | exact HB.out))) : w.heap.size ≤ gb213)); have n8_ := Aside0.mk ((by rw [hg]; exact (below_size (by repeat (first | (with_reducible first | exact HB.out | apply below_alloc | apply pw_below_drewN | apply below_drew1 | refine below_set ?_ GE191.out | refine below_set ?_ GE202.out) | exact HB.out))) : w.heap.size ≤ gb213)); have n9_ := Aside0.mk ((by rw [hg]; exact Nat.ne_of_lt (blk_lt (g := gb191) (o := .cells #[.slice (some ad212) l0_0.length c0_0, .slice A0_1 l0_1.length c0_1, .int .i64 a0_2] 25 (0, 0)) (by (with_reducible repeat (first | refine blk_drewN ?_ _ | refine blk_drew ?_ | refine blk_alloc ?_ _)); exact BK191.out)) : gb191 ≠ gb213)); have n10_ := Aside0.mk ((by rw [hg]; exact Nat.ne_of_gt (blk_lt (g := gb191) (o := .cells #[.slice (some ad212) l0_0.length c0_0, .slice A0_1 l0_1.length c0_1, .int .i64 a0_2] 25 (0, 0)) (by (with_reducible repeat (first | refine blk_drewN ?_ _ | refine blk_drew ?_ | refine blk_alloc ?_ _)); exact BK191.out)) : gb213 ≠ gb191)); have n11_ := Aside0.mk ((by rw [hg]; exact Nat.ne_of_lt (blk_lt (g := gb202) (o := .cells #[.int .i64 t193, .slice Ao13 t194.length co13, .slice Ao14 t197.length co14, .bool t200] 28 (0, 0)) (by (with_reducible repeat (first | refine blk_drewN ?_ _ | refine blk_drew ?_ | refine blk_alloc ?_ _)); exact BK202.out)) : gb202 ≠ gb213)); have n12_ := Aside0.mk ((by rw [hg]; exact Nat.ne_of_gt (blk_lt (g := gb202) (o := .cells #[.int .i64 t193, .slice Ao13 t194.length co13, .slice Ao14 t197.length co14, .bool t200] 28 (0, 0)) (by (with_reducible repeat (first | refine blk_drewN ?_ _ | refine blk_drew ?_ | refine blk_alloc ?_ _)); exact BK202.out)) : gb213 ≠ gb202)); clear HO_6; clear HO_203001; clear HO_203002; clear BK191; clear BK202; clear HB; have HO_6 := n0_; have HO_203001 := n1_; have HO_203002 := n2_; have BK191 := n3_; have BK202 := n4_; have HB := n5_; have BK213 := n6_; have GW213 := n7_; have GE213 := n8_; have NB191_213 := n9_; have NB213_191 := n10_; have NB202_213 := n11_; have NB213_202 := n12_; clear n0_ n1_ n2_ n3_ n4_ n5_ n6_ n7_ n8_ n9_ n10_ n11_ n12_; clear hb hbox hg; have hnb59 := NB213_191.out; have hnc59 := NB191_213.out; have hnb60 := NB213_202.out; have hnc60 := NB202_213.out; have hcz61_0 : w58.cell? ⟨gb213, 0, none⟩ = some (.int .i64 0) := (blk_cell BK213.out 0).trans rfl; have hcz61_1 : w58.cell? ⟨gb213, 1, none⟩ = some (.int .i64 0) := (blk_cell BK213.out 1).trans rfl; have hcz61_2 : w58.cell? ⟨gb213, 2, none⟩ = some (.string (⟨#[]⟩ : ByteArray)) := (blk_cell BK213.out 2).trans rfl; have hcz61_3 : w58.cell? ⟨gb213, 3, none⟩ = some (.string (⟨#[]⟩ : ByteArray)) := (blk_cell BK213.out 3).trans rfl; have hcz61_4 : w58.cell? ⟨gb213, 4, none⟩ = some (.int .i64 0) := (blk_cell BK213.out 4).trans rfl; have hfz61_0 := blk_frozen BK213.out 0; have hfz61_1 := blk_frozen BK213.out 1; have hfz61_2 := blk_frozen BK213.out 2; have hfz61_3 := blk_frozen BK213.out 3; have hfz61_4 := blk_frozen BK213.out 4; have hcz62_0 : w58.cell? ⟨gb202, 0, none⟩ = some (.int .i64 t193) := (blk_cell BK202.out 0).trans rfl; have hcz62_1 : w58.cell? ⟨gb202, 1, none⟩ = some (.slice Ao13 t194.length co13) := (blk_cell BK202.out 1).trans rfl; have hcz62_2 : w58.cell? ⟨gb202, 2, none⟩ = some (.slice Ao14 t197.length co14) := (blk_cell BK202.out 2).trans rfl; have hcz62_3 : w58.cell? ⟨gb202, 3, none⟩ = some (.bool t200) := (blk_cell BK202.out 3).trans rfl; have hfz62_0 := blk_frozen BK202.out 0; have hfz62_1 := blk_frozen BK202.out 1; have hfz62_2 := blk_frozen BK202.out 2; have hfz62_3 := blk_frozen BK202.out 3) | ((with_reducible refine gate_callee (f := 19) rfl ?_); refine goesL_ (some 96) rfl rfl Try.func19 (by kernel_rfl) rfl #[.slice Ao13 t194.length co13, .int .i64 ((rd_T49 l0_0 x10_3).f0)] rfl (by (try simp only [List.map_toArray, List.map_cons, List.map_nil]); first | done | rfl | (simp only [List.length_drop, List.length_take]; rfl)) ?_; (with_reducible refine (palinodelaw16_within.calls k3 _ _ t194 ((rd_T49 l0_0 x10_3).f0) t214 _ ?side1 ?side2 A53.out).mono ?_); (case side1 => refine (Kd.R_reads' (e := 3) (base := w.heap.size) (ok := fun k_ => (some k_ ≠ (.slice Ao50 y207.length co50 : Value).ownBlock ∧ some k_ ≠ (.slice Ao14 t197.length co14 : Value).ownBlock)) (n := t194.length) (c := co13) ?_).2.2; exact (by (with_reducible repeat (first | apply Kd.R_alloc | apply Kd.R_drewN | apply Kd.R_drew)); exact (Kd.R_mono (Kd.R_far (p := ⟨gb213, 4, none⟩) (Kd.R_far (p := ⟨gb213, 3, none⟩) (Kd.R_far (p := ⟨gb213, 2, none⟩) (Kd.R_far (p := ⟨gb213, 1, none⟩) (Kd.R_far (p := ⟨gb213, 0, none⟩) (Kd.R_types HO_203001.out BK213.out (by decide)) (fun _ hk => hk.2) (.int .i64 ((rd_T49 l0_0 x10_3).f0))) (fun _ hk => hk.2) (.int .i64 ((rd_T49 l0_0 x10_3).f1))) (fun _ hk => hk.2) (.string ((rd_T49 l0_0 x10_3).f2))) (fun _ hk => hk.2) (.string ((rd_T49 l0_0 x10_3).f3))) (fun _ hk => hk.2) (.int .i64 ((rd_T49 l0_0 x10_3).f4))) (fun _ h_ => h_.1)))); (case side2 => exact (Kd.R_reads' HO_203001.out).2.1); rintro e w' ⟨rfl, ⟨nd, rfl⟩⟩; refine ⟨_, rfl, ?_⟩) | ((with_reducible refine gate_callee (f := 19) rfl ?_); refine goesL_ (some 101) rfl rfl Try.func19 (by kernel_rfl) rfl #[.slice Ao14 t197.length co14, .int .i64 ((rd_T49 l0_0 x10_3).f0)] rfl (by (try simp only [List.map_toArray, List.map_cons, List.map_nil]); first | done | rfl | (simp only [List.length_drop, List.length_take]; rfl)) ?_; (with_reducible refine (palinodelaw16_within.calls k3 _ _ t197 ((rd_T49 l0_0 x10_3).f0) t215 _ ?side1 ?side2 A54.out).mono ?_); (case side1 => refine (Kd.R_reads' (e := 3) (base := w.heap.size) (ok := fun k_ => (some k_ ≠ (.slice Ao50 y207.length co50 : Value).ownBlock ∧ some k_ ≠ (.slice Ao13 t194.length co13 : Value).ownBlock)) (n := t197.length) (c := co14) ?_).2.2; exact (by (with_reducible repeat (first | apply Kd.R_alloc | apply Kd.R_drewN | apply Kd.R_drew)); exact (Kd.R_mono (Kd.R_far (p := ⟨gb213, 4, none⟩) (Kd.R_far (p := ⟨gb213, 3, none⟩) (Kd.R_far (p := ⟨gb213, 2, none⟩) (Kd.R_far (p := ⟨gb213, 1, none⟩) (Kd.R_far (p := ⟨gb213, 0, none⟩) (Kd.R_types HO_203002.out BK213.out (by decide)) (fun _ hk => hk.2) (.int .i64 ((rd_T49 l0_0 x10_3).f0))) (fun _ hk => hk.2) (.int .i64 ((rd_T49 l0_0 x10_3).f1))) (fun _ hk => hk.2) (.string ((rd_T49 l0_0 x10_3).f2))) (fun _ hk => hk.2) (.string ((rd_T49 l0_0 x10_3).f3))) (fun _ hk => hk.2) (.int .i64 ((rd_T49 l0_0 x10_3).f4))) (fun _ h_ => h_.1)))); (case side2 => exact (Kd.R_reads' HO_203002.out).2.1); rintro e w' ⟨rfl, ⟨nd, rfl⟩⟩; refine ⟨_, rfl, ?_⟩))
              (try simp only [Act.put, List.setIfInBounds_toArray, List.set_cons_zero, List.set_cons_succ])
              go_cut [120] (fun v120 wc => ∃ (kq : Nat) (x120_54 : Bool), v120 = .bool x120_54 ∧ Aside0 (palinodelaw16_PickJobs.j4 kq t192 y207 x9_3 x10_3 t214 t215 x120_54 l0_0 l0_1 a0_2 t193 t194 t197 t200 ((rd_T49 l0_0 x10_3).f0) ((rd_T49 l0_0 x10_3).f1) ((rd_T49 l0_0 x10_3).f2) ((rd_T49 l0_0 x10_3).f3) ((rd_T49 l0_0 x10_3).f4) = some r) ∧ Aside0 (kq ≤ k3) ∧ Aside0 (Kd.R (Kd.int .i64) 3 wc w.heap.size (fun k_ => some k_ ≠ ((.slice Ao13 t194.length co13) : Value).ownBlock ∧ some k_ ≠ ((.slice Ao14 t197.length co14) : Value).ownBlock) (.slice Ao50 y207.length co50) y207) ∧ Aside0 (Kd.R (Kd.int .i64) 3 wc w.heap.size (fun k_ => some k_ ≠ ((.slice Ao50 y207.length co50) : Value).ownBlock ∧ some k_ ≠ ((.slice Ao14 t197.length co14) : Value).ownBlock) (.slice Ao13 t194.length co13) t194) ∧ Aside0 (Kd.R (Kd.int .i64) 3 wc w.heap.size (fun k_ => some k_ ≠ ((.slice Ao50 y207.length co50) : Value).ownBlock ∧ some k_ ≠ ((.slice Ao13 t194.length co13) : Value).ownBlock) (.slice Ao14 t197.length co14) t197) ∧ Aside0 (wc.heap[gb191]? = some (.cells #[(.slice (some ad212) l0_0.length c0_0), (.slice A0_1 l0_1.length c0_1), .int .i64 a0_2] 25 (0, 0))) ∧ Aside0 (wc.heap[gb202]? = some (.cells #[.int .i64 t193, (.slice Ao13 t194.length co13), (.slice Ao14 t197.length co14), .bool t200] 28 (0, 0))) ∧ Aside0 (wc.heap[gb213]? = some (.cells #[.int .i64 ((rd_T49 l0_0 x10_3).f0), .int .i64 ((rd_T49 l0_0 x10_3).f1), .string ((rd_T49 l0_0 x10_3).f2), .string ((rd_T49 l0_0 x10_3).f3), .int .i64 ((rd_T49 l0_0 x10_3).f4)] 49 (0, 0))) ∧ Aside0 (Below w.heap.size w wc))
              case first =>
                have H := HC55.out
                clear HC55
                by_cases c63 : t214 = true
                rotate_left
                · replace c63 := Bool.eq_false_iff.mpr c63
                  subst c63
                  have H1 : (if t215 = true then (palinodelaw16_PickJobs.j4 k3 t192 y207 x9_3 x10_3 false t215 (((rd_T49 l0_0 x10_3).f1) != (wrap64 (t193 + 1))) l0_0 l0_1 a0_2 t193 t194 t197 t200 ((rd_T49 l0_0 x10_3).f0) ((rd_T49 l0_0 x10_3).f1) ((rd_T49 l0_0 x10_3).f2) ((rd_T49 l0_0 x10_3).f3) ((rd_T49 l0_0 x10_3).f4)) else (palinodelaw16_PickJobs.j4 k3 t192 y207 x9_3 x10_3 false t215 false l0_0 l0_1 a0_2 t193 t194 t197 t200 ((rd_T49 l0_0 x10_3).f0) ((rd_T49 l0_0 x10_3).f1) ((rd_T49 l0_0 x10_3).f2) ((rd_T49 l0_0 x10_3).f3) ((rd_T49 l0_0 x10_3).f4))) = some r := by rw [if_neg (show ¬ (false = true) by decide)] at H; exact H
                  clear H
                  have H := H1
                  clear H1
                  by_cases c81 : t215 = true
                  rotate_left
                  · replace c81 := Bool.eq_false_iff.mpr c81
                    subst c81
                    have H1 : (palinodelaw16_PickJobs.j4 k3 t192 y207 x9_3 x10_3 false false false l0_0 l0_1 a0_2 t193 t194 t197 t200 ((rd_T49 l0_0 x10_3).f0) ((rd_T49 l0_0 x10_3).f1) ((rd_T49 l0_0 x10_3).f2) ((rd_T49 l0_0 x10_3).f3) ((rd_T49 l0_0 x10_3).f4)) = some r := by rw [if_neg (show ¬ (false = true) by decide)] at H; exact H
                    clear H
                    have H := H1
                    clear H1
                    have H' := Aside0.mk H
                    clear H
                    go_wp2
                    go_meet
                    case rel => exact ⟨_, (false), (by first | rfl | (simp; done) | (simp [*]; done)), H', ⟨by have := HJ4.out; have := HK2.out; have := HK3.out; first | omega | exact Nat.le_refl _⟩, ⟨by (with_reducible repeat (first | apply Kd.R_alloc | apply Kd.R_drewN | apply Kd.R_drew)); exact Kd.R_mono (Kd.R_far (p := ⟨gb213, 4, none⟩) (Kd.R_far (p := ⟨gb213, 3, none⟩) (Kd.R_far (p := ⟨gb213, 2, none⟩) (Kd.R_far (p := ⟨gb213, 1, none⟩) (Kd.R_far (p := ⟨gb213, 0, none⟩) (Kd.R_types HO_6.out BK213.out (by decide)) (fun _ hk => hk.2) (.int .i64 ((rd_T49 l0_0 x10_3).f0))) (fun _ hk => hk.2) (.int .i64 ((rd_T49 l0_0 x10_3).f1))) (fun _ hk => hk.2) (.string ((rd_T49 l0_0 x10_3).f2))) (fun _ hk => hk.2) (.string ((rd_T49 l0_0 x10_3).f3))) (fun _ hk => hk.2) (.int .i64 ((rd_T49 l0_0 x10_3).f4))) (fun _ hk => ⟨hk.1.1, hk.1.2⟩)⟩, ⟨by (with_reducible repeat (first | apply Kd.R_alloc | apply Kd.R_drewN | apply Kd.R_drew)); exact Kd.R_mono (Kd.R_far (p := ⟨gb213, 4, none⟩) (Kd.R_far (p := ⟨gb213, 3, none⟩) (Kd.R_far (p := ⟨gb213, 2, none⟩) (Kd.R_far (p := ⟨gb213, 1, none⟩) (Kd.R_far (p := ⟨gb213, 0, none⟩) (Kd.R_types HO_203001.out BK213.out (by decide)) (fun _ hk => hk.2) (.int .i64 ((rd_T49 l0_0 x10_3).f0))) (fun _ hk => hk.2) (.int .i64 ((rd_T49 l0_0 x10_3).f1))) (fun _ hk => hk.2) (.string ((rd_T49 l0_0 x10_3).f2))) (fun _ hk => hk.2) (.string ((rd_T49 l0_0 x10_3).f3))) (fun _ hk => hk.2) (.int .i64 ((rd_T49 l0_0 x10_3).f4))) (fun _ hk => ⟨hk.1.1, hk.1.2⟩)⟩, ⟨by (with_reducible repeat (first | apply Kd.R_alloc | apply Kd.R_drewN | apply Kd.R_drew)); exact Kd.R_mono (Kd.R_far (p := ⟨gb213, 4, none⟩) (Kd.R_far (p := ⟨gb213, 3, none⟩) (Kd.R_far (p := ⟨gb213, 2, none⟩) (Kd.R_far (p := ⟨gb213, 1, none⟩) (Kd.R_far (p := ⟨gb213, 0, none⟩) (Kd.R_types HO_203002.out BK213.out (by decide)) (fun _ hk => hk.2) (.int .i64 ((rd_T49 l0_0 x10_3).f0))) (fun _ hk => hk.2) (.int .i64 ((rd_T49 l0_0 x10_3).f1))) (fun _ hk => hk.2) (.string ((rd_T49 l0_0 x10_3).f2))) (fun _ hk => hk.2) (.string ((rd_T49 l0_0 x10_3).f3))) (fun _ hk => hk.2) (.int .i64 ((rd_T49 l0_0 x10_3).f4))) (fun _ hk => ⟨hk.1.1, hk.1.2⟩)⟩, ⟨by (with_reducible repeat (first | refine blk_drewN ?_ _ | refine blk_drew ?_ | refine blk_alloc ?_ _)); refine blk_far ?_ NB191_213.out _; (with_reducible repeat (first | refine blk_drewN ?_ _ | refine blk_drew ?_ | refine blk_alloc ?_ _)); refine blk_far ?_ NB191_213.out _; (with_reducible repeat (first | refine blk_drewN ?_ _ | refine blk_drew ?_ | refine blk_alloc ?_ _)); refine blk_far ?_ NB191_213.out _; (with_reducible repeat (first | refine blk_drewN ?_ _ | refine blk_drew ?_ | refine blk_alloc ?_ _)); refine blk_far ?_ NB191_213.out _; (with_reducible repeat (first | refine blk_drewN ?_ _ | refine blk_drew ?_ | refine blk_alloc ?_ _)); refine blk_far ?_ NB191_213.out _; (with_reducible repeat (first | refine blk_drewN ?_ _ | refine blk_drew ?_ | refine blk_alloc ?_ _)); exact BK191.out⟩, ⟨by (with_reducible repeat (first | refine blk_drewN ?_ _ | refine blk_drew ?_ | refine blk_alloc ?_ _)); refine blk_far ?_ NB202_213.out _; (with_reducible repeat (first | refine blk_drewN ?_ _ | refine blk_drew ?_ | refine blk_alloc ?_ _)); refine blk_far ?_ NB202_213.out _; (with_reducible repeat (first | refine blk_drewN ?_ _ | refine blk_drew ?_ | refine blk_alloc ?_ _)); refine blk_far ?_ NB202_213.out _; (with_reducible repeat (first | refine blk_drewN ?_ _ | refine blk_drew ?_ | refine blk_alloc ?_ _)); refine blk_far ?_ NB202_213.out _; (with_reducible repeat (first | refine blk_drewN ?_ _ | refine blk_drew ?_ | refine blk_alloc ?_ _)); refine blk_far ?_ NB202_213.out _; (with_reducible repeat (first | refine blk_drewN ?_ _ | refine blk_drew ?_ | refine blk_alloc ?_ _)); exact BK202.out⟩, ⟨by (with_reducible repeat (first | refine blk_drewN ?_ _ | refine blk_drew ?_ | refine blk_alloc ?_ _)); refine blk_put (cs := #[.int .i64 ((rd_T49 l0_0 x10_3).f0), .int .i64 ((rd_T49 l0_0 x10_3).f1), .string ((rd_T49 l0_0 x10_3).f2), .string ((rd_T49 l0_0 x10_3).f3), .int .i64 0]) ?_ 4 _ rfl; (with_reducible repeat (first | refine blk_drewN ?_ _ | refine blk_drew ?_ | refine blk_alloc ?_ _)); refine blk_put (cs := #[.int .i64 ((rd_T49 l0_0 x10_3).f0), .int .i64 ((rd_T49 l0_0 x10_3).f1), .string ((rd_T49 l0_0 x10_3).f2), .string (⟨#[]⟩ : ByteArray), .int .i64 0]) ?_ 3 _ rfl; (with_reducible repeat (first | refine blk_drewN ?_ _ | refine blk_drew ?_ | refine blk_alloc ?_ _)); refine blk_put (cs := #[.int .i64 ((rd_T49 l0_0 x10_3).f0), .int .i64 ((rd_T49 l0_0 x10_3).f1), .string (⟨#[]⟩ : ByteArray), .string (⟨#[]⟩ : ByteArray), .int .i64 0]) ?_ 2 _ rfl; (with_reducible repeat (first | refine blk_drewN ?_ _ | refine blk_drew ?_ | refine blk_alloc ?_ _)); refine blk_put (cs := #[.int .i64 ((rd_T49 l0_0 x10_3).f0), .int .i64 0, .string (⟨#[]⟩ : ByteArray), .string (⟨#[]⟩ : ByteArray), .int .i64 0]) ?_ 1 _ rfl; (with_reducible repeat (first | refine blk_drewN ?_ _ | refine blk_drew ?_ | refine blk_alloc ?_ _)); refine blk_put (cs := #[.int .i64 0, .int .i64 0, .string (⟨#[]⟩ : ByteArray), .string (⟨#[]⟩ : ByteArray), .int .i64 0]) ?_ 0 _ rfl; (with_reducible repeat (first | refine blk_drewN ?_ _ | refine blk_drew ?_ | refine blk_alloc ?_ _)); exact BK213.out⟩, ⟨by repeat (first | (with_reducible first | exact HB.out | apply below_alloc | apply pw_below_drewN | apply below_drew1 | refine below_set ?_ GE191.out | refine below_set ?_ GE202.out | refine below_set ?_ GE213.out) | exact HB.out)⟩⟩
                  subst c81
                  have H1 : (palinodelaw16_PickJobs.j4 k3 t192 y207 x9_3 x10_3 false true (((rd_T49 l0_0 x10_3).f1) != (wrap64 (t193 + 1))) l0_0 l0_1 a0_2 t193 t194 t197 t200 ((rd_T49 l0_0 x10_3).f0) ((rd_T49 l0_0 x10_3).f1) ((rd_T49 l0_0 x10_3).f2) ((rd_T49 l0_0 x10_3).f3) ((rd_T49 l0_0 x10_3).f4)) = some r := by rw [if_pos rfl] at H; exact H
                  clear H
                  have H := H1
                  clear H1
                  have H' := Aside0.mk H
                  clear H
                  have hnb82 := NB213_191.out
                  have hnc82 := NB191_213.out
                  have hnb83 := NB213_202.out
                  have hnc83 := NB202_213.out
                  have hcz84_0 : w58.cell? ⟨gb213, 0, none⟩ = some (.int .i64 0) := (blk_cell BK213.out 0).trans rfl
                  have hcz84_1 : w58.cell? ⟨gb213, 1, none⟩ = some (.int .i64 0) := (blk_cell BK213.out 1).trans rfl
                  have hcz84_2 : w58.cell? ⟨gb213, 2, none⟩ = some (.string (⟨#[]⟩ : ByteArray)) := (blk_cell BK213.out 2).trans rfl
                  have hcz84_3 : w58.cell? ⟨gb213, 3, none⟩ = some (.string (⟨#[]⟩ : ByteArray)) := (blk_cell BK213.out 3).trans rfl
                  have hcz84_4 : w58.cell? ⟨gb213, 4, none⟩ = some (.int .i64 0) := (blk_cell BK213.out 4).trans rfl
                  have hfz84_0 := blk_frozen BK213.out 0
                  have hfz84_1 := blk_frozen BK213.out 1
                  have hfz84_2 := blk_frozen BK213.out 2
                  have hfz84_3 := blk_frozen BK213.out 3
                  have hfz84_4 := blk_frozen BK213.out 4
                  have hnb85 := NB202_191.out
                  have hnc85 := NB191_202.out
                  have hcz86_0 : w58.cell? ⟨gb202, 0, none⟩ = some (.int .i64 t193) := (blk_cell BK202.out 0).trans rfl
                  have hcz86_1 : w58.cell? ⟨gb202, 1, none⟩ = some (.slice Ao13 t194.length co13) := (blk_cell BK202.out 1).trans rfl
                  have hcz86_2 : w58.cell? ⟨gb202, 2, none⟩ = some (.slice Ao14 t197.length co14) := (blk_cell BK202.out 2).trans rfl
                  have hcz86_3 : w58.cell? ⟨gb202, 3, none⟩ = some (.bool t200) := (blk_cell BK202.out 3).trans rfl
                  have hfz86_0 := blk_frozen BK202.out 0
                  have hfz86_1 := blk_frozen BK202.out 1
                  have hfz86_2 := blk_frozen BK202.out 2
                  have hfz86_3 := blk_frozen BK202.out 3
                  go_wp2
                  go_meet
                  case rel => exact ⟨_, ((((rd_T49 l0_0 x10_3).f1) != (wrap64 (t193 + 1)))), (by first | rfl | (simp; done) | (simp [*]; done)), H', ⟨by have := HJ4.out; have := HK2.out; have := HK3.out; first | omega | exact Nat.le_refl _⟩, ⟨by (with_reducible repeat (first | apply Kd.R_alloc | apply Kd.R_drewN | apply Kd.R_drew)); exact Kd.R_mono (Kd.R_far (p := ⟨gb213, 4, none⟩) (Kd.R_far (p := ⟨gb213, 3, none⟩) (Kd.R_far (p := ⟨gb213, 2, none⟩) (Kd.R_far (p := ⟨gb213, 1, none⟩) (Kd.R_far (p := ⟨gb213, 0, none⟩) (Kd.R_types HO_6.out BK213.out (by decide)) (fun _ hk => hk.2) (.int .i64 ((rd_T49 l0_0 x10_3).f0))) (fun _ hk => hk.2) (.int .i64 ((rd_T49 l0_0 x10_3).f1))) (fun _ hk => hk.2) (.string ((rd_T49 l0_0 x10_3).f2))) (fun _ hk => hk.2) (.string ((rd_T49 l0_0 x10_3).f3))) (fun _ hk => hk.2) (.int .i64 ((rd_T49 l0_0 x10_3).f4))) (fun _ hk => ⟨hk.1.1, hk.1.2⟩)⟩, ⟨by (with_reducible repeat (first | apply Kd.R_alloc | apply Kd.R_drewN | apply Kd.R_drew)); exact Kd.R_mono (Kd.R_far (p := ⟨gb213, 4, none⟩) (Kd.R_far (p := ⟨gb213, 3, none⟩) (Kd.R_far (p := ⟨gb213, 2, none⟩) (Kd.R_far (p := ⟨gb213, 1, none⟩) (Kd.R_far (p := ⟨gb213, 0, none⟩) (Kd.R_types HO_203001.out BK213.out (by decide)) (fun _ hk => hk.2) (.int .i64 ((rd_T49 l0_0 x10_3).f0))) (fun _ hk => hk.2) (.int .i64 ((rd_T49 l0_0 x10_3).f1))) (fun _ hk => hk.2) (.string ((rd_T49 l0_0 x10_3).f2))) (fun _ hk => hk.2) (.string ((rd_T49 l0_0 x10_3).f3))) (fun _ hk => hk.2) (.int .i64 ((rd_T49 l0_0 x10_3).f4))) (fun _ hk => ⟨hk.1.1, hk.1.2⟩)⟩, ⟨by (with_reducible repeat (first | apply Kd.R_alloc | apply Kd.R_drewN | apply Kd.R_drew)); exact Kd.R_mono (Kd.R_far (p := ⟨gb213, 4, none⟩) (Kd.R_far (p := ⟨gb213, 3, none⟩) (Kd.R_far (p := ⟨gb213, 2, none⟩) (Kd.R_far (p := ⟨gb213, 1, none⟩) (Kd.R_far (p := ⟨gb213, 0, none⟩) (Kd.R_types HO_203002.out BK213.out (by decide)) (fun _ hk => hk.2) (.int .i64 ((rd_T49 l0_0 x10_3).f0))) (fun _ hk => hk.2) (.int .i64 ((rd_T49 l0_0 x10_3).f1))) (fun _ hk => hk.2) (.string ((rd_T49 l0_0 x10_3).f2))) (fun _ hk => hk.2) (.string ((rd_T49 l0_0 x10_3).f3))) (fun _ hk => hk.2) (.int .i64 ((rd_T49 l0_0 x10_3).f4))) (fun _ hk => ⟨hk.1.1, hk.1.2⟩)⟩, ⟨by (with_reducible repeat (first | refine blk_drewN ?_ _ | refine blk_drew ?_ | refine blk_alloc ?_ _)); refine blk_far ?_ NB191_213.out _; (with_reducible repeat (first | refine blk_drewN ?_ _ | refine blk_drew ?_ | refine blk_alloc ?_ _)); refine blk_far ?_ NB191_213.out _; (with_reducible repeat (first | refine blk_drewN ?_ _ | refine blk_drew ?_ | refine blk_alloc ?_ _)); refine blk_far ?_ NB191_213.out _; (with_reducible repeat (first | refine blk_drewN ?_ _ | refine blk_drew ?_ | refine blk_alloc ?_ _)); refine blk_far ?_ NB191_213.out _; (with_reducible repeat (first | refine blk_drewN ?_ _ | refine blk_drew ?_ | refine blk_alloc ?_ _)); refine blk_far ?_ NB191_213.out _; (with_reducible repeat (first | refine blk_drewN ?_ _ | refine blk_drew ?_ | refine blk_alloc ?_ _)); exact BK191.out⟩, ⟨by (with_reducible repeat (first | refine blk_drewN ?_ _ | refine blk_drew ?_ | refine blk_alloc ?_ _)); refine blk_far ?_ NB202_213.out _; (with_reducible repeat (first | refine blk_drewN ?_ _ | refine blk_drew ?_ | refine blk_alloc ?_ _)); refine blk_far ?_ NB202_213.out _; (with_reducible repeat (first | refine blk_drewN ?_ _ | refine blk_drew ?_ | refine blk_alloc ?_ _)); refine blk_far ?_ NB202_213.out _; (with_reducible repeat (first | refine blk_drewN ?_ _ | refine blk_drew ?_ | refine blk_alloc ?_ _)); refine blk_far ?_ NB202_213.out _; (with_reducible repeat (first | refine blk_drewN ?_ _ | refine blk_drew ?_ | refine blk_alloc ?_ _)); refine blk_far ?_ NB202_213.out _; (with_reducible repeat (first | refine blk_drewN ?_ _ | refine blk_drew ?_ | refine blk_alloc ?_ _)); exact BK202.out⟩, ⟨by (with_reducible repeat (first | refine blk_drewN ?_ _ | refine blk_drew ?_ | refine blk_alloc ?_ _)); refine blk_put (cs := #[.int .i64 ((rd_T49 l0_0 x10_3).f0), .int .i64 ((rd_T49 l0_0 x10_3).f1), .string ((rd_T49 l0_0 x10_3).f2), .string ((rd_T49 l0_0 x10_3).f3), .int .i64 0]) ?_ 4 _ rfl; (with_reducible repeat (first | refine blk_drewN ?_ _ | refine blk_drew ?_ | refine blk_alloc ?_ _)); refine blk_put (cs := #[.int .i64 ((rd_T49 l0_0 x10_3).f0), .int .i64 ((rd_T49 l0_0 x10_3).f1), .string ((rd_T49 l0_0 x10_3).f2), .string (⟨#[]⟩ : ByteArray), .int .i64 0]) ?_ 3 _ rfl; (with_reducible repeat (first | refine blk_drewN ?_ _ | refine blk_drew ?_ | refine blk_alloc ?_ _)); refine blk_put (cs := #[.int .i64 ((rd_T49 l0_0 x10_3).f0), .int .i64 ((rd_T49 l0_0 x10_3).f1), .string (⟨#[]⟩ : ByteArray), .string (⟨#[]⟩ : ByteArray), .int .i64 0]) ?_ 2 _ rfl; (with_reducible repeat (first | refine blk_drewN ?_ _ | refine blk_drew ?_ | refine blk_alloc ?_ _)); refine blk_put (cs := #[.int .i64 ((rd_T49 l0_0 x10_3).f0), .int .i64 0, .string (⟨#[]⟩ : ByteArray), .string (⟨#[]⟩ : ByteArray), .int .i64 0]) ?_ 1 _ rfl; (with_reducible repeat (first | refine blk_drewN ?_ _ | refine blk_drew ?_ | refine blk_alloc ?_ _)); refine blk_put (cs := #[.int .i64 0, .int .i64 0, .string (⟨#[]⟩ : ByteArray), .string (⟨#[]⟩ : ByteArray), .int .i64 0]) ?_ 0 _ rfl; (with_reducible repeat (first | refine blk_drewN ?_ _ | refine blk_drew ?_ | refine blk_alloc ?_ _)); exact BK213.out⟩, ⟨by repeat (first | (with_reducible first | exact HB.out | apply below_alloc | apply pw_below_drewN | apply below_drew1 | refine below_set ?_ GE191.out | refine below_set ?_ GE202.out | refine below_set ?_ GE213.out) | exact HB.out)⟩⟩
                subst c63
                have H1 : (if ((rd_T49 l0_0 x10_3).f1) = t193 then (if t215 = true then (palinodelaw16_PickJobs.j4 k3 t192 y207 x9_3 x10_3 true t215 (((rd_T49 l0_0 x10_3).f1) != (wrap64 (t193 + 1))) l0_0 l0_1 a0_2 t193 t194 t197 t200 ((rd_T49 l0_0 x10_3).f0) ((rd_T49 l0_0 x10_3).f1) ((rd_T49 l0_0 x10_3).f2) ((rd_T49 l0_0 x10_3).f3) ((rd_T49 l0_0 x10_3).f4)) else (palinodelaw16_PickJobs.j4 k3 t192 y207 x9_3 x10_3 true t215 false l0_0 l0_1 a0_2 t193 t194 t197 t200 ((rd_T49 l0_0 x10_3).f0) ((rd_T49 l0_0 x10_3).f1) ((rd_T49 l0_0 x10_3).f2) ((rd_T49 l0_0 x10_3).f3) ((rd_T49 l0_0 x10_3).f4))) else (palinodelaw16_PickJobs.j4 k3 t192 y207 x9_3 x10_3 true t215 true l0_0 l0_1 a0_2 t193 t194 t197 t200 ((rd_T49 l0_0 x10_3).f0) ((rd_T49 l0_0 x10_3).f1) ((rd_T49 l0_0 x10_3).f2) ((rd_T49 l0_0 x10_3).f3) ((rd_T49 l0_0 x10_3).f4))) = some r := by rw [if_pos rfl] at H; exact H
                clear H
                have H := H1
                clear H1
                by_cases c64 : ((rd_T49 l0_0 x10_3).f1) = t193
                rotate_left
                · rw [if_neg c64] at H
                  have c64b0 : (((rd_T49 l0_0 x10_3).f1) == t193) = false := beq_eq_false_iff_ne.mpr c64
                  have c64b1 : (((rd_T49 l0_0 x10_3).f1) != t193) = true := bne_iff_ne.mpr c64
                  (first | rw [c64b0] | (simp only [i64_w, i32_w]; rw [c64b0]) | skip)
                  have H' := Aside0.mk H
                  clear H
                  have hnb76 := NB213_191.out
                  have hnc76 := NB191_213.out
                  have hnb77 := NB213_202.out
                  have hnc77 := NB202_213.out
                  have hcz78_0 : w58.cell? ⟨gb213, 0, none⟩ = some (.int .i64 0) := (blk_cell BK213.out 0).trans rfl
                  have hcz78_1 : w58.cell? ⟨gb213, 1, none⟩ = some (.int .i64 0) := (blk_cell BK213.out 1).trans rfl
                  have hcz78_2 : w58.cell? ⟨gb213, 2, none⟩ = some (.string (⟨#[]⟩ : ByteArray)) := (blk_cell BK213.out 2).trans rfl
                  have hcz78_3 : w58.cell? ⟨gb213, 3, none⟩ = some (.string (⟨#[]⟩ : ByteArray)) := (blk_cell BK213.out 3).trans rfl
                  have hcz78_4 : w58.cell? ⟨gb213, 4, none⟩ = some (.int .i64 0) := (blk_cell BK213.out 4).trans rfl
                  have hfz78_0 := blk_frozen BK213.out 0
                  have hfz78_1 := blk_frozen BK213.out 1
                  have hfz78_2 := blk_frozen BK213.out 2
                  have hfz78_3 := blk_frozen BK213.out 3
                  have hfz78_4 := blk_frozen BK213.out 4
                  have hnb79 := NB202_191.out
                  have hnc79 := NB191_202.out
                  have hcz80_0 : w58.cell? ⟨gb202, 0, none⟩ = some (.int .i64 t193) := (blk_cell BK202.out 0).trans rfl
                  have hcz80_1 : w58.cell? ⟨gb202, 1, none⟩ = some (.slice Ao13 t194.length co13) := (blk_cell BK202.out 1).trans rfl
                  have hcz80_2 : w58.cell? ⟨gb202, 2, none⟩ = some (.slice Ao14 t197.length co14) := (blk_cell BK202.out 2).trans rfl
                  have hcz80_3 : w58.cell? ⟨gb202, 3, none⟩ = some (.bool t200) := (blk_cell BK202.out 3).trans rfl
                  have hfz80_0 := blk_frozen BK202.out 0
                  have hfz80_1 := blk_frozen BK202.out 1
                  have hfz80_2 := blk_frozen BK202.out 2
                  have hfz80_3 := blk_frozen BK202.out 3
                  go_wp2
                  go_meet
                  case rel => exact ⟨_, (true), (by first | rfl | (simp; done) | (simp [*]; done)), H', ⟨by have := HJ4.out; have := HK2.out; have := HK3.out; first | omega | exact Nat.le_refl _⟩, ⟨by (with_reducible repeat (first | apply Kd.R_alloc | apply Kd.R_drewN | apply Kd.R_drew)); exact Kd.R_mono (Kd.R_far (p := ⟨gb213, 4, none⟩) (Kd.R_far (p := ⟨gb213, 3, none⟩) (Kd.R_far (p := ⟨gb213, 2, none⟩) (Kd.R_far (p := ⟨gb213, 1, none⟩) (Kd.R_far (p := ⟨gb213, 0, none⟩) (Kd.R_types HO_6.out BK213.out (by decide)) (fun _ hk => hk.2) (.int .i64 ((rd_T49 l0_0 x10_3).f0))) (fun _ hk => hk.2) (.int .i64 ((rd_T49 l0_0 x10_3).f1))) (fun _ hk => hk.2) (.string ((rd_T49 l0_0 x10_3).f2))) (fun _ hk => hk.2) (.string ((rd_T49 l0_0 x10_3).f3))) (fun _ hk => hk.2) (.int .i64 ((rd_T49 l0_0 x10_3).f4))) (fun _ hk => ⟨hk.1.1, hk.1.2⟩)⟩, ⟨by (with_reducible repeat (first | apply Kd.R_alloc | apply Kd.R_drewN | apply Kd.R_drew)); exact Kd.R_mono (Kd.R_far (p := ⟨gb213, 4, none⟩) (Kd.R_far (p := ⟨gb213, 3, none⟩) (Kd.R_far (p := ⟨gb213, 2, none⟩) (Kd.R_far (p := ⟨gb213, 1, none⟩) (Kd.R_far (p := ⟨gb213, 0, none⟩) (Kd.R_types HO_203001.out BK213.out (by decide)) (fun _ hk => hk.2) (.int .i64 ((rd_T49 l0_0 x10_3).f0))) (fun _ hk => hk.2) (.int .i64 ((rd_T49 l0_0 x10_3).f1))) (fun _ hk => hk.2) (.string ((rd_T49 l0_0 x10_3).f2))) (fun _ hk => hk.2) (.string ((rd_T49 l0_0 x10_3).f3))) (fun _ hk => hk.2) (.int .i64 ((rd_T49 l0_0 x10_3).f4))) (fun _ hk => ⟨hk.1.1, hk.1.2⟩)⟩, ⟨by (with_reducible repeat (first | apply Kd.R_alloc | apply Kd.R_drewN | apply Kd.R_drew)); exact Kd.R_mono (Kd.R_far (p := ⟨gb213, 4, none⟩) (Kd.R_far (p := ⟨gb213, 3, none⟩) (Kd.R_far (p := ⟨gb213, 2, none⟩) (Kd.R_far (p := ⟨gb213, 1, none⟩) (Kd.R_far (p := ⟨gb213, 0, none⟩) (Kd.R_types HO_203002.out BK213.out (by decide)) (fun _ hk => hk.2) (.int .i64 ((rd_T49 l0_0 x10_3).f0))) (fun _ hk => hk.2) (.int .i64 ((rd_T49 l0_0 x10_3).f1))) (fun _ hk => hk.2) (.string ((rd_T49 l0_0 x10_3).f2))) (fun _ hk => hk.2) (.string ((rd_T49 l0_0 x10_3).f3))) (fun _ hk => hk.2) (.int .i64 ((rd_T49 l0_0 x10_3).f4))) (fun _ hk => ⟨hk.1.1, hk.1.2⟩)⟩, ⟨by (with_reducible repeat (first | refine blk_drewN ?_ _ | refine blk_drew ?_ | refine blk_alloc ?_ _)); refine blk_far ?_ NB191_213.out _; (with_reducible repeat (first | refine blk_drewN ?_ _ | refine blk_drew ?_ | refine blk_alloc ?_ _)); refine blk_far ?_ NB191_213.out _; (with_reducible repeat (first | refine blk_drewN ?_ _ | refine blk_drew ?_ | refine blk_alloc ?_ _)); refine blk_far ?_ NB191_213.out _; (with_reducible repeat (first | refine blk_drewN ?_ _ | refine blk_drew ?_ | refine blk_alloc ?_ _)); refine blk_far ?_ NB191_213.out _; (with_reducible repeat (first | refine blk_drewN ?_ _ | refine blk_drew ?_ | refine blk_alloc ?_ _)); refine blk_far ?_ NB191_213.out _; (with_reducible repeat (first | refine blk_drewN ?_ _ | refine blk_drew ?_ | refine blk_alloc ?_ _)); exact BK191.out⟩, ⟨by (with_reducible repeat (first | refine blk_drewN ?_ _ | refine blk_drew ?_ | refine blk_alloc ?_ _)); refine blk_far ?_ NB202_213.out _; (with_reducible repeat (first | refine blk_drewN ?_ _ | refine blk_drew ?_ | refine blk_alloc ?_ _)); refine blk_far ?_ NB202_213.out _; (with_reducible repeat (first | refine blk_drewN ?_ _ | refine blk_drew ?_ | refine blk_alloc ?_ _)); refine blk_far ?_ NB202_213.out _; (with_reducible repeat (first | refine blk_drewN ?_ _ | refine blk_drew ?_ | refine blk_alloc ?_ _)); refine blk_far ?_ NB202_213.out _; (with_reducible repeat (first | refine blk_drewN ?_ _ | refine blk_drew ?_ | refine blk_alloc ?_ _)); refine blk_far ?_ NB202_213.out _; (with_reducible repeat (first | refine blk_drewN ?_ _ | refine blk_drew ?_ | refine blk_alloc ?_ _)); exact BK202.out⟩, ⟨by (with_reducible repeat (first | refine blk_drewN ?_ _ | refine blk_drew ?_ | refine blk_alloc ?_ _)); refine blk_put (cs := #[.int .i64 ((rd_T49 l0_0 x10_3).f0), .int .i64 ((rd_T49 l0_0 x10_3).f1), .string ((rd_T49 l0_0 x10_3).f2), .string ((rd_T49 l0_0 x10_3).f3), .int .i64 0]) ?_ 4 _ rfl; (with_reducible repeat (first | refine blk_drewN ?_ _ | refine blk_drew ?_ | refine blk_alloc ?_ _)); refine blk_put (cs := #[.int .i64 ((rd_T49 l0_0 x10_3).f0), .int .i64 ((rd_T49 l0_0 x10_3).f1), .string ((rd_T49 l0_0 x10_3).f2), .string (⟨#[]⟩ : ByteArray), .int .i64 0]) ?_ 3 _ rfl; (with_reducible repeat (first | refine blk_drewN ?_ _ | refine blk_drew ?_ | refine blk_alloc ?_ _)); refine blk_put (cs := #[.int .i64 ((rd_T49 l0_0 x10_3).f0), .int .i64 ((rd_T49 l0_0 x10_3).f1), .string (⟨#[]⟩ : ByteArray), .string (⟨#[]⟩ : ByteArray), .int .i64 0]) ?_ 2 _ rfl; (with_reducible repeat (first | refine blk_drewN ?_ _ | refine blk_drew ?_ | refine blk_alloc ?_ _)); refine blk_put (cs := #[.int .i64 ((rd_T49 l0_0 x10_3).f0), .int .i64 0, .string (⟨#[]⟩ : ByteArray), .string (⟨#[]⟩ : ByteArray), .int .i64 0]) ?_ 1 _ rfl; (with_reducible repeat (first | refine blk_drewN ?_ _ | refine blk_drew ?_ | refine blk_alloc ?_ _)); refine blk_put (cs := #[.int .i64 0, .int .i64 0, .string (⟨#[]⟩ : ByteArray), .string (⟨#[]⟩ : ByteArray), .int .i64 0]) ?_ 0 _ rfl; (with_reducible repeat (first | refine blk_drewN ?_ _ | refine blk_drew ?_ | refine blk_alloc ?_ _)); exact BK213.out⟩, ⟨by repeat (first | (with_reducible first | exact HB.out | apply below_alloc | apply pw_below_drewN | apply below_drew1 | refine below_set ?_ GE191.out | refine below_set ?_ GE202.out | refine below_set ?_ GE213.out) | exact HB.out)⟩⟩
                rw [if_pos c64] at H
                have c64b0 : (((rd_T49 l0_0 x10_3).f1) == t193) = true := beq_iff_eq.mpr c64
                have c64b1 : (((rd_T49 l0_0 x10_3).f1) != t193) = false := bne_eq_false_iff_eq.mpr c64
                clear c64
                (first | rw [c64b0] | (simp only [i64_w, i32_w]; rw [c64b0]) | skip)
                by_cases c65 : t215 = true
                · subst c65
                  have H1 : (palinodelaw16_PickJobs.j4 k3 t192 y207 x9_3 x10_3 true true (((rd_T49 l0_0 x10_3).f1) != (wrap64 (t193 + 1))) l0_0 l0_1 a0_2 t193 t194 t197 t200 ((rd_T49 l0_0 x10_3).f0) ((rd_T49 l0_0 x10_3).f1) ((rd_T49 l0_0 x10_3).f2) ((rd_T49 l0_0 x10_3).f3) ((rd_T49 l0_0 x10_3).f4)) = some r := by rw [if_pos rfl] at H; exact H
                  clear H
                  have H := H1
                  clear H1
                  have H' := Aside0.mk H
                  clear H
                  have hnb66 := NB213_191.out
                  have hnc66 := NB191_213.out
                  have hnb67 := NB213_202.out
                  have hnc67 := NB202_213.out
                  have hcz68_0 : w58.cell? ⟨gb213, 0, none⟩ = some (.int .i64 0) := (blk_cell BK213.out 0).trans rfl
                  have hcz68_1 : w58.cell? ⟨gb213, 1, none⟩ = some (.int .i64 0) := (blk_cell BK213.out 1).trans rfl
                  have hcz68_2 : w58.cell? ⟨gb213, 2, none⟩ = some (.string (⟨#[]⟩ : ByteArray)) := (blk_cell BK213.out 2).trans rfl
                  have hcz68_3 : w58.cell? ⟨gb213, 3, none⟩ = some (.string (⟨#[]⟩ : ByteArray)) := (blk_cell BK213.out 3).trans rfl
                  have hcz68_4 : w58.cell? ⟨gb213, 4, none⟩ = some (.int .i64 0) := (blk_cell BK213.out 4).trans rfl
                  have hfz68_0 := blk_frozen BK213.out 0
                  have hfz68_1 := blk_frozen BK213.out 1
                  have hfz68_2 := blk_frozen BK213.out 2
                  have hfz68_3 := blk_frozen BK213.out 3
                  have hfz68_4 := blk_frozen BK213.out 4
                  have hnb69 := NB202_191.out
                  have hnc69 := NB191_202.out
                  have hcz70_0 : w58.cell? ⟨gb202, 0, none⟩ = some (.int .i64 t193) := (blk_cell BK202.out 0).trans rfl
                  have hcz70_1 : w58.cell? ⟨gb202, 1, none⟩ = some (.slice Ao13 t194.length co13) := (blk_cell BK202.out 1).trans rfl
                  have hcz70_2 : w58.cell? ⟨gb202, 2, none⟩ = some (.slice Ao14 t197.length co14) := (blk_cell BK202.out 2).trans rfl
                  have hcz70_3 : w58.cell? ⟨gb202, 3, none⟩ = some (.bool t200) := (blk_cell BK202.out 3).trans rfl
                  have hfz70_0 := blk_frozen BK202.out 0
                  have hfz70_1 := blk_frozen BK202.out 1
                  have hfz70_2 := blk_frozen BK202.out 2
                  have hfz70_3 := blk_frozen BK202.out 3
                  go_wp2
                  go_meet
                  case rel => exact ⟨_, ((((rd_T49 l0_0 x10_3).f1) != (wrap64 (t193 + 1)))), (by first | rfl | (simp; done) | (simp [*]; done)), H', ⟨by have := HJ4.out; have := HK2.out; have := HK3.out; first | omega | exact Nat.le_refl _⟩, ⟨by (with_reducible repeat (first | apply Kd.R_alloc | apply Kd.R_drewN | apply Kd.R_drew)); exact Kd.R_mono (Kd.R_far (p := ⟨gb213, 4, none⟩) (Kd.R_far (p := ⟨gb213, 3, none⟩) (Kd.R_far (p := ⟨gb213, 2, none⟩) (Kd.R_far (p := ⟨gb213, 1, none⟩) (Kd.R_far (p := ⟨gb213, 0, none⟩) (Kd.R_types HO_6.out BK213.out (by decide)) (fun _ hk => hk.2) (.int .i64 ((rd_T49 l0_0 x10_3).f0))) (fun _ hk => hk.2) (.int .i64 ((rd_T49 l0_0 x10_3).f1))) (fun _ hk => hk.2) (.string ((rd_T49 l0_0 x10_3).f2))) (fun _ hk => hk.2) (.string ((rd_T49 l0_0 x10_3).f3))) (fun _ hk => hk.2) (.int .i64 ((rd_T49 l0_0 x10_3).f4))) (fun _ hk => ⟨hk.1.1, hk.1.2⟩)⟩, ⟨by (with_reducible repeat (first | apply Kd.R_alloc | apply Kd.R_drewN | apply Kd.R_drew)); exact Kd.R_mono (Kd.R_far (p := ⟨gb213, 4, none⟩) (Kd.R_far (p := ⟨gb213, 3, none⟩) (Kd.R_far (p := ⟨gb213, 2, none⟩) (Kd.R_far (p := ⟨gb213, 1, none⟩) (Kd.R_far (p := ⟨gb213, 0, none⟩) (Kd.R_types HO_203001.out BK213.out (by decide)) (fun _ hk => hk.2) (.int .i64 ((rd_T49 l0_0 x10_3).f0))) (fun _ hk => hk.2) (.int .i64 ((rd_T49 l0_0 x10_3).f1))) (fun _ hk => hk.2) (.string ((rd_T49 l0_0 x10_3).f2))) (fun _ hk => hk.2) (.string ((rd_T49 l0_0 x10_3).f3))) (fun _ hk => hk.2) (.int .i64 ((rd_T49 l0_0 x10_3).f4))) (fun _ hk => ⟨hk.1.1, hk.1.2⟩)⟩, ⟨by (with_reducible repeat (first | apply Kd.R_alloc | apply Kd.R_drewN | apply Kd.R_drew)); exact Kd.R_mono (Kd.R_far (p := ⟨gb213, 4, none⟩) (Kd.R_far (p := ⟨gb213, 3, none⟩) (Kd.R_far (p := ⟨gb213, 2, none⟩) (Kd.R_far (p := ⟨gb213, 1, none⟩) (Kd.R_far (p := ⟨gb213, 0, none⟩) (Kd.R_types HO_203002.out BK213.out (by decide)) (fun _ hk => hk.2) (.int .i64 ((rd_T49 l0_0 x10_3).f0))) (fun _ hk => hk.2) (.int .i64 ((rd_T49 l0_0 x10_3).f1))) (fun _ hk => hk.2) (.string ((rd_T49 l0_0 x10_3).f2))) (fun _ hk => hk.2) (.string ((rd_T49 l0_0 x10_3).f3))) (fun _ hk => hk.2) (.int .i64 ((rd_T49 l0_0 x10_3).f4))) (fun _ hk => ⟨hk.1.1, hk.1.2⟩)⟩, ⟨by (with_reducible repeat (first | refine blk_drewN ?_ _ | refine blk_drew ?_ | refine blk_alloc ?_ _)); refine blk_far ?_ NB191_213.out _; (with_reducible repeat (first | refine blk_drewN ?_ _ | refine blk_drew ?_ | refine blk_alloc ?_ _)); refine blk_far ?_ NB191_213.out _; (with_reducible repeat (first | refine blk_drewN ?_ _ | refine blk_drew ?_ | refine blk_alloc ?_ _)); refine blk_far ?_ NB191_213.out _; (with_reducible repeat (first | refine blk_drewN ?_ _ | refine blk_drew ?_ | refine blk_alloc ?_ _)); refine blk_far ?_ NB191_213.out _; (with_reducible repeat (first | refine blk_drewN ?_ _ | refine blk_drew ?_ | refine blk_alloc ?_ _)); refine blk_far ?_ NB191_213.out _; (with_reducible repeat (first | refine blk_drewN ?_ _ | refine blk_drew ?_ | refine blk_alloc ?_ _)); exact BK191.out⟩, ⟨by (with_reducible repeat (first | refine blk_drewN ?_ _ | refine blk_drew ?_ | refine blk_alloc ?_ _)); refine blk_far ?_ NB202_213.out _; (with_reducible repeat (first | refine blk_drewN ?_ _ | refine blk_drew ?_ | refine blk_alloc ?_ _)); refine blk_far ?_ NB202_213.out _; (with_reducible repeat (first | refine blk_drewN ?_ _ | refine blk_drew ?_ | refine blk_alloc ?_ _)); refine blk_far ?_ NB202_213.out _; (with_reducible repeat (first | refine blk_drewN ?_ _ | refine blk_drew ?_ | refine blk_alloc ?_ _)); refine blk_far ?_ NB202_213.out _; (with_reducible repeat (first | refine blk_drewN ?_ _ | refine blk_drew ?_ | refine blk_alloc ?_ _)); refine blk_far ?_ NB202_213.out _; (with_reducible repeat (first | refine blk_drewN ?_ _ | refine blk_drew ?_ | refine blk_alloc ?_ _)); exact BK202.out⟩, ⟨by (with_reducible repeat (first | refine blk_drewN ?_ _ | refine blk_drew ?_ | refine blk_alloc ?_ _)); refine blk_put (cs := #[.int .i64 ((rd_T49 l0_0 x10_3).f0), .int .i64 ((rd_T49 l0_0 x10_3).f1), .string ((rd_T49 l0_0 x10_3).f2), .string ((rd_T49 l0_0 x10_3).f3), .int .i64 0]) ?_ 4 _ rfl; (with_reducible repeat (first | refine blk_drewN ?_ _ | refine blk_drew ?_ | refine blk_alloc ?_ _)); refine blk_put (cs := #[.int .i64 ((rd_T49 l0_0 x10_3).f0), .int .i64 ((rd_T49 l0_0 x10_3).f1), .string ((rd_T49 l0_0 x10_3).f2), .string (⟨#[]⟩ : ByteArray), .int .i64 0]) ?_ 3 _ rfl; (with_reducible repeat (first | refine blk_drewN ?_ _ | refine blk_drew ?_ | refine blk_alloc ?_ _)); refine blk_put (cs := #[.int .i64 ((rd_T49 l0_0 x10_3).f0), .int .i64 ((rd_T49 l0_0 x10_3).f1), .string (⟨#[]⟩ : ByteArray), .string (⟨#[]⟩ : ByteArray), .int .i64 0]) ?_ 2 _ rfl; (with_reducible repeat (first | refine blk_drewN ?_ _ | refine blk_drew ?_ | refine blk_alloc ?_ _)); refine blk_put (cs := #[.int .i64 ((rd_T49 l0_0 x10_3).f0), .int .i64 0, .string (⟨#[]⟩ : ByteArray), .string (⟨#[]⟩ : ByteArray), .int .i64 0]) ?_ 1 _ rfl; (with_reducible repeat (first | refine blk_drewN ?_ _ | refine blk_drew ?_ | refine blk_alloc ?_ _)); refine blk_put (cs := #[.int .i64 0, .int .i64 0, .string (⟨#[]⟩ : ByteArray), .string (⟨#[]⟩ : ByteArray), .int .i64 0]) ?_ 0 _ rfl; (with_reducible repeat (first | refine blk_drewN ?_ _ | refine blk_drew ?_ | refine blk_alloc ?_ _)); exact BK213.out⟩, ⟨by repeat (first | (with_reducible first | exact HB.out | apply below_alloc | apply pw_below_drewN | apply below_drew1 | refine below_set ?_ GE191.out | refine below_set ?_ GE202.out | refine below_set ?_ GE213.out) | exact HB.out)⟩⟩
                replace c65 := Bool.eq_false_iff.mpr c65
                subst c65
                have H1 : (palinodelaw16_PickJobs.j4 k3 t192 y207 x9_3 x10_3 true false false l0_0 l0_1 a0_2 t193 t194 t197 t200 ((rd_T49 l0_0 x10_3).f0) ((rd_T49 l0_0 x10_3).f1) ((rd_T49 l0_0 x10_3).f2) ((rd_T49 l0_0 x10_3).f3) ((rd_T49 l0_0 x10_3).f4)) = some r := by rw [if_neg (show ¬ (false = true) by decide)] at H; exact H
                clear H
                have H := H1
                clear H1
                have H' := Aside0.mk H
                clear H
                have hnb71 := NB213_191.out
                have hnc71 := NB191_213.out
                have hnb72 := NB213_202.out
                have hnc72 := NB202_213.out
                have hcz73_0 : w58.cell? ⟨gb213, 0, none⟩ = some (.int .i64 0) := (blk_cell BK213.out 0).trans rfl
                have hcz73_1 : w58.cell? ⟨gb213, 1, none⟩ = some (.int .i64 0) := (blk_cell BK213.out 1).trans rfl
                have hcz73_2 : w58.cell? ⟨gb213, 2, none⟩ = some (.string (⟨#[]⟩ : ByteArray)) := (blk_cell BK213.out 2).trans rfl
                have hcz73_3 : w58.cell? ⟨gb213, 3, none⟩ = some (.string (⟨#[]⟩ : ByteArray)) := (blk_cell BK213.out 3).trans rfl
                have hcz73_4 : w58.cell? ⟨gb213, 4, none⟩ = some (.int .i64 0) := (blk_cell BK213.out 4).trans rfl
                have hfz73_0 := blk_frozen BK213.out 0
                have hfz73_1 := blk_frozen BK213.out 1
                have hfz73_2 := blk_frozen BK213.out 2
                have hfz73_3 := blk_frozen BK213.out 3
                have hfz73_4 := blk_frozen BK213.out 4
                have hnb74 := NB202_191.out
                have hnc74 := NB191_202.out
                have hcz75_0 : w58.cell? ⟨gb202, 0, none⟩ = some (.int .i64 t193) := (blk_cell BK202.out 0).trans rfl
                have hcz75_1 : w58.cell? ⟨gb202, 1, none⟩ = some (.slice Ao13 t194.length co13) := (blk_cell BK202.out 1).trans rfl
                have hcz75_2 : w58.cell? ⟨gb202, 2, none⟩ = some (.slice Ao14 t197.length co14) := (blk_cell BK202.out 2).trans rfl
                have hcz75_3 : w58.cell? ⟨gb202, 3, none⟩ = some (.bool t200) := (blk_cell BK202.out 3).trans rfl
                have hfz75_0 := blk_frozen BK202.out 0
                have hfz75_1 := blk_frozen BK202.out 1
                have hfz75_2 := blk_frozen BK202.out 2
                have hfz75_3 := blk_frozen BK202.out 3
                go_wp2
                go_meet
                case rel => exact ⟨_, (false), (by first | rfl | (simp; done) | (simp [*]; done)), H', ⟨by have := HJ4.out; have := HK2.out; have := HK3.out; first | omega | exact Nat.le_refl _⟩, ⟨by (with_reducible repeat (first | apply Kd.R_alloc | apply Kd.R_drewN | apply Kd.R_drew)); exact Kd.R_mono (Kd.R_far (p := ⟨gb213, 4, none⟩) (Kd.R_far (p := ⟨gb213, 3, none⟩) (Kd.R_far (p := ⟨gb213, 2, none⟩) (Kd.R_far (p := ⟨gb213, 1, none⟩) (Kd.R_far (p := ⟨gb213, 0, none⟩) (Kd.R_types HO_6.out BK213.out (by decide)) (fun _ hk => hk.2) (.int .i64 ((rd_T49 l0_0 x10_3).f0))) (fun _ hk => hk.2) (.int .i64 ((rd_T49 l0_0 x10_3).f1))) (fun _ hk => hk.2) (.string ((rd_T49 l0_0 x10_3).f2))) (fun _ hk => hk.2) (.string ((rd_T49 l0_0 x10_3).f3))) (fun _ hk => hk.2) (.int .i64 ((rd_T49 l0_0 x10_3).f4))) (fun _ hk => ⟨hk.1.1, hk.1.2⟩)⟩, ⟨by (with_reducible repeat (first | apply Kd.R_alloc | apply Kd.R_drewN | apply Kd.R_drew)); exact Kd.R_mono (Kd.R_far (p := ⟨gb213, 4, none⟩) (Kd.R_far (p := ⟨gb213, 3, none⟩) (Kd.R_far (p := ⟨gb213, 2, none⟩) (Kd.R_far (p := ⟨gb213, 1, none⟩) (Kd.R_far (p := ⟨gb213, 0, none⟩) (Kd.R_types HO_203001.out BK213.out (by decide)) (fun _ hk => hk.2) (.int .i64 ((rd_T49 l0_0 x10_3).f0))) (fun _ hk => hk.2) (.int .i64 ((rd_T49 l0_0 x10_3).f1))) (fun _ hk => hk.2) (.string ((rd_T49 l0_0 x10_3).f2))) (fun _ hk => hk.2) (.string ((rd_T49 l0_0 x10_3).f3))) (fun _ hk => hk.2) (.int .i64 ((rd_T49 l0_0 x10_3).f4))) (fun _ hk => ⟨hk.1.1, hk.1.2⟩)⟩, ⟨by (with_reducible repeat (first | apply Kd.R_alloc | apply Kd.R_drewN | apply Kd.R_drew)); exact Kd.R_mono (Kd.R_far (p := ⟨gb213, 4, none⟩) (Kd.R_far (p := ⟨gb213, 3, none⟩) (Kd.R_far (p := ⟨gb213, 2, none⟩) (Kd.R_far (p := ⟨gb213, 1, none⟩) (Kd.R_far (p := ⟨gb213, 0, none⟩) (Kd.R_types HO_203002.out BK213.out (by decide)) (fun _ hk => hk.2) (.int .i64 ((rd_T49 l0_0 x10_3).f0))) (fun _ hk => hk.2) (.int .i64 ((rd_T49 l0_0 x10_3).f1))) (fun _ hk => hk.2) (.string ((rd_T49 l0_0 x10_3).f2))) (fun _ hk => hk.2) (.string ((rd_T49 l0_0 x10_3).f3))) (fun _ hk => hk.2) (.int .i64 ((rd_T49 l0_0 x10_3).f4))) (fun _ hk => ⟨hk.1.1, hk.1.2⟩)⟩, ⟨by (with_reducible repeat (first | refine blk_drewN ?_ _ | refine blk_drew ?_ | refine blk_alloc ?_ _)); refine blk_far ?_ NB191_213.out _; (with_reducible repeat (first | refine blk_drewN ?_ _ | refine blk_drew ?_ | refine blk_alloc ?_ _)); refine blk_far ?_ NB191_213.out _; (with_reducible repeat (first | refine blk_drewN ?_ _ | refine blk_drew ?_ | refine blk_alloc ?_ _)); refine blk_far ?_ NB191_213.out _; (with_reducible repeat (first | refine blk_drewN ?_ _ | refine blk_drew ?_ | refine blk_alloc ?_ _)); refine blk_far ?_ NB191_213.out _; (with_reducible repeat (first | refine blk_drewN ?_ _ | refine blk_drew ?_ | refine blk_alloc ?_ _)); refine blk_far ?_ NB191_213.out _; (with_reducible repeat (first | refine blk_drewN ?_ _ | refine blk_drew ?_ | refine blk_alloc ?_ _)); exact BK191.out⟩, ⟨by (with_reducible repeat (first | refine blk_drewN ?_ _ | refine blk_drew ?_ | refine blk_alloc ?_ _)); refine blk_far ?_ NB202_213.out _; (with_reducible repeat (first | refine blk_drewN ?_ _ | refine blk_drew ?_ | refine blk_alloc ?_ _)); refine blk_far ?_ NB202_213.out _; (with_reducible repeat (first | refine blk_drewN ?_ _ | refine blk_drew ?_ | refine blk_alloc ?_ _)); refine blk_far ?_ NB202_213.out _; (with_reducible repeat (first | refine blk_drewN ?_ _ | refine blk_drew ?_ | refine blk_alloc ?_ _)); refine blk_far ?_ NB202_213.out _; (with_reducible repeat (first | refine blk_drewN ?_ _ | refine blk_drew ?_ | refine blk_alloc ?_ _)); refine blk_far ?_ NB202_213.out _; (with_reducible repeat (first | refine blk_drewN ?_ _ | refine blk_drew ?_ | refine blk_alloc ?_ _)); exact BK202.out⟩, ⟨by (with_reducible repeat (first | refine blk_drewN ?_ _ | refine blk_drew ?_ | refine blk_alloc ?_ _)); refine blk_put (cs := #[.int .i64 ((rd_T49 l0_0 x10_3).f0), .int .i64 ((rd_T49 l0_0 x10_3).f1), .string ((rd_T49 l0_0 x10_3).f2), .string ((rd_T49 l0_0 x10_3).f3), .int .i64 0]) ?_ 4 _ rfl; (with_reducible repeat (first | refine blk_drewN ?_ _ | refine blk_drew ?_ | refine blk_alloc ?_ _)); refine blk_put (cs := #[.int .i64 ((rd_T49 l0_0 x10_3).f0), .int .i64 ((rd_T49 l0_0 x10_3).f1), .string ((rd_T49 l0_0 x10_3).f2), .string (⟨#[]⟩ : ByteArray), .int .i64 0]) ?_ 3 _ rfl; (with_reducible repeat (first | refine blk_drewN ?_ _ | refine blk_drew ?_ | refine blk_alloc ?_ _)); refine blk_put (cs := #[.int .i64 ((rd_T49 l0_0 x10_3).f0), .int .i64 ((rd_T49 l0_0 x10_3).f1), .string (⟨#[]⟩ : ByteArray), .string (⟨#[]⟩ : ByteArray), .int .i64 0]) ?_ 2 _ rfl; (with_reducible repeat (first | refine blk_drewN ?_ _ | refine blk_drew ?_ | refine blk_alloc ?_ _)); refine blk_put (cs := #[.int .i64 ((rd_T49 l0_0 x10_3).f0), .int .i64 0, .string (⟨#[]⟩ : ByteArray), .string (⟨#[]⟩ : ByteArray), .int .i64 0]) ?_ 1 _ rfl; (with_reducible repeat (first | refine blk_drewN ?_ _ | refine blk_drew ?_ | refine blk_alloc ?_ _)); refine blk_put (cs := #[.int .i64 0, .int .i64 0, .string (⟨#[]⟩ : ByteArray), .string (⟨#[]⟩ : ByteArray), .int .i64 0]) ?_ 0 _ rfl; (with_reducible repeat (first | refine blk_drewN ?_ _ | refine blk_drew ?_ | refine blk_alloc ?_ _)); exact BK213.out⟩, ⟨by repeat (first | (with_reducible first | exact HB.out | apply below_alloc | apply pw_below_drewN | apply below_drew1 | refine below_set ?_ GE191.out | refine below_set ?_ GE202.out | refine below_set ?_ GE213.out) | exact HB.out)⟩⟩
              case rest =>
                clear HC55
                try clear c1
                try clear c2
                try clear p2
                try clear q2
                try clear hx2
                try clear c3
                try clear c4
                try clear c5
                try clear c6
                try clear p6
                try clear c7
                try clear c8
                try clear c9
                try clear c11
                try clear c16
                try clear c17
                try clear c17b0
                try clear c18
                try clear c19
                try clear p21
                try clear q21
                try clear hx21
                try clear c22
                try clear c22b0
                try clear c23
                try clear c27
                try clear c31
                try clear c34
                try clear c35
                try clear c36
                try clear c40
                try clear c40b0
                try clear c42
                try clear c42b0
                try clear c43
                try clear c43b0
                try clear c44
                try clear c44b0
                try clear c45
                try clear c45b0
                try clear c46
                try clear c46b0
                try clear c47
                try clear c47b0
                try clear c47b1
                try clear c51
                try clear c51b0
                try clear c52
                try clear c52b0
                try clear c56
                try clear c59
                try clear c60
                try clear c63
                try clear c64
                try clear c64b0
                try clear c64b1
                try clear p64
                try clear c65
                try clear c66
                try clear c67
                try clear c69
                try clear c71
                try clear c72
                try clear c74
                try clear c76
                try clear c77
                try clear c79
                try clear c81
                try clear c82
                try clear c83
                try clear c85
                try clear hcz12_0
                try clear hcz12_1
                try clear hcz12_2
                try clear hcz12_3
                try clear hcz19_0
                try clear hcz19_1
                try clear hcz19_2
                try clear hcz21_0
                try clear hcz21_1
                try clear hcz21_2
                try clear hcz21_3
                try clear hcz24_0
                try clear hcz24_1
                try clear hcz24_2
                try clear hcz26_0
                try clear hcz26_1
                try clear hcz26_2
                try clear hcz26_3
                try clear hcz28_0
                try clear hcz28_1
                try clear hcz28_2
                try clear hcz30_0
                try clear hcz30_1
                try clear hcz30_2
                try clear hcz30_3
                try clear hcz32_0
                try clear hcz32_1
                try clear hcz32_2
                try clear hcz57_0
                try clear hcz57_1
                try clear hcz57_2
                try clear hcz61_0
                try clear hcz61_1
                try clear hcz61_2
                try clear hcz61_3
                try clear hcz61_4
                try clear hcz62_0
                try clear hcz62_1
                try clear hcz62_2
                try clear hcz62_3
                try clear hcz68_0
                try clear hcz68_1
                try clear hcz68_2
                try clear hcz68_3
                try clear hcz68_4
                try clear hcz70_0
                try clear hcz70_1
                try clear hcz70_2
                try clear hcz70_3
                try clear hcz73_0
                try clear hcz73_1
                try clear hcz73_2
                try clear hcz73_3
                try clear hcz73_4
                try clear hcz75_0
                try clear hcz75_1
                try clear hcz75_2
                try clear hcz75_3
                try clear hcz78_0
                try clear hcz78_1
                try clear hcz78_2
                try clear hcz78_3
                try clear hcz78_4
                try clear hcz80_0
                try clear hcz80_1
                try clear hcz80_2
                try clear hcz80_3
                try clear hcz84_0
                try clear hcz84_1
                try clear hcz84_2
                try clear hcz84_3
                try clear hcz84_4
                try clear hcz86_0
                try clear hcz86_1
                try clear hcz86_2
                try clear hcz86_3
                try clear hcz8_0
                try clear hcz8_1
                try clear hcz8_2
                try clear hfz12_0
                try clear hfz12_1
                try clear hfz12_2
                try clear hfz12_3
                try clear hfz19_0
                try clear hfz19_1
                try clear hfz19_2
                try clear hfz21_0
                try clear hfz21_1
                try clear hfz21_2
                try clear hfz21_3
                try clear hfz24_0
                try clear hfz24_1
                try clear hfz24_2
                try clear hfz26_0
                try clear hfz26_1
                try clear hfz26_2
                try clear hfz26_3
                try clear hfz28_0
                try clear hfz28_1
                try clear hfz28_2
                try clear hfz30_0
                try clear hfz30_1
                try clear hfz30_2
                try clear hfz30_3
                try clear hfz32_0
                try clear hfz32_1
                try clear hfz32_2
                try clear hfz57_0
                try clear hfz57_1
                try clear hfz57_2
                try clear hfz61_0
                try clear hfz61_1
                try clear hfz61_2
                try clear hfz61_3
                try clear hfz61_4
                try clear hfz62_0
                try clear hfz62_1
                try clear hfz62_2
                try clear hfz62_3
                try clear hfz68_0
                try clear hfz68_1
                try clear hfz68_2
                try clear hfz68_3
                try clear hfz68_4
                try clear hfz70_0
                try clear hfz70_1
                try clear hfz70_2
                try clear hfz70_3
                try clear hfz73_0
                try clear hfz73_1
                try clear hfz73_2
                try clear hfz73_3
                try clear hfz73_4
                try clear hfz75_0
                try clear hfz75_1
                try clear hfz75_2
                try clear hfz75_3
                try clear hfz78_0
                try clear hfz78_1
                try clear hfz78_2
                try clear hfz78_3
                try clear hfz78_4
                try clear hfz80_0
                try clear hfz80_1
                try clear hfz80_2
                try clear hfz80_3
                try clear hfz84_0
                try clear hfz84_1
                try clear hfz84_2
                try clear hfz84_3
                try clear hfz84_4
                try clear hfz86_0
                try clear hfz86_1
                try clear hfz86_2
                try clear hfz86_3
                try clear hfz8_0
                try clear hfz8_1
                try clear hfz8_2
                try clear hx210_0
                try clear hx211_0
                try clear hx212_0
                try clear hx212_1
                try clear hx212_2
                try clear hx212_3
                try clear hx212_4
                try clear p2
                try clear p21
                try clear p210
                try clear p211
                try clear p212
                try clear p6
                try clear q2
                try clear q21
                try clear q210
                try clear q211
                try clear q212
                obtain ⟨kq, x120_54, rfl, HA, HJ54, HO_6, HO_203001, HO_203002, BK191, BK202, BK213, HB⟩ := hcut
                cases kq with
                | zero => exact absurd HA.out (by simp [palinodelaw16_PickJobs.j4])
                | succ kj54 =>
                  have H := HA.out
                  clear HA
                  simp only [palinodelaw16_PickJobs.j4] at H
                  by_cases c87 : x120_54 = true
                  · subst c87
                    have H1 : (some false) = some r := by rw [if_pos rfl] at H; exact H
                    clear H
                    have H := H1
                    clear H1
                    obtain rfl := Option.some.inj H
                    go_wp2
                    go_ret
                    exact ⟨by first | rfl | (simp [errW_none, errW_some] <;> rfl) | (simp [*, errW_none, errW_some] <;> rfl), by repeat (first | (with_reducible first | exact HB.out | apply below_alloc | apply pw_below_drewN | apply below_drew1 | refine below_set ?_ GE191.out | refine below_set ?_ GE202.out | refine below_set ?_ GE213.out) | exact HB.out)⟩
                  replace c87 := Bool.eq_false_iff.mpr c87
                  subst c87
                  have H1 : (if t214 = true then (palinodelaw16_PickJobs.j5 kj54 t192 y207 x9_3 x10_3 t215 true l0_0 l0_1 a0_2 t193 t194 t197 t200 ((rd_T49 l0_0 x10_3).f0) ((rd_T49 l0_0 x10_3).f1) ((rd_T49 l0_0 x10_3).f2) ((rd_T49 l0_0 x10_3).f3) ((rd_T49 l0_0 x10_3).f4)) else (palinodelaw16_PickJobs.j5 kj54 t192 y207 x9_3 x10_3 t215 t215 l0_0 l0_1 a0_2 t193 t194 t197 t200 ((rd_T49 l0_0 x10_3).f0) ((rd_T49 l0_0 x10_3).f1) ((rd_T49 l0_0 x10_3).f2) ((rd_T49 l0_0 x10_3).f3) ((rd_T49 l0_0 x10_3).f4))) = some r := by rw [if_neg (show ¬ (false = true) by decide)] at H; exact H
                  clear H
                  have H := H1
                  clear H1
                  have HC88 := Aside0.mk H
                  clear H
                  go_upto_region 25 with (fail)
                  go_cut [124] (fun v124 wc => ∃ (kq : Nat) (x124_87 : Bool), v124 = .bool x124_87 ∧ Aside0 (palinodelaw16_PickJobs.j5 kq t192 y207 x9_3 x10_3 t215 x124_87 l0_0 l0_1 a0_2 t193 t194 t197 t200 ((rd_T49 l0_0 x10_3).f0) ((rd_T49 l0_0 x10_3).f1) ((rd_T49 l0_0 x10_3).f2) ((rd_T49 l0_0 x10_3).f3) ((rd_T49 l0_0 x10_3).f4) = some r) ∧ Aside0 (kq ≤ kj54) ∧ Aside0 (Kd.R (Kd.int .i64) 3 wc w.heap.size (fun k_ => some k_ ≠ ((.slice Ao13 t194.length co13) : Value).ownBlock ∧ some k_ ≠ ((.slice Ao14 t197.length co14) : Value).ownBlock) (.slice Ao50 y207.length co50) y207) ∧ Aside0 (Kd.R (Kd.int .i64) 3 wc w.heap.size (fun k_ => some k_ ≠ ((.slice Ao50 y207.length co50) : Value).ownBlock ∧ some k_ ≠ ((.slice Ao14 t197.length co14) : Value).ownBlock) (.slice Ao13 t194.length co13) t194) ∧ Aside0 (Kd.R (Kd.int .i64) 3 wc w.heap.size (fun k_ => some k_ ≠ ((.slice Ao50 y207.length co50) : Value).ownBlock ∧ some k_ ≠ ((.slice Ao13 t194.length co13) : Value).ownBlock) (.slice Ao14 t197.length co14) t197) ∧ Aside0 (wc.heap[gb191]? = some (.cells #[(.slice (some ad212) l0_0.length c0_0), (.slice A0_1 l0_1.length c0_1), .int .i64 a0_2] 25 (0, 0))) ∧ Aside0 (wc.heap[gb202]? = some (.cells #[.int .i64 t193, (.slice Ao13 t194.length co13), (.slice Ao14 t197.length co14), .bool t200] 28 (0, 0))) ∧ Aside0 (wc.heap[gb213]? = some (.cells #[.int .i64 ((rd_T49 l0_0 x10_3).f0), .int .i64 ((rd_T49 l0_0 x10_3).f1), .string ((rd_T49 l0_0 x10_3).f2), .string ((rd_T49 l0_0 x10_3).f3), .int .i64 ((rd_T49 l0_0 x10_3).f4)] 49 (0, 0))) ∧ Aside0 (Below w.heap.size w wc))
                  case first =>
                    have H := HC88.out
                    clear HC88
                    by_cases c89 : t214 = true
                    · subst c89
                      have H1 : (palinodelaw16_PickJobs.j5 kj54 t192 y207 x9_3 x10_3 t215 true l0_0 l0_1 a0_2 t193 t194 t197 t200 ((rd_T49 l0_0 x10_3).f0) ((rd_T49 l0_0 x10_3).f1) ((rd_T49 l0_0 x10_3).f2) ((rd_T49 l0_0 x10_3).f3) ((rd_T49 l0_0 x10_3).f4)) = some r := by rw [if_pos rfl] at H; exact H
                      clear H
                      have H := H1
                      clear H1
                      have H' := Aside0.mk H
                      clear H
                      go_wp2
                      go_meet
                      case rel => exact ⟨_, (true), (by first | rfl | (simp; done) | (simp [*]; done)), H', ⟨by have := HJ4.out; have := HK2.out; have := HK3.out; have := HJ54.out; first | omega | exact Nat.le_refl _⟩, ⟨by (with_reducible repeat (first | apply Kd.R_alloc | apply Kd.R_drewN | apply Kd.R_drew)); exact HO_6.out⟩, ⟨by (with_reducible repeat (first | apply Kd.R_alloc | apply Kd.R_drewN | apply Kd.R_drew)); exact HO_203001.out⟩, ⟨by (with_reducible repeat (first | apply Kd.R_alloc | apply Kd.R_drewN | apply Kd.R_drew)); exact HO_203002.out⟩, ⟨by (with_reducible repeat (first | refine blk_drewN ?_ _ | refine blk_drew ?_ | refine blk_alloc ?_ _)); exact BK191.out⟩, ⟨by (with_reducible repeat (first | refine blk_drewN ?_ _ | refine blk_drew ?_ | refine blk_alloc ?_ _)); exact BK202.out⟩, ⟨by (with_reducible repeat (first | refine blk_drewN ?_ _ | refine blk_drew ?_ | refine blk_alloc ?_ _)); exact BK213.out⟩, ⟨by repeat (first | (with_reducible first | exact HB.out | apply below_alloc | apply pw_below_drewN | apply below_drew1 | refine below_set ?_ GE191.out | refine below_set ?_ GE202.out | refine below_set ?_ GE213.out) | exact HB.out)⟩⟩
                    replace c89 := Bool.eq_false_iff.mpr c89
                    subst c89
                    have H1 : (palinodelaw16_PickJobs.j5 kj54 t192 y207 x9_3 x10_3 t215 t215 l0_0 l0_1 a0_2 t193 t194 t197 t200 ((rd_T49 l0_0 x10_3).f0) ((rd_T49 l0_0 x10_3).f1) ((rd_T49 l0_0 x10_3).f2) ((rd_T49 l0_0 x10_3).f3) ((rd_T49 l0_0 x10_3).f4)) = some r := by rw [if_neg (show ¬ (false = true) by decide)] at H; exact H
                    clear H
                    have H := H1
                    clear H1
                    have H' := Aside0.mk H
                    clear H
                    go_wp2
                    go_meet
                    case rel => exact ⟨_, (t215), (by first | rfl | (simp; done) | (simp [*]; done)), H', ⟨by have := HJ4.out; have := HK2.out; have := HK3.out; have := HJ54.out; first | omega | exact Nat.le_refl _⟩, ⟨by (with_reducible repeat (first | apply Kd.R_alloc | apply Kd.R_drewN | apply Kd.R_drew)); exact HO_6.out⟩, ⟨by (with_reducible repeat (first | apply Kd.R_alloc | apply Kd.R_drewN | apply Kd.R_drew)); exact HO_203001.out⟩, ⟨by (with_reducible repeat (first | apply Kd.R_alloc | apply Kd.R_drewN | apply Kd.R_drew)); exact HO_203002.out⟩, ⟨by (with_reducible repeat (first | refine blk_drewN ?_ _ | refine blk_drew ?_ | refine blk_alloc ?_ _)); exact BK191.out⟩, ⟨by (with_reducible repeat (first | refine blk_drewN ?_ _ | refine blk_drew ?_ | refine blk_alloc ?_ _)); exact BK202.out⟩, ⟨by (with_reducible repeat (first | refine blk_drewN ?_ _ | refine blk_drew ?_ | refine blk_alloc ?_ _)); exact BK213.out⟩, ⟨by repeat (first | (with_reducible first | exact HB.out | apply below_alloc | apply pw_below_drewN | apply below_drew1 | refine below_set ?_ GE191.out | refine below_set ?_ GE202.out | refine below_set ?_ GE213.out) | exact HB.out)⟩⟩
                  case rest =>
                    clear HC88
                    try clear c1
                    try clear c2
                    try clear p2
                    try clear q2
                    try clear hx2
                    try clear c3
                    try clear c4
                    try clear c5
                    try clear c6
                    try clear p6
                    try clear c7
                    try clear c8
                    try clear c9
                    try clear c11
                    try clear c16
                    try clear c17
                    try clear c17b0
                    try clear c18
                    try clear c19
                    try clear p21
                    try clear q21
                    try clear hx21
                    try clear c22
                    try clear c22b0
                    try clear c23
                    try clear c27
                    try clear c31
                    try clear c34
                    try clear c35
                    try clear c36
                    try clear c40
                    try clear c40b0
                    try clear c42
                    try clear c42b0
                    try clear c43
                    try clear c43b0
                    try clear c44
                    try clear c44b0
                    try clear c45
                    try clear c45b0
                    try clear c46
                    try clear c46b0
                    try clear c47
                    try clear c47b0
                    try clear c47b1
                    try clear c51
                    try clear c51b0
                    try clear c52
                    try clear c52b0
                    try clear c56
                    try clear c59
                    try clear c60
                    try clear c63
                    try clear c64
                    try clear c64b0
                    try clear c64b1
                    try clear p64
                    try clear c65
                    try clear c66
                    try clear c67
                    try clear c69
                    try clear c71
                    try clear c72
                    try clear c74
                    try clear c76
                    try clear c77
                    try clear c79
                    try clear c81
                    try clear c82
                    try clear c83
                    try clear c85
                    try clear c87
                    try clear c89
                    try clear hcz12_0
                    try clear hcz12_1
                    try clear hcz12_2
                    try clear hcz12_3
                    try clear hcz19_0
                    try clear hcz19_1
                    try clear hcz19_2
                    try clear hcz21_0
                    try clear hcz21_1
                    try clear hcz21_2
                    try clear hcz21_3
                    try clear hcz24_0
                    try clear hcz24_1
                    try clear hcz24_2
                    try clear hcz26_0
                    try clear hcz26_1
                    try clear hcz26_2
                    try clear hcz26_3
                    try clear hcz28_0
                    try clear hcz28_1
                    try clear hcz28_2
                    try clear hcz30_0
                    try clear hcz30_1
                    try clear hcz30_2
                    try clear hcz30_3
                    try clear hcz32_0
                    try clear hcz32_1
                    try clear hcz32_2
                    try clear hcz57_0
                    try clear hcz57_1
                    try clear hcz57_2
                    try clear hcz61_0
                    try clear hcz61_1
                    try clear hcz61_2
                    try clear hcz61_3
                    try clear hcz61_4
                    try clear hcz62_0
                    try clear hcz62_1
                    try clear hcz62_2
                    try clear hcz62_3
                    try clear hcz68_0
                    try clear hcz68_1
                    try clear hcz68_2
                    try clear hcz68_3
                    try clear hcz68_4
                    try clear hcz70_0
                    try clear hcz70_1
                    try clear hcz70_2
                    try clear hcz70_3
                    try clear hcz73_0
                    try clear hcz73_1
                    try clear hcz73_2
                    try clear hcz73_3
                    try clear hcz73_4
                    try clear hcz75_0
                    try clear hcz75_1
                    try clear hcz75_2
                    try clear hcz75_3
                    try clear hcz78_0
                    try clear hcz78_1
                    try clear hcz78_2
                    try clear hcz78_3
                    try clear hcz78_4
                    try clear hcz80_0
                    try clear hcz80_1
                    try clear hcz80_2
                    try clear hcz80_3
                    try clear hcz84_0
                    try clear hcz84_1
                    try clear hcz84_2
                    try clear hcz84_3
                    try clear hcz84_4
                    try clear hcz86_0
                    try clear hcz86_1
                    try clear hcz86_2
                    try clear hcz86_3
                    try clear hcz8_0
                    try clear hcz8_1
                    try clear hcz8_2
                    try clear hfz12_0
                    try clear hfz12_1
                    try clear hfz12_2
                    try clear hfz12_3
                    try clear hfz19_0
                    try clear hfz19_1
                    try clear hfz19_2
                    try clear hfz21_0
                    try clear hfz21_1
                    try clear hfz21_2
                    try clear hfz21_3
                    try clear hfz24_0
                    try clear hfz24_1
                    try clear hfz24_2
                    try clear hfz26_0
                    try clear hfz26_1
                    try clear hfz26_2
                    try clear hfz26_3
                    try clear hfz28_0
                    try clear hfz28_1
                    try clear hfz28_2
                    try clear hfz30_0
                    try clear hfz30_1
                    try clear hfz30_2
                    try clear hfz30_3
                    try clear hfz32_0
                    try clear hfz32_1
                    try clear hfz32_2
                    try clear hfz57_0
                    try clear hfz57_1
                    try clear hfz57_2
                    try clear hfz61_0
                    try clear hfz61_1
                    try clear hfz61_2
                    try clear hfz61_3
                    try clear hfz61_4
                    try clear hfz62_0
                    try clear hfz62_1
                    try clear hfz62_2
                    try clear hfz62_3
                    try clear hfz68_0
                    try clear hfz68_1
                    try clear hfz68_2
                    try clear hfz68_3
                    try clear hfz68_4
                    try clear hfz70_0
                    try clear hfz70_1
                    try clear hfz70_2
                    try clear hfz70_3
                    try clear hfz73_0
                    try clear hfz73_1
                    try clear hfz73_2
                    try clear hfz73_3
                    try clear hfz73_4
                    try clear hfz75_0
                    try clear hfz75_1
                    try clear hfz75_2
                    try clear hfz75_3
                    try clear hfz78_0
                    try clear hfz78_1
                    try clear hfz78_2
                    try clear hfz78_3
                    try clear hfz78_4
                    try clear hfz80_0
                    try clear hfz80_1
                    try clear hfz80_2
                    try clear hfz80_3
                    try clear hfz84_0
                    try clear hfz84_1
                    try clear hfz84_2
                    try clear hfz84_3
                    try clear hfz84_4
                    try clear hfz86_0
                    try clear hfz86_1
                    try clear hfz86_2
                    try clear hfz86_3
                    try clear hfz8_0
                    try clear hfz8_1
                    try clear hfz8_2
                    try clear hx210_0
                    try clear hx211_0
                    try clear hx212_0
                    try clear hx212_1
                    try clear hx212_2
                    try clear hx212_3
                    try clear hx212_4
                    try clear p2
                    try clear p21
                    try clear p210
                    try clear p211
                    try clear p212
                    try clear p6
                    try clear p64
                    try clear q2
                    try clear q21
                    try clear q210
                    try clear q211
                    try clear q212
                    obtain ⟨kq, x124_87, rfl, HA, HJ87, HO_6, HO_203001, HO_203002, BK191, BK202, BK213, HB⟩ := hcut
                    cases kq with
                    | zero => exact absurd HA.out (by simp [palinodelaw16_PickJobs.j5])
                    | succ kj87 =>
                      have H := HA.out
                      clear HA
                      simp only [palinodelaw16_PickJobs.j5] at H
                      have HC90 := Aside0.mk H
                      clear H
                      go_upto_if 124 with (fail)
                      go_cut [9] (fun v9 wc => ∃ (kq : Nat) (x9_89 : Int), v9 = .int .i64 x9_89 ∧ Aside0 (palinodelaw16_PickJobs.j6 kq t192 y207 x9_89 x10_3 t215 l0_0 l0_1 a0_2 t193 t194 t197 t200 ((rd_T49 l0_0 x10_3).f0) ((rd_T49 l0_0 x10_3).f1) ((rd_T49 l0_0 x10_3).f2) ((rd_T49 l0_0 x10_3).f3) ((rd_T49 l0_0 x10_3).f4) = some r) ∧ Aside0 (kq ≤ kj87) ∧ Aside0 (Kd.R (Kd.int .i64) 3 wc w.heap.size (fun k_ => some k_ ≠ ((.slice Ao13 t194.length co13) : Value).ownBlock ∧ some k_ ≠ ((.slice Ao14 t197.length co14) : Value).ownBlock) (.slice Ao50 y207.length co50) y207) ∧ Aside0 (Kd.R (Kd.int .i64) 3 wc w.heap.size (fun k_ => some k_ ≠ ((.slice Ao50 y207.length co50) : Value).ownBlock ∧ some k_ ≠ ((.slice Ao14 t197.length co14) : Value).ownBlock) (.slice Ao13 t194.length co13) t194) ∧ Aside0 (Kd.R (Kd.int .i64) 3 wc w.heap.size (fun k_ => some k_ ≠ ((.slice Ao50 y207.length co50) : Value).ownBlock ∧ some k_ ≠ ((.slice Ao13 t194.length co13) : Value).ownBlock) (.slice Ao14 t197.length co14) t197) ∧ Aside0 (wc.heap[gb191]? = some (.cells #[(.slice (some ad212) l0_0.length c0_0), (.slice A0_1 l0_1.length c0_1), .int .i64 a0_2] 25 (0, 0))) ∧ Aside0 (wc.heap[gb202]? = some (.cells #[.int .i64 t193, (.slice Ao13 t194.length co13), (.slice Ao14 t197.length co14), .bool t200] 28 (0, 0))) ∧ Aside0 (wc.heap[gb213]? = some (.cells #[.int .i64 ((rd_T49 l0_0 x10_3).f0), .int .i64 ((rd_T49 l0_0 x10_3).f1), .string ((rd_T49 l0_0 x10_3).f2), .string ((rd_T49 l0_0 x10_3).f3), .int .i64 ((rd_T49 l0_0 x10_3).f4)] 49 (0, 0))) ∧ Aside0 (Below w.heap.size w wc))
                      case first =>
                        have H := HC90.out
                        clear HC90
                        by_cases c91 : x124_87 = true
                        · subst c91
                          have H1 : (palinodelaw16_PickJobs.j6 kj87 t192 y207 (wrap64 (x9_3 + 1)) x10_3 t215 l0_0 l0_1 a0_2 t193 t194 t197 t200 ((rd_T49 l0_0 x10_3).f0) ((rd_T49 l0_0 x10_3).f1) ((rd_T49 l0_0 x10_3).f2) ((rd_T49 l0_0 x10_3).f3) ((rd_T49 l0_0 x10_3).f4)) = some r := by rw [if_pos rfl] at H; exact H
                          clear H
                          have H := H1
                          clear H1
                          have H' := Aside0.mk H
                          clear H
                          go_wp2
                          go_meet
                          case rel => exact ⟨_, (wrap64 (x9_3 + 1)), (by first | rfl | (simp; done) | (simp [*]; done)), H', ⟨by have := HJ4.out; have := HK2.out; have := HK3.out; have := HJ54.out; have := HJ87.out; first | omega | exact Nat.le_refl _⟩, ⟨by (with_reducible repeat (first | apply Kd.R_alloc | apply Kd.R_drewN | apply Kd.R_drew)); exact HO_6.out⟩, ⟨by (with_reducible repeat (first | apply Kd.R_alloc | apply Kd.R_drewN | apply Kd.R_drew)); exact HO_203001.out⟩, ⟨by (with_reducible repeat (first | apply Kd.R_alloc | apply Kd.R_drewN | apply Kd.R_drew)); exact HO_203002.out⟩, ⟨by (with_reducible repeat (first | refine blk_drewN ?_ _ | refine blk_drew ?_ | refine blk_alloc ?_ _)); exact BK191.out⟩, ⟨by (with_reducible repeat (first | refine blk_drewN ?_ _ | refine blk_drew ?_ | refine blk_alloc ?_ _)); exact BK202.out⟩, ⟨by (with_reducible repeat (first | refine blk_drewN ?_ _ | refine blk_drew ?_ | refine blk_alloc ?_ _)); exact BK213.out⟩, ⟨by repeat (first | (with_reducible first | exact HB.out | apply below_alloc | apply pw_below_drewN | apply below_drew1 | refine below_set ?_ GE191.out | refine below_set ?_ GE202.out | refine below_set ?_ GE213.out) | exact HB.out)⟩⟩
                        replace c91 := Bool.eq_false_iff.mpr c91
                        subst c91
                        have H1 : (palinodelaw16_PickJobs.j6 kj87 t192 y207 x9_3 x10_3 t215 l0_0 l0_1 a0_2 t193 t194 t197 t200 ((rd_T49 l0_0 x10_3).f0) ((rd_T49 l0_0 x10_3).f1) ((rd_T49 l0_0 x10_3).f2) ((rd_T49 l0_0 x10_3).f3) ((rd_T49 l0_0 x10_3).f4)) = some r := by rw [if_neg (show ¬ (false = true) by decide)] at H; exact H
                        clear H
                        have H := H1
                        clear H1
                        have H' := Aside0.mk H
                        clear H
                        go_wp2
                        go_meet
                        case rel => exact ⟨_, (x9_3), (by first | rfl | (simp; done) | (simp [*]; done)), H', ⟨by have := HJ4.out; have := HK2.out; have := HK3.out; have := HJ54.out; have := HJ87.out; first | omega | exact Nat.le_refl _⟩, ⟨by (with_reducible repeat (first | apply Kd.R_alloc | apply Kd.R_drewN | apply Kd.R_drew)); exact HO_6.out⟩, ⟨by (with_reducible repeat (first | apply Kd.R_alloc | apply Kd.R_drewN | apply Kd.R_drew)); exact HO_203001.out⟩, ⟨by (with_reducible repeat (first | apply Kd.R_alloc | apply Kd.R_drewN | apply Kd.R_drew)); exact HO_203002.out⟩, ⟨by (with_reducible repeat (first | refine blk_drewN ?_ _ | refine blk_drew ?_ | refine blk_alloc ?_ _)); exact BK191.out⟩, ⟨by (with_reducible repeat (first | refine blk_drewN ?_ _ | refine blk_drew ?_ | refine blk_alloc ?_ _)); exact BK202.out⟩, ⟨by (with_reducible repeat (first | refine blk_drewN ?_ _ | refine blk_drew ?_ | refine blk_alloc ?_ _)); exact BK213.out⟩, ⟨by repeat (first | (with_reducible first | exact HB.out | apply below_alloc | apply pw_below_drewN | apply below_drew1 | refine below_set ?_ GE191.out | refine below_set ?_ GE202.out | refine below_set ?_ GE213.out) | exact HB.out)⟩⟩
                      case rest =>
                        clear HC90
                        try clear c1
                        try clear c2
                        try clear p2
                        try clear q2
                        try clear hx2
                        try clear c3
                        try clear c4
                        try clear c5
                        try clear c6
                        try clear p6
                        try clear c7
                        try clear c8
                        try clear c9
                        try clear c11
                        try clear c16
                        try clear c17
                        try clear c17b0
                        try clear c18
                        try clear c19
                        try clear p21
                        try clear q21
                        try clear hx21
                        try clear c22
                        try clear c22b0
                        try clear c23
                        try clear c27
                        try clear c31
                        try clear c34
                        try clear c35
                        try clear c36
                        try clear c40
                        try clear c40b0
                        try clear c42
                        try clear c42b0
                        try clear c43
                        try clear c43b0
                        try clear c44
                        try clear c44b0
                        try clear c45
                        try clear c45b0
                        try clear c46
                        try clear c46b0
                        try clear c47
                        try clear c47b0
                        try clear c47b1
                        try clear c51
                        try clear c51b0
                        try clear c52
                        try clear c52b0
                        try clear c56
                        try clear c59
                        try clear c60
                        try clear c63
                        try clear c64
                        try clear c64b0
                        try clear c64b1
                        try clear p64
                        try clear c65
                        try clear c66
                        try clear c67
                        try clear c69
                        try clear c71
                        try clear c72
                        try clear c74
                        try clear c76
                        try clear c77
                        try clear c79
                        try clear c81
                        try clear c82
                        try clear c83
                        try clear c85
                        try clear c87
                        try clear c89
                        try clear c91
                        try clear hcz12_0
                        try clear hcz12_1
                        try clear hcz12_2
                        try clear hcz12_3
                        try clear hcz19_0
                        try clear hcz19_1
                        try clear hcz19_2
                        try clear hcz21_0
                        try clear hcz21_1
                        try clear hcz21_2
                        try clear hcz21_3
                        try clear hcz24_0
                        try clear hcz24_1
                        try clear hcz24_2
                        try clear hcz26_0
                        try clear hcz26_1
                        try clear hcz26_2
                        try clear hcz26_3
                        try clear hcz28_0
                        try clear hcz28_1
                        try clear hcz28_2
                        try clear hcz30_0
                        try clear hcz30_1
                        try clear hcz30_2
                        try clear hcz30_3
                        try clear hcz32_0
                        try clear hcz32_1
                        try clear hcz32_2
                        try clear hcz57_0
                        try clear hcz57_1
                        try clear hcz57_2
                        try clear hcz61_0
                        try clear hcz61_1
                        try clear hcz61_2
                        try clear hcz61_3
                        try clear hcz61_4
                        try clear hcz62_0
                        try clear hcz62_1
                        try clear hcz62_2
                        try clear hcz62_3
                        try clear hcz68_0
                        try clear hcz68_1
                        try clear hcz68_2
                        try clear hcz68_3
                        try clear hcz68_4
                        try clear hcz70_0
                        try clear hcz70_1
                        try clear hcz70_2
                        try clear hcz70_3
                        try clear hcz73_0
                        try clear hcz73_1
                        try clear hcz73_2
                        try clear hcz73_3
                        try clear hcz73_4
                        try clear hcz75_0
                        try clear hcz75_1
                        try clear hcz75_2
                        try clear hcz75_3
                        try clear hcz78_0
                        try clear hcz78_1
                        try clear hcz78_2
                        try clear hcz78_3
                        try clear hcz78_4
                        try clear hcz80_0
                        try clear hcz80_1
                        try clear hcz80_2
                        try clear hcz80_3
                        try clear hcz84_0
                        try clear hcz84_1
                        try clear hcz84_2
                        try clear hcz84_3
                        try clear hcz84_4
                        try clear hcz86_0
                        try clear hcz86_1
                        try clear hcz86_2
                        try clear hcz86_3
                        try clear hcz8_0
                        try clear hcz8_1
                        try clear hcz8_2
                        try clear hfz12_0
                        try clear hfz12_1
                        try clear hfz12_2
                        try clear hfz12_3
                        try clear hfz19_0
                        try clear hfz19_1
                        try clear hfz19_2
                        try clear hfz21_0
                        try clear hfz21_1
                        try clear hfz21_2
                        try clear hfz21_3
                        try clear hfz24_0
                        try clear hfz24_1
                        try clear hfz24_2
                        try clear hfz26_0
                        try clear hfz26_1
                        try clear hfz26_2
                        try clear hfz26_3
                        try clear hfz28_0
                        try clear hfz28_1
                        try clear hfz28_2
                        try clear hfz30_0
                        try clear hfz30_1
                        try clear hfz30_2
                        try clear hfz30_3
                        try clear hfz32_0
                        try clear hfz32_1
                        try clear hfz32_2
                        try clear hfz57_0
                        try clear hfz57_1
                        try clear hfz57_2
                        try clear hfz61_0
                        try clear hfz61_1
                        try clear hfz61_2
                        try clear hfz61_3
                        try clear hfz61_4
                        try clear hfz62_0
                        try clear hfz62_1
                        try clear hfz62_2
                        try clear hfz62_3
                        try clear hfz68_0
                        try clear hfz68_1
                        try clear hfz68_2
                        try clear hfz68_3
                        try clear hfz68_4
                        try clear hfz70_0
                        try clear hfz70_1
                        try clear hfz70_2
                        try clear hfz70_3
                        try clear hfz73_0
                        try clear hfz73_1
                        try clear hfz73_2
                        try clear hfz73_3
                        try clear hfz73_4
                        try clear hfz75_0
                        try clear hfz75_1
                        try clear hfz75_2
                        try clear hfz75_3
                        try clear hfz78_0
                        try clear hfz78_1
                        try clear hfz78_2
                        try clear hfz78_3
                        try clear hfz78_4
                        try clear hfz80_0
                        try clear hfz80_1
                        try clear hfz80_2
                        try clear hfz80_3
                        try clear hfz84_0
                        try clear hfz84_1
                        try clear hfz84_2
                        try clear hfz84_3
                        try clear hfz84_4
                        try clear hfz86_0
                        try clear hfz86_1
                        try clear hfz86_2
                        try clear hfz86_3
                        try clear hfz8_0
                        try clear hfz8_1
                        try clear hfz8_2
                        try clear hx210_0
                        try clear hx211_0
                        try clear hx212_0
                        try clear hx212_1
                        try clear hx212_2
                        try clear hx212_3
                        try clear hx212_4
                        try clear p2
                        try clear p21
                        try clear p210
                        try clear p211
                        try clear p212
                        try clear p6
                        try clear p64
                        try clear q2
                        try clear q21
                        try clear q210
                        try clear q211
                        try clear q212
                        obtain ⟨kq, x9_89, rfl, HA, HJ89, HO_6, HO_203001, HO_203002, BK191, BK202, BK213, HB⟩ := hcut
                        cases kq with
                        | zero => exact absurd HA.out (by simp [palinodelaw16_PickJobs.j6])
                        | succ kj89 =>
                          have H := HA.out
                          clear HA
                          simp only [palinodelaw16_PickJobs.j6] at H
                          by_cases c92 : ((rd_T49 l0_0 x10_3).f1) = (wrap64 (t193 + 1))
                          rotate_left
                          · rw [if_neg c92] at H
                            have c92b0 : (((rd_T49 l0_0 x10_3).f1) == (wrap64 (t193 + 1))) = false := beq_eq_false_iff_ne.mpr c92
                            have c92b1 : (((rd_T49 l0_0 x10_3).f1) != (wrap64 (t193 + 1))) = true := bne_iff_ne.mpr c92
                            have H' := Aside0.mk H
                            clear H
                            have hnb132 := NB213_191.out
                            have hnc132 := NB191_213.out
                            have hnb133 := NB213_202.out
                            have hnc133 := NB202_213.out
                            have hcz134_0 : wc.cell? ⟨gb213, 0, none⟩ = some (.int .i64 ((rd_T49 l0_0 x10_3).f0)) := (blk_cell BK213.out 0).trans rfl
                            have hcz134_1 : wc.cell? ⟨gb213, 1, none⟩ = some (.int .i64 ((rd_T49 l0_0 x10_3).f1)) := (blk_cell BK213.out 1).trans rfl
                            have hcz134_2 : wc.cell? ⟨gb213, 2, none⟩ = some (.string ((rd_T49 l0_0 x10_3).f2)) := (blk_cell BK213.out 2).trans rfl
                            have hcz134_3 : wc.cell? ⟨gb213, 3, none⟩ = some (.string ((rd_T49 l0_0 x10_3).f3)) := (blk_cell BK213.out 3).trans rfl
                            have hcz134_4 : wc.cell? ⟨gb213, 4, none⟩ = some (.int .i64 ((rd_T49 l0_0 x10_3).f4)) := (blk_cell BK213.out 4).trans rfl
                            have hfz134_0 := blk_frozen BK213.out 0
                            have hfz134_1 := blk_frozen BK213.out 1
                            have hfz134_2 := blk_frozen BK213.out 2
                            have hfz134_3 := blk_frozen BK213.out 3
                            have hfz134_4 := blk_frozen BK213.out 4
                            have hnb135 := NB202_191.out
                            have hnc135 := NB191_202.out
                            have hcz136_0 : wc.cell? ⟨gb202, 0, none⟩ = some (.int .i64 t193) := (blk_cell BK202.out 0).trans rfl
                            have hcz136_1 : wc.cell? ⟨gb202, 1, none⟩ = some (.slice Ao13 t194.length co13) := (blk_cell BK202.out 1).trans rfl
                            have hcz136_2 : wc.cell? ⟨gb202, 2, none⟩ = some (.slice Ao14 t197.length co14) := (blk_cell BK202.out 2).trans rfl
                            have hcz136_3 : wc.cell? ⟨gb202, 3, none⟩ = some (.bool t200) := (blk_cell BK202.out 3).trans rfl
                            have hfz136_0 := blk_frozen BK202.out 0
                            have hfz136_1 := blk_frozen BK202.out 1
                            have hfz136_2 := blk_frozen BK202.out 2
                            have hfz136_3 := blk_frozen BK202.out 3
                            go_wp2
                            go_roundg kj89
                            case measure => have := HJ4.out; have := HK2.out; have := HK3.out; have := HJ54.out; have := HJ87.out; have := HJ89.out; omega
                            case rel => exact ⟨(x9_89), (wrap64 (x10_3 + 1)), (by first | rfl | (simp; done) | (simp [*]; done)), (by first | rfl | (simp; done) | (simp [*]; done)), H', ⟨by have := HJ4.out; have := HK2.out; have := HK3.out; have := HJ54.out; have := HJ87.out; have := HJ89.out; omega⟩, ⟨by (with_reducible repeat (first | apply Kd.R_alloc | apply Kd.R_drewN | apply Kd.R_drew)); exact HO_6.out⟩, ⟨by (with_reducible repeat (first | apply Kd.R_alloc | apply Kd.R_drewN | apply Kd.R_drew)); exact HO_203001.out⟩, ⟨by (with_reducible repeat (first | apply Kd.R_alloc | apply Kd.R_drewN | apply Kd.R_drew)); exact HO_203002.out⟩, ⟨by (with_reducible repeat (first | refine blk_drewN ?_ _ | refine blk_drew ?_ | refine blk_alloc ?_ _)); exact BK191.out⟩, ⟨by (with_reducible repeat (first | refine blk_drewN ?_ _ | refine blk_drew ?_ | refine blk_alloc ?_ _)); exact BK202.out⟩, ⟨by repeat (first | (with_reducible first | exact HB.out | apply below_alloc | apply pw_below_drewN | apply below_drew1 | refine below_set ?_ GE191.out | refine below_set ?_ GE202.out | refine below_set ?_ GE213.out) | exact HB.out)⟩⟩
                          rw [if_pos c92] at H
                          have c92b0 : (((rd_T49 l0_0 x10_3).f1) == (wrap64 (t193 + 1))) = true := beq_iff_eq.mpr c92
                          have c92b1 : (((rd_T49 l0_0 x10_3).f1) != (wrap64 (t193 + 1))) = false := bne_eq_false_iff_eq.mpr c92
                          clear c92
                          replace H := Option.bind_eq_some_iff.mp H
                          obtain ⟨t216, A930, H⟩ := H
                          replace H : (if (t215 != t216) = true then (some false) else (if t215 = true then (palinodelaw16_PickJobs.l2 kj89 t192 y207 x9_89 (wrap64 (x10_3 + 1)) l0_0 l0_1 a0_2 t193 t194 t197 t200) else ((palinodelaw16_meets.f kj89 l0_0 l0_1 a0_2 y207 ((rd_T49 l0_0 x10_3).f0) ((rd_T49 l0_0 x10_3).f1) ((rd_T49 l0_0 x10_3).f2) ((rd_T49 l0_0 x10_3).f3) ((rd_T49 l0_0 x10_3).f4)).bind fun t217 => (if t217 = true then (some false) else (palinodelaw16_PickJobs.l2 kj89 t192 y207 x9_89 (wrap64 (x10_3 + 1)) l0_0 l0_1 a0_2 t193 t194 t197 t200))))) = some r := H
                          have A93 := Aside0.mk A930
                          clear A930
                          by_cases c94 : (t215 != t216) = true
                          · rw [if_pos c94] at H
                            have c94b0 : (t215 != t216) = true := c94
                            (try (have c94b1 : decide (t215 = t216) = false := by simpa using c94))
                            (try (have c94b2 : (t215 == t216) = false := by simpa using c94))
                            (try (have c94b3 : ¬ (t215 = t216) := by simpa using c94))
                            clear c94
                            obtain rfl := Option.some.inj H
                            have hnb95 := NB213_191.out
                            have hnc95 := NB191_213.out
                            have hnb96 := NB213_202.out
                            have hnc96 := NB202_213.out
                            have hcz97_0 : wc.cell? ⟨gb213, 0, none⟩ = some (.int .i64 ((rd_T49 l0_0 x10_3).f0)) := (blk_cell BK213.out 0).trans rfl
                            have hcz97_1 : wc.cell? ⟨gb213, 1, none⟩ = some (.int .i64 ((rd_T49 l0_0 x10_3).f1)) := (blk_cell BK213.out 1).trans rfl
                            have hcz97_2 : wc.cell? ⟨gb213, 2, none⟩ = some (.string ((rd_T49 l0_0 x10_3).f2)) := (blk_cell BK213.out 2).trans rfl
                            have hcz97_3 : wc.cell? ⟨gb213, 3, none⟩ = some (.string ((rd_T49 l0_0 x10_3).f3)) := (blk_cell BK213.out 3).trans rfl
                            have hcz97_4 : wc.cell? ⟨gb213, 4, none⟩ = some (.int .i64 ((rd_T49 l0_0 x10_3).f4)) := (blk_cell BK213.out 4).trans rfl
                            have hfz97_0 := blk_frozen BK213.out 0
                            have hfz97_1 := blk_frozen BK213.out 1
                            have hfz97_2 := blk_frozen BK213.out 2
                            have hfz97_3 := blk_frozen BK213.out 3
                            have hfz97_4 := blk_frozen BK213.out 4
                            have hnb98 := NB202_191.out
                            have hnc98 := NB191_202.out
                            have hcz99_0 : wc.cell? ⟨gb202, 0, none⟩ = some (.int .i64 t193) := (blk_cell BK202.out 0).trans rfl
                            have hcz99_1 : wc.cell? ⟨gb202, 1, none⟩ = some (.slice Ao13 t194.length co13) := (blk_cell BK202.out 1).trans rfl
                            have hcz99_2 : wc.cell? ⟨gb202, 2, none⟩ = some (.slice Ao14 t197.length co14) := (blk_cell BK202.out 2).trans rfl
                            have hcz99_3 : wc.cell? ⟨gb202, 3, none⟩ = some (.bool t200) := (blk_cell BK202.out 3).trans rfl
                            have hfz99_0 := blk_frozen BK202.out 0
                            have hfz99_1 := blk_frozen BK202.out 1
                            have hfz99_2 := blk_frozen BK202.out 2
                            have hfz99_3 := blk_frozen BK202.out 3
                            have hcz100_0 : wc.cell? ⟨gb191, 0, none⟩ = some (.slice (some ad212) l0_0.length c0_0) := (blk_cell BK191.out 0).trans rfl
                            have hcz100_1 : wc.cell? ⟨gb191, 1, none⟩ = some (.slice A0_1 l0_1.length c0_1) := (blk_cell BK191.out 1).trans rfl
                            have hcz100_2 : wc.cell? ⟨gb191, 2, none⟩ = some (.int .i64 a0_2) := (blk_cell BK191.out 2).trans rfl
                            have hfz100_0 := blk_frozen BK191.out 0
                            have hfz100_1 := blk_frozen BK191.out 1
                            have hfz100_2 := blk_frozen BK191.out 2
                            go_wp2_with (first | (go_at_call 20; (with_reducible refine (palinodelaw16_meets.calls kj89 _ _ l0_0 _ _ l0_1 a0_2 _ _ t194 ((rd_T49 l0_0 x10_3).f0) ((rd_T49 l0_0 x10_3).f1) ((rd_T49 l0_0 x10_3).f2) ((rd_T49 l0_0 x10_3).f3) ((rd_T49 l0_0 x10_3).f4) t216 _ ?side1 ?side2 ?side3 ?side4 ?side5 ?side6 A93.out).mono ?_); (case side1 => repeat (first | exact (Kd.C_below HR0_0.out HB.out) | (with_reducible refine Kd.C_alloc ?_ _) | (with_reducible refine Kd.C_drewN ?_ _) | (with_reducible refine Kd.C_drew ?_))); (case side2 => exact HC0_0.out); (case side3 => repeat (first | exact (Kd.C_below HR0_1.out HB.out) | (with_reducible refine Kd.C_alloc ?_ _) | (with_reducible refine Kd.C_drewN ?_ _) | (with_reducible refine Kd.C_drew ?_))); (case side4 => exact HC0_1.out); (case side5 => repeat (first | exact (Kd.R_reads' HO_203001.out).2.2 | (with_reducible refine Kd.C_alloc ?_ _) | (with_reducible refine Kd.C_drewN ?_ _) | (with_reducible refine Kd.C_drew ?_))); (case side6 => exact (Kd.R_reads' HO_203001.out).2.1); rintro e w101 ⟨rfl, hb⟩; have n0_ := Aside0.mk (Kd.R_below (by (with_reducible repeat (first | apply Kd.R_alloc | apply Kd.R_drewN | apply Kd.R_drew)); exact HO_6.out) hb); have n1_ := Aside0.mk (Kd.R_below (by (with_reducible repeat (first | apply Kd.R_alloc | apply Kd.R_drewN | apply Kd.R_drew)); exact HO_203001.out) hb); have n2_ := Aside0.mk (Kd.R_below (by (with_reducible repeat (first | apply Kd.R_alloc | apply Kd.R_drewN | apply Kd.R_drew)); exact HO_203002.out) hb); have n3_ := Aside0.mk (blk_below (g := gb191) (o := .cells #[.slice (some ad212) l0_0.length c0_0, .slice A0_1 l0_1.length c0_1, .int .i64 a0_2] 25 (0, 0)) (by (with_reducible repeat (first | refine blk_drewN ?_ _ | refine blk_drew ?_ | refine blk_alloc ?_ _)); exact BK191.out) hb); have n4_ := Aside0.mk (blk_below (g := gb202) (o := .cells #[.int .i64 t193, .slice Ao13 t194.length co13, .slice Ao14 t197.length co14, .bool t200] 28 (0, 0)) (by (with_reducible repeat (first | refine blk_drewN ?_ _ | refine blk_drew ?_ | refine blk_alloc ?_ _)); exact BK202.out) hb); have n5_ := Aside0.mk (blk_below (g := gb213) (o := .cells #[.int .i64 ((rd_T49 l0_0 x10_3).f0), .int .i64 ((rd_T49 l0_0 x10_3).f1), .string ((rd_T49 l0_0 x10_3).f2), .string ((rd_T49 l0_0 x10_3).f3), .int .i64 ((rd_T49 l0_0 x10_3).f4)] 49 (0, 0)) (by (with_reducible repeat (first | refine blk_drewN ?_ _ | refine blk_drew ?_ | refine blk_alloc ?_ _)); exact BK213.out) hb); have n6_ := Aside0.mk (below_step (by repeat (first | (with_reducible first | exact HB.out | apply below_alloc | apply pw_below_drewN | apply below_drew1 | refine below_set ?_ GE191.out | refine below_set ?_ GE202.out | refine below_set ?_ GE213.out) | exact HB.out)) hb); clear HO_6; clear HO_203001; clear HO_203002; clear BK191; clear BK202; clear BK213; clear HB; have HO_6 := n0_; have HO_203001 := n1_; have HO_203002 := n2_; have BK191 := n3_; have BK202 := n4_; have BK213 := n5_; have HB := n6_; clear n0_ n1_ n2_ n3_ n4_ n5_ n6_; (try clear hb); (try clear hb2); (try clear hk); (try clear hi)))
                            go_ret
                            exact ⟨by first | rfl | (simp [errW_none, errW_some] <;> rfl) | (simp [*, errW_none, errW_some] <;> rfl), by repeat (first | (with_reducible first | exact HB.out | apply below_alloc | apply pw_below_drewN | apply below_drew1 | refine below_set ?_ GE191.out | refine below_set ?_ GE202.out | refine below_set ?_ GE213.out) | exact HB.out)⟩
                          rw [if_neg c94] at H
                          have c94b0 : (t215 != t216) = false := by simpa using c94
                          (try (have c94b1 : decide (t215 = t216) = true := by simpa using c94))
                          (try (have c94b2 : (t215 == t216) = true := by simpa using c94))
                          clear c94
                          by_cases c102 : t215 = true
                          · subst c102
                            have H1 : (palinodelaw16_PickJobs.l2 kj89 t192 y207 x9_89 (wrap64 (x10_3 + 1)) l0_0 l0_1 a0_2 t193 t194 t197 t200) = some r := by rw [if_pos rfl] at H; exact H
                            clear H
                            have H := H1
                            clear H1
                            have H' := Aside0.mk H
                            clear H
                            have hnb103 := NB213_191.out
                            have hnc103 := NB191_213.out
                            have hnb104 := NB213_202.out
                            have hnc104 := NB202_213.out
                            have hcz105_0 : wc.cell? ⟨gb213, 0, none⟩ = some (.int .i64 ((rd_T49 l0_0 x10_3).f0)) := (blk_cell BK213.out 0).trans rfl
                            have hcz105_1 : wc.cell? ⟨gb213, 1, none⟩ = some (.int .i64 ((rd_T49 l0_0 x10_3).f1)) := (blk_cell BK213.out 1).trans rfl
                            have hcz105_2 : wc.cell? ⟨gb213, 2, none⟩ = some (.string ((rd_T49 l0_0 x10_3).f2)) := (blk_cell BK213.out 2).trans rfl
                            have hcz105_3 : wc.cell? ⟨gb213, 3, none⟩ = some (.string ((rd_T49 l0_0 x10_3).f3)) := (blk_cell BK213.out 3).trans rfl
                            have hcz105_4 : wc.cell? ⟨gb213, 4, none⟩ = some (.int .i64 ((rd_T49 l0_0 x10_3).f4)) := (blk_cell BK213.out 4).trans rfl
                            have hfz105_0 := blk_frozen BK213.out 0
                            have hfz105_1 := blk_frozen BK213.out 1
                            have hfz105_2 := blk_frozen BK213.out 2
                            have hfz105_3 := blk_frozen BK213.out 3
                            have hfz105_4 := blk_frozen BK213.out 4
                            have hnb106 := NB202_191.out
                            have hnc106 := NB191_202.out
                            have hcz107_0 : wc.cell? ⟨gb202, 0, none⟩ = some (.int .i64 t193) := (blk_cell BK202.out 0).trans rfl
                            have hcz107_1 : wc.cell? ⟨gb202, 1, none⟩ = some (.slice Ao13 t194.length co13) := (blk_cell BK202.out 1).trans rfl
                            have hcz107_2 : wc.cell? ⟨gb202, 2, none⟩ = some (.slice Ao14 t197.length co14) := (blk_cell BK202.out 2).trans rfl
                            have hcz107_3 : wc.cell? ⟨gb202, 3, none⟩ = some (.bool t200) := (blk_cell BK202.out 3).trans rfl
                            have hfz107_0 := blk_frozen BK202.out 0
                            have hfz107_1 := blk_frozen BK202.out 1
                            have hfz107_2 := blk_frozen BK202.out 2
                            have hfz107_3 := blk_frozen BK202.out 3
                            have hcz108_0 : wc.cell? ⟨gb191, 0, none⟩ = some (.slice (some ad212) l0_0.length c0_0) := (blk_cell BK191.out 0).trans rfl
                            have hcz108_1 : wc.cell? ⟨gb191, 1, none⟩ = some (.slice A0_1 l0_1.length c0_1) := (blk_cell BK191.out 1).trans rfl
                            have hcz108_2 : wc.cell? ⟨gb191, 2, none⟩ = some (.int .i64 a0_2) := (blk_cell BK191.out 2).trans rfl
                            have hfz108_0 := blk_frozen BK191.out 0
                            have hfz108_1 := blk_frozen BK191.out 1
                            have hfz108_2 := blk_frozen BK191.out 2
                            go_wp2_with (first | (go_at_call 20; (with_reducible refine (palinodelaw16_meets.calls kj89 _ _ l0_0 _ _ l0_1 a0_2 _ _ t194 ((rd_T49 l0_0 x10_3).f0) ((rd_T49 l0_0 x10_3).f1) ((rd_T49 l0_0 x10_3).f2) ((rd_T49 l0_0 x10_3).f3) ((rd_T49 l0_0 x10_3).f4) t216 _ ?side1 ?side2 ?side3 ?side4 ?side5 ?side6 A93.out).mono ?_); (case side1 => repeat (first | exact (Kd.C_below HR0_0.out HB.out) | (with_reducible refine Kd.C_alloc ?_ _) | (with_reducible refine Kd.C_drewN ?_ _) | (with_reducible refine Kd.C_drew ?_))); (case side2 => exact HC0_0.out); (case side3 => repeat (first | exact (Kd.C_below HR0_1.out HB.out) | (with_reducible refine Kd.C_alloc ?_ _) | (with_reducible refine Kd.C_drewN ?_ _) | (with_reducible refine Kd.C_drew ?_))); (case side4 => exact HC0_1.out); (case side5 => repeat (first | exact (Kd.R_reads' HO_203001.out).2.2 | (with_reducible refine Kd.C_alloc ?_ _) | (with_reducible refine Kd.C_drewN ?_ _) | (with_reducible refine Kd.C_drew ?_))); (case side6 => exact (Kd.R_reads' HO_203001.out).2.1); rintro e w109 ⟨rfl, hb⟩; have n0_ := Aside0.mk (Kd.R_below (by (with_reducible repeat (first | apply Kd.R_alloc | apply Kd.R_drewN | apply Kd.R_drew)); exact HO_6.out) hb); have n1_ := Aside0.mk (Kd.R_below (by (with_reducible repeat (first | apply Kd.R_alloc | apply Kd.R_drewN | apply Kd.R_drew)); exact HO_203001.out) hb); have n2_ := Aside0.mk (Kd.R_below (by (with_reducible repeat (first | apply Kd.R_alloc | apply Kd.R_drewN | apply Kd.R_drew)); exact HO_203002.out) hb); have n3_ := Aside0.mk (blk_below (g := gb191) (o := .cells #[.slice (some ad212) l0_0.length c0_0, .slice A0_1 l0_1.length c0_1, .int .i64 a0_2] 25 (0, 0)) (by (with_reducible repeat (first | refine blk_drewN ?_ _ | refine blk_drew ?_ | refine blk_alloc ?_ _)); exact BK191.out) hb); have n4_ := Aside0.mk (blk_below (g := gb202) (o := .cells #[.int .i64 t193, .slice Ao13 t194.length co13, .slice Ao14 t197.length co14, .bool t200] 28 (0, 0)) (by (with_reducible repeat (first | refine blk_drewN ?_ _ | refine blk_drew ?_ | refine blk_alloc ?_ _)); exact BK202.out) hb); have n5_ := Aside0.mk (blk_below (g := gb213) (o := .cells #[.int .i64 ((rd_T49 l0_0 x10_3).f0), .int .i64 ((rd_T49 l0_0 x10_3).f1), .string ((rd_T49 l0_0 x10_3).f2), .string ((rd_T49 l0_0 x10_3).f3), .int .i64 ((rd_T49 l0_0 x10_3).f4)] 49 (0, 0)) (by (with_reducible repeat (first | refine blk_drewN ?_ _ | refine blk_drew ?_ | refine blk_alloc ?_ _)); exact BK213.out) hb); have n6_ := Aside0.mk (below_step (by repeat (first | (with_reducible first | exact HB.out | apply below_alloc | apply pw_below_drewN | apply below_drew1 | refine below_set ?_ GE191.out | refine below_set ?_ GE202.out | refine below_set ?_ GE213.out) | exact HB.out)) hb); clear HO_6; clear HO_203001; clear HO_203002; clear BK191; clear BK202; clear BK213; clear HB; have HO_6 := n0_; have HO_203001 := n1_; have HO_203002 := n2_; have BK191 := n3_; have BK202 := n4_; have BK213 := n5_; have HB := n6_; clear n0_ n1_ n2_ n3_ n4_ n5_ n6_; (try clear hb); (try clear hb2); (try clear hk); (try clear hi)))
                            go_roundg kj89
                            case measure => have := HJ4.out; have := HK2.out; have := HK3.out; have := HJ54.out; have := HJ87.out; have := HJ89.out; omega
                            case rel => exact ⟨(x9_89), (wrap64 (x10_3 + 1)), (by first | rfl | (simp; done) | (simp [*]; done)), (by first | rfl | (simp; done) | (simp [*]; done)), H', ⟨by have := HJ4.out; have := HK2.out; have := HK3.out; have := HJ54.out; have := HJ87.out; have := HJ89.out; omega⟩, ⟨by (with_reducible repeat (first | apply Kd.R_alloc | apply Kd.R_drewN | apply Kd.R_drew)); exact HO_6.out⟩, ⟨by (with_reducible repeat (first | apply Kd.R_alloc | apply Kd.R_drewN | apply Kd.R_drew)); exact HO_203001.out⟩, ⟨by (with_reducible repeat (first | apply Kd.R_alloc | apply Kd.R_drewN | apply Kd.R_drew)); exact HO_203002.out⟩, ⟨by (with_reducible repeat (first | refine blk_drewN ?_ _ | refine blk_drew ?_ | refine blk_alloc ?_ _)); exact BK191.out⟩, ⟨by (with_reducible repeat (first | refine blk_drewN ?_ _ | refine blk_drew ?_ | refine blk_alloc ?_ _)); exact BK202.out⟩, ⟨by repeat (first | (with_reducible first | exact HB.out | apply below_alloc | apply pw_below_drewN | apply below_drew1 | refine below_set ?_ GE191.out | refine below_set ?_ GE202.out | refine below_set ?_ GE213.out) | exact HB.out)⟩⟩
                          replace c102 := Bool.eq_false_iff.mpr c102
                          subst c102
                          have H1 : ((palinodelaw16_meets.f kj89 l0_0 l0_1 a0_2 y207 ((rd_T49 l0_0 x10_3).f0) ((rd_T49 l0_0 x10_3).f1) ((rd_T49 l0_0 x10_3).f2) ((rd_T49 l0_0 x10_3).f3) ((rd_T49 l0_0 x10_3).f4)).bind fun t217 => (if t217 = true then (some false) else (palinodelaw16_PickJobs.l2 kj89 t192 y207 x9_89 (wrap64 (x10_3 + 1)) l0_0 l0_1 a0_2 t193 t194 t197 t200))) = some r := by rw [if_neg (show ¬ (false = true) by decide)] at H; exact H
                          clear H
                          have H := H1
                          clear H1
                          replace H := Option.bind_eq_some_iff.mp H
                          obtain ⟨t217, A1100, H⟩ := H
                          replace H : (if t217 = true then (some false) else (palinodelaw16_PickJobs.l2 kj89 t192 y207 x9_89 (wrap64 (x10_3 + 1)) l0_0 l0_1 a0_2 t193 t194 t197 t200)) = some r := H
                          have A110 := Aside0.mk A1100
                          clear A1100
                          by_cases c111 : t217 = true
                          · subst c111
                            have H1 : (some false) = some r := by rw [if_pos rfl] at H; exact H
                            clear H
                            have H := H1
                            clear H1
                            obtain rfl := Option.some.inj H
                            have hnb112 := NB213_191.out
                            have hnc112 := NB191_213.out
                            have hnb113 := NB213_202.out
                            have hnc113 := NB202_213.out
                            have hcz114_0 : wc.cell? ⟨gb213, 0, none⟩ = some (.int .i64 ((rd_T49 l0_0 x10_3).f0)) := (blk_cell BK213.out 0).trans rfl
                            have hcz114_1 : wc.cell? ⟨gb213, 1, none⟩ = some (.int .i64 ((rd_T49 l0_0 x10_3).f1)) := (blk_cell BK213.out 1).trans rfl
                            have hcz114_2 : wc.cell? ⟨gb213, 2, none⟩ = some (.string ((rd_T49 l0_0 x10_3).f2)) := (blk_cell BK213.out 2).trans rfl
                            have hcz114_3 : wc.cell? ⟨gb213, 3, none⟩ = some (.string ((rd_T49 l0_0 x10_3).f3)) := (blk_cell BK213.out 3).trans rfl
                            have hcz114_4 : wc.cell? ⟨gb213, 4, none⟩ = some (.int .i64 ((rd_T49 l0_0 x10_3).f4)) := (blk_cell BK213.out 4).trans rfl
                            have hfz114_0 := blk_frozen BK213.out 0
                            have hfz114_1 := blk_frozen BK213.out 1
                            have hfz114_2 := blk_frozen BK213.out 2
                            have hfz114_3 := blk_frozen BK213.out 3
                            have hfz114_4 := blk_frozen BK213.out 4
                            have hnb115 := NB202_191.out
                            have hnc115 := NB191_202.out
                            have hcz116_0 : wc.cell? ⟨gb202, 0, none⟩ = some (.int .i64 t193) := (blk_cell BK202.out 0).trans rfl
                            have hcz116_1 : wc.cell? ⟨gb202, 1, none⟩ = some (.slice Ao13 t194.length co13) := (blk_cell BK202.out 1).trans rfl
                            have hcz116_2 : wc.cell? ⟨gb202, 2, none⟩ = some (.slice Ao14 t197.length co14) := (blk_cell BK202.out 2).trans rfl
                            have hcz116_3 : wc.cell? ⟨gb202, 3, none⟩ = some (.bool t200) := (blk_cell BK202.out 3).trans rfl
                            have hfz116_0 := blk_frozen BK202.out 0
                            have hfz116_1 := blk_frozen BK202.out 1
                            have hfz116_2 := blk_frozen BK202.out 2
                            have hfz116_3 := blk_frozen BK202.out 3
                            have hcz117_0 : wc.cell? ⟨gb191, 0, none⟩ = some (.slice (some ad212) l0_0.length c0_0) := (blk_cell BK191.out 0).trans rfl
                            have hcz117_1 : wc.cell? ⟨gb191, 1, none⟩ = some (.slice A0_1 l0_1.length c0_1) := (blk_cell BK191.out 1).trans rfl
                            have hcz117_2 : wc.cell? ⟨gb191, 2, none⟩ = some (.int .i64 a0_2) := (blk_cell BK191.out 2).trans rfl
                            have hfz117_0 := blk_frozen BK191.out 0
                            have hfz117_1 := blk_frozen BK191.out 1
                            have hfz117_2 := blk_frozen BK191.out 2
                            go_wp2_with (first | (go_at_call 20; (with_reducible refine (palinodelaw16_meets.calls kj89 _ _ l0_0 _ _ l0_1 a0_2 _ _ t194 ((rd_T49 l0_0 x10_3).f0) ((rd_T49 l0_0 x10_3).f1) ((rd_T49 l0_0 x10_3).f2) ((rd_T49 l0_0 x10_3).f3) ((rd_T49 l0_0 x10_3).f4) t216 _ ?side1 ?side2 ?side3 ?side4 ?side5 ?side6 A93.out).mono ?_); (case side1 => repeat (first | exact (Kd.C_below HR0_0.out HB.out) | (with_reducible refine Kd.C_alloc ?_ _) | (with_reducible refine Kd.C_drewN ?_ _) | (with_reducible refine Kd.C_drew ?_))); (case side2 => exact HC0_0.out); (case side3 => repeat (first | exact (Kd.C_below HR0_1.out HB.out) | (with_reducible refine Kd.C_alloc ?_ _) | (with_reducible refine Kd.C_drewN ?_ _) | (with_reducible refine Kd.C_drew ?_))); (case side4 => exact HC0_1.out); (case side5 => repeat (first | exact (Kd.R_reads' HO_203001.out).2.2 | (with_reducible refine Kd.C_alloc ?_ _) | (with_reducible refine Kd.C_drewN ?_ _) | (with_reducible refine Kd.C_drew ?_))); (case side6 => exact (Kd.R_reads' HO_203001.out).2.1); rintro e w118 ⟨rfl, hb⟩; have n0_ := Aside0.mk (Kd.R_below (by (with_reducible repeat (first | apply Kd.R_alloc | apply Kd.R_drewN | apply Kd.R_drew)); exact HO_6.out) hb); have n1_ := Aside0.mk (Kd.R_below (by (with_reducible repeat (first | apply Kd.R_alloc | apply Kd.R_drewN | apply Kd.R_drew)); exact HO_203001.out) hb); have n2_ := Aside0.mk (Kd.R_below (by (with_reducible repeat (first | apply Kd.R_alloc | apply Kd.R_drewN | apply Kd.R_drew)); exact HO_203002.out) hb); have n3_ := Aside0.mk (blk_below (g := gb191) (o := .cells #[.slice (some ad212) l0_0.length c0_0, .slice A0_1 l0_1.length c0_1, .int .i64 a0_2] 25 (0, 0)) (by (with_reducible repeat (first | refine blk_drewN ?_ _ | refine blk_drew ?_ | refine blk_alloc ?_ _)); exact BK191.out) hb); have n4_ := Aside0.mk (blk_below (g := gb202) (o := .cells #[.int .i64 t193, .slice Ao13 t194.length co13, .slice Ao14 t197.length co14, .bool t200] 28 (0, 0)) (by (with_reducible repeat (first | refine blk_drewN ?_ _ | refine blk_drew ?_ | refine blk_alloc ?_ _)); exact BK202.out) hb); have n5_ := Aside0.mk (blk_below (g := gb213) (o := .cells #[.int .i64 ((rd_T49 l0_0 x10_3).f0), .int .i64 ((rd_T49 l0_0 x10_3).f1), .string ((rd_T49 l0_0 x10_3).f2), .string ((rd_T49 l0_0 x10_3).f3), .int .i64 ((rd_T49 l0_0 x10_3).f4)] 49 (0, 0)) (by (with_reducible repeat (first | refine blk_drewN ?_ _ | refine blk_drew ?_ | refine blk_alloc ?_ _)); exact BK213.out) hb); have n6_ := Aside0.mk (below_step (by repeat (first | (with_reducible first | exact HB.out | apply below_alloc | apply pw_below_drewN | apply below_drew1 | refine below_set ?_ GE191.out | refine below_set ?_ GE202.out | refine below_set ?_ GE213.out) | exact HB.out)) hb); clear HO_6; clear HO_203001; clear HO_203002; clear BK191; clear BK202; clear BK213; clear HB; have HO_6 := n0_; have HO_203001 := n1_; have HO_203002 := n2_; have BK191 := n3_; have BK202 := n4_; have BK213 := n5_; have HB := n6_; clear n0_ n1_ n2_ n3_ n4_ n5_ n6_; (try clear hb); (try clear hb2); (try clear hk); (try clear hi); have hcz119_0 : w118.cell? ⟨gb191, 0, none⟩ = some (.slice (some ad212) l0_0.length c0_0) := (blk_cell BK191.out 0).trans rfl; have hcz119_1 : w118.cell? ⟨gb191, 1, none⟩ = some (.slice A0_1 l0_1.length c0_1) := (blk_cell BK191.out 1).trans rfl; have hcz119_2 : w118.cell? ⟨gb191, 2, none⟩ = some (.int .i64 a0_2) := (blk_cell BK191.out 2).trans rfl; have hfz119_0 := blk_frozen BK191.out 0; have hfz119_1 := blk_frozen BK191.out 1; have hfz119_2 := blk_frozen BK191.out 2; have hcz120_0 : w118.cell? ⟨gb213, 0, none⟩ = some (.int .i64 ((rd_T49 l0_0 x10_3).f0)) := (blk_cell BK213.out 0).trans rfl; have hcz120_1 : w118.cell? ⟨gb213, 1, none⟩ = some (.int .i64 ((rd_T49 l0_0 x10_3).f1)) := (blk_cell BK213.out 1).trans rfl; have hcz120_2 : w118.cell? ⟨gb213, 2, none⟩ = some (.string ((rd_T49 l0_0 x10_3).f2)) := (blk_cell BK213.out 2).trans rfl; have hcz120_3 : w118.cell? ⟨gb213, 3, none⟩ = some (.string ((rd_T49 l0_0 x10_3).f3)) := (blk_cell BK213.out 3).trans rfl; have hcz120_4 : w118.cell? ⟨gb213, 4, none⟩ = some (.int .i64 ((rd_T49 l0_0 x10_3).f4)) := (blk_cell BK213.out 4).trans rfl; have hfz120_0 := blk_frozen BK213.out 0; have hfz120_1 := blk_frozen BK213.out 1; have hfz120_2 := blk_frozen BK213.out 2; have hfz120_3 := blk_frozen BK213.out 3; have hfz120_4 := blk_frozen BK213.out 4) | (go_at_call 20; (with_reducible refine (palinodelaw16_meets.calls kj89 _ _ l0_0 _ _ l0_1 a0_2 _ _ y207 ((rd_T49 l0_0 x10_3).f0) ((rd_T49 l0_0 x10_3).f1) ((rd_T49 l0_0 x10_3).f2) ((rd_T49 l0_0 x10_3).f3) ((rd_T49 l0_0 x10_3).f4) true _ ?side1 ?side2 ?side3 ?side4 ?side5 ?side6 A110.out).mono ?_); (case side1 => repeat (first | exact (Kd.C_below HR0_0.out HB.out) | (with_reducible refine Kd.C_alloc ?_ _) | (with_reducible refine Kd.C_drewN ?_ _) | (with_reducible refine Kd.C_drew ?_))); (case side2 => exact HC0_0.out); (case side3 => repeat (first | exact (Kd.C_below HR0_1.out HB.out) | (with_reducible refine Kd.C_alloc ?_ _) | (with_reducible refine Kd.C_drewN ?_ _) | (with_reducible refine Kd.C_drew ?_))); (case side4 => exact HC0_1.out); (case side5 => repeat (first | exact (Kd.R_reads' HO_6.out).2.2 | (with_reducible refine Kd.C_alloc ?_ _) | (with_reducible refine Kd.C_drewN ?_ _) | (with_reducible refine Kd.C_drew ?_))); (case side6 => exact (Kd.R_reads' HO_6.out).2.1); rintro e w121 ⟨rfl, hb⟩; have n0_ := Aside0.mk (Kd.R_below (by (with_reducible repeat (first | apply Kd.R_alloc | apply Kd.R_drewN | apply Kd.R_drew)); exact HO_6.out) hb); have n1_ := Aside0.mk (Kd.R_below (by (with_reducible repeat (first | apply Kd.R_alloc | apply Kd.R_drewN | apply Kd.R_drew)); exact HO_203001.out) hb); have n2_ := Aside0.mk (Kd.R_below (by (with_reducible repeat (first | apply Kd.R_alloc | apply Kd.R_drewN | apply Kd.R_drew)); exact HO_203002.out) hb); have n3_ := Aside0.mk (blk_below (g := gb191) (o := .cells #[.slice (some ad212) l0_0.length c0_0, .slice A0_1 l0_1.length c0_1, .int .i64 a0_2] 25 (0, 0)) (by (with_reducible repeat (first | refine blk_drewN ?_ _ | refine blk_drew ?_ | refine blk_alloc ?_ _)); exact BK191.out) hb); have n4_ := Aside0.mk (blk_below (g := gb202) (o := .cells #[.int .i64 t193, .slice Ao13 t194.length co13, .slice Ao14 t197.length co14, .bool t200] 28 (0, 0)) (by (with_reducible repeat (first | refine blk_drewN ?_ _ | refine blk_drew ?_ | refine blk_alloc ?_ _)); exact BK202.out) hb); have n5_ := Aside0.mk (blk_below (g := gb213) (o := .cells #[.int .i64 ((rd_T49 l0_0 x10_3).f0), .int .i64 ((rd_T49 l0_0 x10_3).f1), .string ((rd_T49 l0_0 x10_3).f2), .string ((rd_T49 l0_0 x10_3).f3), .int .i64 ((rd_T49 l0_0 x10_3).f4)] 49 (0, 0)) (by (with_reducible repeat (first | refine blk_drewN ?_ _ | refine blk_drew ?_ | refine blk_alloc ?_ _)); exact BK213.out) hb); have n6_ := Aside0.mk (below_step (by repeat (first | (with_reducible first | exact HB.out | apply below_alloc | apply pw_below_drewN | apply below_drew1 | refine below_set ?_ GE191.out | refine below_set ?_ GE202.out | refine below_set ?_ GE213.out) | exact HB.out)) hb); clear HO_6; clear HO_203001; clear HO_203002; clear BK191; clear BK202; clear BK213; clear HB; have HO_6 := n0_; have HO_203001 := n1_; have HO_203002 := n2_; have BK191 := n3_; have BK202 := n4_; have BK213 := n5_; have HB := n6_; clear n0_ n1_ n2_ n3_ n4_ n5_ n6_; (try clear hb); (try clear hb2); (try clear hk); (try clear hi)))
                            go_ret
                            exact ⟨by first | rfl | (simp [errW_none, errW_some] <;> rfl) | (simp [*, errW_none, errW_some] <;> rfl), by repeat (first | (with_reducible first | exact HB.out | apply below_alloc | apply pw_below_drewN | apply below_drew1 | refine below_set ?_ GE191.out | refine below_set ?_ GE202.out | refine below_set ?_ GE213.out) | exact HB.out)⟩
                          replace c111 := Bool.eq_false_iff.mpr c111
                          subst c111
                          have H1 : (palinodelaw16_PickJobs.l2 kj89 t192 y207 x9_89 (wrap64 (x10_3 + 1)) l0_0 l0_1 a0_2 t193 t194 t197 t200) = some r := by rw [if_neg (show ¬ (false = true) by decide)] at H; exact H
                          clear H
                          have H := H1
                          clear H1
                          have H' := Aside0.mk H
                          clear H
                          have hnb122 := NB213_191.out
                          have hnc122 := NB191_213.out
                          have hnb123 := NB213_202.out
                          have hnc123 := NB202_213.out
                          have hcz124_0 : wc.cell? ⟨gb213, 0, none⟩ = some (.int .i64 ((rd_T49 l0_0 x10_3).f0)) := (blk_cell BK213.out 0).trans rfl
                          have hcz124_1 : wc.cell? ⟨gb213, 1, none⟩ = some (.int .i64 ((rd_T49 l0_0 x10_3).f1)) := (blk_cell BK213.out 1).trans rfl
                          have hcz124_2 : wc.cell? ⟨gb213, 2, none⟩ = some (.string ((rd_T49 l0_0 x10_3).f2)) := (blk_cell BK213.out 2).trans rfl
                          have hcz124_3 : wc.cell? ⟨gb213, 3, none⟩ = some (.string ((rd_T49 l0_0 x10_3).f3)) := (blk_cell BK213.out 3).trans rfl
                          have hcz124_4 : wc.cell? ⟨gb213, 4, none⟩ = some (.int .i64 ((rd_T49 l0_0 x10_3).f4)) := (blk_cell BK213.out 4).trans rfl
                          have hfz124_0 := blk_frozen BK213.out 0
                          have hfz124_1 := blk_frozen BK213.out 1
                          have hfz124_2 := blk_frozen BK213.out 2
                          have hfz124_3 := blk_frozen BK213.out 3
                          have hfz124_4 := blk_frozen BK213.out 4
                          have hnb125 := NB202_191.out
                          have hnc125 := NB191_202.out
                          have hcz126_0 : wc.cell? ⟨gb202, 0, none⟩ = some (.int .i64 t193) := (blk_cell BK202.out 0).trans rfl
                          have hcz126_1 : wc.cell? ⟨gb202, 1, none⟩ = some (.slice Ao13 t194.length co13) := (blk_cell BK202.out 1).trans rfl
                          have hcz126_2 : wc.cell? ⟨gb202, 2, none⟩ = some (.slice Ao14 t197.length co14) := (blk_cell BK202.out 2).trans rfl
                          have hcz126_3 : wc.cell? ⟨gb202, 3, none⟩ = some (.bool t200) := (blk_cell BK202.out 3).trans rfl
                          have hfz126_0 := blk_frozen BK202.out 0
                          have hfz126_1 := blk_frozen BK202.out 1
                          have hfz126_2 := blk_frozen BK202.out 2
                          have hfz126_3 := blk_frozen BK202.out 3
                          have hcz127_0 : wc.cell? ⟨gb191, 0, none⟩ = some (.slice (some ad212) l0_0.length c0_0) := (blk_cell BK191.out 0).trans rfl
                          have hcz127_1 : wc.cell? ⟨gb191, 1, none⟩ = some (.slice A0_1 l0_1.length c0_1) := (blk_cell BK191.out 1).trans rfl
                          have hcz127_2 : wc.cell? ⟨gb191, 2, none⟩ = some (.int .i64 a0_2) := (blk_cell BK191.out 2).trans rfl
                          have hfz127_0 := blk_frozen BK191.out 0
                          have hfz127_1 := blk_frozen BK191.out 1
                          have hfz127_2 := blk_frozen BK191.out 2
                          go_wp2_with (first | (go_at_call 20; (with_reducible refine (palinodelaw16_meets.calls kj89 _ _ l0_0 _ _ l0_1 a0_2 _ _ t194 ((rd_T49 l0_0 x10_3).f0) ((rd_T49 l0_0 x10_3).f1) ((rd_T49 l0_0 x10_3).f2) ((rd_T49 l0_0 x10_3).f3) ((rd_T49 l0_0 x10_3).f4) t216 _ ?side1 ?side2 ?side3 ?side4 ?side5 ?side6 A93.out).mono ?_); (case side1 => repeat (first | exact (Kd.C_below HR0_0.out HB.out) | (with_reducible refine Kd.C_alloc ?_ _) | (with_reducible refine Kd.C_drewN ?_ _) | (with_reducible refine Kd.C_drew ?_))); (case side2 => exact HC0_0.out); (case side3 => repeat (first | exact (Kd.C_below HR0_1.out HB.out) | (with_reducible refine Kd.C_alloc ?_ _) | (with_reducible refine Kd.C_drewN ?_ _) | (with_reducible refine Kd.C_drew ?_))); (case side4 => exact HC0_1.out); (case side5 => repeat (first | exact (Kd.R_reads' HO_203001.out).2.2 | (with_reducible refine Kd.C_alloc ?_ _) | (with_reducible refine Kd.C_drewN ?_ _) | (with_reducible refine Kd.C_drew ?_))); (case side6 => exact (Kd.R_reads' HO_203001.out).2.1); rintro e w128 ⟨rfl, hb⟩; have n0_ := Aside0.mk (Kd.R_below (by (with_reducible repeat (first | apply Kd.R_alloc | apply Kd.R_drewN | apply Kd.R_drew)); exact HO_6.out) hb); have n1_ := Aside0.mk (Kd.R_below (by (with_reducible repeat (first | apply Kd.R_alloc | apply Kd.R_drewN | apply Kd.R_drew)); exact HO_203001.out) hb); have n2_ := Aside0.mk (Kd.R_below (by (with_reducible repeat (first | apply Kd.R_alloc | apply Kd.R_drewN | apply Kd.R_drew)); exact HO_203002.out) hb); have n3_ := Aside0.mk (blk_below (g := gb191) (o := .cells #[.slice (some ad212) l0_0.length c0_0, .slice A0_1 l0_1.length c0_1, .int .i64 a0_2] 25 (0, 0)) (by (with_reducible repeat (first | refine blk_drewN ?_ _ | refine blk_drew ?_ | refine blk_alloc ?_ _)); exact BK191.out) hb); have n4_ := Aside0.mk (blk_below (g := gb202) (o := .cells #[.int .i64 t193, .slice Ao13 t194.length co13, .slice Ao14 t197.length co14, .bool t200] 28 (0, 0)) (by (with_reducible repeat (first | refine blk_drewN ?_ _ | refine blk_drew ?_ | refine blk_alloc ?_ _)); exact BK202.out) hb); have n5_ := Aside0.mk (blk_below (g := gb213) (o := .cells #[.int .i64 ((rd_T49 l0_0 x10_3).f0), .int .i64 ((rd_T49 l0_0 x10_3).f1), .string ((rd_T49 l0_0 x10_3).f2), .string ((rd_T49 l0_0 x10_3).f3), .int .i64 ((rd_T49 l0_0 x10_3).f4)] 49 (0, 0)) (by (with_reducible repeat (first | refine blk_drewN ?_ _ | refine blk_drew ?_ | refine blk_alloc ?_ _)); exact BK213.out) hb); have n6_ := Aside0.mk (below_step (by repeat (first | (with_reducible first | exact HB.out | apply below_alloc | apply pw_below_drewN | apply below_drew1 | refine below_set ?_ GE191.out | refine below_set ?_ GE202.out | refine below_set ?_ GE213.out) | exact HB.out)) hb); clear HO_6; clear HO_203001; clear HO_203002; clear BK191; clear BK202; clear BK213; clear HB; have HO_6 := n0_; have HO_203001 := n1_; have HO_203002 := n2_; have BK191 := n3_; have BK202 := n4_; have BK213 := n5_; have HB := n6_; clear n0_ n1_ n2_ n3_ n4_ n5_ n6_; (try clear hb); (try clear hb2); (try clear hk); (try clear hi); have hcz129_0 : w128.cell? ⟨gb191, 0, none⟩ = some (.slice (some ad212) l0_0.length c0_0) := (blk_cell BK191.out 0).trans rfl; have hcz129_1 : w128.cell? ⟨gb191, 1, none⟩ = some (.slice A0_1 l0_1.length c0_1) := (blk_cell BK191.out 1).trans rfl; have hcz129_2 : w128.cell? ⟨gb191, 2, none⟩ = some (.int .i64 a0_2) := (blk_cell BK191.out 2).trans rfl; have hfz129_0 := blk_frozen BK191.out 0; have hfz129_1 := blk_frozen BK191.out 1; have hfz129_2 := blk_frozen BK191.out 2; have hcz130_0 : w128.cell? ⟨gb213, 0, none⟩ = some (.int .i64 ((rd_T49 l0_0 x10_3).f0)) := (blk_cell BK213.out 0).trans rfl; have hcz130_1 : w128.cell? ⟨gb213, 1, none⟩ = some (.int .i64 ((rd_T49 l0_0 x10_3).f1)) := (blk_cell BK213.out 1).trans rfl; have hcz130_2 : w128.cell? ⟨gb213, 2, none⟩ = some (.string ((rd_T49 l0_0 x10_3).f2)) := (blk_cell BK213.out 2).trans rfl; have hcz130_3 : w128.cell? ⟨gb213, 3, none⟩ = some (.string ((rd_T49 l0_0 x10_3).f3)) := (blk_cell BK213.out 3).trans rfl; have hcz130_4 : w128.cell? ⟨gb213, 4, none⟩ = some (.int .i64 ((rd_T49 l0_0 x10_3).f4)) := (blk_cell BK213.out 4).trans rfl; have hfz130_0 := blk_frozen BK213.out 0; have hfz130_1 := blk_frozen BK213.out 1; have hfz130_2 := blk_frozen BK213.out 2; have hfz130_3 := blk_frozen BK213.out 3; have hfz130_4 := blk_frozen BK213.out 4) | (go_at_call 20; (with_reducible refine (palinodelaw16_meets.calls kj89 _ _ l0_0 _ _ l0_1 a0_2 _ _ y207 ((rd_T49 l0_0 x10_3).f0) ((rd_T49 l0_0 x10_3).f1) ((rd_T49 l0_0 x10_3).f2) ((rd_T49 l0_0 x10_3).f3) ((rd_T49 l0_0 x10_3).f4) false _ ?side1 ?side2 ?side3 ?side4 ?side5 ?side6 A110.out).mono ?_); (case side1 => repeat (first | exact (Kd.C_below HR0_0.out HB.out) | (with_reducible refine Kd.C_alloc ?_ _) | (with_reducible refine Kd.C_drewN ?_ _) | (with_reducible refine Kd.C_drew ?_))); (case side2 => exact HC0_0.out); (case side3 => repeat (first | exact (Kd.C_below HR0_1.out HB.out) | (with_reducible refine Kd.C_alloc ?_ _) | (with_reducible refine Kd.C_drewN ?_ _) | (with_reducible refine Kd.C_drew ?_))); (case side4 => exact HC0_1.out); (case side5 => repeat (first | exact (Kd.R_reads' HO_6.out).2.2 | (with_reducible refine Kd.C_alloc ?_ _) | (with_reducible refine Kd.C_drewN ?_ _) | (with_reducible refine Kd.C_drew ?_))); (case side6 => exact (Kd.R_reads' HO_6.out).2.1); rintro e w131 ⟨rfl, hb⟩; have n0_ := Aside0.mk (Kd.R_below (by (with_reducible repeat (first | apply Kd.R_alloc | apply Kd.R_drewN | apply Kd.R_drew)); exact HO_6.out) hb); have n1_ := Aside0.mk (Kd.R_below (by (with_reducible repeat (first | apply Kd.R_alloc | apply Kd.R_drewN | apply Kd.R_drew)); exact HO_203001.out) hb); have n2_ := Aside0.mk (Kd.R_below (by (with_reducible repeat (first | apply Kd.R_alloc | apply Kd.R_drewN | apply Kd.R_drew)); exact HO_203002.out) hb); have n3_ := Aside0.mk (blk_below (g := gb191) (o := .cells #[.slice (some ad212) l0_0.length c0_0, .slice A0_1 l0_1.length c0_1, .int .i64 a0_2] 25 (0, 0)) (by (with_reducible repeat (first | refine blk_drewN ?_ _ | refine blk_drew ?_ | refine blk_alloc ?_ _)); exact BK191.out) hb); have n4_ := Aside0.mk (blk_below (g := gb202) (o := .cells #[.int .i64 t193, .slice Ao13 t194.length co13, .slice Ao14 t197.length co14, .bool t200] 28 (0, 0)) (by (with_reducible repeat (first | refine blk_drewN ?_ _ | refine blk_drew ?_ | refine blk_alloc ?_ _)); exact BK202.out) hb); have n5_ := Aside0.mk (blk_below (g := gb213) (o := .cells #[.int .i64 ((rd_T49 l0_0 x10_3).f0), .int .i64 ((rd_T49 l0_0 x10_3).f1), .string ((rd_T49 l0_0 x10_3).f2), .string ((rd_T49 l0_0 x10_3).f3), .int .i64 ((rd_T49 l0_0 x10_3).f4)] 49 (0, 0)) (by (with_reducible repeat (first | refine blk_drewN ?_ _ | refine blk_drew ?_ | refine blk_alloc ?_ _)); exact BK213.out) hb); have n6_ := Aside0.mk (below_step (by repeat (first | (with_reducible first | exact HB.out | apply below_alloc | apply pw_below_drewN | apply below_drew1 | refine below_set ?_ GE191.out | refine below_set ?_ GE202.out | refine below_set ?_ GE213.out) | exact HB.out)) hb); clear HO_6; clear HO_203001; clear HO_203002; clear BK191; clear BK202; clear BK213; clear HB; have HO_6 := n0_; have HO_203001 := n1_; have HO_203002 := n2_; have BK191 := n3_; have BK202 := n4_; have BK213 := n5_; have HB := n6_; clear n0_ n1_ n2_ n3_ n4_ n5_ n6_; (try clear hb); (try clear hb2); (try clear hk); (try clear hi)))
                          go_roundg kj89
                          case measure => have := HJ4.out; have := HK2.out; have := HK3.out; have := HJ54.out; have := HJ87.out; have := HJ89.out; omega
                          case rel => exact ⟨(x9_89), (wrap64 (x10_3 + 1)), (by first | rfl | (simp; done) | (simp [*]; done)), (by first | rfl | (simp; done) | (simp [*]; done)), H', ⟨by have := HJ4.out; have := HK2.out; have := HK3.out; have := HJ54.out; have := HJ87.out; have := HJ89.out; omega⟩, ⟨by (with_reducible repeat (first | apply Kd.R_alloc | apply Kd.R_drewN | apply Kd.R_drew)); exact HO_6.out⟩, ⟨by (with_reducible repeat (first | apply Kd.R_alloc | apply Kd.R_drewN | apply Kd.R_drew)); exact HO_203001.out⟩, ⟨by (with_reducible repeat (first | apply Kd.R_alloc | apply Kd.R_drewN | apply Kd.R_drew)); exact HO_203002.out⟩, ⟨by (with_reducible repeat (first | refine blk_drewN ?_ _ | refine blk_drew ?_ | refine blk_alloc ?_ _)); exact BK191.out⟩, ⟨by (with_reducible repeat (first | refine blk_drewN ?_ _ | refine blk_drew ?_ | refine blk_alloc ?_ _)); exact BK202.out⟩, ⟨by repeat (first | (with_reducible first | exact HB.out | apply below_alloc | apply pw_below_drewN | apply below_drew1 | refine below_set ?_ GE191.out | refine below_set ?_ GE202.out | refine below_set ?_ GE213.out) | exact HB.out)⟩⟩

end Go.Proofs.Ytepgnefkpjnmlaa.P3
