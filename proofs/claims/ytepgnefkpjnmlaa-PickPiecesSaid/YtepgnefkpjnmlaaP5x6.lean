-- printed by gprint.py (own tool) over the kit's print
import Derived.Test.YtepgnefkpjnmlaaP5x0
import Derived.Test.YtepgnefkpjnmlaaP5x5
namespace Go.Proofs.Ytepgnefkpjnmlaa.P5
open Go.RowKit Go.Proofs.Ytepgnefkpjnmlaa Go.Proofs.YtepgnefkpjnmlaaW.PrintWords Go.Proofs.YtepgnefkpjnmlaaW.PrintLast Go.Proofs.YtepgnefkpjnmlaaW.PrintMore
attribute [local go_sem] max2_int min2_int max_two min_two max_three min_three max_four min_four   -- for this text's walks alone
attribute [local go_sem] min2_str max2_str leq_str gtr_str geq_str
set_option linter.unusedVariables false
set_option linter.unusedSimpArgs false

/-! ### palinodelaw16_PickPieces: function 7 -/
mutual
def palinodelaw16_PickPieces.l0 : Nat → List (S45) → Int → Bool → List (List (S45)) → Option Int → List (S45) → Int → Option (Bool)
  | 0, _, _, _, _, _, _, _ => none
  | k + 1, x0, x1, x5, x6, x7, x8, x9 => if x9 < (x6.length : Int) then (if 0 ≤ x9 then (if ((rd_L6 x6 x9).length : Int) = 0 then (palinodelaw16_PickPieces.j1 k x0 x1 x5 x6 x7 x8 x9 true) else (if x9 < (wrap64 ((x6.length : Int) - 1)) then (palinodelaw16_PickPieces.j1 k x0 x1 x5 x6 x7 x8 x9 (decide (((rd_L6 x6 x9).length : Int) < x1))) else (palinodelaw16_PickPieces.j1 k x0 x1 x5 x6 x7 x8 x9 false))) else (none)) else ((palinodelaw16_entries.f k x8 x0).bind fun t199 => (if x5 = true then (if t199 = true then (if x7.isNone = true then (some true) else (some false)) else (some false)) else (some false)))
def palinodelaw16_PickPieces.j1 : Nat → List (S45) → Int → Bool → List (List (S45)) → Option Int → List (S45) → Int → Bool → Option (Bool)
  | 0, _, _, _, _, _, _, _, _ => none
  | k + 1, x0, x1, x5, x6, x7, x8, x9, x62 => if x62 = true then (some false) else (if x9 > 0 then (if 0 ≤ (wrap64 (x9 - 1)) then (if (wrap64 (x9 - 1)) < (x6.length : Int) then (if ((rd_L6 x6 (wrap64 (x9 - 1))).length : Int) > 0 then (if 0 ≤ (wrap64 (((rd_L6 x6 (wrap64 (x9 - 1))).length : Int) - 1)) then (if (wrap64 (((rd_L6 x6 (wrap64 (x9 - 1))).length : Int) - 1)) < ((rd_L6 x6 (wrap64 (x9 - 1))).length : Int) then (if 0 ≤ x9 then (if x9 < (x6.length : Int) then (if 0 < ((rd_L6 x6 x9).length : Int) then (if ((rd_T45 (rd_L6 x6 (wrap64 (x9 - 1))) (wrap64 (((rd_L6 x6 (wrap64 (x9 - 1))).length : Int) - 1))).f0).toList = ((rd_T45 (rd_L6 x6 x9) 0).f0).toList then (some false) else (if x8.length + (rd_L6 x6 x9).length < 2932031007402 then (palinodelaw16_PickPieces.l0 k x0 x1 x5 x6 x7 (x8 ++ (rd_L6 x6 x9)) (wrap64 (x9 + 1))) else (none))) else (none)) else (none)) else (none)) else (none)) else (none)) else (if 0 ≤ x9 then (if x9 < (x6.length : Int) then (if x8.length + (rd_L6 x6 x9).length < 2932031007402 then (palinodelaw16_PickPieces.l0 k x0 x1 x5 x6 x7 (x8 ++ (rd_L6 x6 x9)) (wrap64 (x9 + 1))) else (none)) else (none)) else (none))) else (none)) else (none)) else (if 0 ≤ x9 then (if x9 < (x6.length : Int) then (if x8.length + (rd_L6 x6 x9).length < 2932031007402 then (palinodelaw16_PickPieces.l0 k x0 x1 x5 x6 x7 (x8 ++ (rd_L6 x6 x9)) (wrap64 (x9 + 1))) else (none)) else (none)) else (none)))
end
def palinodelaw16_PickPieces.f (k : Nat) (l0 : List (S45)) (a1 : Int) : Option (Bool) := (palinodelaw16_examples.f).bind fun t189 => (if 0 ≤ (mn (l0.length : Int) 200) then (if (mn (l0.length : Int) 200) ≤ (l0.length : Int) then ((some (l0.take ((mn (l0.length : Int) 200) : Int).toNat : List (S45))).bind fun y190 => ((pick_Cut.f y190 a1).bind fun bt194 => (if a1 < 1 then (if t189 = true then ((palinodelaw16_is.f bt194.2 1).bind fun t198 => (if t198 = true then (some ((bt194.1.length : Int) == 0)) else (some false))) else (some false)) else (palinodelaw16_PickPieces.l0 k y190 a1 t189 bt194.1 bt194.2 ([] : List (S45)) 0)))) else (none)) else (none))
theorem palinodelaw16_PickPieces.mono_l : ∀ k, (∀ y0 y1 y2 y3 y4 y5 y6, LeO (palinodelaw16_PickPieces.l0 k y0 y1 y2 y3 y4 y5 y6) (palinodelaw16_PickPieces.l0 (k + 1) y0 y1 y2 y3 y4 y5 y6)) ∧ (∀ y0 y1 y2 y3 y4 y5 y6 y7, LeO (palinodelaw16_PickPieces.j1 k y0 y1 y2 y3 y4 y5 y6 y7) (palinodelaw16_PickPieces.j1 (k + 1) y0 y1 y2 y3 y4 y5 y6 y7))
  | 0 => ⟨fun _ _ _ _ _ _ _ r h => by simp [palinodelaw16_PickPieces.l0] at h, fun _ _ _ _ _ _ _ _ r h => by simp [palinodelaw16_PickPieces.j1] at h⟩
  | k + 1 => by
    obtain ⟨ih0, ih1⟩ := palinodelaw16_PickPieces.mono_l k
    refine ⟨?_, ?_⟩
    · intro y0 y1 y2 y3 y4 y5 y6
      unfold palinodelaw16_PickPieces.l0
      repeat' first
      | (with_reducible exact ih0 _ _ _ _ _ _ _)
      | (with_reducible exact ih1 _ _ _ _ _ _ _ _)
      | (with_reducible exact palinodelaw16_entries.mono _ _ _)
      | (with_reducible exact LeO.refl _)
      | (with_reducible exact LeO.none _)
      | (with_reducible refine LeO.ite ?_ ?_)
      | (with_reducible refine LeO.bind ?_ (fun _ => ?_))
      | exact ih0 _ _ _ _ _ _ _
      | exact ih1 _ _ _ _ _ _ _ _
      | exact palinodelaw16_entries.mono _ _ _
      | exact LeO.none _
      | refine LeO.ite ?_ ?_
      | refine LeO.bind ?_ (fun _ => ?_)
    · intro y0 y1 y2 y3 y4 y5 y6 y7
      unfold palinodelaw16_PickPieces.j1
      repeat' first
      | (with_reducible exact ih0 _ _ _ _ _ _ _)
      | (with_reducible exact ih1 _ _ _ _ _ _ _ _)
      | (with_reducible exact palinodelaw16_entries.mono _ _ _)
      | (with_reducible exact LeO.refl _)
      | (with_reducible exact LeO.none _)
      | (with_reducible refine LeO.ite ?_ ?_)
      | (with_reducible refine LeO.bind ?_ (fun _ => ?_))
      | exact ih0 _ _ _ _ _ _ _
      | exact ih1 _ _ _ _ _ _ _ _
      | exact palinodelaw16_entries.mono _ _ _
      | exact LeO.none _
      | refine LeO.ite ?_ ?_
      | refine LeO.bind ?_ (fun _ => ?_)
theorem palinodelaw16_PickPieces.mono : ∀ a0 a1 k, LeO (palinodelaw16_PickPieces.f k a0 a1) (palinodelaw16_PickPieces.f (k + 1) a0 a1) := by
  intro a0 a1 k
  obtain ⟨ih0, ih1⟩ := palinodelaw16_PickPieces.mono_l k
  unfold palinodelaw16_PickPieces.f
  repeat' first
      | (with_reducible exact ih0 _ _ _ _ _ _ _)
      | (with_reducible exact ih1 _ _ _ _ _ _ _ _)
      | (with_reducible exact palinodelaw16_entries.mono _ _ _)
      | (with_reducible exact LeO.refl _)
      | (with_reducible exact LeO.none _)
      | (with_reducible refine LeO.ite ?_ ?_)
      | (with_reducible refine LeO.bind ?_ (fun _ => ?_))
      | exact ih0 _ _ _ _ _ _ _
      | exact ih1 _ _ _ _ _ _ _ _
      | exact palinodelaw16_entries.mono _ _ _
      | exact LeO.none _
      | refine LeO.ite ?_ ?_
      | refine LeO.bind ?_ (fun _ => ?_)
set_option maxHeartbeats 8000000 in
set_option maxRecDepth 100000 in
theorem palinodelaw16_PickPieces.calls (k : Nat) (A0 : Option Addr) (c0 : Nat) (l0 : List (S45)) (a1 : Int) (r : Bool) (w : World) (hr0 : Kd.C k45 w A0 l0.length l0) (hc0 : l0.length ≤ c0) (h : palinodelaw16_PickPieces.f k l0 a1 = some r) :
    Calls Try.prog 7 #[.slice A0 l0.length c0, .int .i64 a1] w fun e w' => e = .returned (.bool r) ∧ Below w.heap.size w w' := by
  have hu39 := Try.underlying39
  have hu58 := Try.underlying58
  have HR0 := Aside0.mk hr0
  have HC0 := Aside0.mk hc0
  clear hr0 hc0
  have HB := Aside0.mk (Below.refl w.heap.size w)
  have H : ((palinodelaw16_examples.f).bind fun t189 => (if 0 ≤ (mn (l0.length : Int) 200) then (if (mn (l0.length : Int) 200) ≤ (l0.length : Int) then ((some (l0.take ((mn (l0.length : Int) 200) : Int).toNat : List (S45))).bind fun y190 => ((pick_Cut.f y190 a1).bind fun bt194 => (if a1 < 1 then (if t189 = true then ((palinodelaw16_is.f bt194.2 1).bind fun t198 => (if t198 = true then (some ((bt194.1.length : Int) == 0)) else (some false))) else (some false)) else (palinodelaw16_PickPieces.l0 k y190 a1 t189 bt194.1 bt194.2 ([] : List (S45)) 0)))) else (none)) else (none))) = some r := h
  clear h
  replace H := Option.bind_eq_some_iff.mp H
  obtain ⟨t189, A30, H⟩ := H
  replace H : (if 0 ≤ (mn (l0.length : Int) 200) then (if (mn (l0.length : Int) 200) ≤ (l0.length : Int) then ((some (l0.take ((mn (l0.length : Int) 200) : Int).toNat : List (S45))).bind fun y190 => ((pick_Cut.f y190 a1).bind fun bt194 => (if a1 < 1 then (if t189 = true then ((palinodelaw16_is.f bt194.2 1).bind fun t198 => (if t198 = true then (some ((bt194.1.length : Int) == 0)) else (some false))) else (some false)) else (palinodelaw16_PickPieces.l0 k y190 a1 t189 bt194.1 bt194.2 ([] : List (S45)) 0)))) else (none)) else (none)) = some r := H
  have A3 := Aside0.mk A30
  clear A30
  obtain ⟨ji4, hji4⟩ : ∃ j_ : Int, (mn (l0.length : Int) 200) = j_ := ⟨_, rfl⟩
  replace H : (if 0 ≤ (ji4) then (if (ji4) ≤ (l0.length : Int) then ((some (l0.take ((ji4) : Int).toNat : List (S45))).bind fun y190 => ((pick_Cut.f y190 a1).bind fun bt194 => (if a1 < 1 then (if t189 = true then ((palinodelaw16_is.f bt194.2 1).bind fun t198 => (if t198 = true then (some ((bt194.1.length : Int) == 0)) else (some false))) else (some false)) else (palinodelaw16_PickPieces.l0 k y190 a1 t189 bt194.1 bt194.2 ([] : List (S45)) 0)))) else (none)) else (none)) = some r := by first | (rw [hji4] at H; exact H) | (simp only [hji4] at H ⊢; exact H)
  (try rw [hji4] at A3)
  (try (have hji4h : ji4 ≤ 200 := by (rw [← hji4]; unfold mn; (repeat' split) <;> omega)))
  (try (have hji4g : ji4 ≤ 64 := by omega))
  (try (have hji4l : 0 ≤ ji4 := by (rw [← hji4]; unfold mn; (repeat' split) <;> omega)))
  (try (have hji4m : 0 ≤ ji4 := by omega))
  have hji4_ : (if 200 < (l0.length : Int) then 200 else (l0.length : Int)) = ji4 := hji4
  by_cases c5 : 0 ≤ (ji4)
  · rw [if_pos c5] at H
    have c5b0 := eq_true c5
    have c5b1 : decide (0 ≤ (ji4)) = true := decide_eq_true c5
    clear c5
    by_cases c6 : (ji4) ≤ (l0.length : Int)
    · rw [if_pos c6] at H
      have c6b0 := eq_true c6
      have c6b1 : decide ((ji4) ≤ (l0.length : Int)) = true := decide_eq_true c6
      clear c6
      obtain ⟨y190, hy190⟩ : ∃ y_ : List (S45), y_ = (l0.take ((ji4) : Int).toNat) := ⟨_, rfl⟩
      replace H : ((pick_Cut.f y190 a1).bind fun bt194 => (if a1 < 1 then (if t189 = true then ((palinodelaw16_is.f bt194.2 1).bind fun t198 => (if t198 = true then (some ((bt194.1.length : Int) == 0)) else (some false))) else (some false)) else (palinodelaw16_PickPieces.l0 k y190 a1 t189 bt194.1 bt194.2 ([] : List (S45)) 0))) = some r := by first | (rw [hy190]; with_reducible exact H) | (have H2_ := (Option.bind_some _ _).symm.trans H; rw [hy190]; with_reducible exact H2_) | (have H2_ := (Option.bind_some _ _).symm.trans H; with_reducible exact H2_) | with_reducible exact H | (rw [hy190]; exact H) | exact H
      have Ny190 := Aside0.mk hy190
      clear hy190
      replace H := Option.bind_eq_some_iff.mp H
      obtain ⟨⟨t194, t195⟩, A70, H⟩ := H
      replace H : (if a1 < 1 then (if t189 = true then ((palinodelaw16_is.f t195 1).bind fun t198 => (if t198 = true then (some ((t194.length : Int) == 0)) else (some false))) else (some false)) else (palinodelaw16_PickPieces.l0 k y190 a1 t189 t194 t195 ([] : List (S45)) 0)) = some r := H
      have A7 := Aside0.mk A70
      clear A70
      by_cases c8 : a1 < 1
      · rw [if_pos c8] at H
        have c8b0 : decide (a1 < 1) = true := decide_eq_true c8
        clear c8
        by_cases c9 : t189 = true
        · subst c9
          have H1 : ((palinodelaw16_is.f t195 1).bind fun t198 => (if t198 = true then (some ((t194.length : Int) == 0)) else (some false))) = some r := by rw [if_pos rfl] at H; exact H
          clear H
          have H := H1
          clear H1
          replace H := Option.bind_eq_some_iff.mp H
          obtain ⟨t198, A100, H⟩ := H
          replace H : (if t198 = true then (some ((t194.length : Int) == 0)) else (some false)) = some r := H
          have A10 := Aside0.mk A100
          clear A100
          by_cases c11 : t198 = true
          · subst c11
            have H1 : (some ((t194.length : Int) == 0)) = some r := by rw [if_pos rfl] at H; exact H
            clear H
            have H := H1
            clear H1
            obtain rfl := Option.some.inj H
            go_enter Try.func7, Try.ntmps7
            go_wp2_with (first | (go_at_call 8; (with_reducible refine (palinodelaw16_examples.calls  true _ A3.out).mono ?_); rintro e w12 ⟨rfl, hb⟩; have n0_ := Aside0.mk (below_step (by repeat (first | (with_reducible first | exact HB.out | apply below_alloc | apply pw_below_drewN | apply below_drew1) | exact HB.out)) hb); clear HB; have HB := n0_; clear n0_; (try clear hb); (try clear hb2); (try clear hk); (try clear hi); have q13 : ((ji4) : Int) ≤ ((l0.length : Int) : Int) := of_decide_eq_true (by first | (with_reducible assumption) | assumption); obtain ⟨i013, hi013, _, hsz13, _⟩ := info_parts info45; have hroom13 : l0.length ≤ c0 := HC0.out; have hC13 : Kd.C k45 _ A0 l0.length l0 := HR0.out; have hcut13 := cut_to (P := Try.prog) 34 45 .i64 Try.underlying34 hi013 A0 l0.length c0 (ji4) (of_decide_eq_true (by first | (with_reducible assumption) | assumption)) q13 hroom13; have hr13 := Kd.C_take (m := ((ji4) : Int).toNat) hC13 (by omega); have hy13 : y190.length = ((ji4) : Int).toNat := (by rw [Ny190.out, List.length_take]; omega); rw [← Ny190.out] at hr13; rw [← hy13] at hcut13; have HR193 := Aside0.mk hr13; have HC193 := Aside0.mk (show y190.length ≤ c0 from by omega); clear hr13 hC13 hroom13 hi013 hsz13; have KY13 := Aside0.mk hy13; clear hy13; replace q13 := eq_true q13) | (go_at_call 15; (with_reducible refine (pick_Cut.calls _ _ y190 a1 t194 t195 _ ?side1 ?side2 A7.out).mono ?_); (case side1 => repeat (first | exact (Kd.C_below HR193.out HB.out) | (with_reducible refine Kd.C_alloc ?_ _) | (with_reducible refine Kd.C_drewN ?_ _) | (with_reducible refine Kd.C_drew ?_))); (case side2 => exact HC193.out); rintro e w14 ⟨v196, rfl, ho0, hb⟩; have n0_ := Aside0.mk (Kd.S_lower ho0 (below_size (by repeat (first | (with_reducible first | exact HB.out | apply below_alloc | apply pw_below_drewN | apply below_drew1) | exact HB.out)))); have n1_ := Aside0.mk (below_step (by repeat (first | (with_reducible first | exact HB.out | apply below_alloc | apply pw_below_drewN | apply below_drew1) | exact HB.out)) hb); clear HB; have HO197 := n0_; have HB := n1_; clear n0_ n1_; (try clear hb); (try clear hb2); (try clear hk); (try clear hi); (try clear ho0); (try simp only [errW_none, errW_some]); have CA10 := fun W => palinodelaw16_is.calls t195 1 true W A10.out; try simp only [errW_none, errW_some] at CA10) | (go_at_call 16; (with_reducible refine (CA10 _).mono ?_); rintro e w' ⟨rfl, ⟨nd, rfl⟩⟩; (try first | exact ⟨rfl, _, World.drewN_drewN _ _ _⟩ | exact ⟨rfl, _, Eq.trans (World.drewN_drewN _ _ _) (congrArg (World.drewN _) (Nat.add_assoc _ _ _))⟩); obtain ⟨Ao15, co15, eo15⟩ := Kd.S_slice HO197.out; subst eo15))
            repeat (go_quiet (first | (go_at_call 8; (with_reducible refine (palinodelaw16_examples.calls  true _ A3.out).mono ?_); rintro e w12 ⟨rfl, hb⟩; have n0_ := Aside0.mk (below_step (by repeat (first | (with_reducible first | exact HB.out | apply below_alloc | apply pw_below_drewN | apply below_drew1) | exact HB.out)) hb); clear HB; have HB := n0_; clear n0_; (try clear hb); (try clear hb2); (try clear hk); (try clear hi); have q13 : ((ji4) : Int) ≤ ((l0.length : Int) : Int) := of_decide_eq_true (by first | (with_reducible assumption) | assumption); obtain ⟨i013, hi013, _, hsz13, _⟩ := info_parts info45; have hroom13 : l0.length ≤ c0 := HC0.out; have hC13 : Kd.C k45 _ A0 l0.length l0 := HR0.out; have hcut13 := cut_to (P := Try.prog) 34 45 .i64 Try.underlying34 hi013 A0 l0.length c0 (ji4) (of_decide_eq_true (by first | (with_reducible assumption) | assumption)) q13 hroom13; have hr13 := Kd.C_take (m := ((ji4) : Int).toNat) hC13 (by omega); have hy13 : y190.length = ((ji4) : Int).toNat := (by rw [Ny190.out, List.length_take]; omega); rw [← Ny190.out] at hr13; rw [← hy13] at hcut13; have HR193 := Aside0.mk hr13; have HC193 := Aside0.mk (show y190.length ≤ c0 from by omega); clear hr13 hC13 hroom13 hi013 hsz13; have KY13 := Aside0.mk hy13; clear hy13; replace q13 := eq_true q13) | (go_at_call 15; (with_reducible refine (pick_Cut.calls _ _ y190 a1 t194 t195 _ ?side1 ?side2 A7.out).mono ?_); (case side1 => repeat (first | exact (Kd.C_below HR193.out HB.out) | (with_reducible refine Kd.C_alloc ?_ _) | (with_reducible refine Kd.C_drewN ?_ _) | (with_reducible refine Kd.C_drew ?_))); (case side2 => exact HC193.out); rintro e w14 ⟨v196, rfl, ho0, hb⟩; have n0_ := Aside0.mk (Kd.S_lower ho0 (below_size (by repeat (first | (with_reducible first | exact HB.out | apply below_alloc | apply pw_below_drewN | apply below_drew1) | exact HB.out)))); have n1_ := Aside0.mk (below_step (by repeat (first | (with_reducible first | exact HB.out | apply below_alloc | apply pw_below_drewN | apply below_drew1) | exact HB.out)) hb); clear HB; have HO197 := n0_; have HB := n1_; clear n0_ n1_; (try clear hb); (try clear hb2); (try clear hk); (try clear hi); (try clear ho0); (try simp only [errW_none, errW_some]); have CA10 := fun W => palinodelaw16_is.calls t195 1 true W A10.out; try simp only [errW_none, errW_some] at CA10) | (go_at_call 16; (with_reducible refine (CA10 _).mono ?_); rintro e w' ⟨rfl, ⟨nd, rfl⟩⟩; (try first | exact ⟨rfl, _, World.drewN_drewN _ _ _⟩ | exact ⟨rfl, _, Eq.trans (World.drewN_drewN _ _ _) (congrArg (World.drewN _) (Nat.add_assoc _ _ _))⟩); obtain ⟨Ao15, co15, eo15⟩ := Kd.S_slice HO197.out; subst eo15)); try go_wp2_with (first | (go_at_call 8; (with_reducible refine (palinodelaw16_examples.calls  true _ A3.out).mono ?_); rintro e w12 ⟨rfl, hb⟩; have n0_ := Aside0.mk (below_step (by repeat (first | (with_reducible first | exact HB.out | apply below_alloc | apply pw_below_drewN | apply below_drew1) | exact HB.out)) hb); clear HB; have HB := n0_; clear n0_; (try clear hb); (try clear hb2); (try clear hk); (try clear hi); have q13 : ((ji4) : Int) ≤ ((l0.length : Int) : Int) := of_decide_eq_true (by first | (with_reducible assumption) | assumption); obtain ⟨i013, hi013, _, hsz13, _⟩ := info_parts info45; have hroom13 : l0.length ≤ c0 := HC0.out; have hC13 : Kd.C k45 _ A0 l0.length l0 := HR0.out; have hcut13 := cut_to (P := Try.prog) 34 45 .i64 Try.underlying34 hi013 A0 l0.length c0 (ji4) (of_decide_eq_true (by first | (with_reducible assumption) | assumption)) q13 hroom13; have hr13 := Kd.C_take (m := ((ji4) : Int).toNat) hC13 (by omega); have hy13 : y190.length = ((ji4) : Int).toNat := (by rw [Ny190.out, List.length_take]; omega); rw [← Ny190.out] at hr13; rw [← hy13] at hcut13; have HR193 := Aside0.mk hr13; have HC193 := Aside0.mk (show y190.length ≤ c0 from by omega); clear hr13 hC13 hroom13 hi013 hsz13; have KY13 := Aside0.mk hy13; clear hy13; replace q13 := eq_true q13) | (go_at_call 15; (with_reducible refine (pick_Cut.calls _ _ y190 a1 t194 t195 _ ?side1 ?side2 A7.out).mono ?_); (case side1 => repeat (first | exact (Kd.C_below HR193.out HB.out) | (with_reducible refine Kd.C_alloc ?_ _) | (with_reducible refine Kd.C_drewN ?_ _) | (with_reducible refine Kd.C_drew ?_))); (case side2 => exact HC193.out); rintro e w14 ⟨v196, rfl, ho0, hb⟩; have n0_ := Aside0.mk (Kd.S_lower ho0 (below_size (by repeat (first | (with_reducible first | exact HB.out | apply below_alloc | apply pw_below_drewN | apply below_drew1) | exact HB.out)))); have n1_ := Aside0.mk (below_step (by repeat (first | (with_reducible first | exact HB.out | apply below_alloc | apply pw_below_drewN | apply below_drew1) | exact HB.out)) hb); clear HB; have HO197 := n0_; have HB := n1_; clear n0_ n1_; (try clear hb); (try clear hb2); (try clear hk); (try clear hi); (try clear ho0); (try simp only [errW_none, errW_some]); have CA10 := fun W => palinodelaw16_is.calls t195 1 true W A10.out; try simp only [errW_none, errW_some] at CA10) | (go_at_call 16; (with_reducible refine (CA10 _).mono ?_); rintro e w' ⟨rfl, ⟨nd, rfl⟩⟩; (try first | exact ⟨rfl, _, World.drewN_drewN _ _ _⟩ | exact ⟨rfl, _, Eq.trans (World.drewN_drewN _ _ _) (congrArg (World.drewN _) (Nat.add_assoc _ _ _))⟩); obtain ⟨Ao15, co15, eo15⟩ := Kd.S_slice HO197.out; subst eo15)))
            go_ret
            exact ⟨by first | rfl | (simp [errW_none, errW_some] <;> rfl) | (simp only [← hji4]; first | rfl | (simp [errW_none, errW_some] <;> rfl)) | (simp [*, errW_none, errW_some] <;> rfl), by repeat (first | (with_reducible first | exact HB.out | apply below_alloc | apply pw_below_drewN | apply below_drew1) | exact HB.out)⟩
          · replace c11 := Bool.eq_false_iff.mpr c11
            subst c11
            have H1 : (some false) = some r := by rw [if_neg (show ¬ (false = true) by decide)] at H; exact H
            clear H
            have H := H1
            clear H1
            obtain rfl := Option.some.inj H
            go_enter Try.func7, Try.ntmps7
            go_wp2_with (first | (go_at_call 8; (with_reducible refine (palinodelaw16_examples.calls  true _ A3.out).mono ?_); rintro e w16 ⟨rfl, hb⟩; have n0_ := Aside0.mk (below_step (by repeat (first | (with_reducible first | exact HB.out | apply below_alloc | apply pw_below_drewN | apply below_drew1) | exact HB.out)) hb); clear HB; have HB := n0_; clear n0_; (try clear hb); (try clear hb2); (try clear hk); (try clear hi); have q17 : ((ji4) : Int) ≤ ((l0.length : Int) : Int) := of_decide_eq_true (by first | (with_reducible assumption) | assumption); obtain ⟨i017, hi017, _, hsz17, _⟩ := info_parts info45; have hroom17 : l0.length ≤ c0 := HC0.out; have hC17 : Kd.C k45 _ A0 l0.length l0 := HR0.out; have hcut17 := cut_to (P := Try.prog) 34 45 .i64 Try.underlying34 hi017 A0 l0.length c0 (ji4) (of_decide_eq_true (by first | (with_reducible assumption) | assumption)) q17 hroom17; have hr17 := Kd.C_take (m := ((ji4) : Int).toNat) hC17 (by omega); have hy17 : y190.length = ((ji4) : Int).toNat := (by rw [Ny190.out, List.length_take]; omega); rw [← Ny190.out] at hr17; rw [← hy17] at hcut17; have HR193 := Aside0.mk hr17; have HC193 := Aside0.mk (show y190.length ≤ c0 from by omega); clear hr17 hC17 hroom17 hi017 hsz17; have KY17 := Aside0.mk hy17; clear hy17; replace q17 := eq_true q17) | (go_at_call 15; (with_reducible refine (pick_Cut.calls _ _ y190 a1 t194 t195 _ ?side1 ?side2 A7.out).mono ?_); (case side1 => repeat (first | exact (Kd.C_below HR193.out HB.out) | (with_reducible refine Kd.C_alloc ?_ _) | (with_reducible refine Kd.C_drewN ?_ _) | (with_reducible refine Kd.C_drew ?_))); (case side2 => exact HC193.out); rintro e w18 ⟨v196, rfl, ho0, hb⟩; have n0_ := Aside0.mk (Kd.S_lower ho0 (below_size (by repeat (first | (with_reducible first | exact HB.out | apply below_alloc | apply pw_below_drewN | apply below_drew1) | exact HB.out)))); have n1_ := Aside0.mk (below_step (by repeat (first | (with_reducible first | exact HB.out | apply below_alloc | apply pw_below_drewN | apply below_drew1) | exact HB.out)) hb); clear HB; have HO197 := n0_; have HB := n1_; clear n0_ n1_; (try clear hb); (try clear hb2); (try clear hk); (try clear hi); (try clear ho0); (try simp only [errW_none, errW_some]); have CA10 := fun W => palinodelaw16_is.calls t195 1 false W A10.out; try simp only [errW_none, errW_some] at CA10) | (go_at_call 16; (with_reducible refine (CA10 _).mono ?_); rintro e w' ⟨rfl, ⟨nd, rfl⟩⟩; (try first | exact ⟨rfl, _, World.drewN_drewN _ _ _⟩ | exact ⟨rfl, _, Eq.trans (World.drewN_drewN _ _ _) (congrArg (World.drewN _) (Nat.add_assoc _ _ _))⟩)))
            repeat (go_quiet (first | (go_at_call 8; (with_reducible refine (palinodelaw16_examples.calls  true _ A3.out).mono ?_); rintro e w16 ⟨rfl, hb⟩; have n0_ := Aside0.mk (below_step (by repeat (first | (with_reducible first | exact HB.out | apply below_alloc | apply pw_below_drewN | apply below_drew1) | exact HB.out)) hb); clear HB; have HB := n0_; clear n0_; (try clear hb); (try clear hb2); (try clear hk); (try clear hi); have q17 : ((ji4) : Int) ≤ ((l0.length : Int) : Int) := of_decide_eq_true (by first | (with_reducible assumption) | assumption); obtain ⟨i017, hi017, _, hsz17, _⟩ := info_parts info45; have hroom17 : l0.length ≤ c0 := HC0.out; have hC17 : Kd.C k45 _ A0 l0.length l0 := HR0.out; have hcut17 := cut_to (P := Try.prog) 34 45 .i64 Try.underlying34 hi017 A0 l0.length c0 (ji4) (of_decide_eq_true (by first | (with_reducible assumption) | assumption)) q17 hroom17; have hr17 := Kd.C_take (m := ((ji4) : Int).toNat) hC17 (by omega); have hy17 : y190.length = ((ji4) : Int).toNat := (by rw [Ny190.out, List.length_take]; omega); rw [← Ny190.out] at hr17; rw [← hy17] at hcut17; have HR193 := Aside0.mk hr17; have HC193 := Aside0.mk (show y190.length ≤ c0 from by omega); clear hr17 hC17 hroom17 hi017 hsz17; have KY17 := Aside0.mk hy17; clear hy17; replace q17 := eq_true q17) | (go_at_call 15; (with_reducible refine (pick_Cut.calls _ _ y190 a1 t194 t195 _ ?side1 ?side2 A7.out).mono ?_); (case side1 => repeat (first | exact (Kd.C_below HR193.out HB.out) | (with_reducible refine Kd.C_alloc ?_ _) | (with_reducible refine Kd.C_drewN ?_ _) | (with_reducible refine Kd.C_drew ?_))); (case side2 => exact HC193.out); rintro e w18 ⟨v196, rfl, ho0, hb⟩; have n0_ := Aside0.mk (Kd.S_lower ho0 (below_size (by repeat (first | (with_reducible first | exact HB.out | apply below_alloc | apply pw_below_drewN | apply below_drew1) | exact HB.out)))); have n1_ := Aside0.mk (below_step (by repeat (first | (with_reducible first | exact HB.out | apply below_alloc | apply pw_below_drewN | apply below_drew1) | exact HB.out)) hb); clear HB; have HO197 := n0_; have HB := n1_; clear n0_ n1_; (try clear hb); (try clear hb2); (try clear hk); (try clear hi); (try clear ho0); (try simp only [errW_none, errW_some]); have CA10 := fun W => palinodelaw16_is.calls t195 1 false W A10.out; try simp only [errW_none, errW_some] at CA10) | (go_at_call 16; (with_reducible refine (CA10 _).mono ?_); rintro e w' ⟨rfl, ⟨nd, rfl⟩⟩; (try first | exact ⟨rfl, _, World.drewN_drewN _ _ _⟩ | exact ⟨rfl, _, Eq.trans (World.drewN_drewN _ _ _) (congrArg (World.drewN _) (Nat.add_assoc _ _ _))⟩))); try go_wp2_with (first | (go_at_call 8; (with_reducible refine (palinodelaw16_examples.calls  true _ A3.out).mono ?_); rintro e w16 ⟨rfl, hb⟩; have n0_ := Aside0.mk (below_step (by repeat (first | (with_reducible first | exact HB.out | apply below_alloc | apply pw_below_drewN | apply below_drew1) | exact HB.out)) hb); clear HB; have HB := n0_; clear n0_; (try clear hb); (try clear hb2); (try clear hk); (try clear hi); have q17 : ((ji4) : Int) ≤ ((l0.length : Int) : Int) := of_decide_eq_true (by first | (with_reducible assumption) | assumption); obtain ⟨i017, hi017, _, hsz17, _⟩ := info_parts info45; have hroom17 : l0.length ≤ c0 := HC0.out; have hC17 : Kd.C k45 _ A0 l0.length l0 := HR0.out; have hcut17 := cut_to (P := Try.prog) 34 45 .i64 Try.underlying34 hi017 A0 l0.length c0 (ji4) (of_decide_eq_true (by first | (with_reducible assumption) | assumption)) q17 hroom17; have hr17 := Kd.C_take (m := ((ji4) : Int).toNat) hC17 (by omega); have hy17 : y190.length = ((ji4) : Int).toNat := (by rw [Ny190.out, List.length_take]; omega); rw [← Ny190.out] at hr17; rw [← hy17] at hcut17; have HR193 := Aside0.mk hr17; have HC193 := Aside0.mk (show y190.length ≤ c0 from by omega); clear hr17 hC17 hroom17 hi017 hsz17; have KY17 := Aside0.mk hy17; clear hy17; replace q17 := eq_true q17) | (go_at_call 15; (with_reducible refine (pick_Cut.calls _ _ y190 a1 t194 t195 _ ?side1 ?side2 A7.out).mono ?_); (case side1 => repeat (first | exact (Kd.C_below HR193.out HB.out) | (with_reducible refine Kd.C_alloc ?_ _) | (with_reducible refine Kd.C_drewN ?_ _) | (with_reducible refine Kd.C_drew ?_))); (case side2 => exact HC193.out); rintro e w18 ⟨v196, rfl, ho0, hb⟩; have n0_ := Aside0.mk (Kd.S_lower ho0 (below_size (by repeat (first | (with_reducible first | exact HB.out | apply below_alloc | apply pw_below_drewN | apply below_drew1) | exact HB.out)))); have n1_ := Aside0.mk (below_step (by repeat (first | (with_reducible first | exact HB.out | apply below_alloc | apply pw_below_drewN | apply below_drew1) | exact HB.out)) hb); clear HB; have HO197 := n0_; have HB := n1_; clear n0_ n1_; (try clear hb); (try clear hb2); (try clear hk); (try clear hi); (try clear ho0); (try simp only [errW_none, errW_some]); have CA10 := fun W => palinodelaw16_is.calls t195 1 false W A10.out; try simp only [errW_none, errW_some] at CA10) | (go_at_call 16; (with_reducible refine (CA10 _).mono ?_); rintro e w' ⟨rfl, ⟨nd, rfl⟩⟩; (try first | exact ⟨rfl, _, World.drewN_drewN _ _ _⟩ | exact ⟨rfl, _, Eq.trans (World.drewN_drewN _ _ _) (congrArg (World.drewN _) (Nat.add_assoc _ _ _))⟩))))
            go_ret
            exact ⟨by first | rfl | (simp [errW_none, errW_some] <;> rfl) | (simp only [← hji4]; first | rfl | (simp [errW_none, errW_some] <;> rfl)) | (simp [*, errW_none, errW_some] <;> rfl), by repeat (first | (with_reducible first | exact HB.out | apply below_alloc | apply pw_below_drewN | apply below_drew1) | exact HB.out)⟩
        · replace c9 := Bool.eq_false_iff.mpr c9
          subst c9
          have H1 : (some false) = some r := by rw [if_neg (show ¬ (false = true) by decide)] at H; exact H
          clear H
          have H := H1
          clear H1
          obtain rfl := Option.some.inj H
          go_enter Try.func7, Try.ntmps7
          go_wp2_with (first | (go_at_call 8; (with_reducible refine (palinodelaw16_examples.calls  false _ A3.out).mono ?_); rintro e w19 ⟨rfl, hb⟩; have n0_ := Aside0.mk (below_step (by repeat (first | (with_reducible first | exact HB.out | apply below_alloc | apply pw_below_drewN | apply below_drew1) | exact HB.out)) hb); clear HB; have HB := n0_; clear n0_; (try clear hb); (try clear hb2); (try clear hk); (try clear hi); have q20 : ((ji4) : Int) ≤ ((l0.length : Int) : Int) := of_decide_eq_true (by first | (with_reducible assumption) | assumption); obtain ⟨i020, hi020, _, hsz20, _⟩ := info_parts info45; have hroom20 : l0.length ≤ c0 := HC0.out; have hC20 : Kd.C k45 _ A0 l0.length l0 := HR0.out; have hcut20 := cut_to (P := Try.prog) 34 45 .i64 Try.underlying34 hi020 A0 l0.length c0 (ji4) (of_decide_eq_true (by first | (with_reducible assumption) | assumption)) q20 hroom20; have hr20 := Kd.C_take (m := ((ji4) : Int).toNat) hC20 (by omega); have hy20 : y190.length = ((ji4) : Int).toNat := (by rw [Ny190.out, List.length_take]; omega); rw [← Ny190.out] at hr20; rw [← hy20] at hcut20; have HR193 := Aside0.mk hr20; have HC193 := Aside0.mk (show y190.length ≤ c0 from by omega); clear hr20 hC20 hroom20 hi020 hsz20; have KY20 := Aside0.mk hy20; clear hy20; replace q20 := eq_true q20) | (go_at_call 15; (with_reducible refine (pick_Cut.calls _ _ y190 a1 t194 t195 _ ?side1 ?side2 A7.out).mono ?_); (case side1 => repeat (first | exact (Kd.C_below HR193.out HB.out) | (with_reducible refine Kd.C_alloc ?_ _) | (with_reducible refine Kd.C_drewN ?_ _) | (with_reducible refine Kd.C_drew ?_))); (case side2 => exact HC193.out); rintro e w21 ⟨v196, rfl, ho0, hb⟩; have n0_ := Aside0.mk (Kd.S_lower ho0 (below_size (by repeat (first | (with_reducible first | exact HB.out | apply below_alloc | apply pw_below_drewN | apply below_drew1) | exact HB.out)))); have n1_ := Aside0.mk (below_step (by repeat (first | (with_reducible first | exact HB.out | apply below_alloc | apply pw_below_drewN | apply below_drew1) | exact HB.out)) hb); clear HB; have HO197 := n0_; have HB := n1_; clear n0_ n1_; (try clear hb); (try clear hb2); (try clear hk); (try clear hi); (try clear ho0); (try simp only [errW_none, errW_some])))
          repeat (go_quiet (first | (go_at_call 8; (with_reducible refine (palinodelaw16_examples.calls  false _ A3.out).mono ?_); rintro e w19 ⟨rfl, hb⟩; have n0_ := Aside0.mk (below_step (by repeat (first | (with_reducible first | exact HB.out | apply below_alloc | apply pw_below_drewN | apply below_drew1) | exact HB.out)) hb); clear HB; have HB := n0_; clear n0_; (try clear hb); (try clear hb2); (try clear hk); (try clear hi); have q20 : ((ji4) : Int) ≤ ((l0.length : Int) : Int) := of_decide_eq_true (by first | (with_reducible assumption) | assumption); obtain ⟨i020, hi020, _, hsz20, _⟩ := info_parts info45; have hroom20 : l0.length ≤ c0 := HC0.out; have hC20 : Kd.C k45 _ A0 l0.length l0 := HR0.out; have hcut20 := cut_to (P := Try.prog) 34 45 .i64 Try.underlying34 hi020 A0 l0.length c0 (ji4) (of_decide_eq_true (by first | (with_reducible assumption) | assumption)) q20 hroom20; have hr20 := Kd.C_take (m := ((ji4) : Int).toNat) hC20 (by omega); have hy20 : y190.length = ((ji4) : Int).toNat := (by rw [Ny190.out, List.length_take]; omega); rw [← Ny190.out] at hr20; rw [← hy20] at hcut20; have HR193 := Aside0.mk hr20; have HC193 := Aside0.mk (show y190.length ≤ c0 from by omega); clear hr20 hC20 hroom20 hi020 hsz20; have KY20 := Aside0.mk hy20; clear hy20; replace q20 := eq_true q20) | (go_at_call 15; (with_reducible refine (pick_Cut.calls _ _ y190 a1 t194 t195 _ ?side1 ?side2 A7.out).mono ?_); (case side1 => repeat (first | exact (Kd.C_below HR193.out HB.out) | (with_reducible refine Kd.C_alloc ?_ _) | (with_reducible refine Kd.C_drewN ?_ _) | (with_reducible refine Kd.C_drew ?_))); (case side2 => exact HC193.out); rintro e w21 ⟨v196, rfl, ho0, hb⟩; have n0_ := Aside0.mk (Kd.S_lower ho0 (below_size (by repeat (first | (with_reducible first | exact HB.out | apply below_alloc | apply pw_below_drewN | apply below_drew1) | exact HB.out)))); have n1_ := Aside0.mk (below_step (by repeat (first | (with_reducible first | exact HB.out | apply below_alloc | apply pw_below_drewN | apply below_drew1) | exact HB.out)) hb); clear HB; have HO197 := n0_; have HB := n1_; clear n0_ n1_; (try clear hb); (try clear hb2); (try clear hk); (try clear hi); (try clear ho0); (try simp only [errW_none, errW_some]))); try go_wp2_with (first | (go_at_call 8; (with_reducible refine (palinodelaw16_examples.calls  false _ A3.out).mono ?_); rintro e w19 ⟨rfl, hb⟩; have n0_ := Aside0.mk (below_step (by repeat (first | (with_reducible first | exact HB.out | apply below_alloc | apply pw_below_drewN | apply below_drew1) | exact HB.out)) hb); clear HB; have HB := n0_; clear n0_; (try clear hb); (try clear hb2); (try clear hk); (try clear hi); have q20 : ((ji4) : Int) ≤ ((l0.length : Int) : Int) := of_decide_eq_true (by first | (with_reducible assumption) | assumption); obtain ⟨i020, hi020, _, hsz20, _⟩ := info_parts info45; have hroom20 : l0.length ≤ c0 := HC0.out; have hC20 : Kd.C k45 _ A0 l0.length l0 := HR0.out; have hcut20 := cut_to (P := Try.prog) 34 45 .i64 Try.underlying34 hi020 A0 l0.length c0 (ji4) (of_decide_eq_true (by first | (with_reducible assumption) | assumption)) q20 hroom20; have hr20 := Kd.C_take (m := ((ji4) : Int).toNat) hC20 (by omega); have hy20 : y190.length = ((ji4) : Int).toNat := (by rw [Ny190.out, List.length_take]; omega); rw [← Ny190.out] at hr20; rw [← hy20] at hcut20; have HR193 := Aside0.mk hr20; have HC193 := Aside0.mk (show y190.length ≤ c0 from by omega); clear hr20 hC20 hroom20 hi020 hsz20; have KY20 := Aside0.mk hy20; clear hy20; replace q20 := eq_true q20) | (go_at_call 15; (with_reducible refine (pick_Cut.calls _ _ y190 a1 t194 t195 _ ?side1 ?side2 A7.out).mono ?_); (case side1 => repeat (first | exact (Kd.C_below HR193.out HB.out) | (with_reducible refine Kd.C_alloc ?_ _) | (with_reducible refine Kd.C_drewN ?_ _) | (with_reducible refine Kd.C_drew ?_))); (case side2 => exact HC193.out); rintro e w21 ⟨v196, rfl, ho0, hb⟩; have n0_ := Aside0.mk (Kd.S_lower ho0 (below_size (by repeat (first | (with_reducible first | exact HB.out | apply below_alloc | apply pw_below_drewN | apply below_drew1) | exact HB.out)))); have n1_ := Aside0.mk (below_step (by repeat (first | (with_reducible first | exact HB.out | apply below_alloc | apply pw_below_drewN | apply below_drew1) | exact HB.out)) hb); clear HB; have HO197 := n0_; have HB := n1_; clear n0_ n1_; (try clear hb); (try clear hb2); (try clear hk); (try clear hi); (try clear ho0); (try simp only [errW_none, errW_some]))))
          go_ret
          exact ⟨by first | rfl | (simp [errW_none, errW_some] <;> rfl) | (simp only [← hji4]; first | rfl | (simp [errW_none, errW_some] <;> rfl)) | (simp [*, errW_none, errW_some] <;> rfl), by repeat (first | (with_reducible first | exact HB.out | apply below_alloc | apply pw_below_drewN | apply below_drew1) | exact HB.out)⟩
      · rw [if_neg c8] at H
        have c8b0 : decide (a1 < 1) = false := decide_eq_false c8
        clear c8
        have H' := Aside0.mk H
        clear H
        go_enter Try.func7, Try.ntmps7
        go_wp2_with (first | (go_at_call 8; (with_reducible refine (palinodelaw16_examples.calls  t189 _ A3.out).mono ?_); rintro e w22 ⟨rfl, hb⟩; have n0_ := Aside0.mk (below_step (by repeat (first | (with_reducible first | exact HB.out | apply below_alloc | apply pw_below_drewN | apply below_drew1) | exact HB.out)) hb); clear HB; have HB := n0_; clear n0_; (try clear hb); (try clear hb2); (try clear hk); (try clear hi); have q23 : ((ji4) : Int) ≤ ((l0.length : Int) : Int) := of_decide_eq_true (by first | (with_reducible assumption) | assumption); obtain ⟨i023, hi023, _, hsz23, _⟩ := info_parts info45; have hroom23 : l0.length ≤ c0 := HC0.out; have hC23 : Kd.C k45 _ A0 l0.length l0 := HR0.out; have hcut23 := cut_to (P := Try.prog) 34 45 .i64 Try.underlying34 hi023 A0 l0.length c0 (ji4) (of_decide_eq_true (by first | (with_reducible assumption) | assumption)) q23 hroom23; have hr23 := Kd.C_take (m := ((ji4) : Int).toNat) hC23 (by omega); have hy23 : y190.length = ((ji4) : Int).toNat := (by rw [Ny190.out, List.length_take]; omega); rw [← Ny190.out] at hr23; rw [← hy23] at hcut23; have HR193 := Aside0.mk hr23; have HC193 := Aside0.mk (show y190.length ≤ c0 from by omega); clear hr23 hC23 hroom23 hi023 hsz23; have KY23 := Aside0.mk hy23; clear hy23; replace q23 := eq_true q23) | (go_at_call 15; (with_reducible refine (pick_Cut.calls _ _ y190 a1 t194 t195 _ ?side1 ?side2 A7.out).mono ?_); (case side1 => repeat (first | exact (Kd.C_below HR193.out HB.out) | (with_reducible refine Kd.C_alloc ?_ _) | (with_reducible refine Kd.C_drewN ?_ _) | (with_reducible refine Kd.C_drew ?_))); (case side2 => exact HC193.out); rintro e w24 ⟨v196, rfl, ho0, hb⟩; have n0_ := Aside0.mk (Kd.S_lower ho0 (below_size (by repeat (first | (with_reducible first | exact HB.out | apply below_alloc | apply pw_below_drewN | apply below_drew1) | exact HB.out)))); have n1_ := Aside0.mk (below_step (by repeat (first | (with_reducible first | exact HB.out | apply below_alloc | apply pw_below_drewN | apply below_drew1) | exact HB.out)) hb); clear HB; have HO197 := n0_; have HB := n1_; clear n0_ n1_; (try clear hb); (try clear hb2); (try clear hk); (try clear hi); (try clear ho0); (try simp only [errW_none, errW_some])))
        repeat (go_quiet (first | (go_at_call 8; (with_reducible refine (palinodelaw16_examples.calls  t189 _ A3.out).mono ?_); rintro e w22 ⟨rfl, hb⟩; have n0_ := Aside0.mk (below_step (by repeat (first | (with_reducible first | exact HB.out | apply below_alloc | apply pw_below_drewN | apply below_drew1) | exact HB.out)) hb); clear HB; have HB := n0_; clear n0_; (try clear hb); (try clear hb2); (try clear hk); (try clear hi); have q23 : ((ji4) : Int) ≤ ((l0.length : Int) : Int) := of_decide_eq_true (by first | (with_reducible assumption) | assumption); obtain ⟨i023, hi023, _, hsz23, _⟩ := info_parts info45; have hroom23 : l0.length ≤ c0 := HC0.out; have hC23 : Kd.C k45 _ A0 l0.length l0 := HR0.out; have hcut23 := cut_to (P := Try.prog) 34 45 .i64 Try.underlying34 hi023 A0 l0.length c0 (ji4) (of_decide_eq_true (by first | (with_reducible assumption) | assumption)) q23 hroom23; have hr23 := Kd.C_take (m := ((ji4) : Int).toNat) hC23 (by omega); have hy23 : y190.length = ((ji4) : Int).toNat := (by rw [Ny190.out, List.length_take]; omega); rw [← Ny190.out] at hr23; rw [← hy23] at hcut23; have HR193 := Aside0.mk hr23; have HC193 := Aside0.mk (show y190.length ≤ c0 from by omega); clear hr23 hC23 hroom23 hi023 hsz23; have KY23 := Aside0.mk hy23; clear hy23; replace q23 := eq_true q23) | (go_at_call 15; (with_reducible refine (pick_Cut.calls _ _ y190 a1 t194 t195 _ ?side1 ?side2 A7.out).mono ?_); (case side1 => repeat (first | exact (Kd.C_below HR193.out HB.out) | (with_reducible refine Kd.C_alloc ?_ _) | (with_reducible refine Kd.C_drewN ?_ _) | (with_reducible refine Kd.C_drew ?_))); (case side2 => exact HC193.out); rintro e w24 ⟨v196, rfl, ho0, hb⟩; have n0_ := Aside0.mk (Kd.S_lower ho0 (below_size (by repeat (first | (with_reducible first | exact HB.out | apply below_alloc | apply pw_below_drewN | apply below_drew1) | exact HB.out)))); have n1_ := Aside0.mk (below_step (by repeat (first | (with_reducible first | exact HB.out | apply below_alloc | apply pw_below_drewN | apply below_drew1) | exact HB.out)) hb); clear HB; have HO197 := n0_; have HB := n1_; clear n0_ n1_; (try clear hb); (try clear hb2); (try clear hk); (try clear hi); (try clear ho0); (try simp only [errW_none, errW_some]))); try go_wp2_with (first | (go_at_call 8; (with_reducible refine (palinodelaw16_examples.calls  t189 _ A3.out).mono ?_); rintro e w22 ⟨rfl, hb⟩; have n0_ := Aside0.mk (below_step (by repeat (first | (with_reducible first | exact HB.out | apply below_alloc | apply pw_below_drewN | apply below_drew1) | exact HB.out)) hb); clear HB; have HB := n0_; clear n0_; (try clear hb); (try clear hb2); (try clear hk); (try clear hi); have q23 : ((ji4) : Int) ≤ ((l0.length : Int) : Int) := of_decide_eq_true (by first | (with_reducible assumption) | assumption); obtain ⟨i023, hi023, _, hsz23, _⟩ := info_parts info45; have hroom23 : l0.length ≤ c0 := HC0.out; have hC23 : Kd.C k45 _ A0 l0.length l0 := HR0.out; have hcut23 := cut_to (P := Try.prog) 34 45 .i64 Try.underlying34 hi023 A0 l0.length c0 (ji4) (of_decide_eq_true (by first | (with_reducible assumption) | assumption)) q23 hroom23; have hr23 := Kd.C_take (m := ((ji4) : Int).toNat) hC23 (by omega); have hy23 : y190.length = ((ji4) : Int).toNat := (by rw [Ny190.out, List.length_take]; omega); rw [← Ny190.out] at hr23; rw [← hy23] at hcut23; have HR193 := Aside0.mk hr23; have HC193 := Aside0.mk (show y190.length ≤ c0 from by omega); clear hr23 hC23 hroom23 hi023 hsz23; have KY23 := Aside0.mk hy23; clear hy23; replace q23 := eq_true q23) | (go_at_call 15; (with_reducible refine (pick_Cut.calls _ _ y190 a1 t194 t195 _ ?side1 ?side2 A7.out).mono ?_); (case side1 => repeat (first | exact (Kd.C_below HR193.out HB.out) | (with_reducible refine Kd.C_alloc ?_ _) | (with_reducible refine Kd.C_drewN ?_ _) | (with_reducible refine Kd.C_drew ?_))); (case side2 => exact HC193.out); rintro e w24 ⟨v196, rfl, ho0, hb⟩; have n0_ := Aside0.mk (Kd.S_lower ho0 (below_size (by repeat (first | (with_reducible first | exact HB.out | apply below_alloc | apply pw_below_drewN | apply below_drew1) | exact HB.out)))); have n1_ := Aside0.mk (below_step (by repeat (first | (with_reducible first | exact HB.out | apply below_alloc | apply pw_below_drewN | apply below_drew1) | exact HB.out)) hb); clear HB; have HO197 := n0_; have HB := n1_; clear n0_ n1_; (try clear hb); (try clear hb2); (try clear hk); (try clear hi); (try clear ho0); (try simp only [errW_none, errW_some]))))
        go_loopg [8, 9] k (fun kq v8 v9 w' => ∃ (x8_1 : List (S45)) (x9_1 : Int), v9 = .int .i64 x9_1 ∧ Aside0 (palinodelaw16_PickPieces.l0 kq y190 a1 t189 t194 t195 x8_1 x9_1 = some r) ∧ Aside0 (kq ≤ k) ∧ Aside0 (Kd.S (Kd.slice 45 k45) 34 w' w.heap.size (fun k_ => some k_ ≠ (v8 : Value).ownBlock) v196 t194) ∧ Aside0 (Kd.R k45 45 w' w.heap.size (fun _ => True) v8 x8_1) ∧ Aside0 (Below w.heap.size w w'))
        case atStart => exact ⟨(([] : List (S45))), (0), (by first | rfl | (simp; done) | (simp [*]; done)), H', ⟨Nat.le_refl _⟩, ⟨by (with_reducible repeat (first | apply Kd.S_alloc | apply Kd.S_drewN | apply Kd.S_drew)); exact Kd.S_mono HO197.out (fun _ hk => (by simp [Value.ownBlock]))⟩, ⟨by first | exact Kd.R_nil _ _ _ _ _ | exact Kd.N_nil _ _ _ _ _ | exact Kd.V_nil _ _ _ _ _ | exact Kd.Q_nil _ _ _ _ _ | exact Kd.S_nil _ _ _ _ _⟩, ⟨by repeat (first | (with_reducible first | exact HB.out | apply below_alloc | apply pw_below_drewN | apply below_drew1) | exact HB.out)⟩⟩
        case round =>
          clear H'
          try clear c1
          try clear q1
          try clear p2
          try clear q2
          try clear c5
          try clear c5b0
          try clear c5b1
          try clear c6
          try clear c6b0
          try clear c6b1
          try clear c7
          try clear c8
          try clear c8b0
          try clear c9
          try clear c11
          try clear q13
          try clear q17
          try clear q20
          try clear q23
          try clear q13
          try clear q17
          try clear q20
          try clear q23
          obtain ⟨x8_1, x9_1, rfl, HA, HK1, HO_6, HO_8, HB⟩ := hrel
          cases gk with
          | zero => exact absurd HA.out (by simp [palinodelaw16_PickPieces.l0])
          | succ k1 =>
            have H := HA.out
            clear HA
            simp only [palinodelaw16_PickPieces.l0] at H
            by_cases c25 : x9_1 < (t194.length : Int)
            · rw [if_pos c25] at H
              have c25b0 : decide (x9_1 < (t194.length : Int)) = true := decide_eq_true c25
              clear c25
              have HC26 := Aside0.mk H
              clear H
              obtain ⟨Ao27, co27, eo27⟩ := Kd.S_slice HO_6.out
              subst eo27
              go_upto_region 10 with (fail)
              repeat (go_quiet (fail); go_upto_region 10 with (fail))
              go_cut [62] (fun v62 wc => ∃ (kq : Nat) (x62_25 : Bool), v62 = .bool x62_25 ∧ Aside0 (palinodelaw16_PickPieces.j1 kq y190 a1 t189 t194 t195 x8_1 x9_1 x62_25 = some r) ∧ Aside0 (kq ≤ k1) ∧ Aside0 (Kd.S (Kd.slice 45 k45) 34 wc w.heap.size (fun k_ => some k_ ≠ (u8 : Value).ownBlock) (.slice Ao27 t194.length co27) t194) ∧ Aside0 (Kd.R k45 45 wc w.heap.size (fun _ => True) u8 x8_1) ∧ Aside0 (Below w.heap.size w wc))
              case first =>
                have H := HC26.out
                clear HC26
                by_cases c28 : 0 ≤ x9_1
                · rw [if_pos c28] at H
                  have c28b0 : decide (0 ≤ x9_1) = true := decide_eq_true c28
                  clear c28
                  (first | rw [c28b0] | (simp only [i64_w, i32_w]; rw [c28b0]) | skip)
                  by_cases c29 : ((rd_L6 t194 x9_1).length : Int) = 0
                  · rw [if_pos c29] at H
                    have c29b0 : (((rd_L6 t194 x9_1).length : Int) == 0) = true := beq_iff_eq.mpr c29
                    have c29b1 : (((rd_L6 t194 x9_1).length : Int) != 0) = false := bne_eq_false_iff_eq.mpr c29
                    clear c29
                    have H' := Aside0.mk H
                    clear H
                    have p201 : 0 ≤ (x9_1 : Int) := of_decide_eq_true (by first | (with_reducible assumption) | assumption)
                    have q201 : x9_1 < (t194.length : Int) := of_decide_eq_true (by first | (with_reducible assumption) | assumption)
                    obtain ⟨ad201, A201_0, c201_0, e201, hx201_0, hl201_0, hi201_0⟩ := at_L6 (Kd.S_reads' HO_6.out).2.2 x9_1 p201 q201
                    cases e201
                    obtain ⟨ce201, hce201, hMe201, hcc201⟩ := Kd.S_get HO_6.out [] x9_1 p201 (by first | exact q201 | exact of_decide_eq_true (by first | (with_reducible assumption) | assumption) | (have e_ := (Kd.S_reads' HO_6.out).1; omega))
                    obtain ⟨ve201_0, rfl, ge201_0⟩ := hMe201
                    have hv201_0 := hcc201 0 _ rfl
                    rw [Nat.add_zero, show ((Kd.slice 45 k45)).sz = 1 from rfl, Nat.mul_one] at hv201_0
                    replace hv201_0 := Option.some.inj (hv201_0.symm.trans hx201_0)
                    rw [hv201_0] at ge201_0
                    have HL201_0 := Aside0.mk (show Kd.R k45 45 _ _ _ _ (rd_L6 t194 x9_1) from ge201_0)
                    clear hv201_0 ge201_0
                    clear hcc201 hce201
                    have HR201_0 := Aside0.mk hi201_0
                    have HC201_0 := Aside0.mk hl201_0
                    clear hi201_0 hl201_0
                    replace p201 := eq_true p201
                    replace q201 := eq_true q201
                    go_wp2
                    repeat (go_quiet (fail); try go_wp2)
                    go_meet
                    case rel => exact ⟨_, (true), (by first | rfl | (simp; done) | (simp [*]; done)), H', ⟨by have := HK1.out; first | omega | exact Nat.le_refl _⟩, ⟨by (with_reducible repeat (first | apply Kd.S_alloc | apply Kd.S_drewN | apply Kd.S_drew)); exact HO_6.out⟩, ⟨by (with_reducible repeat (first | apply Kd.R_alloc | apply Kd.R_drewN | apply Kd.R_drew)); exact HO_8.out⟩, ⟨by repeat (first | (with_reducible first | exact HB.out | apply below_alloc | apply pw_below_drewN | apply below_drew1) | exact HB.out)⟩⟩
                  · rw [if_neg c29] at H
                    have c29b0 : (((rd_L6 t194 x9_1).length : Int) == 0) = false := beq_eq_false_iff_ne.mpr c29
                    have c29b1 : (((rd_L6 t194 x9_1).length : Int) != 0) = true := bne_iff_ne.mpr c29
                    have c29b2 : ¬ ((rd_L6 t194 x9_1) = []) := fun h_ => c29 (by rw [h_]; rfl)
                    by_cases c30 : x9_1 < (wrap64 ((t194.length : Int) - 1))
                    · rw [if_pos c30] at H
                      have c30b0 : decide (x9_1 < (wrap64 ((t194.length : Int) - 1))) = true := decide_eq_true c30
                      clear c30
                      have H' := Aside0.mk H
                      clear H
                      have p201 : 0 ≤ (x9_1 : Int) := of_decide_eq_true (by first | (with_reducible assumption) | assumption)
                      have q201 : x9_1 < (t194.length : Int) := of_decide_eq_true (by first | (with_reducible assumption) | assumption)
                      obtain ⟨ad201, A201_0, c201_0, e201, hx201_0, hl201_0, hi201_0⟩ := at_L6 (Kd.S_reads' HO_6.out).2.2 x9_1 p201 q201
                      cases e201
                      obtain ⟨ce201, hce201, hMe201, hcc201⟩ := Kd.S_get HO_6.out [] x9_1 p201 (by first | exact q201 | exact of_decide_eq_true (by first | (with_reducible assumption) | assumption) | (have e_ := (Kd.S_reads' HO_6.out).1; omega))
                      obtain ⟨ve201_0, rfl, ge201_0⟩ := hMe201
                      have hv201_0 := hcc201 0 _ rfl
                      rw [Nat.add_zero, show ((Kd.slice 45 k45)).sz = 1 from rfl, Nat.mul_one] at hv201_0
                      replace hv201_0 := Option.some.inj (hv201_0.symm.trans hx201_0)
                      rw [hv201_0] at ge201_0
                      have HL201_0 := Aside0.mk (show Kd.R k45 45 _ _ _ _ (rd_L6 t194 x9_1) from ge201_0)
                      clear hv201_0 ge201_0
                      clear hcc201 hce201
                      have HR201_0 := Aside0.mk hi201_0
                      have HC201_0 := Aside0.mk hl201_0
                      clear hi201_0 hl201_0
                      replace p201 := eq_true p201
                      replace q201 := eq_true q201
                      have p202 : 0 ≤ (x9_1 : Int) := of_decide_eq_true (by first | (with_reducible assumption) | assumption)
                      have q202 : x9_1 < (t194.length : Int) := of_decide_eq_true (by first | (with_reducible assumption) | assumption)
                      obtain ⟨ad202, A202_0, c202_0, e202, hx202_0, hl202_0, hi202_0⟩ := at_L6 (Kd.S_reads' HO_6.out).2.2 x9_1 p202 q202
                      obtain rfl : ad201 = ad202 := (by injection e202)
                      obtain ⟨ce202, hce202, hMe202, hcc202⟩ := Kd.S_get HO_6.out [] x9_1 p202 (by first | exact q202 | exact of_decide_eq_true (by first | (with_reducible assumption) | assumption) | (have e_ := (Kd.S_reads' HO_6.out).1; omega))
                      obtain ⟨ve202_0, rfl, ge202_0⟩ := hMe202
                      have hv202_0 := hcc202 0 _ rfl
                      rw [Nat.add_zero, show ((Kd.slice 45 k45)).sz = 1 from rfl, Nat.mul_one] at hv202_0
                      replace hv202_0 := Option.some.inj (hv202_0.symm.trans hx202_0)
                      rw [hv202_0] at ge202_0
                      have HL202_0 := Aside0.mk (show Kd.R k45 45 _ _ _ _ (rd_L6 t194 x9_1) from ge202_0)
                      clear hv202_0 ge202_0
                      clear hcc202 hce202
                      have HR202_0 := Aside0.mk hi202_0
                      have HC202_0 := Aside0.mk hl202_0
                      clear hi202_0 hl202_0
                      replace p202 := eq_true p202
                      replace q202 := eq_true q202
                      have ea_ := Option.some.inj (hx201_0.symm.trans hx202_0)
                      injection ea_ with ea_ en_ ec_
                      subst ea_
                      subst ec_
                      clear en_
                      go_wp2
                      repeat (go_quiet (fail); try go_wp2)
                      go_meet
                      case rel => exact ⟨_, (decide (((rd_L6 t194 x9_1).length : Int) < a1)), (by first | rfl | (simp; done) | (simp [*]; done)), H', ⟨by have := HK1.out; first | omega | exact Nat.le_refl _⟩, ⟨by (with_reducible repeat (first | apply Kd.S_alloc | apply Kd.S_drewN | apply Kd.S_drew)); exact HO_6.out⟩, ⟨by (with_reducible repeat (first | apply Kd.R_alloc | apply Kd.R_drewN | apply Kd.R_drew)); exact HO_8.out⟩, ⟨by repeat (first | (with_reducible first | exact HB.out | apply below_alloc | apply pw_below_drewN | apply below_drew1) | exact HB.out)⟩⟩
                    · rw [if_neg c30] at H
                      have c30b0 : decide (x9_1 < (wrap64 ((t194.length : Int) - 1))) = false := decide_eq_false c30
                      clear c30
                      have H' := Aside0.mk H
                      clear H
                      have p201 : 0 ≤ (x9_1 : Int) := of_decide_eq_true (by first | (with_reducible assumption) | assumption)
                      have q201 : x9_1 < (t194.length : Int) := of_decide_eq_true (by first | (with_reducible assumption) | assumption)
                      obtain ⟨ad201, A201_0, c201_0, e201, hx201_0, hl201_0, hi201_0⟩ := at_L6 (Kd.S_reads' HO_6.out).2.2 x9_1 p201 q201
                      cases e201
                      obtain ⟨ce201, hce201, hMe201, hcc201⟩ := Kd.S_get HO_6.out [] x9_1 p201 (by first | exact q201 | exact of_decide_eq_true (by first | (with_reducible assumption) | assumption) | (have e_ := (Kd.S_reads' HO_6.out).1; omega))
                      obtain ⟨ve201_0, rfl, ge201_0⟩ := hMe201
                      have hv201_0 := hcc201 0 _ rfl
                      rw [Nat.add_zero, show ((Kd.slice 45 k45)).sz = 1 from rfl, Nat.mul_one] at hv201_0
                      replace hv201_0 := Option.some.inj (hv201_0.symm.trans hx201_0)
                      rw [hv201_0] at ge201_0
                      have HL201_0 := Aside0.mk (show Kd.R k45 45 _ _ _ _ (rd_L6 t194 x9_1) from ge201_0)
                      clear hv201_0 ge201_0
                      clear hcc201 hce201
                      have HR201_0 := Aside0.mk hi201_0
                      have HC201_0 := Aside0.mk hl201_0
                      clear hi201_0 hl201_0
                      replace p201 := eq_true p201
                      replace q201 := eq_true q201
                      go_wp2
                      repeat (go_quiet (fail); try go_wp2)
                      go_meet
                      case rel => exact ⟨_, (false), (by first | rfl | (simp; done) | (simp [*]; done)), H', ⟨by have := HK1.out; first | omega | exact Nat.le_refl _⟩, ⟨by (with_reducible repeat (first | apply Kd.S_alloc | apply Kd.S_drewN | apply Kd.S_drew)); exact HO_6.out⟩, ⟨by (with_reducible repeat (first | apply Kd.R_alloc | apply Kd.R_drewN | apply Kd.R_drew)); exact HO_8.out⟩, ⟨by repeat (first | (with_reducible first | exact HB.out | apply below_alloc | apply pw_below_drewN | apply below_drew1) | exact HB.out)⟩⟩
                · rw [if_neg c28] at H
                  exact absurd H (by simp)
              case rest =>
                clear HC26
                try clear c1
                try clear q1
                try clear c2
                try clear p2
                try clear q2
                try clear hx2
                try clear c3
                try clear c5
                try clear c5b0
                try clear c5b1
                try clear c6
                try clear c6b0
                try clear c6b1
                try clear p6
                try clear c7
                try clear c8
                try clear c8b0
                try clear c9
                try clear c11
                try clear q13
                try clear q17
                try clear c20
                try clear p20
                try clear q20
                try clear hx20
                try clear q23
                try clear c25
                try clear c25b0
                try clear c28
                try clear c28b0
                try clear c29
                try clear c29b0
                try clear c29b1
                try clear c29b2
                try clear c30
                try clear c30b0
                try clear hx201_0
                try clear hx202_0
                try clear p2
                try clear p201
                try clear p202
                try clear q1
                try clear q13
                try clear q17
                try clear q2
                try clear q20
                try clear q201
                try clear q202
                try clear q23
                obtain ⟨kq, x62_25, rfl, HA, HJ25, HO_6, HO_8, HB⟩ := hcut
                cases kq with
                | zero => exact absurd HA.out (by simp [palinodelaw16_PickPieces.j1])
                | succ kj25 =>
                  have H := HA.out
                  clear HA
                  simp only [palinodelaw16_PickPieces.j1] at H
                  by_cases c31 : x62_25 = true
                  · subst c31
                    have H1 : (some false) = some r := by rw [if_pos rfl] at H; exact H
                    clear H
                    have H := H1
                    clear H1
                    obtain rfl := Option.some.inj H
                    go_wp2
                    repeat (go_quiet (fail); try go_wp2)
                    go_ret
                    exact ⟨by first | rfl | (simp [errW_none, errW_some] <;> rfl) | (simp only [← hji4]; first | rfl | (simp [errW_none, errW_some] <;> rfl)) | (simp [*, errW_none, errW_some] <;> rfl), by repeat (first | (with_reducible first | exact HB.out | apply below_alloc | apply pw_below_drewN | apply below_drew1) | exact HB.out)⟩
                  · replace c31 := Bool.eq_false_iff.mpr c31
                    subst c31
                    have H1 : (if x9_1 > 0 then (if 0 ≤ (wrap64 (x9_1 - 1)) then (if (wrap64 (x9_1 - 1)) < (t194.length : Int) then (if ((rd_L6 t194 (wrap64 (x9_1 - 1))).length : Int) > 0 then (if 0 ≤ (wrap64 (((rd_L6 t194 (wrap64 (x9_1 - 1))).length : Int) - 1)) then (if (wrap64 (((rd_L6 t194 (wrap64 (x9_1 - 1))).length : Int) - 1)) < ((rd_L6 t194 (wrap64 (x9_1 - 1))).length : Int) then (if 0 ≤ x9_1 then (if x9_1 < (t194.length : Int) then (if 0 < ((rd_L6 t194 x9_1).length : Int) then (if ((rd_T45 (rd_L6 t194 (wrap64 (x9_1 - 1))) (wrap64 (((rd_L6 t194 (wrap64 (x9_1 - 1))).length : Int) - 1))).f0).toList = ((rd_T45 (rd_L6 t194 x9_1) 0).f0).toList then (some false) else (if x8_1.length + (rd_L6 t194 x9_1).length < 2932031007402 then (palinodelaw16_PickPieces.l0 kj25 y190 a1 t189 t194 t195 (x8_1 ++ (rd_L6 t194 x9_1)) (wrap64 (x9_1 + 1))) else (none))) else (none)) else (none)) else (none)) else (none)) else (none)) else (if 0 ≤ x9_1 then (if x9_1 < (t194.length : Int) then (if x8_1.length + (rd_L6 t194 x9_1).length < 2932031007402 then (palinodelaw16_PickPieces.l0 kj25 y190 a1 t189 t194 t195 (x8_1 ++ (rd_L6 t194 x9_1)) (wrap64 (x9_1 + 1))) else (none)) else (none)) else (none))) else (none)) else (none)) else (if 0 ≤ x9_1 then (if x9_1 < (t194.length : Int) then (if x8_1.length + (rd_L6 t194 x9_1).length < 2932031007402 then (palinodelaw16_PickPieces.l0 kj25 y190 a1 t189 t194 t195 (x8_1 ++ (rd_L6 t194 x9_1)) (wrap64 (x9_1 + 1))) else (none)) else (none)) else (none))) = some r := by rw [if_neg (show ¬ (false = true) by decide)] at H; exact H
                    clear H
                    have H := H1
                    clear H1
                    by_cases c32 : x9_1 > 0
                    · rw [if_pos c32] at H
                      have c32b0 : decide (0 < x9_1) = true := decide_eq_true c32
                      clear c32
                      obtain ⟨ji33, hji33⟩ : ∃ j_ : Int, (wrap64 (x9_1 - 1)) = j_ := ⟨_, rfl⟩
                      replace H : (if 0 ≤ (ji33) then (if (ji33) < (t194.length : Int) then (if ((rd_L6 t194 (ji33)).length : Int) > 0 then (if 0 ≤ (wrap64 (((rd_L6 t194 (ji33)).length : Int) - 1)) then (if (wrap64 (((rd_L6 t194 (ji33)).length : Int) - 1)) < ((rd_L6 t194 (ji33)).length : Int) then (if 0 ≤ x9_1 then (if x9_1 < (t194.length : Int) then (if 0 < ((rd_L6 t194 x9_1).length : Int) then (if ((rd_T45 (rd_L6 t194 (ji33)) (wrap64 (((rd_L6 t194 (ji33)).length : Int) - 1))).f0).toList = ((rd_T45 (rd_L6 t194 x9_1) 0).f0).toList then (some false) else (if x8_1.length + (rd_L6 t194 x9_1).length < 2932031007402 then (palinodelaw16_PickPieces.l0 kj25 y190 a1 t189 t194 t195 (x8_1 ++ (rd_L6 t194 x9_1)) (wrap64 (x9_1 + 1))) else (none))) else (none)) else (none)) else (none)) else (none)) else (none)) else (if 0 ≤ x9_1 then (if x9_1 < (t194.length : Int) then (if x8_1.length + (rd_L6 t194 x9_1).length < 2932031007402 then (palinodelaw16_PickPieces.l0 kj25 y190 a1 t189 t194 t195 (x8_1 ++ (rd_L6 t194 x9_1)) (wrap64 (x9_1 + 1))) else (none)) else (none)) else (none))) else (none)) else (none)) = some r := by first | (rw [hji33] at H; exact H) | (simp only [hji33] at H ⊢; exact H)
                      have hji33w : (IntKind.i64.wrap (x9_1 - 1)) = ji33 := (i64_w _).trans hji33
                      by_cases c34 : 0 ≤ (ji33)
                      · rw [if_pos c34] at H
                        have c34b0 : decide (0 ≤ (ji33)) = true := decide_eq_true c34
                        clear c34
                        by_cases c35 : (ji33) < (t194.length : Int)
                        · rw [if_pos c35] at H
                          have c35b0 : decide ((ji33) < (t194.length : Int)) = true := decide_eq_true c35
                          clear c35
                          by_cases c36 : ((rd_L6 t194 (ji33)).length : Int) > 0
                          · rw [if_pos c36] at H
                            have c36b0 : decide (0 < ((rd_L6 t194 (ji33)).length : Int)) = true := decide_eq_true c36
                            have c36b1 : decide (0 < (rd_L6 t194 (ji33)).length) = true := decide_eq_true (by omega)
                            clear c36
                            obtain ⟨ji37, hji37⟩ : ∃ j_ : Int, (wrap64 (((rd_L6 t194 (ji33)).length : Int) - 1)) = j_ := ⟨_, rfl⟩
                            replace H : (if 0 ≤ (ji37) then (if (ji37) < ((rd_L6 t194 (ji33)).length : Int) then (if 0 ≤ x9_1 then (if x9_1 < (t194.length : Int) then (if 0 < ((rd_L6 t194 x9_1).length : Int) then (if ((rd_T45 (rd_L6 t194 (ji33)) (ji37)).f0).toList = ((rd_T45 (rd_L6 t194 x9_1) 0).f0).toList then (some false) else (if x8_1.length + (rd_L6 t194 x9_1).length < 2932031007402 then (palinodelaw16_PickPieces.l0 kj25 y190 a1 t189 t194 t195 (x8_1 ++ (rd_L6 t194 x9_1)) (wrap64 (x9_1 + 1))) else (none))) else (none)) else (none)) else (none)) else (none)) else (none)) = some r := by first | (rw [hji37] at H; exact H) | (simp only [hji37] at H ⊢; exact H)
                            have hji37w : (IntKind.i64.wrap (((rd_L6 t194 (ji33)).length : Int) - 1)) = ji37 := (i64_w _).trans hji37
                            by_cases c38 : 0 ≤ (ji37)
                            · rw [if_pos c38] at H
                              have c38b0 : decide (0 ≤ (ji37)) = true := decide_eq_true c38
                              clear c38
                              by_cases c39 : (ji37) < ((rd_L6 t194 (ji33)).length : Int)
                              · rw [if_pos c39] at H
                                have c39b0 : decide ((ji37) < ((rd_L6 t194 (ji33)).length : Int)) = true := decide_eq_true c39
                                clear c39
                                by_cases c40 : 0 ≤ x9_1
                                · rw [if_pos c40] at H
                                  have c40b0 : decide (0 ≤ x9_1) = true := decide_eq_true c40
                                  clear c40
                                  by_cases c41 : x9_1 < (t194.length : Int)
                                  · rw [if_pos c41] at H
                                    have c41b0 : decide (x9_1 < (t194.length : Int)) = true := decide_eq_true c41
                                    clear c41
                                    by_cases c42 : 0 < ((rd_L6 t194 x9_1).length : Int)
                                    · rw [if_pos c42] at H
                                      have c42b0 : decide (0 < ((rd_L6 t194 x9_1).length : Int)) = true := decide_eq_true c42
                                      have c42b1 : decide (0 < (rd_L6 t194 x9_1).length) = true := decide_eq_true (by omega)
                                      clear c42
                                      by_cases c43 : ((rd_T45 (rd_L6 t194 (ji33)) (ji37)).f0).toList = ((rd_T45 (rd_L6 t194 x9_1) 0).f0).toList
                                      · rw [if_pos c43] at H
                                        have c43b0 : (((rd_T45 (rd_L6 t194 (ji33)) (ji37)).f0).toList == ((rd_T45 (rd_L6 t194 x9_1) 0).f0).toList) = true := beq_iff_eq.mpr c43
                                        have c43b1 : (((rd_T45 (rd_L6 t194 (ji33)) (ji37)).f0).toList != ((rd_T45 (rd_L6 t194 x9_1) 0).f0).toList) = false := bne_eq_false_iff_eq.mpr c43
                                        clear c43
                                        obtain rfl := Option.some.inj H
                                        have p203 : 0 ≤ ((ji33) : Int) := of_decide_eq_true (by first | (with_reducible assumption) | assumption)
                                        have q203 : (ji33) < (t194.length : Int) := of_decide_eq_true (by first | (with_reducible assumption) | assumption)
                                        obtain ⟨ad203, A203_0, c203_0, e203, hx203_0, hl203_0, hi203_0⟩ := at_L6 (Kd.S_reads' HO_6.out).2.2 (ji33) p203 q203
                                        cases e203
                                        obtain ⟨ce203, hce203, hMe203, hcc203⟩ := Kd.S_get HO_6.out [] (ji33) p203 (by first | exact q203 | exact of_decide_eq_true (by first | (with_reducible assumption) | assumption) | (have e_ := (Kd.S_reads' HO_6.out).1; omega))
                                        obtain ⟨ve203_0, rfl, ge203_0⟩ := hMe203
                                        have hv203_0 := hcc203 0 _ rfl
                                        rw [Nat.add_zero, show ((Kd.slice 45 k45)).sz = 1 from rfl, Nat.mul_one] at hv203_0
                                        replace hv203_0 := Option.some.inj (hv203_0.symm.trans hx203_0)
                                        rw [hv203_0] at ge203_0
                                        have HL203_0 := Aside0.mk (show Kd.R k45 45 _ _ _ _ (rd_L6 t194 (ji33)) from ge203_0)
                                        clear hv203_0 ge203_0
                                        clear hcc203 hce203
                                        have HR203_0 := Aside0.mk hi203_0
                                        have HC203_0 := Aside0.mk hl203_0
                                        clear hi203_0 hl203_0
                                        replace p203 := eq_true p203
                                        replace q203 := eq_true q203
                                        have p204 : 0 ≤ ((ji33) : Int) := of_decide_eq_true (by first | (with_reducible assumption) | assumption)
                                        have q204 : (ji33) < (t194.length : Int) := of_decide_eq_true (by first | (with_reducible assumption) | assumption)
                                        obtain ⟨ad204, A204_0, c204_0, e204, hx204_0, hl204_0, hi204_0⟩ := at_L6 (Kd.S_reads' HO_6.out).2.2 (ji33) p204 q204
                                        obtain rfl : ad203 = ad204 := (by injection e204)
                                        obtain ⟨ce204, hce204, hMe204, hcc204⟩ := Kd.S_get HO_6.out [] (ji33) p204 (by first | exact q204 | exact of_decide_eq_true (by first | (with_reducible assumption) | assumption) | (have e_ := (Kd.S_reads' HO_6.out).1; omega))
                                        obtain ⟨ve204_0, rfl, ge204_0⟩ := hMe204
                                        have hv204_0 := hcc204 0 _ rfl
                                        rw [Nat.add_zero, show ((Kd.slice 45 k45)).sz = 1 from rfl, Nat.mul_one] at hv204_0
                                        replace hv204_0 := Option.some.inj (hv204_0.symm.trans hx204_0)
                                        rw [hv204_0] at ge204_0
                                        have HL204_0 := Aside0.mk (show Kd.R k45 45 _ _ _ _ (rd_L6 t194 (ji33)) from ge204_0)
                                        clear hv204_0 ge204_0
                                        clear hcc204 hce204
                                        have HR204_0 := Aside0.mk hi204_0
                                        have HC204_0 := Aside0.mk hl204_0
                                        clear hi204_0 hl204_0
                                        replace p204 := eq_true p204
                                        replace q204 := eq_true q204
                                        have ea_ := Option.some.inj (hx203_0.symm.trans hx204_0)
                                        injection ea_ with ea_ en_ ec_
                                        subst ea_
                                        subst ec_
                                        clear en_
                                        have p205 : 0 ≤ ((ji33) : Int) := of_decide_eq_true (by first | (with_reducible assumption) | assumption)
                                        have q205 : (ji33) < (t194.length : Int) := of_decide_eq_true (by first | (with_reducible assumption) | assumption)
                                        obtain ⟨ad205, A205_0, c205_0, e205, hx205_0, hl205_0, hi205_0⟩ := at_L6 (Kd.S_reads' HO_6.out).2.2 (ji33) p205 q205
                                        obtain rfl : ad203 = ad205 := (by injection e205)
                                        obtain ⟨ce205, hce205, hMe205, hcc205⟩ := Kd.S_get HO_6.out [] (ji33) p205 (by first | exact q205 | exact of_decide_eq_true (by first | (with_reducible assumption) | assumption) | (have e_ := (Kd.S_reads' HO_6.out).1; omega))
                                        obtain ⟨ve205_0, rfl, ge205_0⟩ := hMe205
                                        have hv205_0 := hcc205 0 _ rfl
                                        rw [Nat.add_zero, show ((Kd.slice 45 k45)).sz = 1 from rfl, Nat.mul_one] at hv205_0
                                        replace hv205_0 := Option.some.inj (hv205_0.symm.trans hx205_0)
                                        rw [hv205_0] at ge205_0
                                        have HL205_0 := Aside0.mk (show Kd.R k45 45 _ _ _ _ (rd_L6 t194 (ji33)) from ge205_0)
                                        clear hv205_0 ge205_0
                                        clear hcc205 hce205
                                        have HR205_0 := Aside0.mk hi205_0
                                        have HC205_0 := Aside0.mk hl205_0
                                        clear hi205_0 hl205_0
                                        replace p205 := eq_true p205
                                        replace q205 := eq_true q205
                                        have ea_ := Option.some.inj (hx203_0.symm.trans hx205_0)
                                        injection ea_ with ea_ en_ ec_
                                        subst ea_
                                        subst ec_
                                        clear en_
                                        have p206 : 0 ≤ ((ji37) : Int) := of_decide_eq_true (by first | (with_reducible assumption) | assumption)
                                        have q206 : (ji37) < ((rd_L6 t194 (ji33)).length : Int) := of_decide_eq_true (by first | (with_reducible assumption) | assumption)
                                        obtain ⟨ad206, e206, hx206_0, hx206_1, hx206_2, hx206_3⟩ := at_T45 (by repeat (first | (with_reducible exact HR204_0.out) | (with_reducible refine Kd.C_alloc ?_ _) | (with_reducible refine Kd.C_drewN ?_ _) | (with_reducible refine Kd.C_drew ?_) | exact HR204_0.out)) (ji37) p206 q206
                                        cases e206
                                        replace p206 := eq_true p206
                                        replace q206 := eq_true q206
                                        have p207 : 0 ≤ (x9_1 : Int) := of_decide_eq_true (by first | (with_reducible assumption) | assumption)
                                        have q207 : x9_1 < (t194.length : Int) := of_decide_eq_true (by first | (with_reducible assumption) | assumption)
                                        obtain ⟨ad207, A207_0, c207_0, e207, hx207_0, hl207_0, hi207_0⟩ := at_L6 (Kd.S_reads' HO_6.out).2.2 x9_1 p207 q207
                                        obtain rfl : ad203 = ad207 := (by injection e207)
                                        obtain ⟨ce207, hce207, hMe207, hcc207⟩ := Kd.S_get HO_6.out [] x9_1 p207 (by first | exact q207 | exact of_decide_eq_true (by first | (with_reducible assumption) | assumption) | (have e_ := (Kd.S_reads' HO_6.out).1; omega))
                                        obtain ⟨ve207_0, rfl, ge207_0⟩ := hMe207
                                        have hv207_0 := hcc207 0 _ rfl
                                        rw [Nat.add_zero, show ((Kd.slice 45 k45)).sz = 1 from rfl, Nat.mul_one] at hv207_0
                                        replace hv207_0 := Option.some.inj (hv207_0.symm.trans hx207_0)
                                        rw [hv207_0] at ge207_0
                                        have HL207_0 := Aside0.mk (show Kd.R k45 45 _ _ _ _ (rd_L6 t194 x9_1) from ge207_0)
                                        clear hv207_0 ge207_0
                                        clear hcc207 hce207
                                        have HR207_0 := Aside0.mk hi207_0
                                        have HC207_0 := Aside0.mk hl207_0
                                        clear hi207_0 hl207_0
                                        replace p207 := eq_true p207
                                        replace q207 := eq_true q207
                                        have p208 : 0 ≤ (0 : Int) := (by omega)
                                        have q208 : 0 < ((rd_L6 t194 x9_1).length : Int) := of_decide_eq_true (by first | (with_reducible assumption) | assumption)
                                        obtain ⟨ad208, e208, hx208_0, hx208_1, hx208_2, hx208_3⟩ := at_T45 (by repeat (first | (with_reducible exact HR207_0.out) | (with_reducible refine Kd.C_alloc ?_ _) | (with_reducible refine Kd.C_drewN ?_ _) | (with_reducible refine Kd.C_drew ?_) | exact HR207_0.out)) 0 p208 q208
                                        cases e208
                                        have qi208 : (0 < (rd_L6 t194 x9_1).length) = True := eq_true (by omega)
                                        (try rw [show ((0 : Int)).toNat = 0 from rfl] at hx208_0)
                                        (try rw [show 0 * 4 = 0 from rfl] at hx208_0)
                                        (try rw [Addr.add_zero'] at hx208_0)
                                        (try rw [show ((0 : Int)).toNat = 0 from rfl] at hx208_1)
                                        (try rw [show 0 * 4 = 0 from rfl] at hx208_1)
                                        (try rw [Addr.add_zero'] at hx208_1)
                                        (try rw [show ((0 : Int)).toNat = 0 from rfl] at hx208_2)
                                        (try rw [show 0 * 4 = 0 from rfl] at hx208_2)
                                        (try rw [Addr.add_zero'] at hx208_2)
                                        (try rw [show ((0 : Int)).toNat = 0 from rfl] at hx208_3)
                                        (try rw [show 0 * 4 = 0 from rfl] at hx208_3)
                                        (try rw [Addr.add_zero'] at hx208_3)
                                        replace p208 := eq_true p208
                                        replace q208 := eq_true q208
                                        go_wp2
                                        repeat (go_quiet (fail); try go_wp2)
                                        go_ret
                                        exact ⟨by first | rfl | (simp [errW_none, errW_some] <;> rfl) | (simp only [← hji4, ← hji33, ← hji37]; first | rfl | (simp [errW_none, errW_some] <;> rfl)) | (simp [*, errW_none, errW_some] <;> rfl), by repeat (first | (with_reducible first | exact HB.out | apply below_alloc | apply pw_below_drewN | apply below_drew1) | exact HB.out)⟩
                                      · rw [if_neg c43] at H
                                        have c43b0 : (((rd_T45 (rd_L6 t194 (ji33)) (ji37)).f0).toList == ((rd_T45 (rd_L6 t194 x9_1) 0).f0).toList) = false := beq_eq_false_iff_ne.mpr c43
                                        have c43b1 : (((rd_T45 (rd_L6 t194 (ji33)) (ji37)).f0).toList != ((rd_T45 (rd_L6 t194 x9_1) 0).f0).toList) = true := bne_iff_ne.mpr c43
                                        by_cases c44 : x8_1.length + (rd_L6 t194 x9_1).length < 2932031007402
                                        · rw [if_pos c44] at H
                                          have LMc44 := Aside0.mk c44
                                          clear c44
                                          obtain ⟨y210, hy210⟩ : ∃ y_ : List (S45), y_ = (x8_1 ++ (rd_L6 t194 x9_1)) := ⟨_, rfl⟩
                                          replace H : (palinodelaw16_PickPieces.l0 kj25 y190 a1 t189 t194 t195 y210 (wrap64 (x9_1 + 1))) = some r := by first | (rw [hy210]; with_reducible exact H) | (have H2_ := (Option.bind_some _ _).symm.trans H; rw [hy210]; with_reducible exact H2_) | (have H2_ := (Option.bind_some _ _).symm.trans H; with_reducible exact H2_) | with_reducible exact H | (rw [hy210]; exact H) | exact H
                                          have Ny210 := Aside0.mk hy210
                                          clear hy210
                                          have H' := Aside0.mk H
                                          clear H
                                          have p203 : 0 ≤ ((ji33) : Int) := of_decide_eq_true (by first | (with_reducible assumption) | assumption)
                                          have q203 : (ji33) < (t194.length : Int) := of_decide_eq_true (by first | (with_reducible assumption) | assumption)
                                          obtain ⟨ad203, A203_0, c203_0, e203, hx203_0, hl203_0, hi203_0⟩ := at_L6 (Kd.S_reads' HO_6.out).2.2 (ji33) p203 q203
                                          cases e203
                                          obtain ⟨ce203, hce203, hMe203, hcc203⟩ := Kd.S_get HO_6.out [] (ji33) p203 (by first | exact q203 | exact of_decide_eq_true (by first | (with_reducible assumption) | assumption) | (have e_ := (Kd.S_reads' HO_6.out).1; omega))
                                          obtain ⟨ve203_0, rfl, ge203_0⟩ := hMe203
                                          have hv203_0 := hcc203 0 _ rfl
                                          rw [Nat.add_zero, show ((Kd.slice 45 k45)).sz = 1 from rfl, Nat.mul_one] at hv203_0
                                          replace hv203_0 := Option.some.inj (hv203_0.symm.trans hx203_0)
                                          rw [hv203_0] at ge203_0
                                          have HL203_0 := Aside0.mk (show Kd.R k45 45 _ _ _ _ (rd_L6 t194 (ji33)) from ge203_0)
                                          clear hv203_0 ge203_0
                                          clear hcc203 hce203
                                          have HR203_0 := Aside0.mk hi203_0
                                          have HC203_0 := Aside0.mk hl203_0
                                          clear hi203_0 hl203_0
                                          replace p203 := eq_true p203
                                          replace q203 := eq_true q203
                                          have p204 : 0 ≤ ((ji33) : Int) := of_decide_eq_true (by first | (with_reducible assumption) | assumption)
                                          have q204 : (ji33) < (t194.length : Int) := of_decide_eq_true (by first | (with_reducible assumption) | assumption)
                                          obtain ⟨ad204, A204_0, c204_0, e204, hx204_0, hl204_0, hi204_0⟩ := at_L6 (Kd.S_reads' HO_6.out).2.2 (ji33) p204 q204
                                          obtain rfl : ad203 = ad204 := (by injection e204)
                                          obtain ⟨ce204, hce204, hMe204, hcc204⟩ := Kd.S_get HO_6.out [] (ji33) p204 (by first | exact q204 | exact of_decide_eq_true (by first | (with_reducible assumption) | assumption) | (have e_ := (Kd.S_reads' HO_6.out).1; omega))
                                          obtain ⟨ve204_0, rfl, ge204_0⟩ := hMe204
                                          have hv204_0 := hcc204 0 _ rfl
                                          rw [Nat.add_zero, show ((Kd.slice 45 k45)).sz = 1 from rfl, Nat.mul_one] at hv204_0
                                          replace hv204_0 := Option.some.inj (hv204_0.symm.trans hx204_0)
                                          rw [hv204_0] at ge204_0
                                          have HL204_0 := Aside0.mk (show Kd.R k45 45 _ _ _ _ (rd_L6 t194 (ji33)) from ge204_0)
                                          clear hv204_0 ge204_0
                                          clear hcc204 hce204
                                          have HR204_0 := Aside0.mk hi204_0
                                          have HC204_0 := Aside0.mk hl204_0
                                          clear hi204_0 hl204_0
                                          replace p204 := eq_true p204
                                          replace q204 := eq_true q204
                                          have ea_ := Option.some.inj (hx203_0.symm.trans hx204_0)
                                          injection ea_ with ea_ en_ ec_
                                          subst ea_
                                          subst ec_
                                          clear en_
                                          have p205 : 0 ≤ ((ji33) : Int) := of_decide_eq_true (by first | (with_reducible assumption) | assumption)
                                          have q205 : (ji33) < (t194.length : Int) := of_decide_eq_true (by first | (with_reducible assumption) | assumption)
                                          obtain ⟨ad205, A205_0, c205_0, e205, hx205_0, hl205_0, hi205_0⟩ := at_L6 (Kd.S_reads' HO_6.out).2.2 (ji33) p205 q205
                                          obtain rfl : ad203 = ad205 := (by injection e205)
                                          obtain ⟨ce205, hce205, hMe205, hcc205⟩ := Kd.S_get HO_6.out [] (ji33) p205 (by first | exact q205 | exact of_decide_eq_true (by first | (with_reducible assumption) | assumption) | (have e_ := (Kd.S_reads' HO_6.out).1; omega))
                                          obtain ⟨ve205_0, rfl, ge205_0⟩ := hMe205
                                          have hv205_0 := hcc205 0 _ rfl
                                          rw [Nat.add_zero, show ((Kd.slice 45 k45)).sz = 1 from rfl, Nat.mul_one] at hv205_0
                                          replace hv205_0 := Option.some.inj (hv205_0.symm.trans hx205_0)
                                          rw [hv205_0] at ge205_0
                                          have HL205_0 := Aside0.mk (show Kd.R k45 45 _ _ _ _ (rd_L6 t194 (ji33)) from ge205_0)
                                          clear hv205_0 ge205_0
                                          clear hcc205 hce205
                                          have HR205_0 := Aside0.mk hi205_0
                                          have HC205_0 := Aside0.mk hl205_0
                                          clear hi205_0 hl205_0
                                          replace p205 := eq_true p205
                                          replace q205 := eq_true q205
                                          have ea_ := Option.some.inj (hx203_0.symm.trans hx205_0)
                                          injection ea_ with ea_ en_ ec_
                                          subst ea_
                                          subst ec_
                                          clear en_
                                          have p206 : 0 ≤ ((ji37) : Int) := of_decide_eq_true (by first | (with_reducible assumption) | assumption)
                                          have q206 : (ji37) < ((rd_L6 t194 (ji33)).length : Int) := of_decide_eq_true (by first | (with_reducible assumption) | assumption)
                                          obtain ⟨ad206, e206, hx206_0, hx206_1, hx206_2, hx206_3⟩ := at_T45 (by repeat (first | (with_reducible exact HR204_0.out) | (with_reducible refine Kd.C_alloc ?_ _) | (with_reducible refine Kd.C_drewN ?_ _) | (with_reducible refine Kd.C_drew ?_) | exact HR204_0.out)) (ji37) p206 q206
                                          cases e206
                                          replace p206 := eq_true p206
                                          replace q206 := eq_true q206
                                          have p207 : 0 ≤ (x9_1 : Int) := of_decide_eq_true (by first | (with_reducible assumption) | assumption)
                                          have q207 : x9_1 < (t194.length : Int) := of_decide_eq_true (by first | (with_reducible assumption) | assumption)
                                          obtain ⟨ad207, A207_0, c207_0, e207, hx207_0, hl207_0, hi207_0⟩ := at_L6 (Kd.S_reads' HO_6.out).2.2 x9_1 p207 q207
                                          obtain rfl : ad203 = ad207 := (by injection e207)
                                          obtain ⟨ce207, hce207, hMe207, hcc207⟩ := Kd.S_get HO_6.out [] x9_1 p207 (by first | exact q207 | exact of_decide_eq_true (by first | (with_reducible assumption) | assumption) | (have e_ := (Kd.S_reads' HO_6.out).1; omega))
                                          obtain ⟨ve207_0, rfl, ge207_0⟩ := hMe207
                                          have hv207_0 := hcc207 0 _ rfl
                                          rw [Nat.add_zero, show ((Kd.slice 45 k45)).sz = 1 from rfl, Nat.mul_one] at hv207_0
                                          replace hv207_0 := Option.some.inj (hv207_0.symm.trans hx207_0)
                                          rw [hv207_0] at ge207_0
                                          have HL207_0 := Aside0.mk (show Kd.R k45 45 _ _ _ _ (rd_L6 t194 x9_1) from ge207_0)
                                          clear hv207_0 ge207_0
                                          clear hcc207 hce207
                                          have HR207_0 := Aside0.mk hi207_0
                                          have HC207_0 := Aside0.mk hl207_0
                                          clear hi207_0 hl207_0
                                          replace p207 := eq_true p207
                                          replace q207 := eq_true q207
                                          have p208 : 0 ≤ (0 : Int) := (by omega)
                                          have q208 : 0 < ((rd_L6 t194 x9_1).length : Int) := of_decide_eq_true (by first | (with_reducible assumption) | assumption)
                                          obtain ⟨ad208, e208, hx208_0, hx208_1, hx208_2, hx208_3⟩ := at_T45 (by repeat (first | (with_reducible exact HR207_0.out) | (with_reducible refine Kd.C_alloc ?_ _) | (with_reducible refine Kd.C_drewN ?_ _) | (with_reducible refine Kd.C_drew ?_) | exact HR207_0.out)) 0 p208 q208
                                          cases e208
                                          have qi208 : (0 < (rd_L6 t194 x9_1).length) = True := eq_true (by omega)
                                          (try rw [show ((0 : Int)).toNat = 0 from rfl] at hx208_0)
                                          (try rw [show 0 * 4 = 0 from rfl] at hx208_0)
                                          (try rw [Addr.add_zero'] at hx208_0)
                                          (try rw [show ((0 : Int)).toNat = 0 from rfl] at hx208_1)
                                          (try rw [show 0 * 4 = 0 from rfl] at hx208_1)
                                          (try rw [Addr.add_zero'] at hx208_1)
                                          (try rw [show ((0 : Int)).toNat = 0 from rfl] at hx208_2)
                                          (try rw [show 0 * 4 = 0 from rfl] at hx208_2)
                                          (try rw [Addr.add_zero'] at hx208_2)
                                          (try rw [show ((0 : Int)).toNat = 0 from rfl] at hx208_3)
                                          (try rw [show 0 * 4 = 0 from rfl] at hx208_3)
                                          (try rw [Addr.add_zero'] at hx208_3)
                                          replace p208 := eq_true p208
                                          replace q208 := eq_true q208
                                          have p209 : 0 ≤ (x9_1 : Int) := of_decide_eq_true (by first | (with_reducible assumption) | assumption)
                                          have q209 : x9_1 < (t194.length : Int) := of_decide_eq_true (by first | (with_reducible assumption) | assumption)
                                          obtain ⟨ad209, A209_0, c209_0, e209, hx209_0, hl209_0, hi209_0⟩ := at_L6 (Kd.S_reads' HO_6.out).2.2 x9_1 p209 q209
                                          obtain rfl : ad203 = ad209 := (by injection e209)
                                          obtain ⟨ce209, hce209, hMe209, hcc209⟩ := Kd.S_get HO_6.out [] x9_1 p209 (by first | exact q209 | exact of_decide_eq_true (by first | (with_reducible assumption) | assumption) | (have e_ := (Kd.S_reads' HO_6.out).1; omega))
                                          obtain ⟨ve209_0, rfl, ge209_0⟩ := hMe209
                                          have hv209_0 := hcc209 0 _ rfl
                                          rw [Nat.add_zero, show ((Kd.slice 45 k45)).sz = 1 from rfl, Nat.mul_one] at hv209_0
                                          replace hv209_0 := Option.some.inj (hv209_0.symm.trans hx209_0)
                                          rw [hv209_0] at ge209_0
                                          have HL209_0 := Aside0.mk (show Kd.R k45 45 _ _ _ _ (rd_L6 t194 x9_1) from ge209_0)
                                          clear hv209_0 ge209_0
                                          clear hcc209 hce209
                                          have HR209_0 := Aside0.mk hi209_0
                                          have HC209_0 := Aside0.mk hl209_0
                                          clear hi209_0 hl209_0
                                          replace p209 := eq_true p209
                                          replace q209 := eq_true q209
                                          have ea_ := Option.some.inj (hx207_0.symm.trans hx209_0)
                                          injection ea_ with ea_ en_ ec_
                                          subst ea_
                                          subst ec_
                                          clear en_
                                          go_wp2_with (first | ((with_reducible refine gate_builtin (b := .append) (xs := #[.tmp 99, .tmp 103]) rfl ?_); (try (refine gate_guard (by rfl) ?_; dsimp only)); at_builtin; refine Kd.R_append_rows k45 (w0 := w) w.heap.size rfl (.tmp 99) (.tmp 103) 34 45 (.agg #[(.string ⟨#[]⟩), (.int .i64 0), (.bool false), (.string ⟨#[]⟩)]) 48 rfl Try.underlying34 info45 rfl (by decide) (by omega) u8 x8_1 (rd_L6 t194 x9_1) _ _ _ (fun _ => True) (fun _ => False) rfl rfl ?aO ?aR (fun _ _ h => h) (fun _ h => h.elim) ?aF ?aB ?aS ?aL ?_; (case aR => repeat (first | exact (by repeat (first | (with_reducible exact HR209_0.out) | (with_reducible refine Kd.C_alloc ?_ _) | (with_reducible refine Kd.C_drewN ?_ _) | (with_reducible refine Kd.C_drew ?_) | exact HR209_0.out)) | (with_reducible refine Kd.C_alloc ?_ _) | (with_reducible refine Kd.C_drewN ?_ _) | (with_reducible refine Kd.C_drew ?_))); (case aB => exact (by repeat (first | (with_reducible first | exact HB.out | apply below_alloc | apply pw_below_drewN | apply below_drew1) | exact HB.out))); (case aF => exact (fun _ _ => trivial)); (case aO => exact (by (with_reducible repeat (first | apply Kd.R_alloc | apply Kd.R_drewN | apply Kd.R_drew)); exact HO_8.out)); (case aS => exact (below_size (by repeat (first | (with_reducible first | exact HB.out | apply below_alloc | apply pw_below_drewN | apply below_drew1) | exact HB.out)))); (case aL => have := LMc44.out; omega); intro v211 w45 ho hb hg hat; rw [← Ny210.out] at ho; have n0_ := Aside0.mk (Kd.S_after (ok := (fun _ => True)) (by (with_reducible repeat (first | apply Kd.S_alloc | apply Kd.S_drewN | apply Kd.S_drew)); exact Kd.S_mono HO_6.out (fun _ hk => ⟨trivial, hk⟩)) hg hat); have n1_ := Aside0.mk (Kd.R_after (ok := (fun k_ => some k_ ≠ (.slice (some ad203) t194.length co27 : Value).ownBlock)) (by (with_reducible repeat (first | apply Kd.R_alloc | apply Kd.R_drewN | apply Kd.R_drew)); exact Kd.R_mono HL203_0.out (fun _ hk => ⟨hk.2, hk.1⟩)) hg hat); have n2_ := Aside0.mk (Kd.R_after (ok := (fun k_ => some k_ ≠ (.slice (some ad203) t194.length co27 : Value).ownBlock)) (by (with_reducible repeat (first | apply Kd.R_alloc | apply Kd.R_drewN | apply Kd.R_drew)); exact Kd.R_mono HL204_0.out (fun _ hk => ⟨hk.2, hk.1⟩)) hg hat); have n3_ := Aside0.mk (Kd.R_after (ok := (fun k_ => some k_ ≠ (.slice (some ad203) t194.length co27 : Value).ownBlock)) (by (with_reducible repeat (first | apply Kd.R_alloc | apply Kd.R_drewN | apply Kd.R_drew)); exact Kd.R_mono HL205_0.out (fun _ hk => ⟨hk.2, hk.1⟩)) hg hat); have n4_ := Aside0.mk (Kd.R_after (ok := (fun k_ => some k_ ≠ (.slice (some ad203) t194.length co27 : Value).ownBlock)) (by (with_reducible repeat (first | apply Kd.R_alloc | apply Kd.R_drewN | apply Kd.R_drew)); exact Kd.R_mono HL207_0.out (fun _ hk => ⟨hk.2, hk.1⟩)) hg hat); have n5_ := Aside0.mk (Kd.R_after (ok := (fun k_ => some k_ ≠ (.slice (some ad203) t194.length co27 : Value).ownBlock)) (by (with_reducible repeat (first | apply Kd.R_alloc | apply Kd.R_drewN | apply Kd.R_drew)); exact Kd.R_mono HL209_0.out (fun _ hk => ⟨hk.2, hk.1⟩)) hg hat); have n6_ := Aside0.mk (hb); have n7_ := Aside0.mk (ho); clear HO_6; clear HL203_0; clear HL204_0; clear HL205_0; clear HL207_0; clear HL209_0; clear HB; clear HO_8; have HO_6 := n0_; have HL203_0 := n1_; have HL204_0 := n2_; have HL205_0 := n3_; have HL207_0 := n4_; have HL209_0 := n5_; have HB := n6_; have HO212 := n7_; clear n0_ n1_ n2_ n3_ n4_ n5_ n6_ n7_; clear ho hb hg hat))
                                          repeat (go_quiet (first | ((with_reducible refine gate_builtin (b := .append) (xs := #[.tmp 99, .tmp 103]) rfl ?_); (try (refine gate_guard (by rfl) ?_; dsimp only)); at_builtin; refine Kd.R_append_rows k45 (w0 := w) w.heap.size rfl (.tmp 99) (.tmp 103) 34 45 (.agg #[(.string ⟨#[]⟩), (.int .i64 0), (.bool false), (.string ⟨#[]⟩)]) 48 rfl Try.underlying34 info45 rfl (by decide) (by omega) u8 x8_1 (rd_L6 t194 x9_1) _ _ _ (fun _ => True) (fun _ => False) rfl rfl ?aO ?aR (fun _ _ h => h) (fun _ h => h.elim) ?aF ?aB ?aS ?aL ?_; (case aR => repeat (first | exact (by repeat (first | (with_reducible exact HR209_0.out) | (with_reducible refine Kd.C_alloc ?_ _) | (with_reducible refine Kd.C_drewN ?_ _) | (with_reducible refine Kd.C_drew ?_) | exact HR209_0.out)) | (with_reducible refine Kd.C_alloc ?_ _) | (with_reducible refine Kd.C_drewN ?_ _) | (with_reducible refine Kd.C_drew ?_))); (case aB => exact (by repeat (first | (with_reducible first | exact HB.out | apply below_alloc | apply pw_below_drewN | apply below_drew1) | exact HB.out))); (case aF => exact (fun _ _ => trivial)); (case aO => exact (by (with_reducible repeat (first | apply Kd.R_alloc | apply Kd.R_drewN | apply Kd.R_drew)); exact HO_8.out)); (case aS => exact (below_size (by repeat (first | (with_reducible first | exact HB.out | apply below_alloc | apply pw_below_drewN | apply below_drew1) | exact HB.out)))); (case aL => have := LMc44.out; omega); intro v211 w45 ho hb hg hat; rw [← Ny210.out] at ho; have n0_ := Aside0.mk (Kd.S_after (ok := (fun _ => True)) (by (with_reducible repeat (first | apply Kd.S_alloc | apply Kd.S_drewN | apply Kd.S_drew)); exact Kd.S_mono HO_6.out (fun _ hk => ⟨trivial, hk⟩)) hg hat); have n1_ := Aside0.mk (Kd.R_after (ok := (fun k_ => some k_ ≠ (.slice (some ad203) t194.length co27 : Value).ownBlock)) (by (with_reducible repeat (first | apply Kd.R_alloc | apply Kd.R_drewN | apply Kd.R_drew)); exact Kd.R_mono HL203_0.out (fun _ hk => ⟨hk.2, hk.1⟩)) hg hat); have n2_ := Aside0.mk (Kd.R_after (ok := (fun k_ => some k_ ≠ (.slice (some ad203) t194.length co27 : Value).ownBlock)) (by (with_reducible repeat (first | apply Kd.R_alloc | apply Kd.R_drewN | apply Kd.R_drew)); exact Kd.R_mono HL204_0.out (fun _ hk => ⟨hk.2, hk.1⟩)) hg hat); have n3_ := Aside0.mk (Kd.R_after (ok := (fun k_ => some k_ ≠ (.slice (some ad203) t194.length co27 : Value).ownBlock)) (by (with_reducible repeat (first | apply Kd.R_alloc | apply Kd.R_drewN | apply Kd.R_drew)); exact Kd.R_mono HL205_0.out (fun _ hk => ⟨hk.2, hk.1⟩)) hg hat); have n4_ := Aside0.mk (Kd.R_after (ok := (fun k_ => some k_ ≠ (.slice (some ad203) t194.length co27 : Value).ownBlock)) (by (with_reducible repeat (first | apply Kd.R_alloc | apply Kd.R_drewN | apply Kd.R_drew)); exact Kd.R_mono HL207_0.out (fun _ hk => ⟨hk.2, hk.1⟩)) hg hat); have n5_ := Aside0.mk (Kd.R_after (ok := (fun k_ => some k_ ≠ (.slice (some ad203) t194.length co27 : Value).ownBlock)) (by (with_reducible repeat (first | apply Kd.R_alloc | apply Kd.R_drewN | apply Kd.R_drew)); exact Kd.R_mono HL209_0.out (fun _ hk => ⟨hk.2, hk.1⟩)) hg hat); have n6_ := Aside0.mk (hb); have n7_ := Aside0.mk (ho); clear HO_6; clear HL203_0; clear HL204_0; clear HL205_0; clear HL207_0; clear HL209_0; clear HB; clear HO_8; have HO_6 := n0_; have HL203_0 := n1_; have HL204_0 := n2_; have HL205_0 := n3_; have HL207_0 := n4_; have HL209_0 := n5_; have HB := n6_; have HO212 := n7_; clear n0_ n1_ n2_ n3_ n4_ n5_ n6_ n7_; clear ho hb hg hat)); try go_wp2_with (first | ((with_reducible refine gate_builtin (b := .append) (xs := #[.tmp 99, .tmp 103]) rfl ?_); (try (refine gate_guard (by rfl) ?_; dsimp only)); at_builtin; refine Kd.R_append_rows k45 (w0 := w) w.heap.size rfl (.tmp 99) (.tmp 103) 34 45 (.agg #[(.string ⟨#[]⟩), (.int .i64 0), (.bool false), (.string ⟨#[]⟩)]) 48 rfl Try.underlying34 info45 rfl (by decide) (by omega) u8 x8_1 (rd_L6 t194 x9_1) _ _ _ (fun _ => True) (fun _ => False) rfl rfl ?aO ?aR (fun _ _ h => h) (fun _ h => h.elim) ?aF ?aB ?aS ?aL ?_; (case aR => repeat (first | exact (by repeat (first | (with_reducible exact HR209_0.out) | (with_reducible refine Kd.C_alloc ?_ _) | (with_reducible refine Kd.C_drewN ?_ _) | (with_reducible refine Kd.C_drew ?_) | exact HR209_0.out)) | (with_reducible refine Kd.C_alloc ?_ _) | (with_reducible refine Kd.C_drewN ?_ _) | (with_reducible refine Kd.C_drew ?_))); (case aB => exact (by repeat (first | (with_reducible first | exact HB.out | apply below_alloc | apply pw_below_drewN | apply below_drew1) | exact HB.out))); (case aF => exact (fun _ _ => trivial)); (case aO => exact (by (with_reducible repeat (first | apply Kd.R_alloc | apply Kd.R_drewN | apply Kd.R_drew)); exact HO_8.out)); (case aS => exact (below_size (by repeat (first | (with_reducible first | exact HB.out | apply below_alloc | apply pw_below_drewN | apply below_drew1) | exact HB.out)))); (case aL => have := LMc44.out; omega); intro v211 w45 ho hb hg hat; rw [← Ny210.out] at ho; have n0_ := Aside0.mk (Kd.S_after (ok := (fun _ => True)) (by (with_reducible repeat (first | apply Kd.S_alloc | apply Kd.S_drewN | apply Kd.S_drew)); exact Kd.S_mono HO_6.out (fun _ hk => ⟨trivial, hk⟩)) hg hat); have n1_ := Aside0.mk (Kd.R_after (ok := (fun k_ => some k_ ≠ (.slice (some ad203) t194.length co27 : Value).ownBlock)) (by (with_reducible repeat (first | apply Kd.R_alloc | apply Kd.R_drewN | apply Kd.R_drew)); exact Kd.R_mono HL203_0.out (fun _ hk => ⟨hk.2, hk.1⟩)) hg hat); have n2_ := Aside0.mk (Kd.R_after (ok := (fun k_ => some k_ ≠ (.slice (some ad203) t194.length co27 : Value).ownBlock)) (by (with_reducible repeat (first | apply Kd.R_alloc | apply Kd.R_drewN | apply Kd.R_drew)); exact Kd.R_mono HL204_0.out (fun _ hk => ⟨hk.2, hk.1⟩)) hg hat); have n3_ := Aside0.mk (Kd.R_after (ok := (fun k_ => some k_ ≠ (.slice (some ad203) t194.length co27 : Value).ownBlock)) (by (with_reducible repeat (first | apply Kd.R_alloc | apply Kd.R_drewN | apply Kd.R_drew)); exact Kd.R_mono HL205_0.out (fun _ hk => ⟨hk.2, hk.1⟩)) hg hat); have n4_ := Aside0.mk (Kd.R_after (ok := (fun k_ => some k_ ≠ (.slice (some ad203) t194.length co27 : Value).ownBlock)) (by (with_reducible repeat (first | apply Kd.R_alloc | apply Kd.R_drewN | apply Kd.R_drew)); exact Kd.R_mono HL207_0.out (fun _ hk => ⟨hk.2, hk.1⟩)) hg hat); have n5_ := Aside0.mk (Kd.R_after (ok := (fun k_ => some k_ ≠ (.slice (some ad203) t194.length co27 : Value).ownBlock)) (by (with_reducible repeat (first | apply Kd.R_alloc | apply Kd.R_drewN | apply Kd.R_drew)); exact Kd.R_mono HL209_0.out (fun _ hk => ⟨hk.2, hk.1⟩)) hg hat); have n6_ := Aside0.mk (hb); have n7_ := Aside0.mk (ho); clear HO_6; clear HL203_0; clear HL204_0; clear HL205_0; clear HL207_0; clear HL209_0; clear HB; clear HO_8; have HO_6 := n0_; have HL203_0 := n1_; have HL204_0 := n2_; have HL205_0 := n3_; have HL207_0 := n4_; have HL209_0 := n5_; have HB := n6_; have HO212 := n7_; clear n0_ n1_ n2_ n3_ n4_ n5_ n6_ n7_; clear ho hb hg hat)))
                                          go_roundg kj25
                                          case measure => have := HK1.out; have := HJ25.out; omega
                                          case rel => exact ⟨(y210), (wrap64 (x9_1 + 1)), (by first | rfl | (simp; done) | (simp [*]; done)), H', ⟨by have := HK1.out; have := HJ25.out; omega⟩, ⟨by (with_reducible repeat (first | apply Kd.S_alloc | apply Kd.S_drewN | apply Kd.S_drew)); exact Kd.S_mono HO_6.out (fun _ hk => hk.2)⟩, ⟨by (with_reducible repeat (first | apply Kd.R_alloc | apply Kd.R_drewN | apply Kd.R_drew)); exact HO212.out⟩, ⟨by repeat (first | (with_reducible first | exact HB.out | apply below_alloc | apply pw_below_drewN | apply below_drew1) | exact HB.out)⟩⟩
                                        · rw [if_neg c44] at H
                                          exact absurd H (by simp)
                                    · rw [if_neg c42] at H
                                      exact absurd H (by simp)
                                  · rw [if_neg c41] at H
                                    exact absurd H (by simp)
                                · rw [if_neg c40] at H
                                  exact absurd H (by simp)
                              · rw [if_neg c39] at H
                                exact absurd H (by simp)
                            · rw [if_neg c38] at H
                              exact absurd H (by simp)
                          · rw [if_neg c36] at H
                            have c36b0 : decide (0 < ((rd_L6 t194 (ji33)).length : Int)) = false := decide_eq_false c36
                            have c36b1 : decide (0 < (rd_L6 t194 (ji33)).length) = false := decide_eq_false (by omega)
                            clear c36
                            by_cases c46 : 0 ≤ x9_1
                            · rw [if_pos c46] at H
                              have c46b0 : decide (0 ≤ x9_1) = true := decide_eq_true c46
                              clear c46
                              by_cases c47 : x9_1 < (t194.length : Int)
                              · rw [if_pos c47] at H
                                have c47b0 : decide (x9_1 < (t194.length : Int)) = true := decide_eq_true c47
                                clear c47
                                by_cases c48 : x8_1.length + (rd_L6 t194 x9_1).length < 2932031007402
                                · rw [if_pos c48] at H
                                  have LMc48 := Aside0.mk c48
                                  clear c48
                                  obtain ⟨y214, hy214⟩ : ∃ y_ : List (S45), y_ = (x8_1 ++ (rd_L6 t194 x9_1)) := ⟨_, rfl⟩
                                  replace H : (palinodelaw16_PickPieces.l0 kj25 y190 a1 t189 t194 t195 y214 (wrap64 (x9_1 + 1))) = some r := by first | (rw [hy214]; with_reducible exact H) | (have H2_ := (Option.bind_some _ _).symm.trans H; rw [hy214]; with_reducible exact H2_) | (have H2_ := (Option.bind_some _ _).symm.trans H; with_reducible exact H2_) | with_reducible exact H | (rw [hy214]; exact H) | exact H
                                  have Ny214 := Aside0.mk hy214
                                  clear hy214
                                  have H' := Aside0.mk H
                                  clear H
                                  have p203 : 0 ≤ ((ji33) : Int) := of_decide_eq_true (by first | (with_reducible assumption) | assumption)
                                  have q203 : (ji33) < (t194.length : Int) := of_decide_eq_true (by first | (with_reducible assumption) | assumption)
                                  obtain ⟨ad203, A203_0, c203_0, e203, hx203_0, hl203_0, hi203_0⟩ := at_L6 (Kd.S_reads' HO_6.out).2.2 (ji33) p203 q203
                                  cases e203
                                  obtain ⟨ce203, hce203, hMe203, hcc203⟩ := Kd.S_get HO_6.out [] (ji33) p203 (by first | exact q203 | exact of_decide_eq_true (by first | (with_reducible assumption) | assumption) | (have e_ := (Kd.S_reads' HO_6.out).1; omega))
                                  obtain ⟨ve203_0, rfl, ge203_0⟩ := hMe203
                                  have hv203_0 := hcc203 0 _ rfl
                                  rw [Nat.add_zero, show ((Kd.slice 45 k45)).sz = 1 from rfl, Nat.mul_one] at hv203_0
                                  replace hv203_0 := Option.some.inj (hv203_0.symm.trans hx203_0)
                                  rw [hv203_0] at ge203_0
                                  have HL203_0 := Aside0.mk (show Kd.R k45 45 _ _ _ _ (rd_L6 t194 (ji33)) from ge203_0)
                                  clear hv203_0 ge203_0
                                  clear hcc203 hce203
                                  have HR203_0 := Aside0.mk hi203_0
                                  have HC203_0 := Aside0.mk hl203_0
                                  clear hi203_0 hl203_0
                                  replace p203 := eq_true p203
                                  replace q203 := eq_true q203
                                  have p213 : 0 ≤ (x9_1 : Int) := of_decide_eq_true (by first | (with_reducible assumption) | assumption)
                                  have q213 : x9_1 < (t194.length : Int) := of_decide_eq_true (by first | (with_reducible assumption) | assumption)
                                  obtain ⟨ad213, A213_0, c213_0, e213, hx213_0, hl213_0, hi213_0⟩ := at_L6 (Kd.S_reads' HO_6.out).2.2 x9_1 p213 q213
                                  obtain rfl : ad203 = ad213 := (by injection e213)
                                  obtain ⟨ce213, hce213, hMe213, hcc213⟩ := Kd.S_get HO_6.out [] x9_1 p213 (by first | exact q213 | exact of_decide_eq_true (by first | (with_reducible assumption) | assumption) | (have e_ := (Kd.S_reads' HO_6.out).1; omega))
                                  obtain ⟨ve213_0, rfl, ge213_0⟩ := hMe213
                                  have hv213_0 := hcc213 0 _ rfl
                                  rw [Nat.add_zero, show ((Kd.slice 45 k45)).sz = 1 from rfl, Nat.mul_one] at hv213_0
                                  replace hv213_0 := Option.some.inj (hv213_0.symm.trans hx213_0)
                                  rw [hv213_0] at ge213_0
                                  have HL213_0 := Aside0.mk (show Kd.R k45 45 _ _ _ _ (rd_L6 t194 x9_1) from ge213_0)
                                  clear hv213_0 ge213_0
                                  clear hcc213 hce213
                                  have HR213_0 := Aside0.mk hi213_0
                                  have HC213_0 := Aside0.mk hl213_0
                                  clear hi213_0 hl213_0
                                  replace p213 := eq_true p213
                                  replace q213 := eq_true q213
                                  go_wp2_with (first | ((with_reducible refine gate_builtin (b := .append) (xs := #[.tmp 99, .tmp 103]) rfl ?_); (try (refine gate_guard (by rfl) ?_; dsimp only)); at_builtin; refine Kd.R_append_rows k45 (w0 := w) w.heap.size rfl (.tmp 99) (.tmp 103) 34 45 (.agg #[(.string ⟨#[]⟩), (.int .i64 0), (.bool false), (.string ⟨#[]⟩)]) 48 rfl Try.underlying34 info45 rfl (by decide) (by omega) u8 x8_1 (rd_L6 t194 x9_1) _ _ _ (fun _ => True) (fun _ => False) rfl rfl ?aO ?aR (fun _ _ h => h) (fun _ h => h.elim) ?aF ?aB ?aS ?aL ?_; (case aR => repeat (first | exact (by repeat (first | (with_reducible exact HR213_0.out) | (with_reducible refine Kd.C_alloc ?_ _) | (with_reducible refine Kd.C_drewN ?_ _) | (with_reducible refine Kd.C_drew ?_) | exact HR213_0.out)) | (with_reducible refine Kd.C_alloc ?_ _) | (with_reducible refine Kd.C_drewN ?_ _) | (with_reducible refine Kd.C_drew ?_))); (case aB => exact (by repeat (first | (with_reducible first | exact HB.out | apply below_alloc | apply pw_below_drewN | apply below_drew1) | exact HB.out))); (case aF => exact (fun _ _ => trivial)); (case aO => exact (by (with_reducible repeat (first | apply Kd.R_alloc | apply Kd.R_drewN | apply Kd.R_drew)); exact HO_8.out)); (case aS => exact (below_size (by repeat (first | (with_reducible first | exact HB.out | apply below_alloc | apply pw_below_drewN | apply below_drew1) | exact HB.out)))); (case aL => have := LMc48.out; omega); intro v215 w49 ho hb hg hat; rw [← Ny214.out] at ho; have n0_ := Aside0.mk (Kd.S_after (ok := (fun _ => True)) (by (with_reducible repeat (first | apply Kd.S_alloc | apply Kd.S_drewN | apply Kd.S_drew)); exact Kd.S_mono HO_6.out (fun _ hk => ⟨trivial, hk⟩)) hg hat); have n1_ := Aside0.mk (Kd.R_after (ok := (fun k_ => some k_ ≠ (.slice (some ad203) t194.length co27 : Value).ownBlock)) (by (with_reducible repeat (first | apply Kd.R_alloc | apply Kd.R_drewN | apply Kd.R_drew)); exact Kd.R_mono HL203_0.out (fun _ hk => ⟨hk.2, hk.1⟩)) hg hat); have n2_ := Aside0.mk (Kd.R_after (ok := (fun k_ => some k_ ≠ (.slice (some ad203) t194.length co27 : Value).ownBlock)) (by (with_reducible repeat (first | apply Kd.R_alloc | apply Kd.R_drewN | apply Kd.R_drew)); exact Kd.R_mono HL213_0.out (fun _ hk => ⟨hk.2, hk.1⟩)) hg hat); have n3_ := Aside0.mk (hb); have n4_ := Aside0.mk (ho); clear HO_6; clear HL203_0; clear HL213_0; clear HB; clear HO_8; have HO_6 := n0_; have HL203_0 := n1_; have HL213_0 := n2_; have HB := n3_; have HO216 := n4_; clear n0_ n1_ n2_ n3_ n4_; clear ho hb hg hat))
                                  repeat (go_quiet (first | ((with_reducible refine gate_builtin (b := .append) (xs := #[.tmp 99, .tmp 103]) rfl ?_); (try (refine gate_guard (by rfl) ?_; dsimp only)); at_builtin; refine Kd.R_append_rows k45 (w0 := w) w.heap.size rfl (.tmp 99) (.tmp 103) 34 45 (.agg #[(.string ⟨#[]⟩), (.int .i64 0), (.bool false), (.string ⟨#[]⟩)]) 48 rfl Try.underlying34 info45 rfl (by decide) (by omega) u8 x8_1 (rd_L6 t194 x9_1) _ _ _ (fun _ => True) (fun _ => False) rfl rfl ?aO ?aR (fun _ _ h => h) (fun _ h => h.elim) ?aF ?aB ?aS ?aL ?_; (case aR => repeat (first | exact (by repeat (first | (with_reducible exact HR213_0.out) | (with_reducible refine Kd.C_alloc ?_ _) | (with_reducible refine Kd.C_drewN ?_ _) | (with_reducible refine Kd.C_drew ?_) | exact HR213_0.out)) | (with_reducible refine Kd.C_alloc ?_ _) | (with_reducible refine Kd.C_drewN ?_ _) | (with_reducible refine Kd.C_drew ?_))); (case aB => exact (by repeat (first | (with_reducible first | exact HB.out | apply below_alloc | apply pw_below_drewN | apply below_drew1) | exact HB.out))); (case aF => exact (fun _ _ => trivial)); (case aO => exact (by (with_reducible repeat (first | apply Kd.R_alloc | apply Kd.R_drewN | apply Kd.R_drew)); exact HO_8.out)); (case aS => exact (below_size (by repeat (first | (with_reducible first | exact HB.out | apply below_alloc | apply pw_below_drewN | apply below_drew1) | exact HB.out)))); (case aL => have := LMc48.out; omega); intro v215 w49 ho hb hg hat; rw [← Ny214.out] at ho; have n0_ := Aside0.mk (Kd.S_after (ok := (fun _ => True)) (by (with_reducible repeat (first | apply Kd.S_alloc | apply Kd.S_drewN | apply Kd.S_drew)); exact Kd.S_mono HO_6.out (fun _ hk => ⟨trivial, hk⟩)) hg hat); have n1_ := Aside0.mk (Kd.R_after (ok := (fun k_ => some k_ ≠ (.slice (some ad203) t194.length co27 : Value).ownBlock)) (by (with_reducible repeat (first | apply Kd.R_alloc | apply Kd.R_drewN | apply Kd.R_drew)); exact Kd.R_mono HL203_0.out (fun _ hk => ⟨hk.2, hk.1⟩)) hg hat); have n2_ := Aside0.mk (Kd.R_after (ok := (fun k_ => some k_ ≠ (.slice (some ad203) t194.length co27 : Value).ownBlock)) (by (with_reducible repeat (first | apply Kd.R_alloc | apply Kd.R_drewN | apply Kd.R_drew)); exact Kd.R_mono HL213_0.out (fun _ hk => ⟨hk.2, hk.1⟩)) hg hat); have n3_ := Aside0.mk (hb); have n4_ := Aside0.mk (ho); clear HO_6; clear HL203_0; clear HL213_0; clear HB; clear HO_8; have HO_6 := n0_; have HL203_0 := n1_; have HL213_0 := n2_; have HB := n3_; have HO216 := n4_; clear n0_ n1_ n2_ n3_ n4_; clear ho hb hg hat)); try go_wp2_with (first | ((with_reducible refine gate_builtin (b := .append) (xs := #[.tmp 99, .tmp 103]) rfl ?_); (try (refine gate_guard (by rfl) ?_; dsimp only)); at_builtin; refine Kd.R_append_rows k45 (w0 := w) w.heap.size rfl (.tmp 99) (.tmp 103) 34 45 (.agg #[(.string ⟨#[]⟩), (.int .i64 0), (.bool false), (.string ⟨#[]⟩)]) 48 rfl Try.underlying34 info45 rfl (by decide) (by omega) u8 x8_1 (rd_L6 t194 x9_1) _ _ _ (fun _ => True) (fun _ => False) rfl rfl ?aO ?aR (fun _ _ h => h) (fun _ h => h.elim) ?aF ?aB ?aS ?aL ?_; (case aR => repeat (first | exact (by repeat (first | (with_reducible exact HR213_0.out) | (with_reducible refine Kd.C_alloc ?_ _) | (with_reducible refine Kd.C_drewN ?_ _) | (with_reducible refine Kd.C_drew ?_) | exact HR213_0.out)) | (with_reducible refine Kd.C_alloc ?_ _) | (with_reducible refine Kd.C_drewN ?_ _) | (with_reducible refine Kd.C_drew ?_))); (case aB => exact (by repeat (first | (with_reducible first | exact HB.out | apply below_alloc | apply pw_below_drewN | apply below_drew1) | exact HB.out))); (case aF => exact (fun _ _ => trivial)); (case aO => exact (by (with_reducible repeat (first | apply Kd.R_alloc | apply Kd.R_drewN | apply Kd.R_drew)); exact HO_8.out)); (case aS => exact (below_size (by repeat (first | (with_reducible first | exact HB.out | apply below_alloc | apply pw_below_drewN | apply below_drew1) | exact HB.out)))); (case aL => have := LMc48.out; omega); intro v215 w49 ho hb hg hat; rw [← Ny214.out] at ho; have n0_ := Aside0.mk (Kd.S_after (ok := (fun _ => True)) (by (with_reducible repeat (first | apply Kd.S_alloc | apply Kd.S_drewN | apply Kd.S_drew)); exact Kd.S_mono HO_6.out (fun _ hk => ⟨trivial, hk⟩)) hg hat); have n1_ := Aside0.mk (Kd.R_after (ok := (fun k_ => some k_ ≠ (.slice (some ad203) t194.length co27 : Value).ownBlock)) (by (with_reducible repeat (first | apply Kd.R_alloc | apply Kd.R_drewN | apply Kd.R_drew)); exact Kd.R_mono HL203_0.out (fun _ hk => ⟨hk.2, hk.1⟩)) hg hat); have n2_ := Aside0.mk (Kd.R_after (ok := (fun k_ => some k_ ≠ (.slice (some ad203) t194.length co27 : Value).ownBlock)) (by (with_reducible repeat (first | apply Kd.R_alloc | apply Kd.R_drewN | apply Kd.R_drew)); exact Kd.R_mono HL213_0.out (fun _ hk => ⟨hk.2, hk.1⟩)) hg hat); have n3_ := Aside0.mk (hb); have n4_ := Aside0.mk (ho); clear HO_6; clear HL203_0; clear HL213_0; clear HB; clear HO_8; have HO_6 := n0_; have HL203_0 := n1_; have HL213_0 := n2_; have HB := n3_; have HO216 := n4_; clear n0_ n1_ n2_ n3_ n4_; clear ho hb hg hat)))
                                  go_roundg kj25
                                  case measure => have := HK1.out; have := HJ25.out; omega
                                  case rel => exact ⟨(y214), (wrap64 (x9_1 + 1)), (by first | rfl | (simp; done) | (simp [*]; done)), H', ⟨by have := HK1.out; have := HJ25.out; omega⟩, ⟨by (with_reducible repeat (first | apply Kd.S_alloc | apply Kd.S_drewN | apply Kd.S_drew)); exact Kd.S_mono HO_6.out (fun _ hk => hk.2)⟩, ⟨by (with_reducible repeat (first | apply Kd.R_alloc | apply Kd.R_drewN | apply Kd.R_drew)); exact HO216.out⟩, ⟨by repeat (first | (with_reducible first | exact HB.out | apply below_alloc | apply pw_below_drewN | apply below_drew1) | exact HB.out)⟩⟩
                                · rw [if_neg c48] at H
                                  exact absurd H (by simp)
                              · rw [if_neg c47] at H
                                exact absurd H (by simp)
                            · rw [if_neg c46] at H
                              exact absurd H (by simp)
                        · rw [if_neg c35] at H
                          exact absurd H (by simp)
                      · rw [if_neg c34] at H
                        exact absurd H (by simp)
                    · rw [if_neg c32] at H
                      have c32b0 : decide (0 < x9_1) = false := decide_eq_false c32
                      clear c32
                      by_cases c50 : 0 ≤ x9_1
                      · rw [if_pos c50] at H
                        have c50b0 : decide (0 ≤ x9_1) = true := decide_eq_true c50
                        clear c50
                        by_cases c51 : x9_1 < (t194.length : Int)
                        · rw [if_pos c51] at H
                          have c51b0 : decide (x9_1 < (t194.length : Int)) = true := decide_eq_true c51
                          clear c51
                          by_cases c52 : x8_1.length + (rd_L6 t194 x9_1).length < 2932031007402
                          · rw [if_pos c52] at H
                            have LMc52 := Aside0.mk c52
                            clear c52
                            obtain ⟨y218, hy218⟩ : ∃ y_ : List (S45), y_ = (x8_1 ++ (rd_L6 t194 x9_1)) := ⟨_, rfl⟩
                            replace H : (palinodelaw16_PickPieces.l0 kj25 y190 a1 t189 t194 t195 y218 (wrap64 (x9_1 + 1))) = some r := by first | (rw [hy218]; with_reducible exact H) | (have H2_ := (Option.bind_some _ _).symm.trans H; rw [hy218]; with_reducible exact H2_) | (have H2_ := (Option.bind_some _ _).symm.trans H; with_reducible exact H2_) | with_reducible exact H | (rw [hy218]; exact H) | exact H
                            have Ny218 := Aside0.mk hy218
                            clear hy218
                            have H' := Aside0.mk H
                            clear H
                            have p217 : 0 ≤ (x9_1 : Int) := of_decide_eq_true (by first | (with_reducible assumption) | assumption)
                            have q217 : x9_1 < (t194.length : Int) := of_decide_eq_true (by first | (with_reducible assumption) | assumption)
                            obtain ⟨ad217, A217_0, c217_0, e217, hx217_0, hl217_0, hi217_0⟩ := at_L6 (Kd.S_reads' HO_6.out).2.2 x9_1 p217 q217
                            cases e217
                            obtain ⟨ce217, hce217, hMe217, hcc217⟩ := Kd.S_get HO_6.out [] x9_1 p217 (by first | exact q217 | exact of_decide_eq_true (by first | (with_reducible assumption) | assumption) | (have e_ := (Kd.S_reads' HO_6.out).1; omega))
                            obtain ⟨ve217_0, rfl, ge217_0⟩ := hMe217
                            have hv217_0 := hcc217 0 _ rfl
                            rw [Nat.add_zero, show ((Kd.slice 45 k45)).sz = 1 from rfl, Nat.mul_one] at hv217_0
                            replace hv217_0 := Option.some.inj (hv217_0.symm.trans hx217_0)
                            rw [hv217_0] at ge217_0
                            have HL217_0 := Aside0.mk (show Kd.R k45 45 _ _ _ _ (rd_L6 t194 x9_1) from ge217_0)
                            clear hv217_0 ge217_0
                            clear hcc217 hce217
                            have HR217_0 := Aside0.mk hi217_0
                            have HC217_0 := Aside0.mk hl217_0
                            clear hi217_0 hl217_0
                            replace p217 := eq_true p217
                            replace q217 := eq_true q217
                            go_wp2_with (first | ((with_reducible refine gate_builtin (b := .append) (xs := #[.tmp 99, .tmp 103]) rfl ?_); (try (refine gate_guard (by rfl) ?_; dsimp only)); at_builtin; refine Kd.R_append_rows k45 (w0 := w) w.heap.size rfl (.tmp 99) (.tmp 103) 34 45 (.agg #[(.string ⟨#[]⟩), (.int .i64 0), (.bool false), (.string ⟨#[]⟩)]) 48 rfl Try.underlying34 info45 rfl (by decide) (by omega) u8 x8_1 (rd_L6 t194 x9_1) _ _ _ (fun _ => True) (fun _ => False) rfl rfl ?aO ?aR (fun _ _ h => h) (fun _ h => h.elim) ?aF ?aB ?aS ?aL ?_; (case aR => repeat (first | exact (by repeat (first | (with_reducible exact HR217_0.out) | (with_reducible refine Kd.C_alloc ?_ _) | (with_reducible refine Kd.C_drewN ?_ _) | (with_reducible refine Kd.C_drew ?_) | exact HR217_0.out)) | (with_reducible refine Kd.C_alloc ?_ _) | (with_reducible refine Kd.C_drewN ?_ _) | (with_reducible refine Kd.C_drew ?_))); (case aB => exact (by repeat (first | (with_reducible first | exact HB.out | apply below_alloc | apply pw_below_drewN | apply below_drew1) | exact HB.out))); (case aF => exact (fun _ _ => trivial)); (case aO => exact (by (with_reducible repeat (first | apply Kd.R_alloc | apply Kd.R_drewN | apply Kd.R_drew)); exact HO_8.out)); (case aS => exact (below_size (by repeat (first | (with_reducible first | exact HB.out | apply below_alloc | apply pw_below_drewN | apply below_drew1) | exact HB.out)))); (case aL => have := LMc52.out; omega); intro v219 w53 ho hb hg hat; rw [← Ny218.out] at ho; have n0_ := Aside0.mk (Kd.S_after (ok := (fun _ => True)) (by (with_reducible repeat (first | apply Kd.S_alloc | apply Kd.S_drewN | apply Kd.S_drew)); exact Kd.S_mono HO_6.out (fun _ hk => ⟨trivial, hk⟩)) hg hat); have n1_ := Aside0.mk (Kd.R_after (ok := (fun k_ => some k_ ≠ (.slice (some ad217) t194.length co27 : Value).ownBlock)) (by (with_reducible repeat (first | apply Kd.R_alloc | apply Kd.R_drewN | apply Kd.R_drew)); exact Kd.R_mono HL217_0.out (fun _ hk => ⟨hk.2, hk.1⟩)) hg hat); have n2_ := Aside0.mk (hb); have n3_ := Aside0.mk (ho); clear HO_6; clear HL217_0; clear HB; clear HO_8; have HO_6 := n0_; have HL217_0 := n1_; have HB := n2_; have HO220 := n3_; clear n0_ n1_ n2_ n3_; clear ho hb hg hat))
                            repeat (go_quiet (first | ((with_reducible refine gate_builtin (b := .append) (xs := #[.tmp 99, .tmp 103]) rfl ?_); (try (refine gate_guard (by rfl) ?_; dsimp only)); at_builtin; refine Kd.R_append_rows k45 (w0 := w) w.heap.size rfl (.tmp 99) (.tmp 103) 34 45 (.agg #[(.string ⟨#[]⟩), (.int .i64 0), (.bool false), (.string ⟨#[]⟩)]) 48 rfl Try.underlying34 info45 rfl (by decide) (by omega) u8 x8_1 (rd_L6 t194 x9_1) _ _ _ (fun _ => True) (fun _ => False) rfl rfl ?aO ?aR (fun _ _ h => h) (fun _ h => h.elim) ?aF ?aB ?aS ?aL ?_; (case aR => repeat (first | exact (by repeat (first | (with_reducible exact HR217_0.out) | (with_reducible refine Kd.C_alloc ?_ _) | (with_reducible refine Kd.C_drewN ?_ _) | (with_reducible refine Kd.C_drew ?_) | exact HR217_0.out)) | (with_reducible refine Kd.C_alloc ?_ _) | (with_reducible refine Kd.C_drewN ?_ _) | (with_reducible refine Kd.C_drew ?_))); (case aB => exact (by repeat (first | (with_reducible first | exact HB.out | apply below_alloc | apply pw_below_drewN | apply below_drew1) | exact HB.out))); (case aF => exact (fun _ _ => trivial)); (case aO => exact (by (with_reducible repeat (first | apply Kd.R_alloc | apply Kd.R_drewN | apply Kd.R_drew)); exact HO_8.out)); (case aS => exact (below_size (by repeat (first | (with_reducible first | exact HB.out | apply below_alloc | apply pw_below_drewN | apply below_drew1) | exact HB.out)))); (case aL => have := LMc52.out; omega); intro v219 w53 ho hb hg hat; rw [← Ny218.out] at ho; have n0_ := Aside0.mk (Kd.S_after (ok := (fun _ => True)) (by (with_reducible repeat (first | apply Kd.S_alloc | apply Kd.S_drewN | apply Kd.S_drew)); exact Kd.S_mono HO_6.out (fun _ hk => ⟨trivial, hk⟩)) hg hat); have n1_ := Aside0.mk (Kd.R_after (ok := (fun k_ => some k_ ≠ (.slice (some ad217) t194.length co27 : Value).ownBlock)) (by (with_reducible repeat (first | apply Kd.R_alloc | apply Kd.R_drewN | apply Kd.R_drew)); exact Kd.R_mono HL217_0.out (fun _ hk => ⟨hk.2, hk.1⟩)) hg hat); have n2_ := Aside0.mk (hb); have n3_ := Aside0.mk (ho); clear HO_6; clear HL217_0; clear HB; clear HO_8; have HO_6 := n0_; have HL217_0 := n1_; have HB := n2_; have HO220 := n3_; clear n0_ n1_ n2_ n3_; clear ho hb hg hat)); try go_wp2_with (first | ((with_reducible refine gate_builtin (b := .append) (xs := #[.tmp 99, .tmp 103]) rfl ?_); (try (refine gate_guard (by rfl) ?_; dsimp only)); at_builtin; refine Kd.R_append_rows k45 (w0 := w) w.heap.size rfl (.tmp 99) (.tmp 103) 34 45 (.agg #[(.string ⟨#[]⟩), (.int .i64 0), (.bool false), (.string ⟨#[]⟩)]) 48 rfl Try.underlying34 info45 rfl (by decide) (by omega) u8 x8_1 (rd_L6 t194 x9_1) _ _ _ (fun _ => True) (fun _ => False) rfl rfl ?aO ?aR (fun _ _ h => h) (fun _ h => h.elim) ?aF ?aB ?aS ?aL ?_; (case aR => repeat (first | exact (by repeat (first | (with_reducible exact HR217_0.out) | (with_reducible refine Kd.C_alloc ?_ _) | (with_reducible refine Kd.C_drewN ?_ _) | (with_reducible refine Kd.C_drew ?_) | exact HR217_0.out)) | (with_reducible refine Kd.C_alloc ?_ _) | (with_reducible refine Kd.C_drewN ?_ _) | (with_reducible refine Kd.C_drew ?_))); (case aB => exact (by repeat (first | (with_reducible first | exact HB.out | apply below_alloc | apply pw_below_drewN | apply below_drew1) | exact HB.out))); (case aF => exact (fun _ _ => trivial)); (case aO => exact (by (with_reducible repeat (first | apply Kd.R_alloc | apply Kd.R_drewN | apply Kd.R_drew)); exact HO_8.out)); (case aS => exact (below_size (by repeat (first | (with_reducible first | exact HB.out | apply below_alloc | apply pw_below_drewN | apply below_drew1) | exact HB.out)))); (case aL => have := LMc52.out; omega); intro v219 w53 ho hb hg hat; rw [← Ny218.out] at ho; have n0_ := Aside0.mk (Kd.S_after (ok := (fun _ => True)) (by (with_reducible repeat (first | apply Kd.S_alloc | apply Kd.S_drewN | apply Kd.S_drew)); exact Kd.S_mono HO_6.out (fun _ hk => ⟨trivial, hk⟩)) hg hat); have n1_ := Aside0.mk (Kd.R_after (ok := (fun k_ => some k_ ≠ (.slice (some ad217) t194.length co27 : Value).ownBlock)) (by (with_reducible repeat (first | apply Kd.R_alloc | apply Kd.R_drewN | apply Kd.R_drew)); exact Kd.R_mono HL217_0.out (fun _ hk => ⟨hk.2, hk.1⟩)) hg hat); have n2_ := Aside0.mk (hb); have n3_ := Aside0.mk (ho); clear HO_6; clear HL217_0; clear HB; clear HO_8; have HO_6 := n0_; have HL217_0 := n1_; have HB := n2_; have HO220 := n3_; clear n0_ n1_ n2_ n3_; clear ho hb hg hat)))
                            go_roundg kj25
                            case measure => have := HK1.out; have := HJ25.out; omega
                            case rel => exact ⟨(y218), (wrap64 (x9_1 + 1)), (by first | rfl | (simp; done) | (simp [*]; done)), H', ⟨by have := HK1.out; have := HJ25.out; omega⟩, ⟨by (with_reducible repeat (first | apply Kd.S_alloc | apply Kd.S_drewN | apply Kd.S_drew)); exact Kd.S_mono HO_6.out (fun _ hk => hk.2)⟩, ⟨by (with_reducible repeat (first | apply Kd.R_alloc | apply Kd.R_drewN | apply Kd.R_drew)); exact HO220.out⟩, ⟨by repeat (first | (with_reducible first | exact HB.out | apply below_alloc | apply pw_below_drewN | apply below_drew1) | exact HB.out)⟩⟩
                          · rw [if_neg c52] at H
                            exact absurd H (by simp)
                        · rw [if_neg c51] at H
                          exact absurd H (by simp)
                      · rw [if_neg c50] at H
                        exact absurd H (by simp)
            · rw [if_neg c25] at H
              have c25b0 : decide (x9_1 < (t194.length : Int)) = false := decide_eq_false c25
              clear c25
              replace H := Option.bind_eq_some_iff.mp H
              obtain ⟨t199, A540, H⟩ := H
              replace H : (if t189 = true then (if t199 = true then (if t195.isNone = true then (some true) else (some false)) else (some false)) else (some false)) = some r := H
              have A54 := Aside0.mk A540
              clear A540
              by_cases c55 : t189 = true
              · subst c55
                have H1 : (if t199 = true then (if t195.isNone = true then (some true) else (some false)) else (some false)) = some r := by rw [if_pos rfl] at H; exact H
                clear H
                have H := H1
                clear H1
                by_cases c56 : t199 = true
                · subst c56
                  have H1 : (if t195.isNone = true then (some true) else (some false)) = some r := by rw [if_pos rfl] at H; exact H
                  clear H
                  have H := H1
                  clear H1
                  rcases t195 with _ | q200
                  · have H1 : (some true) = some r := by rw [if_pos (show (none : Option Int).isNone = true by rfl)] at H; exact H
                    clear H
                    have H := H1
                    clear H1
                    try simp only [errW_none, errW_some]
                    obtain rfl := Option.some.inj H
                    obtain ⟨Ao57, co57, eo57⟩ := Kd.S_slice HO_6.out
                    subst eo57
                    obtain ⟨Ao58, co58, eo58⟩ := Kd.R_slice HO_8.out
                    subst eo58
                    go_wp2_with (first | (go_at_call 17; (with_reducible refine (palinodelaw16_entries.calls k1 _ _ x8_1 _ _ y190 true _ ?side1 ?side2 ?side3 ?side4 A54.out).mono ?_); (case side1 => repeat (first | exact (Kd.R_reads' HO_8.out).2.2 | (with_reducible refine Kd.C_alloc ?_ _) | (with_reducible refine Kd.C_drewN ?_ _) | (with_reducible refine Kd.C_drew ?_))); (case side2 => exact (Kd.R_reads' HO_8.out).2.1); (case side3 => repeat (first | exact (Kd.C_below HR193.out HB.out) | (with_reducible refine Kd.C_alloc ?_ _) | (with_reducible refine Kd.C_drewN ?_ _) | (with_reducible refine Kd.C_drew ?_))); (case side4 => exact HC193.out); rintro e w' ⟨rfl, ⟨nd, rfl⟩⟩; (try first | exact ⟨rfl, _, World.drewN_drewN _ _ _⟩ | exact ⟨rfl, _, Eq.trans (World.drewN_drewN _ _ _) (congrArg (World.drewN _) (Nat.add_assoc _ _ _))⟩)))
                    repeat (go_quiet (first | (go_at_call 17; (with_reducible refine (palinodelaw16_entries.calls k1 _ _ x8_1 _ _ y190 true _ ?side1 ?side2 ?side3 ?side4 A54.out).mono ?_); (case side1 => repeat (first | exact (Kd.R_reads' HO_8.out).2.2 | (with_reducible refine Kd.C_alloc ?_ _) | (with_reducible refine Kd.C_drewN ?_ _) | (with_reducible refine Kd.C_drew ?_))); (case side2 => exact (Kd.R_reads' HO_8.out).2.1); (case side3 => repeat (first | exact (Kd.C_below HR193.out HB.out) | (with_reducible refine Kd.C_alloc ?_ _) | (with_reducible refine Kd.C_drewN ?_ _) | (with_reducible refine Kd.C_drew ?_))); (case side4 => exact HC193.out); rintro e w' ⟨rfl, ⟨nd, rfl⟩⟩; (try first | exact ⟨rfl, _, World.drewN_drewN _ _ _⟩ | exact ⟨rfl, _, Eq.trans (World.drewN_drewN _ _ _) (congrArg (World.drewN _) (Nat.add_assoc _ _ _))⟩))); try go_wp2_with (first | (go_at_call 17; (with_reducible refine (palinodelaw16_entries.calls k1 _ _ x8_1 _ _ y190 true _ ?side1 ?side2 ?side3 ?side4 A54.out).mono ?_); (case side1 => repeat (first | exact (Kd.R_reads' HO_8.out).2.2 | (with_reducible refine Kd.C_alloc ?_ _) | (with_reducible refine Kd.C_drewN ?_ _) | (with_reducible refine Kd.C_drew ?_))); (case side2 => exact (Kd.R_reads' HO_8.out).2.1); (case side3 => repeat (first | exact (Kd.C_below HR193.out HB.out) | (with_reducible refine Kd.C_alloc ?_ _) | (with_reducible refine Kd.C_drewN ?_ _) | (with_reducible refine Kd.C_drew ?_))); (case side4 => exact HC193.out); rintro e w' ⟨rfl, ⟨nd, rfl⟩⟩; (try first | exact ⟨rfl, _, World.drewN_drewN _ _ _⟩ | exact ⟨rfl, _, Eq.trans (World.drewN_drewN _ _ _) (congrArg (World.drewN _) (Nat.add_assoc _ _ _))⟩))))
                    go_ret
                    exact ⟨by first | rfl | (simp [errW_none, errW_some] <;> rfl) | (simp only [← hji4]; first | rfl | (simp [errW_none, errW_some] <;> rfl)) | (simp [*, errW_none, errW_some] <;> rfl), by repeat (first | (with_reducible first | exact HB.out | apply below_alloc | apply pw_below_drewN | apply below_drew1) | exact HB.out)⟩
                  · have H1 : (some false) = some r := by rw [if_neg (show ¬ (some q200).isNone = true by simp)] at H; exact H
                    clear H
                    have H := H1
                    clear H1
                    try simp only [errW_none, errW_some]
                    obtain rfl := Option.some.inj H
                    obtain ⟨Ao59, co59, eo59⟩ := Kd.S_slice HO_6.out
                    subst eo59
                    obtain ⟨Ao60, co60, eo60⟩ := Kd.R_slice HO_8.out
                    subst eo60
                    go_wp2_with (first | (go_at_call 17; (with_reducible refine (palinodelaw16_entries.calls k1 _ _ x8_1 _ _ y190 true _ ?side1 ?side2 ?side3 ?side4 A54.out).mono ?_); (case side1 => repeat (first | exact (Kd.R_reads' HO_8.out).2.2 | (with_reducible refine Kd.C_alloc ?_ _) | (with_reducible refine Kd.C_drewN ?_ _) | (with_reducible refine Kd.C_drew ?_))); (case side2 => exact (Kd.R_reads' HO_8.out).2.1); (case side3 => repeat (first | exact (Kd.C_below HR193.out HB.out) | (with_reducible refine Kd.C_alloc ?_ _) | (with_reducible refine Kd.C_drewN ?_ _) | (with_reducible refine Kd.C_drew ?_))); (case side4 => exact HC193.out); rintro e w' ⟨rfl, ⟨nd, rfl⟩⟩; (try first | exact ⟨rfl, _, World.drewN_drewN _ _ _⟩ | exact ⟨rfl, _, Eq.trans (World.drewN_drewN _ _ _) (congrArg (World.drewN _) (Nat.add_assoc _ _ _))⟩)))
                    repeat (go_quiet (first | (go_at_call 17; (with_reducible refine (palinodelaw16_entries.calls k1 _ _ x8_1 _ _ y190 true _ ?side1 ?side2 ?side3 ?side4 A54.out).mono ?_); (case side1 => repeat (first | exact (Kd.R_reads' HO_8.out).2.2 | (with_reducible refine Kd.C_alloc ?_ _) | (with_reducible refine Kd.C_drewN ?_ _) | (with_reducible refine Kd.C_drew ?_))); (case side2 => exact (Kd.R_reads' HO_8.out).2.1); (case side3 => repeat (first | exact (Kd.C_below HR193.out HB.out) | (with_reducible refine Kd.C_alloc ?_ _) | (with_reducible refine Kd.C_drewN ?_ _) | (with_reducible refine Kd.C_drew ?_))); (case side4 => exact HC193.out); rintro e w' ⟨rfl, ⟨nd, rfl⟩⟩; (try first | exact ⟨rfl, _, World.drewN_drewN _ _ _⟩ | exact ⟨rfl, _, Eq.trans (World.drewN_drewN _ _ _) (congrArg (World.drewN _) (Nat.add_assoc _ _ _))⟩))); try go_wp2_with (first | (go_at_call 17; (with_reducible refine (palinodelaw16_entries.calls k1 _ _ x8_1 _ _ y190 true _ ?side1 ?side2 ?side3 ?side4 A54.out).mono ?_); (case side1 => repeat (first | exact (Kd.R_reads' HO_8.out).2.2 | (with_reducible refine Kd.C_alloc ?_ _) | (with_reducible refine Kd.C_drewN ?_ _) | (with_reducible refine Kd.C_drew ?_))); (case side2 => exact (Kd.R_reads' HO_8.out).2.1); (case side3 => repeat (first | exact (Kd.C_below HR193.out HB.out) | (with_reducible refine Kd.C_alloc ?_ _) | (with_reducible refine Kd.C_drewN ?_ _) | (with_reducible refine Kd.C_drew ?_))); (case side4 => exact HC193.out); rintro e w' ⟨rfl, ⟨nd, rfl⟩⟩; (try first | exact ⟨rfl, _, World.drewN_drewN _ _ _⟩ | exact ⟨rfl, _, Eq.trans (World.drewN_drewN _ _ _) (congrArg (World.drewN _) (Nat.add_assoc _ _ _))⟩))))
                    go_ret
                    exact ⟨by first | rfl | (simp [errW_none, errW_some] <;> rfl) | (simp only [← hji4]; first | rfl | (simp [errW_none, errW_some] <;> rfl)) | (simp [*, errW_none, errW_some] <;> rfl), by repeat (first | (with_reducible first | exact HB.out | apply below_alloc | apply pw_below_drewN | apply below_drew1) | exact HB.out)⟩
                · replace c56 := Bool.eq_false_iff.mpr c56
                  subst c56
                  have H1 : (some false) = some r := by rw [if_neg (show ¬ (false = true) by decide)] at H; exact H
                  clear H
                  have H := H1
                  clear H1
                  obtain rfl := Option.some.inj H
                  obtain ⟨Ao61, co61, eo61⟩ := Kd.S_slice HO_6.out
                  subst eo61
                  obtain ⟨Ao62, co62, eo62⟩ := Kd.R_slice HO_8.out
                  subst eo62
                  go_wp2_with (first | (go_at_call 17; (with_reducible refine (palinodelaw16_entries.calls k1 _ _ x8_1 _ _ y190 false _ ?side1 ?side2 ?side3 ?side4 A54.out).mono ?_); (case side1 => repeat (first | exact (Kd.R_reads' HO_8.out).2.2 | (with_reducible refine Kd.C_alloc ?_ _) | (with_reducible refine Kd.C_drewN ?_ _) | (with_reducible refine Kd.C_drew ?_))); (case side2 => exact (Kd.R_reads' HO_8.out).2.1); (case side3 => repeat (first | exact (Kd.C_below HR193.out HB.out) | (with_reducible refine Kd.C_alloc ?_ _) | (with_reducible refine Kd.C_drewN ?_ _) | (with_reducible refine Kd.C_drew ?_))); (case side4 => exact HC193.out); rintro e w' ⟨rfl, ⟨nd, rfl⟩⟩; (try first | exact ⟨rfl, _, World.drewN_drewN _ _ _⟩ | exact ⟨rfl, _, Eq.trans (World.drewN_drewN _ _ _) (congrArg (World.drewN _) (Nat.add_assoc _ _ _))⟩)))
                  repeat (go_quiet (first | (go_at_call 17; (with_reducible refine (palinodelaw16_entries.calls k1 _ _ x8_1 _ _ y190 false _ ?side1 ?side2 ?side3 ?side4 A54.out).mono ?_); (case side1 => repeat (first | exact (Kd.R_reads' HO_8.out).2.2 | (with_reducible refine Kd.C_alloc ?_ _) | (with_reducible refine Kd.C_drewN ?_ _) | (with_reducible refine Kd.C_drew ?_))); (case side2 => exact (Kd.R_reads' HO_8.out).2.1); (case side3 => repeat (first | exact (Kd.C_below HR193.out HB.out) | (with_reducible refine Kd.C_alloc ?_ _) | (with_reducible refine Kd.C_drewN ?_ _) | (with_reducible refine Kd.C_drew ?_))); (case side4 => exact HC193.out); rintro e w' ⟨rfl, ⟨nd, rfl⟩⟩; (try first | exact ⟨rfl, _, World.drewN_drewN _ _ _⟩ | exact ⟨rfl, _, Eq.trans (World.drewN_drewN _ _ _) (congrArg (World.drewN _) (Nat.add_assoc _ _ _))⟩))); try go_wp2_with (first | (go_at_call 17; (with_reducible refine (palinodelaw16_entries.calls k1 _ _ x8_1 _ _ y190 false _ ?side1 ?side2 ?side3 ?side4 A54.out).mono ?_); (case side1 => repeat (first | exact (Kd.R_reads' HO_8.out).2.2 | (with_reducible refine Kd.C_alloc ?_ _) | (with_reducible refine Kd.C_drewN ?_ _) | (with_reducible refine Kd.C_drew ?_))); (case side2 => exact (Kd.R_reads' HO_8.out).2.1); (case side3 => repeat (first | exact (Kd.C_below HR193.out HB.out) | (with_reducible refine Kd.C_alloc ?_ _) | (with_reducible refine Kd.C_drewN ?_ _) | (with_reducible refine Kd.C_drew ?_))); (case side4 => exact HC193.out); rintro e w' ⟨rfl, ⟨nd, rfl⟩⟩; (try first | exact ⟨rfl, _, World.drewN_drewN _ _ _⟩ | exact ⟨rfl, _, Eq.trans (World.drewN_drewN _ _ _) (congrArg (World.drewN _) (Nat.add_assoc _ _ _))⟩))))
                  go_ret
                  exact ⟨by first | rfl | (simp [errW_none, errW_some] <;> rfl) | (simp only [← hji4]; first | rfl | (simp [errW_none, errW_some] <;> rfl)) | (simp [*, errW_none, errW_some] <;> rfl), by repeat (first | (with_reducible first | exact HB.out | apply below_alloc | apply pw_below_drewN | apply below_drew1) | exact HB.out)⟩
              · replace c55 := Bool.eq_false_iff.mpr c55
                subst c55
                have H1 : (some false) = some r := by rw [if_neg (show ¬ (false = true) by decide)] at H; exact H
                clear H
                have H := H1
                clear H1
                obtain rfl := Option.some.inj H
                obtain ⟨Ao63, co63, eo63⟩ := Kd.S_slice HO_6.out
                subst eo63
                obtain ⟨Ao64, co64, eo64⟩ := Kd.R_slice HO_8.out
                subst eo64
                go_wp2_with (first | (go_at_call 17; (with_reducible refine (palinodelaw16_entries.calls k1 _ _ x8_1 _ _ y190 t199 _ ?side1 ?side2 ?side3 ?side4 A54.out).mono ?_); (case side1 => repeat (first | exact (Kd.R_reads' HO_8.out).2.2 | (with_reducible refine Kd.C_alloc ?_ _) | (with_reducible refine Kd.C_drewN ?_ _) | (with_reducible refine Kd.C_drew ?_))); (case side2 => exact (Kd.R_reads' HO_8.out).2.1); (case side3 => repeat (first | exact (Kd.C_below HR193.out HB.out) | (with_reducible refine Kd.C_alloc ?_ _) | (with_reducible refine Kd.C_drewN ?_ _) | (with_reducible refine Kd.C_drew ?_))); (case side4 => exact HC193.out); rintro e w' ⟨rfl, ⟨nd, rfl⟩⟩; (try first | exact ⟨rfl, _, World.drewN_drewN _ _ _⟩ | exact ⟨rfl, _, Eq.trans (World.drewN_drewN _ _ _) (congrArg (World.drewN _) (Nat.add_assoc _ _ _))⟩)))
                repeat (go_quiet (first | (go_at_call 17; (with_reducible refine (palinodelaw16_entries.calls k1 _ _ x8_1 _ _ y190 t199 _ ?side1 ?side2 ?side3 ?side4 A54.out).mono ?_); (case side1 => repeat (first | exact (Kd.R_reads' HO_8.out).2.2 | (with_reducible refine Kd.C_alloc ?_ _) | (with_reducible refine Kd.C_drewN ?_ _) | (with_reducible refine Kd.C_drew ?_))); (case side2 => exact (Kd.R_reads' HO_8.out).2.1); (case side3 => repeat (first | exact (Kd.C_below HR193.out HB.out) | (with_reducible refine Kd.C_alloc ?_ _) | (with_reducible refine Kd.C_drewN ?_ _) | (with_reducible refine Kd.C_drew ?_))); (case side4 => exact HC193.out); rintro e w' ⟨rfl, ⟨nd, rfl⟩⟩; (try first | exact ⟨rfl, _, World.drewN_drewN _ _ _⟩ | exact ⟨rfl, _, Eq.trans (World.drewN_drewN _ _ _) (congrArg (World.drewN _) (Nat.add_assoc _ _ _))⟩))); try go_wp2_with (first | (go_at_call 17; (with_reducible refine (palinodelaw16_entries.calls k1 _ _ x8_1 _ _ y190 t199 _ ?side1 ?side2 ?side3 ?side4 A54.out).mono ?_); (case side1 => repeat (first | exact (Kd.R_reads' HO_8.out).2.2 | (with_reducible refine Kd.C_alloc ?_ _) | (with_reducible refine Kd.C_drewN ?_ _) | (with_reducible refine Kd.C_drew ?_))); (case side2 => exact (Kd.R_reads' HO_8.out).2.1); (case side3 => repeat (first | exact (Kd.C_below HR193.out HB.out) | (with_reducible refine Kd.C_alloc ?_ _) | (with_reducible refine Kd.C_drewN ?_ _) | (with_reducible refine Kd.C_drew ?_))); (case side4 => exact HC193.out); rintro e w' ⟨rfl, ⟨nd, rfl⟩⟩; (try first | exact ⟨rfl, _, World.drewN_drewN _ _ _⟩ | exact ⟨rfl, _, Eq.trans (World.drewN_drewN _ _ _) (congrArg (World.drewN _) (Nat.add_assoc _ _ _))⟩))))
                go_ret
                exact ⟨by first | rfl | (simp [errW_none, errW_some] <;> rfl) | (simp only [← hji4]; first | rfl | (simp [errW_none, errW_some] <;> rfl)) | (simp [*, errW_none, errW_some] <;> rfl), by repeat (first | (with_reducible first | exact HB.out | apply below_alloc | apply pw_below_drewN | apply below_drew1) | exact HB.out)⟩
    · rw [if_neg c6] at H
      exact absurd H (by simp)
  · rw [if_neg c5] at H
    exact absurd H (by simp)

end Go.Proofs.Ytepgnefkpjnmlaa.P5
