-- packed: PDx33 RtB RtH PDx48 PDx45 PDx43 RtN
import Derived.Test.YticajnfmjapkgaaQK1
-- printed by gprint.py (own tool) over the kit's print
namespace Go.Proofs.Yticajnfmjapkgaa.PD
open Go.RowKit Go.Proofs.Yticajnfmjapkgaa Go.Proofs.YticajnfmjapkgaaW.PrintWords Go.Proofs.YticajnfmjapkgaaW.PrintLast Go.Proofs.YticajnfmjapkgaaW.PrintMore
attribute [local go_sem] max2_int min2_int max_two min_two max_three min_three max_four min_four   -- for this text's walks alone
set_option linter.unnecessarySimpa false
attribute [local go_sem] min2_str max2_str leq_str gtr_str geq_str
set_option linter.unusedVariables false
set_option linter.unusedSimpArgs false

/-! ### palinodelaw06_examples: function 9 -/
def palinodelaw06_examples.f (k : Nat)  : Option (Bool) := (some (([(⟨1, 18, 3⟩ : S42)] : List (S42)) : List (S42))).bind fun y135 => ((root_Encode.f k 30 1 2 1 y135).bind fun bt139 => ((root_Head.f 1 14).bind fun bt141 => (if 64 ≤ 281474976710656 then ((root_ReadHead.f (strOfNums (List.replicate 64 0))).bind fun bt146 => (if bt139.1.toList = ([1, 1, 1, 2, 1, 1, 1, 1, 1, 1, 1, 18, 1, 3] : List UInt8) then (if bt139.2.isNone = true then (if (bt141.1.size : Int) = 64 then (if 0 ≤ 2 then (if 2 ≤ (bt141.1.size : Int) then (if (bt141.1.extract 0 2).toList = ([80, 76] : List UInt8) then (if bt141.2.isNone = true then ((palinodelaw06_is.f bt146.2.2 3).bind fun t151 => (if t151 = true then ((root_Right.f k 30 1 2 1 y135).bind fun t152 => (some t152)) else (some false))) else (some false)) else (some false)) else (none)) else (none)) else (some false)) else (some false)) else (some false))) else (none))))
theorem palinodelaw06_examples.mono : ∀ k, LeO (palinodelaw06_examples.f k ) (palinodelaw06_examples.f (k + 1) ) := by
  intro  k
  unfold palinodelaw06_examples.f
  repeat' first
      | (with_reducible exact root_Encode.mono _ _ _ _ _ _)
      | (with_reducible exact root_Right.mono _ _ _ _ _ _)
      | (with_reducible exact LeO.refl _)
      | (with_reducible exact LeO.none _)
      | (with_reducible refine LeO.ite ?_ ?_)
      | (with_reducible refine LeO.bind ?_ (fun _ => ?_))
      | exact root_Encode.mono _ _ _ _ _ _
      | exact root_Right.mono _ _ _ _ _ _
      | exact LeO.none _
      | refine LeO.ite ?_ ?_
      | refine LeO.bind ?_ (fun _ => ?_)
set_option maxHeartbeats 8000000 in
set_option maxRecDepth 100000 in
theorem palinodelaw06_examples.calls (k : Nat)  (r : Bool) (w : World) (h : palinodelaw06_examples.f k  = some r) :
    Calls Try.prog 9 #[] w fun e w' => e = .returned (.bool r) ∧ Below w.heap.size w w' := by
  have hu42 := Try.underlying42
  have hu39 := Try.underlying39
  have hu24 := Try.underlying24
  have hu54 := Try.underlying54
  have HB := Aside0.mk (Below.refl w.heap.size w)
  have H : ((some (([(⟨1, 18, 3⟩ : S42)] : List (S42)) : List (S42))).bind fun y135 => ((root_Encode.f k 30 1 2 1 y135).bind fun bt139 => ((root_Head.f 1 14).bind fun bt141 => (if 64 ≤ 281474976710656 then ((root_ReadHead.f (strOfNums (List.replicate 64 0))).bind fun bt146 => (if bt139.1.toList = ([1, 1, 1, 2, 1, 1, 1, 1, 1, 1, 1, 18, 1, 3] : List UInt8) then (if bt139.2.isNone = true then (if (bt141.1.size : Int) = 64 then (if 0 ≤ 2 then (if 2 ≤ (bt141.1.size : Int) then (if (bt141.1.extract 0 2).toList = ([80, 76] : List UInt8) then (if bt141.2.isNone = true then ((palinodelaw06_is.f bt146.2.2 3).bind fun t151 => (if t151 = true then ((root_Right.f k 30 1 2 1 y135).bind fun t152 => (some t152)) else (some false))) else (some false)) else (some false)) else (none)) else (none)) else (some false)) else (some false)) else (some false))) else (none))))) = some r := h
  clear h
  obtain ⟨y135, hy135⟩ : ∃ y_ : List (S42), y_ = (([(⟨1, 18, 3⟩ : S42)] : List (S42))) := ⟨_, rfl⟩
  replace H : ((root_Encode.f k 30 1 2 1 y135).bind fun bt139 => ((root_Head.f 1 14).bind fun bt141 => (if 64 ≤ 281474976710656 then ((root_ReadHead.f (strOfNums (List.replicate 64 0))).bind fun bt146 => (if bt139.1.toList = ([1, 1, 1, 2, 1, 1, 1, 1, 1, 1, 1, 18, 1, 3] : List UInt8) then (if bt139.2.isNone = true then (if (bt141.1.size : Int) = 64 then (if 0 ≤ 2 then (if 2 ≤ (bt141.1.size : Int) then (if (bt141.1.extract 0 2).toList = ([80, 76] : List UInt8) then (if bt141.2.isNone = true then ((palinodelaw06_is.f bt146.2.2 3).bind fun t151 => (if t151 = true then ((root_Right.f k 30 1 2 1 y135).bind fun t152 => (some t152)) else (some false))) else (some false)) else (some false)) else (none)) else (none)) else (some false)) else (some false)) else (some false))) else (none)))) = some r := by first | (rw [hy135]; with_reducible exact H) | (have H2_ := (Option.bind_some _ _).symm.trans H; rw [hy135]; with_reducible exact H2_) | (have H2_ := (Option.bind_some _ _).symm.trans H; with_reducible exact H2_) | with_reducible exact H | (rw [hy135]; exact H) | exact H
  have Ny135 := Aside0.mk hy135
  clear hy135
  replace H := Option.bind_eq_some_iff.mp H
  obtain ⟨⟨t139, t140⟩, A10, H⟩ := H
  replace H : ((root_Head.f 1 14).bind fun bt141 => (if 64 ≤ 281474976710656 then ((root_ReadHead.f (strOfNums (List.replicate 64 0))).bind fun bt146 => (if t139.toList = ([1, 1, 1, 2, 1, 1, 1, 1, 1, 1, 1, 18, 1, 3] : List UInt8) then (if t140.isNone = true then (if (bt141.1.size : Int) = 64 then (if 0 ≤ 2 then (if 2 ≤ (bt141.1.size : Int) then (if (bt141.1.extract 0 2).toList = ([80, 76] : List UInt8) then (if bt141.2.isNone = true then ((palinodelaw06_is.f bt146.2.2 3).bind fun t151 => (if t151 = true then ((root_Right.f k 30 1 2 1 y135).bind fun t152 => (some t152)) else (some false))) else (some false)) else (some false)) else (none)) else (none)) else (some false)) else (some false)) else (some false))) else (none))) = some r := H
  have A1 := Aside0.mk A10
  clear A10
  replace H := Option.bind_eq_some_iff.mp H
  obtain ⟨⟨t141, t142⟩, A20, H⟩ := H
  replace H : (if 64 ≤ 281474976710656 then ((root_ReadHead.f (strOfNums (List.replicate 64 0))).bind fun bt146 => (if t139.toList = ([1, 1, 1, 2, 1, 1, 1, 1, 1, 1, 1, 18, 1, 3] : List UInt8) then (if t140.isNone = true then (if (t141.size : Int) = 64 then (if 0 ≤ 2 then (if 2 ≤ (t141.size : Int) then (if (t141.extract 0 2).toList = ([80, 76] : List UInt8) then (if t142.isNone = true then ((palinodelaw06_is.f bt146.2.2 3).bind fun t151 => (if t151 = true then ((root_Right.f k 30 1 2 1 y135).bind fun t152 => (some t152)) else (some false))) else (some false)) else (some false)) else (none)) else (none)) else (some false)) else (some false)) else (some false))) else (none)) = some r := H
  have A2 := Aside0.mk A20
  clear A20
  by_cases c3 : 64 ≤ 281474976710656
  · rw [if_pos c3] at H
    have c3b0 := eq_true c3
    have c3b1 : decide (64 ≤ 281474976710656) = true := decide_eq_true c3
    clear c3
    obtain ⟨y143, hy143⟩ : ∃ y_ : List Int, y_ = (List.replicate 64 0) := ⟨_, rfl⟩
    replace H : ((root_ReadHead.f (strOfNums y143)).bind fun bt146 => (if t139.toList = ([1, 1, 1, 2, 1, 1, 1, 1, 1, 1, 1, 18, 1, 3] : List UInt8) then (if t140.isNone = true then (if (t141.size : Int) = 64 then (if 0 ≤ 2 then (if 2 ≤ (t141.size : Int) then (if (t141.extract 0 2).toList = ([80, 76] : List UInt8) then (if t142.isNone = true then ((palinodelaw06_is.f bt146.2.2 3).bind fun t151 => (if t151 = true then ((root_Right.f k 30 1 2 1 y135).bind fun t152 => (some t152)) else (some false))) else (some false)) else (some false)) else (none)) else (none)) else (some false)) else (some false)) else (some false))) = some r := by first | (rw [hy143]; with_reducible exact H) | (have H2_ := (Option.bind_some _ _).symm.trans H; rw [hy143]; with_reducible exact H2_) | (have H2_ := (Option.bind_some _ _).symm.trans H; with_reducible exact H2_) | with_reducible exact H | (rw [hy143]; exact H) | exact H
    have Ny143 := Aside0.mk hy143
    clear hy143
    replace H := Option.bind_eq_some_iff.mp H
    obtain ⟨⟨t146, t147, t148⟩, A40, H⟩ := H
    replace H : (if t139.toList = ([1, 1, 1, 2, 1, 1, 1, 1, 1, 1, 1, 18, 1, 3] : List UInt8) then (if t140.isNone = true then (if (t141.size : Int) = 64 then (if 0 ≤ 2 then (if 2 ≤ (t141.size : Int) then (if (t141.extract 0 2).toList = ([80, 76] : List UInt8) then (if t142.isNone = true then ((palinodelaw06_is.f t148 3).bind fun t151 => (if t151 = true then ((root_Right.f k 30 1 2 1 y135).bind fun t152 => (some t152)) else (some false))) else (some false)) else (some false)) else (none)) else (none)) else (some false)) else (some false)) else (some false)) = some r := H
    have A4 := Aside0.mk A40
    clear A40
    by_cases c5 : t139.toList = ([1, 1, 1, 2, 1, 1, 1, 1, 1, 1, 1, 18, 1, 3] : List UInt8)
    · rw [if_pos c5] at H
      have c5b0 : (t139.toList == ([1, 1, 1, 2, 1, 1, 1, 1, 1, 1, 1, 18, 1, 3] : List UInt8)) = true := beq_iff_eq.mpr c5
      have c5b1 : (t139.toList != ([1, 1, 1, 2, 1, 1, 1, 1, 1, 1, 1, 18, 1, 3] : List UInt8)) = false := bne_eq_false_iff_eq.mpr c5
      clear c5
      rcases t140 with _ | q149
      · have H1 : (if (t141.size : Int) = 64 then (if 0 ≤ 2 then (if 2 ≤ (t141.size : Int) then (if (t141.extract 0 2).toList = ([80, 76] : List UInt8) then (if t142.isNone = true then ((palinodelaw06_is.f t148 3).bind fun t151 => (if t151 = true then ((root_Right.f k 30 1 2 1 y135).bind fun t152 => (some t152)) else (some false))) else (some false)) else (some false)) else (none)) else (none)) else (some false)) = some r := by rw [if_pos (show (none : Option Int).isNone = true by rfl)] at H; exact H
        clear H
        have H := H1
        clear H1
        try simp only [errW_none, errW_some]
        by_cases c6 : (t141.size : Int) = 64
        · rw [if_pos c6] at H
          have c6b0 : ((t141.size : Int) == 64) = true := beq_iff_eq.mpr c6
          have c6b1 : ((t141.size : Int) != 64) = false := bne_eq_false_iff_eq.mpr c6
          clear c6
          by_cases c7 : 0 ≤ 2
          · rw [if_pos c7] at H
            have c7b0 := eq_true c7
            have c7b1 : decide (0 ≤ 2) = true := decide_eq_true c7
            clear c7
            by_cases c8 : 2 ≤ (t141.size : Int)
            · rw [if_pos c8] at H
              have c8b0 := eq_true c8
              have c8b1 : decide (2 ≤ (t141.size : Int)) = true := decide_eq_true c8
              clear c8
              by_cases c9 : (t141.extract 0 2).toList = ([80, 76] : List UInt8)
              · rw [if_pos c9] at H
                have c9b0 : ((t141.extract 0 2).toList == ([80, 76] : List UInt8)) = true := beq_iff_eq.mpr c9
                have c9b1 : ((t141.extract 0 2).toList != ([80, 76] : List UInt8)) = false := bne_eq_false_iff_eq.mpr c9
                clear c9
                rcases t142 with _ | q150
                · have H1 : ((palinodelaw06_is.f t148 3).bind fun t151 => (if t151 = true then ((root_Right.f k 30 1 2 1 y135).bind fun t152 => (some t152)) else (some false))) = some r := by rw [if_pos (show (none : Option Int).isNone = true by rfl)] at H; exact H
                  clear H
                  have H := H1
                  clear H1
                  try simp only [errW_none, errW_some]
                  replace H := Option.bind_eq_some_iff.mp H
                  obtain ⟨t151, A100, H⟩ := H
                  replace H : (if t151 = true then ((root_Right.f k 30 1 2 1 y135).bind fun t152 => (some t152)) else (some false)) = some r := H
                  have A10 := Aside0.mk A100
                  clear A100
                  by_cases c11 : t151 = true
                  · subst c11
                    have H1 : ((root_Right.f k 30 1 2 1 y135).bind fun t152 => (some t152)) = some r := by rw [if_pos rfl] at H; exact H
                    clear H
                    have H := H1
                    clear H1
                    replace H := Option.bind_eq_some_iff.mp H
                    obtain ⟨t152, A120, H⟩ := H
                    replace H : (some t152) = some r := H
                    have A12 := Aside0.mk A120
                    clear A120
                    obtain rfl := Option.some.inj H
                    go_enter Try.func9, Try.ntmps9
                    go_wp2_with (first | ((with_reducible refine gate_dst (N := 10) rfl ?_); (try (refine gate_guard (by rfl) ?_; dsimp only)); refine Kd.R_lit k42 _ 42 ?hg (N := 10) ?hd (xs := ([(⟨1, 18, 3⟩ : S42)] : List (S42))) (inner := [.int .i64 1, .int .i64 18, .int .i64 3]) (ok := fun _ => True) (okp := fun _ => True) ?hr ?hp (fun _ hk => hk) trivial (Below.refl _ _) (Nat.le_refl _) (by simp) ?_; (case hd => rfl); (case hg => rfl); (case hr => first | (go_simp; done) | (go_simp; rfl)); (case hp => exact (Reps.c3 (show Kd.M k42 _ _ _ (⟨1, 18, 3⟩ : S42) [.int .i64 1, .int .i64 18, .int .i64 3] from (k42_mkM _ _ _ (⟨1, 18, 3⟩ : S42) )) (Reps.none _ _))); intro v136 w13 ho14 hb hg_ hnew_; clear hg_ hnew_; (first | rw [← Ny135.out] at ho14 | (simp only [Int.reduceToNat] at ho14; rw [← Ny135.out] at ho14)); have n0_ := Aside0.mk (Kd.R_lower ho14 (below_size (by repeat (first | (with_reducible first | exact HB.out | apply below_alloc | apply pw_below_drewN | apply below_drew1) | exact HB.out)))); have n1_ := Aside0.mk (below_step (by repeat (first | (with_reducible first | exact HB.out | apply below_alloc | apply pw_below_drewN | apply below_drew1) | exact HB.out)) hb); clear HB; have HO137 := n0_; have HB := n1_; clear n0_ n1_; clear hb ho14; obtain ⟨Ao15, co15, eo15⟩ := Kd.R_slice HO137.out; subst eo15) | ((with_reducible refine gate_dst (N := 1) rfl ?_); (try (refine gate_guard (by rfl) ?_; dsimp only)); refine box_event ?hg (N := 1) ?hd (cs := #[.int .i64 0, .int .i64 0, .int .i64 0, .slice none 0 0]) (t := 39) ?hr ?_; (case hd => rfl); (case hg => rfl); (case hr => first | (go_simp; done) | (go_simp; rfl)); intro gb138 hg w16 hbox hb; have n0_ := Aside0.mk (Kd.R_below (by (with_reducible repeat (first | apply Kd.R_alloc | apply Kd.R_drewN | apply Kd.R_drew)); exact HO137.out) hb); have n1_ := Aside0.mk (below_step (by repeat (first | (with_reducible first | exact HB.out | apply below_alloc | apply pw_below_drewN | apply below_drew1) | exact HB.out)) hb); have n2_ := Aside0.mk (hbox); have n3_ := Aside0.mk ((by rw [hg]; exact (below_size (by repeat (first | (with_reducible first | exact HB.out | apply below_alloc | apply pw_below_drewN | apply below_drew1) | exact HB.out))) : w.heap.size ≤ gb138)); have n4_ := Aside0.mk ((by rw [hg]; exact (below_size (by repeat (first | (with_reducible first | exact HB.out | apply below_alloc | apply pw_below_drewN | apply below_drew1) | exact HB.out))) : w.heap.size ≤ gb138)); clear HO137; clear HB; have HO137 := n0_; have HB := n1_; have BK138 := n2_; have GW138 := n3_; have GE138 := n4_; clear n0_ n1_ n2_ n3_ n4_; clear hb hbox hg; have hcz17_0 : w16.cell? ⟨gb138, 0, none⟩ = some (.int .i64 0) := (blk_cell BK138.out 0).trans rfl; have hcz17_1 : w16.cell? ⟨gb138, 1, none⟩ = some (.int .i64 0) := (blk_cell BK138.out 1).trans rfl; have hcz17_2 : w16.cell? ⟨gb138, 2, none⟩ = some (.int .i64 0) := (blk_cell BK138.out 2).trans rfl; have hcz17_3 : w16.cell? ⟨gb138, 3, none⟩ = some (.slice none 0 0) := (blk_cell BK138.out 3).trans rfl; have hfz17_0 := blk_frozen BK138.out 0; have hfz17_1 := blk_frozen BK138.out 1; have hfz17_2 := blk_frozen BK138.out 2; have hfz17_3 := blk_frozen BK138.out 3) | ((with_reducible refine gate_callee (f := 16) rfl ?_); refine goesL_ (some 14) rfl rfl Try.func16 (by kernel_rfl) rfl #[.int .i64 30, .agg #[.int .i64 1, .int .i64 2, .int .i64 1, .slice Ao15 y135.length co15]] rfl (by (try simp only [List.map_toArray, List.map_cons, List.map_nil]); first | done | rfl | (simp only [List.length_drop, List.length_take]; rfl)) ?_; (with_reducible refine (root_Encode.calls k 30 1 2 1 _ _ y135 t139 none _ ?side1 ?side2 A1.out).mono ?_); (case side1 => refine (Kd.R_reads' (e := 42) (base := w.heap.size) (ok := fun k_ => True) (n := y135.length) (c := co15) ?_).2.2; exact (by (with_reducible repeat (first | apply Kd.R_alloc | apply Kd.R_drewN | apply Kd.R_drew)); exact (Kd.R_mono (Kd.R_far (p := ⟨gb138, 3, none⟩) (Kd.R_far (p := ⟨gb138, 2, none⟩) (Kd.R_far (p := ⟨gb138, 1, none⟩) (Kd.R_far (p := ⟨gb138, 0, none⟩) (Kd.R_types HO137.out BK138.out (by decide)) (fun _ hk => hk.2) (.int .i64 1)) (fun _ hk => hk.2) (.int .i64 2)) (fun _ hk => hk.2) (.int .i64 1)) (fun _ hk => hk.2) (.slice Ao15 y135.length co15)) (fun _ h_ => h_.1)))); (case side2 => exact (Kd.R_reads' HO137.out).2.1); rintro e w18 ⟨rfl, hb⟩; refine ⟨_, rfl, ?_⟩; have n0_ := Aside0.mk (Kd.R_below (by (with_reducible repeat (first | apply Kd.R_alloc | apply Kd.R_drewN | apply Kd.R_drew)); exact (Kd.R_mono (Kd.R_far (p := ⟨gb138, 3, none⟩) (Kd.R_far (p := ⟨gb138, 2, none⟩) (Kd.R_far (p := ⟨gb138, 1, none⟩) (Kd.R_far (p := ⟨gb138, 0, none⟩) (Kd.R_types HO137.out BK138.out (by decide)) (fun _ hk => hk.2) (.int .i64 1)) (fun _ hk => hk.2) (.int .i64 2)) (fun _ hk => hk.2) (.int .i64 1)) (fun _ hk => hk.2) (.slice Ao15 y135.length co15)) (fun _ h_ => h_.1))) hb); have n1_ := Aside0.mk (blk_below (g := gb138) (o := .cells #[.int .i64 1, .int .i64 2, .int .i64 1, .slice Ao15 y135.length co15] 39 (0, 0)) (by (with_reducible repeat (first | refine blk_drewN ?_ _ | refine blk_drew ?_ | refine blk_alloc ?_ _)); refine blk_put (cs := #[.int .i64 1, .int .i64 2, .int .i64 1, .slice none 0 0]) ?_ 3 _ rfl; (with_reducible repeat (first | refine blk_drewN ?_ _ | refine blk_drew ?_ | refine blk_alloc ?_ _)); refine blk_put (cs := #[.int .i64 1, .int .i64 2, .int .i64 0, .slice none 0 0]) ?_ 2 _ rfl; (with_reducible repeat (first | refine blk_drewN ?_ _ | refine blk_drew ?_ | refine blk_alloc ?_ _)); refine blk_put (cs := #[.int .i64 1, .int .i64 0, .int .i64 0, .slice none 0 0]) ?_ 1 _ rfl; (with_reducible repeat (first | refine blk_drewN ?_ _ | refine blk_drew ?_ | refine blk_alloc ?_ _)); refine blk_put (cs := #[.int .i64 0, .int .i64 0, .int .i64 0, .slice none 0 0]) ?_ 0 _ rfl; (with_reducible repeat (first | refine blk_drewN ?_ _ | refine blk_drew ?_ | refine blk_alloc ?_ _)); exact BK138.out) hb); have n2_ := Aside0.mk (below_step (by repeat (first | (with_reducible first | exact HB.out | apply below_alloc | apply pw_below_drewN | apply below_drew1 | refine below_set ?_ GE138.out) | exact HB.out)) hb); clear HO137; clear BK138; clear HB; have HO137 := n0_; have BK138 := n1_; have HB := n2_; clear n0_ n1_ n2_; (try clear hb); (try clear hb2); (try clear hk); (try clear hi); (try simp only [errW_none, errW_some])) | ((with_reducible refine gate_callee (f := 10) rfl ?_); refine goesL_ (some 18) rfl rfl Try.func10 (by kernel_rfl) rfl #[.int .i64 1, .int .i64 14] rfl (by (try simp only [List.map_toArray, List.map_cons, List.map_nil]); first | done | rfl | (simp only [List.length_drop, List.length_take]; rfl)) ?_; (with_reducible refine (root_Head.calls 1 14 t141 none _ A2.out).mono ?_); rintro e w19 ⟨rfl, hb⟩; refine ⟨_, rfl, ?_⟩; have n0_ := Aside0.mk (Kd.R_below (by (with_reducible repeat (first | apply Kd.R_alloc | apply Kd.R_drewN | apply Kd.R_drew)); exact HO137.out) hb); have n1_ := Aside0.mk (blk_below (g := gb138) (o := .cells #[.int .i64 1, .int .i64 2, .int .i64 1, .slice Ao15 y135.length co15] 39 (0, 0)) (by (with_reducible repeat (first | refine blk_drewN ?_ _ | refine blk_drew ?_ | refine blk_alloc ?_ _)); exact BK138.out) hb); have n2_ := Aside0.mk (below_step (by repeat (first | (with_reducible first | exact HB.out | apply below_alloc | apply pw_below_drewN | apply below_drew1 | refine below_set ?_ GE138.out) | exact HB.out)) hb); clear HO137; clear BK138; clear HB; have HO137 := n0_; have BK138 := n1_; have HB := n2_; clear n0_ n1_ n2_; (try clear hb); (try clear hb2); (try clear hk); (try clear hi); (try simp only [errW_none, errW_some])) | ((with_reducible refine gate_dst (N := 22) rfl ?_); (try (refine gate_guard (by rfl) ?_; dsimp only)); refine Kd.R_make (Kd.int .u8) _ 5 rfl (N := 22) rfl 35 _ _ rfl 64 rfl rfl Try.underlying35 (.int .u8 0) 1 info5 rfl (by decide) (by omega) 0 (ok := fun _ => True) (okp := fun _ => True) rfl (fun _ hk => hk) trivial (by omega) (by omega) (Below.refl _ _) (Nat.le_refl _) ?_; intro v144 w20 ho21 hb hg_ hnew_; clear hg_ hnew_; (first | rw [← Ny143.out] at ho21 | (simp only [Int.reduceToNat] at ho21; rw [← Ny143.out] at ho21)); have n0_ := Aside0.mk (Kd.R_below (by (with_reducible repeat (first | apply Kd.R_alloc | apply Kd.R_drewN | apply Kd.R_drew)); exact HO137.out) hb); have n1_ := Aside0.mk (Kd.R_lower ho21 (below_size (by repeat (first | (with_reducible first | exact HB.out | apply below_alloc | apply pw_below_drewN | apply below_drew1 | refine below_set ?_ GE138.out) | exact HB.out)))); have n2_ := Aside0.mk (blk_below (g := gb138) (o := .cells #[.int .i64 1, .int .i64 2, .int .i64 1, .slice Ao15 y135.length co15] 39 (0, 0)) (by (with_reducible repeat (first | refine blk_drewN ?_ _ | refine blk_drew ?_ | refine blk_alloc ?_ _)); exact BK138.out) hb); have n3_ := Aside0.mk (below_step (by repeat (first | (with_reducible first | exact HB.out | apply below_alloc | apply pw_below_drewN | apply below_drew1 | refine below_set ?_ GE138.out) | exact HB.out)) hb); clear HO137; clear BK138; clear HB; have HO137 := n0_; have HO145 := n1_; have BK138 := n2_; have HB := n3_; clear n0_ n1_ n2_ n3_; clear hb ho21; have hcv22 := own_string (P := Try.prog) Try.underlying35 Try.underlying5 Try.underlying9 (Kd.own_of_R HO145.out)) | ((with_reducible refine gate_callee (f := 12) rfl ?_); refine goesL_ (some 24) rfl rfl Try.func12 (by kernel_rfl) rfl #[.string (strOfNums y143)] rfl (by (try simp only [List.map_toArray, List.map_cons, List.map_nil]); first | done | rfl | (simp only [List.length_drop, List.length_take]; rfl)) ?_; (with_reducible refine (root_ReadHead.calls (strOfNums y143) t146 t147 t148 _ A4.out).mono ?_); rintro e w23 ⟨rfl, hb⟩; refine ⟨_, rfl, ?_⟩; have n0_ := Aside0.mk (Kd.R_below (by (with_reducible repeat (first | apply Kd.R_alloc | apply Kd.R_drewN | apply Kd.R_drew)); exact HO137.out) hb); have n1_ := Aside0.mk (Kd.R_below (by (with_reducible repeat (first | apply Kd.R_alloc | apply Kd.R_drewN | apply Kd.R_drew)); exact HO145.out) hb); have n2_ := Aside0.mk (blk_below (g := gb138) (o := .cells #[.int .i64 1, .int .i64 2, .int .i64 1, .slice Ao15 y135.length co15] 39 (0, 0)) (by (with_reducible repeat (first | refine blk_drewN ?_ _ | refine blk_drew ?_ | refine blk_alloc ?_ _)); exact BK138.out) hb); have n3_ := Aside0.mk (below_step (by repeat (first | (with_reducible first | exact HB.out | apply below_alloc | apply pw_below_drewN | apply below_drew1 | refine below_set ?_ GE138.out) | exact HB.out)) hb); clear HO137; clear HO145; clear BK138; clear HB; have HO137 := n0_; have HO145 := n1_; have BK138 := n2_; have HB := n3_; clear n0_ n1_ n2_ n3_; (try clear hb); (try clear hb2); (try clear hk); (try clear hi); (try simp only [errW_none, errW_some]); have CA10 := fun W => palinodelaw06_is.calls t148 3 true W A10.out; try simp only [errW_none, errW_some] at CA10) | (go_at_call 14; (with_reducible refine (CA10 _).mono ?_); rintro e w' ⟨rfl, ⟨nd, rfl⟩⟩; have hcz24_0 : w23.cell? ⟨gb138, 0, none⟩ = some (.int .i64 1) := (blk_cell BK138.out 0).trans rfl; have hcz24_1 : w23.cell? ⟨gb138, 1, none⟩ = some (.int .i64 2) := (blk_cell BK138.out 1).trans rfl; have hcz24_2 : w23.cell? ⟨gb138, 2, none⟩ = some (.int .i64 1) := (blk_cell BK138.out 2).trans rfl; have hcz24_3 : w23.cell? ⟨gb138, 3, none⟩ = some (.slice Ao15 y135.length co15) := (blk_cell BK138.out 3).trans rfl; have hfz24_0 := blk_frozen BK138.out 0; have hfz24_1 := blk_frozen BK138.out 1; have hfz24_2 := blk_frozen BK138.out 2; have hfz24_3 := blk_frozen BK138.out 3) | (go_at_call 15; (with_reducible refine (root_Right.calls k 30 1 2 1 _ _ y135 t152 _ ?side1 ?side2 A12.out).mono ?_); (case side1 => repeat (first | exact (Kd.R_reads' HO137.out).2.2 | (with_reducible refine Kd.C_alloc ?_ _) | (with_reducible refine Kd.C_drewN ?_ _) | (with_reducible refine Kd.C_drew ?_))); (case side2 => exact (Kd.R_reads' HO137.out).2.1); rintro e w25 ⟨rfl, hb⟩; have n0_ := Aside0.mk (Kd.R_below (by (with_reducible repeat (first | apply Kd.R_alloc | apply Kd.R_drewN | apply Kd.R_drew)); exact HO137.out) hb); have n1_ := Aside0.mk (Kd.R_below (by (with_reducible repeat (first | apply Kd.R_alloc | apply Kd.R_drewN | apply Kd.R_drew)); exact HO145.out) hb); have n2_ := Aside0.mk (blk_below (g := gb138) (o := .cells #[.int .i64 1, .int .i64 2, .int .i64 1, .slice Ao15 y135.length co15] 39 (0, 0)) (by (with_reducible repeat (first | refine blk_drewN ?_ _ | refine blk_drew ?_ | refine blk_alloc ?_ _)); exact BK138.out) hb); have n3_ := Aside0.mk (below_step (by repeat (first | (with_reducible first | exact HB.out | apply below_alloc | apply pw_below_drewN | apply below_drew1 | refine below_set ?_ GE138.out) | exact HB.out)) hb); clear HO137; clear HO145; clear BK138; clear HB; have HO137 := n0_; have HO145 := n1_; have BK138 := n2_; have HB := n3_; clear n0_ n1_ n2_ n3_; (try clear hb); (try clear hb2); (try clear hk); (try clear hi)))
                    go_ret
                    exact ⟨by first | rfl | (simp [errW_none, errW_some] <;> rfl) | (simp [*, errW_none, errW_some] <;> rfl), by repeat (first | (with_reducible first | exact HB.out | apply below_alloc | apply pw_below_drewN | apply below_drew1 | refine below_set ?_ GE138.out) | exact HB.out)⟩
                  · replace c11 := Bool.eq_false_iff.mpr c11
                    subst c11
                    have H1 : (some false) = some r := by rw [if_neg (show ¬ (false = true) by decide)] at H; exact H
                    clear H
                    have H := H1
                    clear H1
                    obtain rfl := Option.some.inj H
                    go_enter Try.func9, Try.ntmps9
                    go_wp2_with (first | ((with_reducible refine gate_dst (N := 10) rfl ?_); (try (refine gate_guard (by rfl) ?_; dsimp only)); refine Kd.R_lit k42 _ 42 ?hg (N := 10) ?hd (xs := ([(⟨1, 18, 3⟩ : S42)] : List (S42))) (inner := [.int .i64 1, .int .i64 18, .int .i64 3]) (ok := fun _ => True) (okp := fun _ => True) ?hr ?hp (fun _ hk => hk) trivial (Below.refl _ _) (Nat.le_refl _) (by simp) ?_; (case hd => rfl); (case hg => rfl); (case hr => first | (go_simp; done) | (go_simp; rfl)); (case hp => exact (Reps.c3 (show Kd.M k42 _ _ _ (⟨1, 18, 3⟩ : S42) [.int .i64 1, .int .i64 18, .int .i64 3] from (k42_mkM _ _ _ (⟨1, 18, 3⟩ : S42) )) (Reps.none _ _))); intro v136 w26 ho27 hb hg_ hnew_; clear hg_ hnew_; (first | rw [← Ny135.out] at ho27 | (simp only [Int.reduceToNat] at ho27; rw [← Ny135.out] at ho27)); have n0_ := Aside0.mk (Kd.R_lower ho27 (below_size (by repeat (first | (with_reducible first | exact HB.out | apply below_alloc | apply pw_below_drewN | apply below_drew1) | exact HB.out)))); have n1_ := Aside0.mk (below_step (by repeat (first | (with_reducible first | exact HB.out | apply below_alloc | apply pw_below_drewN | apply below_drew1) | exact HB.out)) hb); clear HB; have HO137 := n0_; have HB := n1_; clear n0_ n1_; clear hb ho27; obtain ⟨Ao28, co28, eo28⟩ := Kd.R_slice HO137.out; subst eo28) | ((with_reducible refine gate_dst (N := 1) rfl ?_); (try (refine gate_guard (by rfl) ?_; dsimp only)); refine box_event ?hg (N := 1) ?hd (cs := #[.int .i64 0, .int .i64 0, .int .i64 0, .slice none 0 0]) (t := 39) ?hr ?_; (case hd => rfl); (case hg => rfl); (case hr => first | (go_simp; done) | (go_simp; rfl)); intro gb138 hg w29 hbox hb; have n0_ := Aside0.mk (Kd.R_below (by (with_reducible repeat (first | apply Kd.R_alloc | apply Kd.R_drewN | apply Kd.R_drew)); exact HO137.out) hb); have n1_ := Aside0.mk (below_step (by repeat (first | (with_reducible first | exact HB.out | apply below_alloc | apply pw_below_drewN | apply below_drew1) | exact HB.out)) hb); have n2_ := Aside0.mk (hbox); have n3_ := Aside0.mk ((by rw [hg]; exact (below_size (by repeat (first | (with_reducible first | exact HB.out | apply below_alloc | apply pw_below_drewN | apply below_drew1) | exact HB.out))) : w.heap.size ≤ gb138)); have n4_ := Aside0.mk ((by rw [hg]; exact (below_size (by repeat (first | (with_reducible first | exact HB.out | apply below_alloc | apply pw_below_drewN | apply below_drew1) | exact HB.out))) : w.heap.size ≤ gb138)); clear HO137; clear HB; have HO137 := n0_; have HB := n1_; have BK138 := n2_; have GW138 := n3_; have GE138 := n4_; clear n0_ n1_ n2_ n3_ n4_; clear hb hbox hg; have hcz30_0 : w29.cell? ⟨gb138, 0, none⟩ = some (.int .i64 0) := (blk_cell BK138.out 0).trans rfl; have hcz30_1 : w29.cell? ⟨gb138, 1, none⟩ = some (.int .i64 0) := (blk_cell BK138.out 1).trans rfl; have hcz30_2 : w29.cell? ⟨gb138, 2, none⟩ = some (.int .i64 0) := (blk_cell BK138.out 2).trans rfl; have hcz30_3 : w29.cell? ⟨gb138, 3, none⟩ = some (.slice none 0 0) := (blk_cell BK138.out 3).trans rfl; have hfz30_0 := blk_frozen BK138.out 0; have hfz30_1 := blk_frozen BK138.out 1; have hfz30_2 := blk_frozen BK138.out 2; have hfz30_3 := blk_frozen BK138.out 3) | ((with_reducible refine gate_callee (f := 16) rfl ?_); refine goesL_ (some 14) rfl rfl Try.func16 (by kernel_rfl) rfl #[.int .i64 30, .agg #[.int .i64 1, .int .i64 2, .int .i64 1, .slice Ao28 y135.length co28]] rfl (by (try simp only [List.map_toArray, List.map_cons, List.map_nil]); first | done | rfl | (simp only [List.length_drop, List.length_take]; rfl)) ?_; (with_reducible refine (root_Encode.calls k 30 1 2 1 _ _ y135 t139 none _ ?side1 ?side2 A1.out).mono ?_); (case side1 => refine (Kd.R_reads' (e := 42) (base := w.heap.size) (ok := fun k_ => True) (n := y135.length) (c := co28) ?_).2.2; exact (by (with_reducible repeat (first | apply Kd.R_alloc | apply Kd.R_drewN | apply Kd.R_drew)); exact (Kd.R_mono (Kd.R_far (p := ⟨gb138, 3, none⟩) (Kd.R_far (p := ⟨gb138, 2, none⟩) (Kd.R_far (p := ⟨gb138, 1, none⟩) (Kd.R_far (p := ⟨gb138, 0, none⟩) (Kd.R_types HO137.out BK138.out (by decide)) (fun _ hk => hk.2) (.int .i64 1)) (fun _ hk => hk.2) (.int .i64 2)) (fun _ hk => hk.2) (.int .i64 1)) (fun _ hk => hk.2) (.slice Ao28 y135.length co28)) (fun _ h_ => h_.1)))); (case side2 => exact (Kd.R_reads' HO137.out).2.1); rintro e w31 ⟨rfl, hb⟩; refine ⟨_, rfl, ?_⟩; have n0_ := Aside0.mk (Kd.R_below (by (with_reducible repeat (first | apply Kd.R_alloc | apply Kd.R_drewN | apply Kd.R_drew)); exact (Kd.R_mono (Kd.R_far (p := ⟨gb138, 3, none⟩) (Kd.R_far (p := ⟨gb138, 2, none⟩) (Kd.R_far (p := ⟨gb138, 1, none⟩) (Kd.R_far (p := ⟨gb138, 0, none⟩) (Kd.R_types HO137.out BK138.out (by decide)) (fun _ hk => hk.2) (.int .i64 1)) (fun _ hk => hk.2) (.int .i64 2)) (fun _ hk => hk.2) (.int .i64 1)) (fun _ hk => hk.2) (.slice Ao28 y135.length co28)) (fun _ h_ => h_.1))) hb); have n1_ := Aside0.mk (blk_below (g := gb138) (o := .cells #[.int .i64 1, .int .i64 2, .int .i64 1, .slice Ao28 y135.length co28] 39 (0, 0)) (by (with_reducible repeat (first | refine blk_drewN ?_ _ | refine blk_drew ?_ | refine blk_alloc ?_ _)); refine blk_put (cs := #[.int .i64 1, .int .i64 2, .int .i64 1, .slice none 0 0]) ?_ 3 _ rfl; (with_reducible repeat (first | refine blk_drewN ?_ _ | refine blk_drew ?_ | refine blk_alloc ?_ _)); refine blk_put (cs := #[.int .i64 1, .int .i64 2, .int .i64 0, .slice none 0 0]) ?_ 2 _ rfl; (with_reducible repeat (first | refine blk_drewN ?_ _ | refine blk_drew ?_ | refine blk_alloc ?_ _)); refine blk_put (cs := #[.int .i64 1, .int .i64 0, .int .i64 0, .slice none 0 0]) ?_ 1 _ rfl; (with_reducible repeat (first | refine blk_drewN ?_ _ | refine blk_drew ?_ | refine blk_alloc ?_ _)); refine blk_put (cs := #[.int .i64 0, .int .i64 0, .int .i64 0, .slice none 0 0]) ?_ 0 _ rfl; (with_reducible repeat (first | refine blk_drewN ?_ _ | refine blk_drew ?_ | refine blk_alloc ?_ _)); exact BK138.out) hb); have n2_ := Aside0.mk (below_step (by repeat (first | (with_reducible first | exact HB.out | apply below_alloc | apply pw_below_drewN | apply below_drew1 | refine below_set ?_ GE138.out) | exact HB.out)) hb); clear HO137; clear BK138; clear HB; have HO137 := n0_; have BK138 := n1_; have HB := n2_; clear n0_ n1_ n2_; (try clear hb); (try clear hb2); (try clear hk); (try clear hi); (try simp only [errW_none, errW_some])) | ((with_reducible refine gate_callee (f := 10) rfl ?_); refine goesL_ (some 18) rfl rfl Try.func10 (by kernel_rfl) rfl #[.int .i64 1, .int .i64 14] rfl (by (try simp only [List.map_toArray, List.map_cons, List.map_nil]); first | done | rfl | (simp only [List.length_drop, List.length_take]; rfl)) ?_; (with_reducible refine (root_Head.calls 1 14 t141 none _ A2.out).mono ?_); rintro e w32 ⟨rfl, hb⟩; refine ⟨_, rfl, ?_⟩; have n0_ := Aside0.mk (Kd.R_below (by (with_reducible repeat (first | apply Kd.R_alloc | apply Kd.R_drewN | apply Kd.R_drew)); exact HO137.out) hb); have n1_ := Aside0.mk (blk_below (g := gb138) (o := .cells #[.int .i64 1, .int .i64 2, .int .i64 1, .slice Ao28 y135.length co28] 39 (0, 0)) (by (with_reducible repeat (first | refine blk_drewN ?_ _ | refine blk_drew ?_ | refine blk_alloc ?_ _)); exact BK138.out) hb); have n2_ := Aside0.mk (below_step (by repeat (first | (with_reducible first | exact HB.out | apply below_alloc | apply pw_below_drewN | apply below_drew1 | refine below_set ?_ GE138.out) | exact HB.out)) hb); clear HO137; clear BK138; clear HB; have HO137 := n0_; have BK138 := n1_; have HB := n2_; clear n0_ n1_ n2_; (try clear hb); (try clear hb2); (try clear hk); (try clear hi); (try simp only [errW_none, errW_some])) | ((with_reducible refine gate_dst (N := 22) rfl ?_); (try (refine gate_guard (by rfl) ?_; dsimp only)); refine Kd.R_make (Kd.int .u8) _ 5 rfl (N := 22) rfl 35 _ _ rfl 64 rfl rfl Try.underlying35 (.int .u8 0) 1 info5 rfl (by decide) (by omega) 0 (ok := fun _ => True) (okp := fun _ => True) rfl (fun _ hk => hk) trivial (by omega) (by omega) (Below.refl _ _) (Nat.le_refl _) ?_; intro v144 w33 ho34 hb hg_ hnew_; clear hg_ hnew_; (first | rw [← Ny143.out] at ho34 | (simp only [Int.reduceToNat] at ho34; rw [← Ny143.out] at ho34)); have n0_ := Aside0.mk (Kd.R_below (by (with_reducible repeat (first | apply Kd.R_alloc | apply Kd.R_drewN | apply Kd.R_drew)); exact HO137.out) hb); have n1_ := Aside0.mk (Kd.R_lower ho34 (below_size (by repeat (first | (with_reducible first | exact HB.out | apply below_alloc | apply pw_below_drewN | apply below_drew1 | refine below_set ?_ GE138.out) | exact HB.out)))); have n2_ := Aside0.mk (blk_below (g := gb138) (o := .cells #[.int .i64 1, .int .i64 2, .int .i64 1, .slice Ao28 y135.length co28] 39 (0, 0)) (by (with_reducible repeat (first | refine blk_drewN ?_ _ | refine blk_drew ?_ | refine blk_alloc ?_ _)); exact BK138.out) hb); have n3_ := Aside0.mk (below_step (by repeat (first | (with_reducible first | exact HB.out | apply below_alloc | apply pw_below_drewN | apply below_drew1 | refine below_set ?_ GE138.out) | exact HB.out)) hb); clear HO137; clear BK138; clear HB; have HO137 := n0_; have HO145 := n1_; have BK138 := n2_; have HB := n3_; clear n0_ n1_ n2_ n3_; clear hb ho34; have hcv35 := own_string (P := Try.prog) Try.underlying35 Try.underlying5 Try.underlying9 (Kd.own_of_R HO145.out)) | ((with_reducible refine gate_callee (f := 12) rfl ?_); refine goesL_ (some 24) rfl rfl Try.func12 (by kernel_rfl) rfl #[.string (strOfNums y143)] rfl (by (try simp only [List.map_toArray, List.map_cons, List.map_nil]); first | done | rfl | (simp only [List.length_drop, List.length_take]; rfl)) ?_; (with_reducible refine (root_ReadHead.calls (strOfNums y143) t146 t147 t148 _ A4.out).mono ?_); rintro e w36 ⟨rfl, hb⟩; refine ⟨_, rfl, ?_⟩; have n0_ := Aside0.mk (Kd.R_below (by (with_reducible repeat (first | apply Kd.R_alloc | apply Kd.R_drewN | apply Kd.R_drew)); exact HO137.out) hb); have n1_ := Aside0.mk (Kd.R_below (by (with_reducible repeat (first | apply Kd.R_alloc | apply Kd.R_drewN | apply Kd.R_drew)); exact HO145.out) hb); have n2_ := Aside0.mk (blk_below (g := gb138) (o := .cells #[.int .i64 1, .int .i64 2, .int .i64 1, .slice Ao28 y135.length co28] 39 (0, 0)) (by (with_reducible repeat (first | refine blk_drewN ?_ _ | refine blk_drew ?_ | refine blk_alloc ?_ _)); exact BK138.out) hb); have n3_ := Aside0.mk (below_step (by repeat (first | (with_reducible first | exact HB.out | apply below_alloc | apply pw_below_drewN | apply below_drew1 | refine below_set ?_ GE138.out) | exact HB.out)) hb); clear HO137; clear HO145; clear BK138; clear HB; have HO137 := n0_; have HO145 := n1_; have BK138 := n2_; have HB := n3_; clear n0_ n1_ n2_ n3_; (try clear hb); (try clear hb2); (try clear hk); (try clear hi); (try simp only [errW_none, errW_some]); have CA10 := fun W => palinodelaw06_is.calls t148 3 false W A10.out; try simp only [errW_none, errW_some] at CA10) | (go_at_call 14; (with_reducible refine (CA10 _).mono ?_); rintro e w' ⟨rfl, ⟨nd, rfl⟩⟩))
                    go_ret
                    exact ⟨by first | rfl | (simp [errW_none, errW_some] <;> rfl) | (simp [*, errW_none, errW_some] <;> rfl), by repeat (first | (with_reducible first | exact HB.out | apply below_alloc | apply pw_below_drewN | apply below_drew1 | refine below_set ?_ GE138.out) | exact HB.out)⟩
                · have H1 : (some false) = some r := by rw [if_neg (show ¬ (some q150).isNone = true by simp)] at H; exact H
                  clear H
                  have H := H1
                  clear H1
                  try simp only [errW_none, errW_some]
                  obtain rfl := Option.some.inj H
                  go_enter Try.func9, Try.ntmps9
                  go_wp2_with (first | ((with_reducible refine gate_dst (N := 10) rfl ?_); (try (refine gate_guard (by rfl) ?_; dsimp only)); refine Kd.R_lit k42 _ 42 ?hg (N := 10) ?hd (xs := ([(⟨1, 18, 3⟩ : S42)] : List (S42))) (inner := [.int .i64 1, .int .i64 18, .int .i64 3]) (ok := fun _ => True) (okp := fun _ => True) ?hr ?hp (fun _ hk => hk) trivial (Below.refl _ _) (Nat.le_refl _) (by simp) ?_; (case hd => rfl); (case hg => rfl); (case hr => first | (go_simp; done) | (go_simp; rfl)); (case hp => exact (Reps.c3 (show Kd.M k42 _ _ _ (⟨1, 18, 3⟩ : S42) [.int .i64 1, .int .i64 18, .int .i64 3] from (k42_mkM _ _ _ (⟨1, 18, 3⟩ : S42) )) (Reps.none _ _))); intro v136 w37 ho38 hb hg_ hnew_; clear hg_ hnew_; (first | rw [← Ny135.out] at ho38 | (simp only [Int.reduceToNat] at ho38; rw [← Ny135.out] at ho38)); have n0_ := Aside0.mk (Kd.R_lower ho38 (below_size (by repeat (first | (with_reducible first | exact HB.out | apply below_alloc | apply pw_below_drewN | apply below_drew1) | exact HB.out)))); have n1_ := Aside0.mk (below_step (by repeat (first | (with_reducible first | exact HB.out | apply below_alloc | apply pw_below_drewN | apply below_drew1) | exact HB.out)) hb); clear HB; have HO137 := n0_; have HB := n1_; clear n0_ n1_; clear hb ho38; obtain ⟨Ao39, co39, eo39⟩ := Kd.R_slice HO137.out; subst eo39) | ((with_reducible refine gate_dst (N := 1) rfl ?_); (try (refine gate_guard (by rfl) ?_; dsimp only)); refine box_event ?hg (N := 1) ?hd (cs := #[.int .i64 0, .int .i64 0, .int .i64 0, .slice none 0 0]) (t := 39) ?hr ?_; (case hd => rfl); (case hg => rfl); (case hr => first | (go_simp; done) | (go_simp; rfl)); intro gb138 hg w40 hbox hb; have n0_ := Aside0.mk (Kd.R_below (by (with_reducible repeat (first | apply Kd.R_alloc | apply Kd.R_drewN | apply Kd.R_drew)); exact HO137.out) hb); have n1_ := Aside0.mk (below_step (by repeat (first | (with_reducible first | exact HB.out | apply below_alloc | apply pw_below_drewN | apply below_drew1) | exact HB.out)) hb); have n2_ := Aside0.mk (hbox); have n3_ := Aside0.mk ((by rw [hg]; exact (below_size (by repeat (first | (with_reducible first | exact HB.out | apply below_alloc | apply pw_below_drewN | apply below_drew1) | exact HB.out))) : w.heap.size ≤ gb138)); have n4_ := Aside0.mk ((by rw [hg]; exact (below_size (by repeat (first | (with_reducible first | exact HB.out | apply below_alloc | apply pw_below_drewN | apply below_drew1) | exact HB.out))) : w.heap.size ≤ gb138)); clear HO137; clear HB; have HO137 := n0_; have HB := n1_; have BK138 := n2_; have GW138 := n3_; have GE138 := n4_; clear n0_ n1_ n2_ n3_ n4_; clear hb hbox hg; have hcz41_0 : w40.cell? ⟨gb138, 0, none⟩ = some (.int .i64 0) := (blk_cell BK138.out 0).trans rfl; have hcz41_1 : w40.cell? ⟨gb138, 1, none⟩ = some (.int .i64 0) := (blk_cell BK138.out 1).trans rfl; have hcz41_2 : w40.cell? ⟨gb138, 2, none⟩ = some (.int .i64 0) := (blk_cell BK138.out 2).trans rfl; have hcz41_3 : w40.cell? ⟨gb138, 3, none⟩ = some (.slice none 0 0) := (blk_cell BK138.out 3).trans rfl; have hfz41_0 := blk_frozen BK138.out 0; have hfz41_1 := blk_frozen BK138.out 1; have hfz41_2 := blk_frozen BK138.out 2; have hfz41_3 := blk_frozen BK138.out 3) | ((with_reducible refine gate_callee (f := 16) rfl ?_); refine goesL_ (some 14) rfl rfl Try.func16 (by kernel_rfl) rfl #[.int .i64 30, .agg #[.int .i64 1, .int .i64 2, .int .i64 1, .slice Ao39 y135.length co39]] rfl (by (try simp only [List.map_toArray, List.map_cons, List.map_nil]); first | done | rfl | (simp only [List.length_drop, List.length_take]; rfl)) ?_; (with_reducible refine (root_Encode.calls k 30 1 2 1 _ _ y135 t139 none _ ?side1 ?side2 A1.out).mono ?_); (case side1 => refine (Kd.R_reads' (e := 42) (base := w.heap.size) (ok := fun k_ => True) (n := y135.length) (c := co39) ?_).2.2; exact (by (with_reducible repeat (first | apply Kd.R_alloc | apply Kd.R_drewN | apply Kd.R_drew)); exact (Kd.R_mono (Kd.R_far (p := ⟨gb138, 3, none⟩) (Kd.R_far (p := ⟨gb138, 2, none⟩) (Kd.R_far (p := ⟨gb138, 1, none⟩) (Kd.R_far (p := ⟨gb138, 0, none⟩) (Kd.R_types HO137.out BK138.out (by decide)) (fun _ hk => hk.2) (.int .i64 1)) (fun _ hk => hk.2) (.int .i64 2)) (fun _ hk => hk.2) (.int .i64 1)) (fun _ hk => hk.2) (.slice Ao39 y135.length co39)) (fun _ h_ => h_.1)))); (case side2 => exact (Kd.R_reads' HO137.out).2.1); rintro e w42 ⟨rfl, hb⟩; refine ⟨_, rfl, ?_⟩; have n0_ := Aside0.mk (Kd.R_below (by (with_reducible repeat (first | apply Kd.R_alloc | apply Kd.R_drewN | apply Kd.R_drew)); exact (Kd.R_mono (Kd.R_far (p := ⟨gb138, 3, none⟩) (Kd.R_far (p := ⟨gb138, 2, none⟩) (Kd.R_far (p := ⟨gb138, 1, none⟩) (Kd.R_far (p := ⟨gb138, 0, none⟩) (Kd.R_types HO137.out BK138.out (by decide)) (fun _ hk => hk.2) (.int .i64 1)) (fun _ hk => hk.2) (.int .i64 2)) (fun _ hk => hk.2) (.int .i64 1)) (fun _ hk => hk.2) (.slice Ao39 y135.length co39)) (fun _ h_ => h_.1))) hb); have n1_ := Aside0.mk (blk_below (g := gb138) (o := .cells #[.int .i64 1, .int .i64 2, .int .i64 1, .slice Ao39 y135.length co39] 39 (0, 0)) (by (with_reducible repeat (first | refine blk_drewN ?_ _ | refine blk_drew ?_ | refine blk_alloc ?_ _)); refine blk_put (cs := #[.int .i64 1, .int .i64 2, .int .i64 1, .slice none 0 0]) ?_ 3 _ rfl; (with_reducible repeat (first | refine blk_drewN ?_ _ | refine blk_drew ?_ | refine blk_alloc ?_ _)); refine blk_put (cs := #[.int .i64 1, .int .i64 2, .int .i64 0, .slice none 0 0]) ?_ 2 _ rfl; (with_reducible repeat (first | refine blk_drewN ?_ _ | refine blk_drew ?_ | refine blk_alloc ?_ _)); refine blk_put (cs := #[.int .i64 1, .int .i64 0, .int .i64 0, .slice none 0 0]) ?_ 1 _ rfl; (with_reducible repeat (first | refine blk_drewN ?_ _ | refine blk_drew ?_ | refine blk_alloc ?_ _)); refine blk_put (cs := #[.int .i64 0, .int .i64 0, .int .i64 0, .slice none 0 0]) ?_ 0 _ rfl; (with_reducible repeat (first | refine blk_drewN ?_ _ | refine blk_drew ?_ | refine blk_alloc ?_ _)); exact BK138.out) hb); have n2_ := Aside0.mk (below_step (by repeat (first | (with_reducible first | exact HB.out | apply below_alloc | apply pw_below_drewN | apply below_drew1 | refine below_set ?_ GE138.out) | exact HB.out)) hb); clear HO137; clear BK138; clear HB; have HO137 := n0_; have BK138 := n1_; have HB := n2_; clear n0_ n1_ n2_; (try clear hb); (try clear hb2); (try clear hk); (try clear hi); (try simp only [errW_none, errW_some])) | ((with_reducible refine gate_callee (f := 10) rfl ?_); refine goesL_ (some 18) rfl rfl Try.func10 (by kernel_rfl) rfl #[.int .i64 1, .int .i64 14] rfl (by (try simp only [List.map_toArray, List.map_cons, List.map_nil]); first | done | rfl | (simp only [List.length_drop, List.length_take]; rfl)) ?_; (with_reducible refine (root_Head.calls 1 14 t141 (some q150) _ A2.out).mono ?_); rintro e w43 ⟨rfl, hb⟩; refine ⟨_, rfl, ?_⟩; have n0_ := Aside0.mk (Kd.R_below (by (with_reducible repeat (first | apply Kd.R_alloc | apply Kd.R_drewN | apply Kd.R_drew)); exact HO137.out) hb); have n1_ := Aside0.mk (blk_below (g := gb138) (o := .cells #[.int .i64 1, .int .i64 2, .int .i64 1, .slice Ao39 y135.length co39] 39 (0, 0)) (by (with_reducible repeat (first | refine blk_drewN ?_ _ | refine blk_drew ?_ | refine blk_alloc ?_ _)); exact BK138.out) hb); have n2_ := Aside0.mk (below_step (by repeat (first | (with_reducible first | exact HB.out | apply below_alloc | apply pw_below_drewN | apply below_drew1 | refine below_set ?_ GE138.out) | exact HB.out)) hb); clear HO137; clear BK138; clear HB; have HO137 := n0_; have BK138 := n1_; have HB := n2_; clear n0_ n1_ n2_; (try clear hb); (try clear hb2); (try clear hk); (try clear hi); (try simp only [errW_none, errW_some])) | ((with_reducible refine gate_dst (N := 22) rfl ?_); (try (refine gate_guard (by rfl) ?_; dsimp only)); refine Kd.R_make (Kd.int .u8) _ 5 rfl (N := 22) rfl 35 _ _ rfl 64 rfl rfl Try.underlying35 (.int .u8 0) 1 info5 rfl (by decide) (by omega) 0 (ok := fun _ => True) (okp := fun _ => True) rfl (fun _ hk => hk) trivial (by omega) (by omega) (Below.refl _ _) (Nat.le_refl _) ?_; intro v144 w44 ho45 hb hg_ hnew_; clear hg_ hnew_; (first | rw [← Ny143.out] at ho45 | (simp only [Int.reduceToNat] at ho45; rw [← Ny143.out] at ho45)); have n0_ := Aside0.mk (Kd.R_below (by (with_reducible repeat (first | apply Kd.R_alloc | apply Kd.R_drewN | apply Kd.R_drew)); exact HO137.out) hb); have n1_ := Aside0.mk (Kd.R_lower ho45 (below_size (by repeat (first | (with_reducible first | exact HB.out | apply below_alloc | apply pw_below_drewN | apply below_drew1 | refine below_set ?_ GE138.out) | exact HB.out)))); have n2_ := Aside0.mk (blk_below (g := gb138) (o := .cells #[.int .i64 1, .int .i64 2, .int .i64 1, .slice Ao39 y135.length co39] 39 (0, 0)) (by (with_reducible repeat (first | refine blk_drewN ?_ _ | refine blk_drew ?_ | refine blk_alloc ?_ _)); exact BK138.out) hb); have n3_ := Aside0.mk (below_step (by repeat (first | (with_reducible first | exact HB.out | apply below_alloc | apply pw_below_drewN | apply below_drew1 | refine below_set ?_ GE138.out) | exact HB.out)) hb); clear HO137; clear BK138; clear HB; have HO137 := n0_; have HO145 := n1_; have BK138 := n2_; have HB := n3_; clear n0_ n1_ n2_ n3_; clear hb ho45; have hcv46 := own_string (P := Try.prog) Try.underlying35 Try.underlying5 Try.underlying9 (Kd.own_of_R HO145.out)) | ((with_reducible refine gate_callee (f := 12) rfl ?_); refine goesL_ (some 24) rfl rfl Try.func12 (by kernel_rfl) rfl #[.string (strOfNums y143)] rfl (by (try simp only [List.map_toArray, List.map_cons, List.map_nil]); first | done | rfl | (simp only [List.length_drop, List.length_take]; rfl)) ?_; (with_reducible refine (root_ReadHead.calls (strOfNums y143) t146 t147 t148 _ A4.out).mono ?_); rintro e w47 ⟨rfl, hb⟩; refine ⟨_, rfl, ?_⟩; have n0_ := Aside0.mk (Kd.R_below (by (with_reducible repeat (first | apply Kd.R_alloc | apply Kd.R_drewN | apply Kd.R_drew)); exact HO137.out) hb); have n1_ := Aside0.mk (Kd.R_below (by (with_reducible repeat (first | apply Kd.R_alloc | apply Kd.R_drewN | apply Kd.R_drew)); exact HO145.out) hb); have n2_ := Aside0.mk (blk_below (g := gb138) (o := .cells #[.int .i64 1, .int .i64 2, .int .i64 1, .slice Ao39 y135.length co39] 39 (0, 0)) (by (with_reducible repeat (first | refine blk_drewN ?_ _ | refine blk_drew ?_ | refine blk_alloc ?_ _)); exact BK138.out) hb); have n3_ := Aside0.mk (below_step (by repeat (first | (with_reducible first | exact HB.out | apply below_alloc | apply pw_below_drewN | apply below_drew1 | refine below_set ?_ GE138.out) | exact HB.out)) hb); clear HO137; clear HO145; clear BK138; clear HB; have HO137 := n0_; have HO145 := n1_; have BK138 := n2_; have HB := n3_; clear n0_ n1_ n2_ n3_; (try clear hb); (try clear hb2); (try clear hk); (try clear hi); (try simp only [errW_none, errW_some])))
                  go_ret
                  exact ⟨by first | rfl | (simp [errW_none, errW_some] <;> rfl) | (simp [*, errW_none, errW_some] <;> rfl), by repeat (first | (with_reducible first | exact HB.out | apply below_alloc | apply pw_below_drewN | apply below_drew1 | refine below_set ?_ GE138.out) | exact HB.out)⟩
              · rw [if_neg c9] at H
                have c9b0 : ((t141.extract 0 2).toList == ([80, 76] : List UInt8)) = false := beq_eq_false_iff_ne.mpr c9
                have c9b1 : ((t141.extract 0 2).toList != ([80, 76] : List UInt8)) = true := bne_iff_ne.mpr c9
                obtain rfl := Option.some.inj H
                go_enter Try.func9, Try.ntmps9
                go_wp2_with (first | ((with_reducible refine gate_dst (N := 10) rfl ?_); (try (refine gate_guard (by rfl) ?_; dsimp only)); refine Kd.R_lit k42 _ 42 ?hg (N := 10) ?hd (xs := ([(⟨1, 18, 3⟩ : S42)] : List (S42))) (inner := [.int .i64 1, .int .i64 18, .int .i64 3]) (ok := fun _ => True) (okp := fun _ => True) ?hr ?hp (fun _ hk => hk) trivial (Below.refl _ _) (Nat.le_refl _) (by simp) ?_; (case hd => rfl); (case hg => rfl); (case hr => first | (go_simp; done) | (go_simp; rfl)); (case hp => exact (Reps.c3 (show Kd.M k42 _ _ _ (⟨1, 18, 3⟩ : S42) [.int .i64 1, .int .i64 18, .int .i64 3] from (k42_mkM _ _ _ (⟨1, 18, 3⟩ : S42) )) (Reps.none _ _))); intro v136 w48 ho49 hb hg_ hnew_; clear hg_ hnew_; (first | rw [← Ny135.out] at ho49 | (simp only [Int.reduceToNat] at ho49; rw [← Ny135.out] at ho49)); have n0_ := Aside0.mk (Kd.R_lower ho49 (below_size (by repeat (first | (with_reducible first | exact HB.out | apply below_alloc | apply pw_below_drewN | apply below_drew1) | exact HB.out)))); have n1_ := Aside0.mk (below_step (by repeat (first | (with_reducible first | exact HB.out | apply below_alloc | apply pw_below_drewN | apply below_drew1) | exact HB.out)) hb); clear HB; have HO137 := n0_; have HB := n1_; clear n0_ n1_; clear hb ho49; obtain ⟨Ao50, co50, eo50⟩ := Kd.R_slice HO137.out; subst eo50) | ((with_reducible refine gate_dst (N := 1) rfl ?_); (try (refine gate_guard (by rfl) ?_; dsimp only)); refine box_event ?hg (N := 1) ?hd (cs := #[.int .i64 0, .int .i64 0, .int .i64 0, .slice none 0 0]) (t := 39) ?hr ?_; (case hd => rfl); (case hg => rfl); (case hr => first | (go_simp; done) | (go_simp; rfl)); intro gb138 hg w51 hbox hb; have n0_ := Aside0.mk (Kd.R_below (by (with_reducible repeat (first | apply Kd.R_alloc | apply Kd.R_drewN | apply Kd.R_drew)); exact HO137.out) hb); have n1_ := Aside0.mk (below_step (by repeat (first | (with_reducible first | exact HB.out | apply below_alloc | apply pw_below_drewN | apply below_drew1) | exact HB.out)) hb); have n2_ := Aside0.mk (hbox); have n3_ := Aside0.mk ((by rw [hg]; exact (below_size (by repeat (first | (with_reducible first | exact HB.out | apply below_alloc | apply pw_below_drewN | apply below_drew1) | exact HB.out))) : w.heap.size ≤ gb138)); have n4_ := Aside0.mk ((by rw [hg]; exact (below_size (by repeat (first | (with_reducible first | exact HB.out | apply below_alloc | apply pw_below_drewN | apply below_drew1) | exact HB.out))) : w.heap.size ≤ gb138)); clear HO137; clear HB; have HO137 := n0_; have HB := n1_; have BK138 := n2_; have GW138 := n3_; have GE138 := n4_; clear n0_ n1_ n2_ n3_ n4_; clear hb hbox hg; have hcz52_0 : w51.cell? ⟨gb138, 0, none⟩ = some (.int .i64 0) := (blk_cell BK138.out 0).trans rfl; have hcz52_1 : w51.cell? ⟨gb138, 1, none⟩ = some (.int .i64 0) := (blk_cell BK138.out 1).trans rfl; have hcz52_2 : w51.cell? ⟨gb138, 2, none⟩ = some (.int .i64 0) := (blk_cell BK138.out 2).trans rfl; have hcz52_3 : w51.cell? ⟨gb138, 3, none⟩ = some (.slice none 0 0) := (blk_cell BK138.out 3).trans rfl; have hfz52_0 := blk_frozen BK138.out 0; have hfz52_1 := blk_frozen BK138.out 1; have hfz52_2 := blk_frozen BK138.out 2; have hfz52_3 := blk_frozen BK138.out 3) | ((with_reducible refine gate_callee (f := 16) rfl ?_); refine goesL_ (some 14) rfl rfl Try.func16 (by kernel_rfl) rfl #[.int .i64 30, .agg #[.int .i64 1, .int .i64 2, .int .i64 1, .slice Ao50 y135.length co50]] rfl (by (try simp only [List.map_toArray, List.map_cons, List.map_nil]); first | done | rfl | (simp only [List.length_drop, List.length_take]; rfl)) ?_; (with_reducible refine (root_Encode.calls k 30 1 2 1 _ _ y135 t139 none _ ?side1 ?side2 A1.out).mono ?_); (case side1 => refine (Kd.R_reads' (e := 42) (base := w.heap.size) (ok := fun k_ => True) (n := y135.length) (c := co50) ?_).2.2; exact (by (with_reducible repeat (first | apply Kd.R_alloc | apply Kd.R_drewN | apply Kd.R_drew)); exact (Kd.R_mono (Kd.R_far (p := ⟨gb138, 3, none⟩) (Kd.R_far (p := ⟨gb138, 2, none⟩) (Kd.R_far (p := ⟨gb138, 1, none⟩) (Kd.R_far (p := ⟨gb138, 0, none⟩) (Kd.R_types HO137.out BK138.out (by decide)) (fun _ hk => hk.2) (.int .i64 1)) (fun _ hk => hk.2) (.int .i64 2)) (fun _ hk => hk.2) (.int .i64 1)) (fun _ hk => hk.2) (.slice Ao50 y135.length co50)) (fun _ h_ => h_.1)))); (case side2 => exact (Kd.R_reads' HO137.out).2.1); rintro e w53 ⟨rfl, hb⟩; refine ⟨_, rfl, ?_⟩; have n0_ := Aside0.mk (Kd.R_below (by (with_reducible repeat (first | apply Kd.R_alloc | apply Kd.R_drewN | apply Kd.R_drew)); exact (Kd.R_mono (Kd.R_far (p := ⟨gb138, 3, none⟩) (Kd.R_far (p := ⟨gb138, 2, none⟩) (Kd.R_far (p := ⟨gb138, 1, none⟩) (Kd.R_far (p := ⟨gb138, 0, none⟩) (Kd.R_types HO137.out BK138.out (by decide)) (fun _ hk => hk.2) (.int .i64 1)) (fun _ hk => hk.2) (.int .i64 2)) (fun _ hk => hk.2) (.int .i64 1)) (fun _ hk => hk.2) (.slice Ao50 y135.length co50)) (fun _ h_ => h_.1))) hb); have n1_ := Aside0.mk (blk_below (g := gb138) (o := .cells #[.int .i64 1, .int .i64 2, .int .i64 1, .slice Ao50 y135.length co50] 39 (0, 0)) (by (with_reducible repeat (first | refine blk_drewN ?_ _ | refine blk_drew ?_ | refine blk_alloc ?_ _)); refine blk_put (cs := #[.int .i64 1, .int .i64 2, .int .i64 1, .slice none 0 0]) ?_ 3 _ rfl; (with_reducible repeat (first | refine blk_drewN ?_ _ | refine blk_drew ?_ | refine blk_alloc ?_ _)); refine blk_put (cs := #[.int .i64 1, .int .i64 2, .int .i64 0, .slice none 0 0]) ?_ 2 _ rfl; (with_reducible repeat (first | refine blk_drewN ?_ _ | refine blk_drew ?_ | refine blk_alloc ?_ _)); refine blk_put (cs := #[.int .i64 1, .int .i64 0, .int .i64 0, .slice none 0 0]) ?_ 1 _ rfl; (with_reducible repeat (first | refine blk_drewN ?_ _ | refine blk_drew ?_ | refine blk_alloc ?_ _)); refine blk_put (cs := #[.int .i64 0, .int .i64 0, .int .i64 0, .slice none 0 0]) ?_ 0 _ rfl; (with_reducible repeat (first | refine blk_drewN ?_ _ | refine blk_drew ?_ | refine blk_alloc ?_ _)); exact BK138.out) hb); have n2_ := Aside0.mk (below_step (by repeat (first | (with_reducible first | exact HB.out | apply below_alloc | apply pw_below_drewN | apply below_drew1 | refine below_set ?_ GE138.out) | exact HB.out)) hb); clear HO137; clear BK138; clear HB; have HO137 := n0_; have BK138 := n1_; have HB := n2_; clear n0_ n1_ n2_; (try clear hb); (try clear hb2); (try clear hk); (try clear hi); (try simp only [errW_none, errW_some])) | ((with_reducible refine gate_callee (f := 10) rfl ?_); refine goesL_ (some 18) rfl rfl Try.func10 (by kernel_rfl) rfl #[.int .i64 1, .int .i64 14] rfl (by (try simp only [List.map_toArray, List.map_cons, List.map_nil]); first | done | rfl | (simp only [List.length_drop, List.length_take]; rfl)) ?_; (with_reducible refine (root_Head.calls 1 14 t141 t142 _ A2.out).mono ?_); rintro e w54 ⟨rfl, hb⟩; refine ⟨_, rfl, ?_⟩; have n0_ := Aside0.mk (Kd.R_below (by (with_reducible repeat (first | apply Kd.R_alloc | apply Kd.R_drewN | apply Kd.R_drew)); exact HO137.out) hb); have n1_ := Aside0.mk (blk_below (g := gb138) (o := .cells #[.int .i64 1, .int .i64 2, .int .i64 1, .slice Ao50 y135.length co50] 39 (0, 0)) (by (with_reducible repeat (first | refine blk_drewN ?_ _ | refine blk_drew ?_ | refine blk_alloc ?_ _)); exact BK138.out) hb); have n2_ := Aside0.mk (below_step (by repeat (first | (with_reducible first | exact HB.out | apply below_alloc | apply pw_below_drewN | apply below_drew1 | refine below_set ?_ GE138.out) | exact HB.out)) hb); clear HO137; clear BK138; clear HB; have HO137 := n0_; have BK138 := n1_; have HB := n2_; clear n0_ n1_ n2_; (try clear hb); (try clear hb2); (try clear hk); (try clear hi); (try simp only [errW_none, errW_some])) | ((with_reducible refine gate_dst (N := 22) rfl ?_); (try (refine gate_guard (by rfl) ?_; dsimp only)); refine Kd.R_make (Kd.int .u8) _ 5 rfl (N := 22) rfl 35 _ _ rfl 64 rfl rfl Try.underlying35 (.int .u8 0) 1 info5 rfl (by decide) (by omega) 0 (ok := fun _ => True) (okp := fun _ => True) rfl (fun _ hk => hk) trivial (by omega) (by omega) (Below.refl _ _) (Nat.le_refl _) ?_; intro v144 w55 ho56 hb hg_ hnew_; clear hg_ hnew_; (first | rw [← Ny143.out] at ho56 | (simp only [Int.reduceToNat] at ho56; rw [← Ny143.out] at ho56)); have n0_ := Aside0.mk (Kd.R_below (by (with_reducible repeat (first | apply Kd.R_alloc | apply Kd.R_drewN | apply Kd.R_drew)); exact HO137.out) hb); have n1_ := Aside0.mk (Kd.R_lower ho56 (below_size (by repeat (first | (with_reducible first | exact HB.out | apply below_alloc | apply pw_below_drewN | apply below_drew1 | refine below_set ?_ GE138.out) | exact HB.out)))); have n2_ := Aside0.mk (blk_below (g := gb138) (o := .cells #[.int .i64 1, .int .i64 2, .int .i64 1, .slice Ao50 y135.length co50] 39 (0, 0)) (by (with_reducible repeat (first | refine blk_drewN ?_ _ | refine blk_drew ?_ | refine blk_alloc ?_ _)); exact BK138.out) hb); have n3_ := Aside0.mk (below_step (by repeat (first | (with_reducible first | exact HB.out | apply below_alloc | apply pw_below_drewN | apply below_drew1 | refine below_set ?_ GE138.out) | exact HB.out)) hb); clear HO137; clear BK138; clear HB; have HO137 := n0_; have HO145 := n1_; have BK138 := n2_; have HB := n3_; clear n0_ n1_ n2_ n3_; clear hb ho56; have hcv57 := own_string (P := Try.prog) Try.underlying35 Try.underlying5 Try.underlying9 (Kd.own_of_R HO145.out)) | ((with_reducible refine gate_callee (f := 12) rfl ?_); refine goesL_ (some 24) rfl rfl Try.func12 (by kernel_rfl) rfl #[.string (strOfNums y143)] rfl (by (try simp only [List.map_toArray, List.map_cons, List.map_nil]); first | done | rfl | (simp only [List.length_drop, List.length_take]; rfl)) ?_; (with_reducible refine (root_ReadHead.calls (strOfNums y143) t146 t147 t148 _ A4.out).mono ?_); rintro e w58 ⟨rfl, hb⟩; refine ⟨_, rfl, ?_⟩; have n0_ := Aside0.mk (Kd.R_below (by (with_reducible repeat (first | apply Kd.R_alloc | apply Kd.R_drewN | apply Kd.R_drew)); exact HO137.out) hb); have n1_ := Aside0.mk (Kd.R_below (by (with_reducible repeat (first | apply Kd.R_alloc | apply Kd.R_drewN | apply Kd.R_drew)); exact HO145.out) hb); have n2_ := Aside0.mk (blk_below (g := gb138) (o := .cells #[.int .i64 1, .int .i64 2, .int .i64 1, .slice Ao50 y135.length co50] 39 (0, 0)) (by (with_reducible repeat (first | refine blk_drewN ?_ _ | refine blk_drew ?_ | refine blk_alloc ?_ _)); exact BK138.out) hb); have n3_ := Aside0.mk (below_step (by repeat (first | (with_reducible first | exact HB.out | apply below_alloc | apply pw_below_drewN | apply below_drew1 | refine below_set ?_ GE138.out) | exact HB.out)) hb); clear HO137; clear HO145; clear BK138; clear HB; have HO137 := n0_; have HO145 := n1_; have BK138 := n2_; have HB := n3_; clear n0_ n1_ n2_ n3_; (try clear hb); (try clear hb2); (try clear hk); (try clear hi); (try simp only [errW_none, errW_some])))
                go_ret
                exact ⟨by first | rfl | (simp [errW_none, errW_some] <;> rfl) | (simp [*, errW_none, errW_some] <;> rfl), by repeat (first | (with_reducible first | exact HB.out | apply below_alloc | apply pw_below_drewN | apply below_drew1 | refine below_set ?_ GE138.out) | exact HB.out)⟩
            · rw [if_neg c8] at H
              exact absurd H (by simp)
          · rw [if_neg c7] at H
            exact absurd H (by simp)
        · rw [if_neg c6] at H
          have c6b0 : ((t141.size : Int) == 64) = false := beq_eq_false_iff_ne.mpr c6
          have c6b1 : ((t141.size : Int) != 64) = true := bne_iff_ne.mpr c6
          obtain rfl := Option.some.inj H
          go_enter Try.func9, Try.ntmps9
          go_wp2_with (first | ((with_reducible refine gate_dst (N := 10) rfl ?_); (try (refine gate_guard (by rfl) ?_; dsimp only)); refine Kd.R_lit k42 _ 42 ?hg (N := 10) ?hd (xs := ([(⟨1, 18, 3⟩ : S42)] : List (S42))) (inner := [.int .i64 1, .int .i64 18, .int .i64 3]) (ok := fun _ => True) (okp := fun _ => True) ?hr ?hp (fun _ hk => hk) trivial (Below.refl _ _) (Nat.le_refl _) (by simp) ?_; (case hd => rfl); (case hg => rfl); (case hr => first | (go_simp; done) | (go_simp; rfl)); (case hp => exact (Reps.c3 (show Kd.M k42 _ _ _ (⟨1, 18, 3⟩ : S42) [.int .i64 1, .int .i64 18, .int .i64 3] from (k42_mkM _ _ _ (⟨1, 18, 3⟩ : S42) )) (Reps.none _ _))); intro v136 w59 ho60 hb hg_ hnew_; clear hg_ hnew_; (first | rw [← Ny135.out] at ho60 | (simp only [Int.reduceToNat] at ho60; rw [← Ny135.out] at ho60)); have n0_ := Aside0.mk (Kd.R_lower ho60 (below_size (by repeat (first | (with_reducible first | exact HB.out | apply below_alloc | apply pw_below_drewN | apply below_drew1) | exact HB.out)))); have n1_ := Aside0.mk (below_step (by repeat (first | (with_reducible first | exact HB.out | apply below_alloc | apply pw_below_drewN | apply below_drew1) | exact HB.out)) hb); clear HB; have HO137 := n0_; have HB := n1_; clear n0_ n1_; clear hb ho60; obtain ⟨Ao61, co61, eo61⟩ := Kd.R_slice HO137.out; subst eo61) | ((with_reducible refine gate_dst (N := 1) rfl ?_); (try (refine gate_guard (by rfl) ?_; dsimp only)); refine box_event ?hg (N := 1) ?hd (cs := #[.int .i64 0, .int .i64 0, .int .i64 0, .slice none 0 0]) (t := 39) ?hr ?_; (case hd => rfl); (case hg => rfl); (case hr => first | (go_simp; done) | (go_simp; rfl)); intro gb138 hg w62 hbox hb; have n0_ := Aside0.mk (Kd.R_below (by (with_reducible repeat (first | apply Kd.R_alloc | apply Kd.R_drewN | apply Kd.R_drew)); exact HO137.out) hb); have n1_ := Aside0.mk (below_step (by repeat (first | (with_reducible first | exact HB.out | apply below_alloc | apply pw_below_drewN | apply below_drew1) | exact HB.out)) hb); have n2_ := Aside0.mk (hbox); have n3_ := Aside0.mk ((by rw [hg]; exact (below_size (by repeat (first | (with_reducible first | exact HB.out | apply below_alloc | apply pw_below_drewN | apply below_drew1) | exact HB.out))) : w.heap.size ≤ gb138)); have n4_ := Aside0.mk ((by rw [hg]; exact (below_size (by repeat (first | (with_reducible first | exact HB.out | apply below_alloc | apply pw_below_drewN | apply below_drew1) | exact HB.out))) : w.heap.size ≤ gb138)); clear HO137; clear HB; have HO137 := n0_; have HB := n1_; have BK138 := n2_; have GW138 := n3_; have GE138 := n4_; clear n0_ n1_ n2_ n3_ n4_; clear hb hbox hg; have hcz63_0 : w62.cell? ⟨gb138, 0, none⟩ = some (.int .i64 0) := (blk_cell BK138.out 0).trans rfl; have hcz63_1 : w62.cell? ⟨gb138, 1, none⟩ = some (.int .i64 0) := (blk_cell BK138.out 1).trans rfl; have hcz63_2 : w62.cell? ⟨gb138, 2, none⟩ = some (.int .i64 0) := (blk_cell BK138.out 2).trans rfl; have hcz63_3 : w62.cell? ⟨gb138, 3, none⟩ = some (.slice none 0 0) := (blk_cell BK138.out 3).trans rfl; have hfz63_0 := blk_frozen BK138.out 0; have hfz63_1 := blk_frozen BK138.out 1; have hfz63_2 := blk_frozen BK138.out 2; have hfz63_3 := blk_frozen BK138.out 3) | ((with_reducible refine gate_callee (f := 16) rfl ?_); refine goesL_ (some 14) rfl rfl Try.func16 (by kernel_rfl) rfl #[.int .i64 30, .agg #[.int .i64 1, .int .i64 2, .int .i64 1, .slice Ao61 y135.length co61]] rfl (by (try simp only [List.map_toArray, List.map_cons, List.map_nil]); first | done | rfl | (simp only [List.length_drop, List.length_take]; rfl)) ?_; (with_reducible refine (root_Encode.calls k 30 1 2 1 _ _ y135 t139 none _ ?side1 ?side2 A1.out).mono ?_); (case side1 => refine (Kd.R_reads' (e := 42) (base := w.heap.size) (ok := fun k_ => True) (n := y135.length) (c := co61) ?_).2.2; exact (by (with_reducible repeat (first | apply Kd.R_alloc | apply Kd.R_drewN | apply Kd.R_drew)); exact (Kd.R_mono (Kd.R_far (p := ⟨gb138, 3, none⟩) (Kd.R_far (p := ⟨gb138, 2, none⟩) (Kd.R_far (p := ⟨gb138, 1, none⟩) (Kd.R_far (p := ⟨gb138, 0, none⟩) (Kd.R_types HO137.out BK138.out (by decide)) (fun _ hk => hk.2) (.int .i64 1)) (fun _ hk => hk.2) (.int .i64 2)) (fun _ hk => hk.2) (.int .i64 1)) (fun _ hk => hk.2) (.slice Ao61 y135.length co61)) (fun _ h_ => h_.1)))); (case side2 => exact (Kd.R_reads' HO137.out).2.1); rintro e w64 ⟨rfl, hb⟩; refine ⟨_, rfl, ?_⟩; have n0_ := Aside0.mk (Kd.R_below (by (with_reducible repeat (first | apply Kd.R_alloc | apply Kd.R_drewN | apply Kd.R_drew)); exact (Kd.R_mono (Kd.R_far (p := ⟨gb138, 3, none⟩) (Kd.R_far (p := ⟨gb138, 2, none⟩) (Kd.R_far (p := ⟨gb138, 1, none⟩) (Kd.R_far (p := ⟨gb138, 0, none⟩) (Kd.R_types HO137.out BK138.out (by decide)) (fun _ hk => hk.2) (.int .i64 1)) (fun _ hk => hk.2) (.int .i64 2)) (fun _ hk => hk.2) (.int .i64 1)) (fun _ hk => hk.2) (.slice Ao61 y135.length co61)) (fun _ h_ => h_.1))) hb); have n1_ := Aside0.mk (blk_below (g := gb138) (o := .cells #[.int .i64 1, .int .i64 2, .int .i64 1, .slice Ao61 y135.length co61] 39 (0, 0)) (by (with_reducible repeat (first | refine blk_drewN ?_ _ | refine blk_drew ?_ | refine blk_alloc ?_ _)); refine blk_put (cs := #[.int .i64 1, .int .i64 2, .int .i64 1, .slice none 0 0]) ?_ 3 _ rfl; (with_reducible repeat (first | refine blk_drewN ?_ _ | refine blk_drew ?_ | refine blk_alloc ?_ _)); refine blk_put (cs := #[.int .i64 1, .int .i64 2, .int .i64 0, .slice none 0 0]) ?_ 2 _ rfl; (with_reducible repeat (first | refine blk_drewN ?_ _ | refine blk_drew ?_ | refine blk_alloc ?_ _)); refine blk_put (cs := #[.int .i64 1, .int .i64 0, .int .i64 0, .slice none 0 0]) ?_ 1 _ rfl; (with_reducible repeat (first | refine blk_drewN ?_ _ | refine blk_drew ?_ | refine blk_alloc ?_ _)); refine blk_put (cs := #[.int .i64 0, .int .i64 0, .int .i64 0, .slice none 0 0]) ?_ 0 _ rfl; (with_reducible repeat (first | refine blk_drewN ?_ _ | refine blk_drew ?_ | refine blk_alloc ?_ _)); exact BK138.out) hb); have n2_ := Aside0.mk (below_step (by repeat (first | (with_reducible first | exact HB.out | apply below_alloc | apply pw_below_drewN | apply below_drew1 | refine below_set ?_ GE138.out) | exact HB.out)) hb); clear HO137; clear BK138; clear HB; have HO137 := n0_; have BK138 := n1_; have HB := n2_; clear n0_ n1_ n2_; (try clear hb); (try clear hb2); (try clear hk); (try clear hi); (try simp only [errW_none, errW_some])) | ((with_reducible refine gate_callee (f := 10) rfl ?_); refine goesL_ (some 18) rfl rfl Try.func10 (by kernel_rfl) rfl #[.int .i64 1, .int .i64 14] rfl (by (try simp only [List.map_toArray, List.map_cons, List.map_nil]); first | done | rfl | (simp only [List.length_drop, List.length_take]; rfl)) ?_; (with_reducible refine (root_Head.calls 1 14 t141 t142 _ A2.out).mono ?_); rintro e w65 ⟨rfl, hb⟩; refine ⟨_, rfl, ?_⟩; have n0_ := Aside0.mk (Kd.R_below (by (with_reducible repeat (first | apply Kd.R_alloc | apply Kd.R_drewN | apply Kd.R_drew)); exact HO137.out) hb); have n1_ := Aside0.mk (blk_below (g := gb138) (o := .cells #[.int .i64 1, .int .i64 2, .int .i64 1, .slice Ao61 y135.length co61] 39 (0, 0)) (by (with_reducible repeat (first | refine blk_drewN ?_ _ | refine blk_drew ?_ | refine blk_alloc ?_ _)); exact BK138.out) hb); have n2_ := Aside0.mk (below_step (by repeat (first | (with_reducible first | exact HB.out | apply below_alloc | apply pw_below_drewN | apply below_drew1 | refine below_set ?_ GE138.out) | exact HB.out)) hb); clear HO137; clear BK138; clear HB; have HO137 := n0_; have BK138 := n1_; have HB := n2_; clear n0_ n1_ n2_; (try clear hb); (try clear hb2); (try clear hk); (try clear hi); (try simp only [errW_none, errW_some])) | ((with_reducible refine gate_dst (N := 22) rfl ?_); (try (refine gate_guard (by rfl) ?_; dsimp only)); refine Kd.R_make (Kd.int .u8) _ 5 rfl (N := 22) rfl 35 _ _ rfl 64 rfl rfl Try.underlying35 (.int .u8 0) 1 info5 rfl (by decide) (by omega) 0 (ok := fun _ => True) (okp := fun _ => True) rfl (fun _ hk => hk) trivial (by omega) (by omega) (Below.refl _ _) (Nat.le_refl _) ?_; intro v144 w66 ho67 hb hg_ hnew_; clear hg_ hnew_; (first | rw [← Ny143.out] at ho67 | (simp only [Int.reduceToNat] at ho67; rw [← Ny143.out] at ho67)); have n0_ := Aside0.mk (Kd.R_below (by (with_reducible repeat (first | apply Kd.R_alloc | apply Kd.R_drewN | apply Kd.R_drew)); exact HO137.out) hb); have n1_ := Aside0.mk (Kd.R_lower ho67 (below_size (by repeat (first | (with_reducible first | exact HB.out | apply below_alloc | apply pw_below_drewN | apply below_drew1 | refine below_set ?_ GE138.out) | exact HB.out)))); have n2_ := Aside0.mk (blk_below (g := gb138) (o := .cells #[.int .i64 1, .int .i64 2, .int .i64 1, .slice Ao61 y135.length co61] 39 (0, 0)) (by (with_reducible repeat (first | refine blk_drewN ?_ _ | refine blk_drew ?_ | refine blk_alloc ?_ _)); exact BK138.out) hb); have n3_ := Aside0.mk (below_step (by repeat (first | (with_reducible first | exact HB.out | apply below_alloc | apply pw_below_drewN | apply below_drew1 | refine below_set ?_ GE138.out) | exact HB.out)) hb); clear HO137; clear BK138; clear HB; have HO137 := n0_; have HO145 := n1_; have BK138 := n2_; have HB := n3_; clear n0_ n1_ n2_ n3_; clear hb ho67; have hcv68 := own_string (P := Try.prog) Try.underlying35 Try.underlying5 Try.underlying9 (Kd.own_of_R HO145.out)) | ((with_reducible refine gate_callee (f := 12) rfl ?_); refine goesL_ (some 24) rfl rfl Try.func12 (by kernel_rfl) rfl #[.string (strOfNums y143)] rfl (by (try simp only [List.map_toArray, List.map_cons, List.map_nil]); first | done | rfl | (simp only [List.length_drop, List.length_take]; rfl)) ?_; (with_reducible refine (root_ReadHead.calls (strOfNums y143) t146 t147 t148 _ A4.out).mono ?_); rintro e w69 ⟨rfl, hb⟩; refine ⟨_, rfl, ?_⟩; have n0_ := Aside0.mk (Kd.R_below (by (with_reducible repeat (first | apply Kd.R_alloc | apply Kd.R_drewN | apply Kd.R_drew)); exact HO137.out) hb); have n1_ := Aside0.mk (Kd.R_below (by (with_reducible repeat (first | apply Kd.R_alloc | apply Kd.R_drewN | apply Kd.R_drew)); exact HO145.out) hb); have n2_ := Aside0.mk (blk_below (g := gb138) (o := .cells #[.int .i64 1, .int .i64 2, .int .i64 1, .slice Ao61 y135.length co61] 39 (0, 0)) (by (with_reducible repeat (first | refine blk_drewN ?_ _ | refine blk_drew ?_ | refine blk_alloc ?_ _)); exact BK138.out) hb); have n3_ := Aside0.mk (below_step (by repeat (first | (with_reducible first | exact HB.out | apply below_alloc | apply pw_below_drewN | apply below_drew1 | refine below_set ?_ GE138.out) | exact HB.out)) hb); clear HO137; clear HO145; clear BK138; clear HB; have HO137 := n0_; have HO145 := n1_; have BK138 := n2_; have HB := n3_; clear n0_ n1_ n2_ n3_; (try clear hb); (try clear hb2); (try clear hk); (try clear hi); (try simp only [errW_none, errW_some])))
          go_ret
          exact ⟨by first | rfl | (simp [errW_none, errW_some] <;> rfl) | (simp [*, errW_none, errW_some] <;> rfl), by repeat (first | (with_reducible first | exact HB.out | apply below_alloc | apply pw_below_drewN | apply below_drew1 | refine below_set ?_ GE138.out) | exact HB.out)⟩
      · have H1 : (some false) = some r := by rw [if_neg (show ¬ (some q149).isNone = true by simp)] at H; exact H
        clear H
        have H := H1
        clear H1
        try simp only [errW_none, errW_some]
        obtain rfl := Option.some.inj H
        go_enter Try.func9, Try.ntmps9
        go_wp2_with (first | ((with_reducible refine gate_dst (N := 10) rfl ?_); (try (refine gate_guard (by rfl) ?_; dsimp only)); refine Kd.R_lit k42 _ 42 ?hg (N := 10) ?hd (xs := ([(⟨1, 18, 3⟩ : S42)] : List (S42))) (inner := [.int .i64 1, .int .i64 18, .int .i64 3]) (ok := fun _ => True) (okp := fun _ => True) ?hr ?hp (fun _ hk => hk) trivial (Below.refl _ _) (Nat.le_refl _) (by simp) ?_; (case hd => rfl); (case hg => rfl); (case hr => first | (go_simp; done) | (go_simp; rfl)); (case hp => exact (Reps.c3 (show Kd.M k42 _ _ _ (⟨1, 18, 3⟩ : S42) [.int .i64 1, .int .i64 18, .int .i64 3] from (k42_mkM _ _ _ (⟨1, 18, 3⟩ : S42) )) (Reps.none _ _))); intro v136 w70 ho71 hb hg_ hnew_; clear hg_ hnew_; (first | rw [← Ny135.out] at ho71 | (simp only [Int.reduceToNat] at ho71; rw [← Ny135.out] at ho71)); have n0_ := Aside0.mk (Kd.R_lower ho71 (below_size (by repeat (first | (with_reducible first | exact HB.out | apply below_alloc | apply pw_below_drewN | apply below_drew1) | exact HB.out)))); have n1_ := Aside0.mk (below_step (by repeat (first | (with_reducible first | exact HB.out | apply below_alloc | apply pw_below_drewN | apply below_drew1) | exact HB.out)) hb); clear HB; have HO137 := n0_; have HB := n1_; clear n0_ n1_; clear hb ho71; obtain ⟨Ao72, co72, eo72⟩ := Kd.R_slice HO137.out; subst eo72) | ((with_reducible refine gate_dst (N := 1) rfl ?_); (try (refine gate_guard (by rfl) ?_; dsimp only)); refine box_event ?hg (N := 1) ?hd (cs := #[.int .i64 0, .int .i64 0, .int .i64 0, .slice none 0 0]) (t := 39) ?hr ?_; (case hd => rfl); (case hg => rfl); (case hr => first | (go_simp; done) | (go_simp; rfl)); intro gb138 hg w73 hbox hb; have n0_ := Aside0.mk (Kd.R_below (by (with_reducible repeat (first | apply Kd.R_alloc | apply Kd.R_drewN | apply Kd.R_drew)); exact HO137.out) hb); have n1_ := Aside0.mk (below_step (by repeat (first | (with_reducible first | exact HB.out | apply below_alloc | apply pw_below_drewN | apply below_drew1) | exact HB.out)) hb); have n2_ := Aside0.mk (hbox); have n3_ := Aside0.mk ((by rw [hg]; exact (below_size (by repeat (first | (with_reducible first | exact HB.out | apply below_alloc | apply pw_below_drewN | apply below_drew1) | exact HB.out))) : w.heap.size ≤ gb138)); have n4_ := Aside0.mk ((by rw [hg]; exact (below_size (by repeat (first | (with_reducible first | exact HB.out | apply below_alloc | apply pw_below_drewN | apply below_drew1) | exact HB.out))) : w.heap.size ≤ gb138)); clear HO137; clear HB; have HO137 := n0_; have HB := n1_; have BK138 := n2_; have GW138 := n3_; have GE138 := n4_; clear n0_ n1_ n2_ n3_ n4_; clear hb hbox hg; have hcz74_0 : w73.cell? ⟨gb138, 0, none⟩ = some (.int .i64 0) := (blk_cell BK138.out 0).trans rfl; have hcz74_1 : w73.cell? ⟨gb138, 1, none⟩ = some (.int .i64 0) := (blk_cell BK138.out 1).trans rfl; have hcz74_2 : w73.cell? ⟨gb138, 2, none⟩ = some (.int .i64 0) := (blk_cell BK138.out 2).trans rfl; have hcz74_3 : w73.cell? ⟨gb138, 3, none⟩ = some (.slice none 0 0) := (blk_cell BK138.out 3).trans rfl; have hfz74_0 := blk_frozen BK138.out 0; have hfz74_1 := blk_frozen BK138.out 1; have hfz74_2 := blk_frozen BK138.out 2; have hfz74_3 := blk_frozen BK138.out 3) | ((with_reducible refine gate_callee (f := 16) rfl ?_); refine goesL_ (some 14) rfl rfl Try.func16 (by kernel_rfl) rfl #[.int .i64 30, .agg #[.int .i64 1, .int .i64 2, .int .i64 1, .slice Ao72 y135.length co72]] rfl (by (try simp only [List.map_toArray, List.map_cons, List.map_nil]); first | done | rfl | (simp only [List.length_drop, List.length_take]; rfl)) ?_; (with_reducible refine (root_Encode.calls k 30 1 2 1 _ _ y135 t139 (some q149) _ ?side1 ?side2 A1.out).mono ?_); (case side1 => refine (Kd.R_reads' (e := 42) (base := w.heap.size) (ok := fun k_ => True) (n := y135.length) (c := co72) ?_).2.2; exact (by (with_reducible repeat (first | apply Kd.R_alloc | apply Kd.R_drewN | apply Kd.R_drew)); exact (Kd.R_mono (Kd.R_far (p := ⟨gb138, 3, none⟩) (Kd.R_far (p := ⟨gb138, 2, none⟩) (Kd.R_far (p := ⟨gb138, 1, none⟩) (Kd.R_far (p := ⟨gb138, 0, none⟩) (Kd.R_types HO137.out BK138.out (by decide)) (fun _ hk => hk.2) (.int .i64 1)) (fun _ hk => hk.2) (.int .i64 2)) (fun _ hk => hk.2) (.int .i64 1)) (fun _ hk => hk.2) (.slice Ao72 y135.length co72)) (fun _ h_ => h_.1)))); (case side2 => exact (Kd.R_reads' HO137.out).2.1); rintro e w75 ⟨rfl, hb⟩; refine ⟨_, rfl, ?_⟩; have n0_ := Aside0.mk (Kd.R_below (by (with_reducible repeat (first | apply Kd.R_alloc | apply Kd.R_drewN | apply Kd.R_drew)); exact (Kd.R_mono (Kd.R_far (p := ⟨gb138, 3, none⟩) (Kd.R_far (p := ⟨gb138, 2, none⟩) (Kd.R_far (p := ⟨gb138, 1, none⟩) (Kd.R_far (p := ⟨gb138, 0, none⟩) (Kd.R_types HO137.out BK138.out (by decide)) (fun _ hk => hk.2) (.int .i64 1)) (fun _ hk => hk.2) (.int .i64 2)) (fun _ hk => hk.2) (.int .i64 1)) (fun _ hk => hk.2) (.slice Ao72 y135.length co72)) (fun _ h_ => h_.1))) hb); have n1_ := Aside0.mk (blk_below (g := gb138) (o := .cells #[.int .i64 1, .int .i64 2, .int .i64 1, .slice Ao72 y135.length co72] 39 (0, 0)) (by (with_reducible repeat (first | refine blk_drewN ?_ _ | refine blk_drew ?_ | refine blk_alloc ?_ _)); refine blk_put (cs := #[.int .i64 1, .int .i64 2, .int .i64 1, .slice none 0 0]) ?_ 3 _ rfl; (with_reducible repeat (first | refine blk_drewN ?_ _ | refine blk_drew ?_ | refine blk_alloc ?_ _)); refine blk_put (cs := #[.int .i64 1, .int .i64 2, .int .i64 0, .slice none 0 0]) ?_ 2 _ rfl; (with_reducible repeat (first | refine blk_drewN ?_ _ | refine blk_drew ?_ | refine blk_alloc ?_ _)); refine blk_put (cs := #[.int .i64 1, .int .i64 0, .int .i64 0, .slice none 0 0]) ?_ 1 _ rfl; (with_reducible repeat (first | refine blk_drewN ?_ _ | refine blk_drew ?_ | refine blk_alloc ?_ _)); refine blk_put (cs := #[.int .i64 0, .int .i64 0, .int .i64 0, .slice none 0 0]) ?_ 0 _ rfl; (with_reducible repeat (first | refine blk_drewN ?_ _ | refine blk_drew ?_ | refine blk_alloc ?_ _)); exact BK138.out) hb); have n2_ := Aside0.mk (below_step (by repeat (first | (with_reducible first | exact HB.out | apply below_alloc | apply pw_below_drewN | apply below_drew1 | refine below_set ?_ GE138.out) | exact HB.out)) hb); clear HO137; clear BK138; clear HB; have HO137 := n0_; have BK138 := n1_; have HB := n2_; clear n0_ n1_ n2_; (try clear hb); (try clear hb2); (try clear hk); (try clear hi); (try simp only [errW_none, errW_some])) | ((with_reducible refine gate_callee (f := 10) rfl ?_); refine goesL_ (some 18) rfl rfl Try.func10 (by kernel_rfl) rfl #[.int .i64 1, .int .i64 14] rfl (by (try simp only [List.map_toArray, List.map_cons, List.map_nil]); first | done | rfl | (simp only [List.length_drop, List.length_take]; rfl)) ?_; (with_reducible refine (root_Head.calls 1 14 t141 t142 _ A2.out).mono ?_); rintro e w76 ⟨rfl, hb⟩; refine ⟨_, rfl, ?_⟩; have n0_ := Aside0.mk (Kd.R_below (by (with_reducible repeat (first | apply Kd.R_alloc | apply Kd.R_drewN | apply Kd.R_drew)); exact HO137.out) hb); have n1_ := Aside0.mk (blk_below (g := gb138) (o := .cells #[.int .i64 1, .int .i64 2, .int .i64 1, .slice Ao72 y135.length co72] 39 (0, 0)) (by (with_reducible repeat (first | refine blk_drewN ?_ _ | refine blk_drew ?_ | refine blk_alloc ?_ _)); exact BK138.out) hb); have n2_ := Aside0.mk (below_step (by repeat (first | (with_reducible first | exact HB.out | apply below_alloc | apply pw_below_drewN | apply below_drew1 | refine below_set ?_ GE138.out) | exact HB.out)) hb); clear HO137; clear BK138; clear HB; have HO137 := n0_; have BK138 := n1_; have HB := n2_; clear n0_ n1_ n2_; (try clear hb); (try clear hb2); (try clear hk); (try clear hi); (try simp only [errW_none, errW_some])) | ((with_reducible refine gate_dst (N := 22) rfl ?_); (try (refine gate_guard (by rfl) ?_; dsimp only)); refine Kd.R_make (Kd.int .u8) _ 5 rfl (N := 22) rfl 35 _ _ rfl 64 rfl rfl Try.underlying35 (.int .u8 0) 1 info5 rfl (by decide) (by omega) 0 (ok := fun _ => True) (okp := fun _ => True) rfl (fun _ hk => hk) trivial (by omega) (by omega) (Below.refl _ _) (Nat.le_refl _) ?_; intro v144 w77 ho78 hb hg_ hnew_; clear hg_ hnew_; (first | rw [← Ny143.out] at ho78 | (simp only [Int.reduceToNat] at ho78; rw [← Ny143.out] at ho78)); have n0_ := Aside0.mk (Kd.R_below (by (with_reducible repeat (first | apply Kd.R_alloc | apply Kd.R_drewN | apply Kd.R_drew)); exact HO137.out) hb); have n1_ := Aside0.mk (Kd.R_lower ho78 (below_size (by repeat (first | (with_reducible first | exact HB.out | apply below_alloc | apply pw_below_drewN | apply below_drew1 | refine below_set ?_ GE138.out) | exact HB.out)))); have n2_ := Aside0.mk (blk_below (g := gb138) (o := .cells #[.int .i64 1, .int .i64 2, .int .i64 1, .slice Ao72 y135.length co72] 39 (0, 0)) (by (with_reducible repeat (first | refine blk_drewN ?_ _ | refine blk_drew ?_ | refine blk_alloc ?_ _)); exact BK138.out) hb); have n3_ := Aside0.mk (below_step (by repeat (first | (with_reducible first | exact HB.out | apply below_alloc | apply pw_below_drewN | apply below_drew1 | refine below_set ?_ GE138.out) | exact HB.out)) hb); clear HO137; clear BK138; clear HB; have HO137 := n0_; have HO145 := n1_; have BK138 := n2_; have HB := n3_; clear n0_ n1_ n2_ n3_; clear hb ho78; have hcv79 := own_string (P := Try.prog) Try.underlying35 Try.underlying5 Try.underlying9 (Kd.own_of_R HO145.out)) | ((with_reducible refine gate_callee (f := 12) rfl ?_); refine goesL_ (some 24) rfl rfl Try.func12 (by kernel_rfl) rfl #[.string (strOfNums y143)] rfl (by (try simp only [List.map_toArray, List.map_cons, List.map_nil]); first | done | rfl | (simp only [List.length_drop, List.length_take]; rfl)) ?_; (with_reducible refine (root_ReadHead.calls (strOfNums y143) t146 t147 t148 _ A4.out).mono ?_); rintro e w80 ⟨rfl, hb⟩; refine ⟨_, rfl, ?_⟩; have n0_ := Aside0.mk (Kd.R_below (by (with_reducible repeat (first | apply Kd.R_alloc | apply Kd.R_drewN | apply Kd.R_drew)); exact HO137.out) hb); have n1_ := Aside0.mk (Kd.R_below (by (with_reducible repeat (first | apply Kd.R_alloc | apply Kd.R_drewN | apply Kd.R_drew)); exact HO145.out) hb); have n2_ := Aside0.mk (blk_below (g := gb138) (o := .cells #[.int .i64 1, .int .i64 2, .int .i64 1, .slice Ao72 y135.length co72] 39 (0, 0)) (by (with_reducible repeat (first | refine blk_drewN ?_ _ | refine blk_drew ?_ | refine blk_alloc ?_ _)); exact BK138.out) hb); have n3_ := Aside0.mk (below_step (by repeat (first | (with_reducible first | exact HB.out | apply below_alloc | apply pw_below_drewN | apply below_drew1 | refine below_set ?_ GE138.out) | exact HB.out)) hb); clear HO137; clear HO145; clear BK138; clear HB; have HO137 := n0_; have HO145 := n1_; have BK138 := n2_; have HB := n3_; clear n0_ n1_ n2_ n3_; (try clear hb); (try clear hb2); (try clear hk); (try clear hi); (try simp only [errW_none, errW_some])))
        go_ret
        exact ⟨by first | rfl | (simp [errW_none, errW_some] <;> rfl) | (simp [*, errW_none, errW_some] <;> rfl), by repeat (first | (with_reducible first | exact HB.out | apply below_alloc | apply pw_below_drewN | apply below_drew1 | refine below_set ?_ GE138.out) | exact HB.out)⟩
    · rw [if_neg c5] at H
      have c5b0 : (t139.toList == ([1, 1, 1, 2, 1, 1, 1, 1, 1, 1, 1, 18, 1, 3] : List UInt8)) = false := beq_eq_false_iff_ne.mpr c5
      have c5b1 : (t139.toList != ([1, 1, 1, 2, 1, 1, 1, 1, 1, 1, 1, 18, 1, 3] : List UInt8)) = true := bne_iff_ne.mpr c5
      obtain rfl := Option.some.inj H
      go_enter Try.func9, Try.ntmps9
      go_wp2_with (first | ((with_reducible refine gate_dst (N := 10) rfl ?_); (try (refine gate_guard (by rfl) ?_; dsimp only)); refine Kd.R_lit k42 _ 42 ?hg (N := 10) ?hd (xs := ([(⟨1, 18, 3⟩ : S42)] : List (S42))) (inner := [.int .i64 1, .int .i64 18, .int .i64 3]) (ok := fun _ => True) (okp := fun _ => True) ?hr ?hp (fun _ hk => hk) trivial (Below.refl _ _) (Nat.le_refl _) (by simp) ?_; (case hd => rfl); (case hg => rfl); (case hr => first | (go_simp; done) | (go_simp; rfl)); (case hp => exact (Reps.c3 (show Kd.M k42 _ _ _ (⟨1, 18, 3⟩ : S42) [.int .i64 1, .int .i64 18, .int .i64 3] from (k42_mkM _ _ _ (⟨1, 18, 3⟩ : S42) )) (Reps.none _ _))); intro v136 w81 ho82 hb hg_ hnew_; clear hg_ hnew_; (first | rw [← Ny135.out] at ho82 | (simp only [Int.reduceToNat] at ho82; rw [← Ny135.out] at ho82)); have n0_ := Aside0.mk (Kd.R_lower ho82 (below_size (by repeat (first | (with_reducible first | exact HB.out | apply below_alloc | apply pw_below_drewN | apply below_drew1) | exact HB.out)))); have n1_ := Aside0.mk (below_step (by repeat (first | (with_reducible first | exact HB.out | apply below_alloc | apply pw_below_drewN | apply below_drew1) | exact HB.out)) hb); clear HB; have HO137 := n0_; have HB := n1_; clear n0_ n1_; clear hb ho82; obtain ⟨Ao83, co83, eo83⟩ := Kd.R_slice HO137.out; subst eo83) | ((with_reducible refine gate_dst (N := 1) rfl ?_); (try (refine gate_guard (by rfl) ?_; dsimp only)); refine box_event ?hg (N := 1) ?hd (cs := #[.int .i64 0, .int .i64 0, .int .i64 0, .slice none 0 0]) (t := 39) ?hr ?_; (case hd => rfl); (case hg => rfl); (case hr => first | (go_simp; done) | (go_simp; rfl)); intro gb138 hg w84 hbox hb; have n0_ := Aside0.mk (Kd.R_below (by (with_reducible repeat (first | apply Kd.R_alloc | apply Kd.R_drewN | apply Kd.R_drew)); exact HO137.out) hb); have n1_ := Aside0.mk (below_step (by repeat (first | (with_reducible first | exact HB.out | apply below_alloc | apply pw_below_drewN | apply below_drew1) | exact HB.out)) hb); have n2_ := Aside0.mk (hbox); have n3_ := Aside0.mk ((by rw [hg]; exact (below_size (by repeat (first | (with_reducible first | exact HB.out | apply below_alloc | apply pw_below_drewN | apply below_drew1) | exact HB.out))) : w.heap.size ≤ gb138)); have n4_ := Aside0.mk ((by rw [hg]; exact (below_size (by repeat (first | (with_reducible first | exact HB.out | apply below_alloc | apply pw_below_drewN | apply below_drew1) | exact HB.out))) : w.heap.size ≤ gb138)); clear HO137; clear HB; have HO137 := n0_; have HB := n1_; have BK138 := n2_; have GW138 := n3_; have GE138 := n4_; clear n0_ n1_ n2_ n3_ n4_; clear hb hbox hg; have hcz85_0 : w84.cell? ⟨gb138, 0, none⟩ = some (.int .i64 0) := (blk_cell BK138.out 0).trans rfl; have hcz85_1 : w84.cell? ⟨gb138, 1, none⟩ = some (.int .i64 0) := (blk_cell BK138.out 1).trans rfl; have hcz85_2 : w84.cell? ⟨gb138, 2, none⟩ = some (.int .i64 0) := (blk_cell BK138.out 2).trans rfl; have hcz85_3 : w84.cell? ⟨gb138, 3, none⟩ = some (.slice none 0 0) := (blk_cell BK138.out 3).trans rfl; have hfz85_0 := blk_frozen BK138.out 0; have hfz85_1 := blk_frozen BK138.out 1; have hfz85_2 := blk_frozen BK138.out 2; have hfz85_3 := blk_frozen BK138.out 3) | ((with_reducible refine gate_callee (f := 16) rfl ?_); refine goesL_ (some 14) rfl rfl Try.func16 (by kernel_rfl) rfl #[.int .i64 30, .agg #[.int .i64 1, .int .i64 2, .int .i64 1, .slice Ao83 y135.length co83]] rfl (by (try simp only [List.map_toArray, List.map_cons, List.map_nil]); first | done | rfl | (simp only [List.length_drop, List.length_take]; rfl)) ?_; (with_reducible refine (root_Encode.calls k 30 1 2 1 _ _ y135 t139 t140 _ ?side1 ?side2 A1.out).mono ?_); (case side1 => refine (Kd.R_reads' (e := 42) (base := w.heap.size) (ok := fun k_ => True) (n := y135.length) (c := co83) ?_).2.2; exact (by (with_reducible repeat (first | apply Kd.R_alloc | apply Kd.R_drewN | apply Kd.R_drew)); exact (Kd.R_mono (Kd.R_far (p := ⟨gb138, 3, none⟩) (Kd.R_far (p := ⟨gb138, 2, none⟩) (Kd.R_far (p := ⟨gb138, 1, none⟩) (Kd.R_far (p := ⟨gb138, 0, none⟩) (Kd.R_types HO137.out BK138.out (by decide)) (fun _ hk => hk.2) (.int .i64 1)) (fun _ hk => hk.2) (.int .i64 2)) (fun _ hk => hk.2) (.int .i64 1)) (fun _ hk => hk.2) (.slice Ao83 y135.length co83)) (fun _ h_ => h_.1)))); (case side2 => exact (Kd.R_reads' HO137.out).2.1); rintro e w86 ⟨rfl, hb⟩; refine ⟨_, rfl, ?_⟩; have n0_ := Aside0.mk (Kd.R_below (by (with_reducible repeat (first | apply Kd.R_alloc | apply Kd.R_drewN | apply Kd.R_drew)); exact (Kd.R_mono (Kd.R_far (p := ⟨gb138, 3, none⟩) (Kd.R_far (p := ⟨gb138, 2, none⟩) (Kd.R_far (p := ⟨gb138, 1, none⟩) (Kd.R_far (p := ⟨gb138, 0, none⟩) (Kd.R_types HO137.out BK138.out (by decide)) (fun _ hk => hk.2) (.int .i64 1)) (fun _ hk => hk.2) (.int .i64 2)) (fun _ hk => hk.2) (.int .i64 1)) (fun _ hk => hk.2) (.slice Ao83 y135.length co83)) (fun _ h_ => h_.1))) hb); have n1_ := Aside0.mk (blk_below (g := gb138) (o := .cells #[.int .i64 1, .int .i64 2, .int .i64 1, .slice Ao83 y135.length co83] 39 (0, 0)) (by (with_reducible repeat (first | refine blk_drewN ?_ _ | refine blk_drew ?_ | refine blk_alloc ?_ _)); refine blk_put (cs := #[.int .i64 1, .int .i64 2, .int .i64 1, .slice none 0 0]) ?_ 3 _ rfl; (with_reducible repeat (first | refine blk_drewN ?_ _ | refine blk_drew ?_ | refine blk_alloc ?_ _)); refine blk_put (cs := #[.int .i64 1, .int .i64 2, .int .i64 0, .slice none 0 0]) ?_ 2 _ rfl; (with_reducible repeat (first | refine blk_drewN ?_ _ | refine blk_drew ?_ | refine blk_alloc ?_ _)); refine blk_put (cs := #[.int .i64 1, .int .i64 0, .int .i64 0, .slice none 0 0]) ?_ 1 _ rfl; (with_reducible repeat (first | refine blk_drewN ?_ _ | refine blk_drew ?_ | refine blk_alloc ?_ _)); refine blk_put (cs := #[.int .i64 0, .int .i64 0, .int .i64 0, .slice none 0 0]) ?_ 0 _ rfl; (with_reducible repeat (first | refine blk_drewN ?_ _ | refine blk_drew ?_ | refine blk_alloc ?_ _)); exact BK138.out) hb); have n2_ := Aside0.mk (below_step (by repeat (first | (with_reducible first | exact HB.out | apply below_alloc | apply pw_below_drewN | apply below_drew1 | refine below_set ?_ GE138.out) | exact HB.out)) hb); clear HO137; clear BK138; clear HB; have HO137 := n0_; have BK138 := n1_; have HB := n2_; clear n0_ n1_ n2_; (try clear hb); (try clear hb2); (try clear hk); (try clear hi); (try simp only [errW_none, errW_some])) | ((with_reducible refine gate_callee (f := 10) rfl ?_); refine goesL_ (some 18) rfl rfl Try.func10 (by kernel_rfl) rfl #[.int .i64 1, .int .i64 14] rfl (by (try simp only [List.map_toArray, List.map_cons, List.map_nil]); first | done | rfl | (simp only [List.length_drop, List.length_take]; rfl)) ?_; (with_reducible refine (root_Head.calls 1 14 t141 t142 _ A2.out).mono ?_); rintro e w87 ⟨rfl, hb⟩; refine ⟨_, rfl, ?_⟩; have n0_ := Aside0.mk (Kd.R_below (by (with_reducible repeat (first | apply Kd.R_alloc | apply Kd.R_drewN | apply Kd.R_drew)); exact HO137.out) hb); have n1_ := Aside0.mk (blk_below (g := gb138) (o := .cells #[.int .i64 1, .int .i64 2, .int .i64 1, .slice Ao83 y135.length co83] 39 (0, 0)) (by (with_reducible repeat (first | refine blk_drewN ?_ _ | refine blk_drew ?_ | refine blk_alloc ?_ _)); exact BK138.out) hb); have n2_ := Aside0.mk (below_step (by repeat (first | (with_reducible first | exact HB.out | apply below_alloc | apply pw_below_drewN | apply below_drew1 | refine below_set ?_ GE138.out) | exact HB.out)) hb); clear HO137; clear BK138; clear HB; have HO137 := n0_; have BK138 := n1_; have HB := n2_; clear n0_ n1_ n2_; (try clear hb); (try clear hb2); (try clear hk); (try clear hi); (try simp only [errW_none, errW_some])) | ((with_reducible refine gate_dst (N := 22) rfl ?_); (try (refine gate_guard (by rfl) ?_; dsimp only)); refine Kd.R_make (Kd.int .u8) _ 5 rfl (N := 22) rfl 35 _ _ rfl 64 rfl rfl Try.underlying35 (.int .u8 0) 1 info5 rfl (by decide) (by omega) 0 (ok := fun _ => True) (okp := fun _ => True) rfl (fun _ hk => hk) trivial (by omega) (by omega) (Below.refl _ _) (Nat.le_refl _) ?_; intro v144 w88 ho89 hb hg_ hnew_; clear hg_ hnew_; (first | rw [← Ny143.out] at ho89 | (simp only [Int.reduceToNat] at ho89; rw [← Ny143.out] at ho89)); have n0_ := Aside0.mk (Kd.R_below (by (with_reducible repeat (first | apply Kd.R_alloc | apply Kd.R_drewN | apply Kd.R_drew)); exact HO137.out) hb); have n1_ := Aside0.mk (Kd.R_lower ho89 (below_size (by repeat (first | (with_reducible first | exact HB.out | apply below_alloc | apply pw_below_drewN | apply below_drew1 | refine below_set ?_ GE138.out) | exact HB.out)))); have n2_ := Aside0.mk (blk_below (g := gb138) (o := .cells #[.int .i64 1, .int .i64 2, .int .i64 1, .slice Ao83 y135.length co83] 39 (0, 0)) (by (with_reducible repeat (first | refine blk_drewN ?_ _ | refine blk_drew ?_ | refine blk_alloc ?_ _)); exact BK138.out) hb); have n3_ := Aside0.mk (below_step (by repeat (first | (with_reducible first | exact HB.out | apply below_alloc | apply pw_below_drewN | apply below_drew1 | refine below_set ?_ GE138.out) | exact HB.out)) hb); clear HO137; clear BK138; clear HB; have HO137 := n0_; have HO145 := n1_; have BK138 := n2_; have HB := n3_; clear n0_ n1_ n2_ n3_; clear hb ho89; have hcv90 := own_string (P := Try.prog) Try.underlying35 Try.underlying5 Try.underlying9 (Kd.own_of_R HO145.out)) | ((with_reducible refine gate_callee (f := 12) rfl ?_); refine goesL_ (some 24) rfl rfl Try.func12 (by kernel_rfl) rfl #[.string (strOfNums y143)] rfl (by (try simp only [List.map_toArray, List.map_cons, List.map_nil]); first | done | rfl | (simp only [List.length_drop, List.length_take]; rfl)) ?_; (with_reducible refine (root_ReadHead.calls (strOfNums y143) t146 t147 t148 _ A4.out).mono ?_); rintro e w91 ⟨rfl, hb⟩; refine ⟨_, rfl, ?_⟩; have n0_ := Aside0.mk (Kd.R_below (by (with_reducible repeat (first | apply Kd.R_alloc | apply Kd.R_drewN | apply Kd.R_drew)); exact HO137.out) hb); have n1_ := Aside0.mk (Kd.R_below (by (with_reducible repeat (first | apply Kd.R_alloc | apply Kd.R_drewN | apply Kd.R_drew)); exact HO145.out) hb); have n2_ := Aside0.mk (blk_below (g := gb138) (o := .cells #[.int .i64 1, .int .i64 2, .int .i64 1, .slice Ao83 y135.length co83] 39 (0, 0)) (by (with_reducible repeat (first | refine blk_drewN ?_ _ | refine blk_drew ?_ | refine blk_alloc ?_ _)); exact BK138.out) hb); have n3_ := Aside0.mk (below_step (by repeat (first | (with_reducible first | exact HB.out | apply below_alloc | apply pw_below_drewN | apply below_drew1 | refine below_set ?_ GE138.out) | exact HB.out)) hb); clear HO137; clear HO145; clear BK138; clear HB; have HO137 := n0_; have HO145 := n1_; have BK138 := n2_; have HB := n3_; clear n0_ n1_ n2_ n3_; (try clear hb); (try clear hb2); (try clear hk); (try clear hi); (try simp only [errW_none, errW_some])))
      go_ret
      exact ⟨by first | rfl | (simp [errW_none, errW_some] <;> rfl) | (simp [*, errW_none, errW_some] <;> rfl), by repeat (first | (with_reducible first | exact HB.out | apply below_alloc | apply pw_below_drewN | apply below_drew1 | refine below_set ?_ GE138.out) | exact HB.out)⟩
  · rw [if_neg c3] at H
    exact absurd H (by simp)

end Go.Proofs.Yticajnfmjapkgaa.PD

/-
  Layer 6, the plain part: what a right root's files are; the chapter's examples.
-/
set_option linter.unusedVariables false
set_option linter.unusedSimpArgs false
namespace Go.Proofs.Yticajnfmjapkgaa.PD
open Go.RowKit Go.Proofs.Yticajnfmjapkgaa Go.Proofs.YticajnfmjapkgaaW.PrintWords

theorem ex_first : palinodelaw06_examples.f 40 = some true := by kernel_rfl
theorem ex_some (k : Nat) (hk : 40 ≤ k) : palinodelaw06_examples.f k = some true := by
  obtain ⟨j, rfl⟩ : ∃ j, k = 40 + j := ⟨k - 40, by omega⟩
  clear hk
  induction j with
  | zero => exact ex_first
  | succ j ih => exact palinodelaw06_examples.mono (40 + j) _ ih
theorem fok_cons {next last : Int} {f : FileT} {l : List FileT} (h : fok next last (f :: l) = true) : last < f.f0 ∧ f.f0 < next ∧ 18 ≤ f.f1 ∧ fok next f.f0 l = true := by
  simpa only [fok, Bool.and_eq_true, decide_eq_true_eq] using h
theorem fok_all (next : Int) (l : List FileT) : ∀ last, fok next last l = true → ∀ f ∈ l, last < f.f0 ∧ f.f0 < next ∧ 18 ≤ f.f1 := by
  induction l with
  | nil => intro last _ f hf; simp at hf
  | cons g l ih =>
    intro last h f hf
    obtain ⟨h1, h2, h3, h4⟩ := fok_cons h
    rcases List.mem_cons.1 hf with rfl | hf
    · exact ⟨h1, h2, h3⟩
    · have := ih _ h4 f hf
      exact ⟨by omega, this.2.1, this.2.2⟩
theorem rgood_iff (total seq next cur : Int) (l : List FileT) : rgood total seq next cur l = true ↔ (1 ≤ seq ∧ seq ≤ 9007199254740991 ∧ 1 ≤ next ∧ next ≤ 9007199254740991 ∧ l.length ≤ 24) ∧ fok next 0 l = true ∧ (cur = 0 ∨ ∃ f ∈ l, f.f0 = cur) ∧ good total (l.map runOf) = true := by
  simp [rgood]
theorem good_valid {total : Int} {l : List RunT} (h : good total l = true) : ∀ r ∈ l, valid total r := by
  obtain ⟨_, _, _, h4⟩ := good_of h
  exact ((ok_iff total l).1 h4).1
end Go.Proofs.Yticajnfmjapkgaa.PD

/-
  Layer 6, the plain part of heads: a head's bytes, and what they tell.
-/
set_option linter.unusedVariables false
set_option linter.unusedSimpArgs false
namespace Go.Proofs.Yticajnfmjapkgaa.PD
open Go.RowKit Go.Proofs.Yticajnfmjapkgaa Go.Proofs.YticajnfmjapkgaaW.PrintWords

theorem be_snoc (k : Nat) : ∀ n : Int, pack_Num.be (k + 1) n = pack_Num.be k (n / 256) ++ [n % 256] := by
  induction k with
  | zero => intro n; simp [pack_Num.be]
  | succ k ih =>
    intro n
    have e : n / 256 ^ (k + 1) = n / 256 / 256 ^ k := by
      rw [Int.pow_succ, Int.mul_comm, Int.ediv_ediv_of_nonneg (by omega)]
    have h1 : pack_Num.be (k + 1 + 1) n = n / 256 ^ (k + 1) % 256 :: pack_Num.be (k + 1) n := rfl
    have h2 : pack_Num.be (k + 1) (n / 256) = n / 256 / 256 ^ k % 256 :: pack_Num.be k (n / 256) := rfl
    rw [h1, ih n, h2, e]
    rfl
theorem be_bound (k : Nat) (n : Int) : ∀ x ∈ pack_Num.be k n, 0 ≤ x ∧ x < 256 := by
  induction k with
  | zero => intro x hx; simp [pack_Num.be] at hx
  | succ k ih =>
    intro x hx
    simp only [pack_Num.be, List.mem_cons] at hx
    rcases hx with rfl | hx
    · omega
    · exact ih x hx
def headL (s z : Int) : List Int := [80, 76] ++ (pack_Num.be 7 s ++ (pack_Num.be 2 z ++ (List.replicate 45 0 ++ (pack_Num.be 7 s ++ [69]))))
theorem cells_eq (s z : Int) : root_Head.cells s z = headL s z := by rfl
theorem headL_length (s z : Int) : (headL s z).length = 64 := by simp [headL, root_Head.be_length]
theorem headL_bound (s z : Int) : ∀ x ∈ headL s z, 0 ≤ x ∧ x < 256 := by
  intro x hx
  simp only [headL, List.mem_append] at hx
  rcases hx with hx | hx | hx | hx | hx | hx
  · simp at hx; omega
  · exact be_bound _ _ x hx
  · exact be_bound _ _ x hx
  · have := (List.mem_replicate.1 hx).2; omega
  · exact be_bound _ _ x hx
  · simp at hx; omega
theorem bytesOf_str (l : List Int) (h : ∀ x ∈ l, 0 ≤ x ∧ x < 256) : bytesOf (strOfNums l) = l := by
  unfold bytesOf strOfNums
  simp only [List.map_map]
  conv => rhs; rw [← List.map_id l]
  apply List.map_congr_left
  intro x hx
  have := h x hx
  simp
  omega
theorem bytesOf_inj {a b : ByteArray} (h : bytesOf a = bytesOf b) : a = b := by
  apply ByteArray.ext
  apply Array.toList_inj.1
  unfold bytesOf at h
  exact List.map_inj_right (f := fun x : UInt8 => (x.toNat : Int)) (fun x y e => UInt8.toNat_inj.1 (Int.ofNat.inj e)) |>.1 h
theorem bytesOf_append (a b : ByteArray) : bytesOf (a ++ b) = bytesOf a ++ bytesOf b := by
  simp [bytesOf, ByteArray.data_append]
theorem bytesOf_extract (a : ByteArray) (i j : Nat) : bytesOf (a.extract i j) = ((bytesOf a).drop i).take (j - i) := by
  simp [bytesOf, ByteArray.data_extract, List.map_take, List.map_drop]
theorem str_size (l : List Int) : (strOfNums l).size = l.length := by
  exact strOfNums_size l
/-- A head's ranges. -/
def inR (s z : Int) : Prop := 1 ≤ s ∧ s ≤ 9007199254740991 ∧ 0 ≤ z ∧ z ≤ 512
instance (s z : Int) : Decidable (inR s z) := by unfold inR; exact inferInstance
theorem Head_some (s z : Int) : root_Head.f s z = some (if inR s z then (strOfNums (headL s z), none) else (⟨#[]⟩, some 1)) := by
  unfold root_Head.f
  by_cases h : inR s z
  · have : ¬ (s < 1 ∨ 9007199254740991 < s ∨ z < 0 ∨ 512 < z) := by unfold inR at h; omega
    rw [if_pos h, if_neg this, cells_eq]
  · have : s < 1 ∨ 9007199254740991 < s ∨ z < 0 ∨ 512 < z := by unfold inR at h; omega
    rw [if_neg h, if_pos this]
theorem headL_92 (s z : Int) : ((headL s z).drop 9).take 2 = pack_Num.be 2 z := by
  rw [headL, ← List.append_assoc, List.drop_left' (by simp [root_Head.be_length]), List.take_left' (by simp [root_Head.be_length])]
end Go.Proofs.Yticajnfmjapkgaa.PD

-- printed by gprint.py (own tool) over the kit's print
namespace Go.Proofs.Yticajnfmjapkgaa.PD
open Go.RowKit Go.Proofs.Yticajnfmjapkgaa Go.Proofs.YticajnfmjapkgaaW.PrintWords Go.Proofs.YticajnfmjapkgaaW.PrintLast Go.Proofs.YticajnfmjapkgaaW.PrintMore
attribute [local go_sem] max2_int min2_int max_two min_two max_three min_three max_four min_four   -- for this text's walks alone
set_option linter.unnecessarySimpa false
attribute [local go_sem] min2_str max2_str leq_str gtr_str geq_str
set_option linter.unusedVariables false
set_option linter.unusedSimpArgs false

/-! ### root_Decode: function 19 -/
/-! pack.ReadNum, that the closure calls -/
/-- The number that bytes make, the greatest first. -/
def pack_ReadNum.num (l : List Int) : Int := l.foldl (fun a c => a * 256 + c) 0
theorem pack_ReadNum.num_snoc (l : List Int) (c : Int) : pack_ReadNum.num (l ++ [c]) = pack_ReadNum.num l * 256 + c := by simp [pack_ReadNum.num]
theorem pack_ReadNum.fold_bound (l : List Int) : ∀ a : Int, 0 ≤ a → (∀ x ∈ l, 0 ≤ x ∧ x < 256) → 0 ≤ l.foldl (fun a c => a * 256 + c) a ∧ l.foldl (fun a c => a * 256 + c) a < (a + 1) * 256 ^ l.length := by
  induction l with
  | nil => intro a ha _; simp; omega
  | cons x l ih =>
    intro a ha hb
    have hx := hb x (by simp)
    obtain ⟨h1, h2⟩ := ih (a * 256 + x) (by omega) (fun y hy => hb y (by simp [hy]))
    refine ⟨h1, Int.lt_of_lt_of_le h2 ?_⟩
    rw [List.length_cons, Int.pow_succ, ← Int.mul_assoc, Int.mul_right_comm]
    exact Int.mul_le_mul_of_nonneg_right (by omega) (Int.le_of_lt (Int.pow_pos (by omega)))
theorem pack_ReadNum.num_small (l : List Int) (hb : ∀ x ∈ l, 0 ≤ x ∧ x < 256) (hl : l.length ≤ 7) : 0 ≤ pack_ReadNum.num l ∧ pack_ReadNum.num l < 72057594037927936 := by
  obtain ⟨h1, h2⟩ := pack_ReadNum.fold_bound l 0 (Int.le_refl _) hb
  refine ⟨h1, Int.lt_of_lt_of_le h2 ?_⟩
  rw [Int.zero_add, Int.one_mul]
  have h3 := Nat.pow_le_pow_right (n := 256) (by omega) hl
  have this : (256 : Int) ^ l.length ≤ ((256 ^ 7 : Nat) : Int) := by
    have h4 : (((256 ^ l.length : Nat)) : Int) ≤ ((256 ^ 7 : Nat) : Int) := Int.ofNat_le.2 h3
    rwa [Int.natCast_pow] at h4
  exact Int.le_trans this (by decide)
theorem pack_ReadNum.num_six (l : List Int) (hb : ∀ x ∈ l, 0 ≤ x ∧ x < 256) (hl : l.length ≤ 6) : 0 ≤ pack_ReadNum.num l ∧ pack_ReadNum.num l ≤ 281474976710655 := by
  obtain ⟨h1, h2⟩ := pack_ReadNum.fold_bound l 0 (Int.le_refl _) hb
  refine ⟨h1, Int.le_of_lt_add_one (Int.lt_of_lt_of_le h2 ?_)⟩
  rw [Int.zero_add, Int.one_mul]
  have h3 := Nat.pow_le_pow_right (n := 256) (by omega) hl
  have this : (256 : Int) ^ l.length ≤ ((256 ^ 6 : Nat) : Int) := by
    have h4 : (((256 ^ l.length : Nat)) : Int) ≤ ((256 ^ 6 : Nat) : Int) := Int.ofNat_le.2 h3
    rwa [Int.natCast_pow] at h4
  exact Int.le_trans this (by decide)
theorem pack_ReadNum.size_loop : ∀ (m k : Nat) (x : Int) (a : Nat), pack_Num.sz m x < m → a + m ≤ 100 → m + 1 ≤ k → pack_size.l0 k x (a : Int) = some ((a + pack_Num.sz m x : Nat) : Int) := by
  intro m
  induction m with
  | zero => intro k x a h; omega
  | succ m ih =>
    intro k x a hs ha hk
    obtain ⟨k, rfl⟩ : ∃ q, k = q + 1 := ⟨k - 1, by omega⟩
    simp only [pack_size.l0]
    simp only [pack_Num.sz] at hs ⊢
    by_cases h : 0 < x
    · rw [if_pos h] at hs ⊢
      have E1 : Hid (wrap64 ((a : Int) + 1) = ((a + 1 : Nat) : Int)) := Lib.hid (by unfold wrap64; omega)
      rw [if_pos (by omega), E1.out, ih k (x / 256) (a + 1) (by omega) (by omega) (by omega)]
      congr 2
      omega
    · rw [if_neg h, if_neg (by omega)]
      simp
theorem pack_ReadNum.size_some (n : Int) (h0 : n < 72057594037927936) : pack_size.f 10 n = some ((pack_Num.sz 8 n : Nat) : Int) := by
  have h := pack_Num.sz_le 7 8 n (by omega)
  have := pack_ReadNum.size_loop 8 10 n 0 (by omega) (by omega) (by omega)
  unfold pack_size.f
  simpa using this
def pack_ReadNum.tell (b : ByteArray) : Int × ByteArray × Option Int :=
  if b.size = 0 then (0, ⟨#[]⟩, some 2) else if 7 < bt b 0 then (0, ⟨#[]⟩, some 3) else if (b.size : Int) ≤ bt b 0 then (0, ⟨#[]⟩, some 2) else
    if ((pack_Num.sz 8 (pack_ReadNum.num (((bytesOf b).drop 1).take (bt b 0).toNat)) : Nat) : Int) ≠ bt b 0 ∨ 9007199254740991 < pack_ReadNum.num (((bytesOf b).drop 1).take (bt b 0).toNat) then (0, ⟨#[]⟩, some 3)
    else (pack_ReadNum.num (((bytesOf b).drop 1).take (bt b 0).toNat), b.extract (1 + (bt b 0).toNat) b.size, none)
def pack_ReadNum.f (a0 : ByteArray) : Option (Int × ByteArray × Option Int) := some (pack_ReadNum.tell a0)
set_option maxHeartbeats 4000000 in
set_option maxRecDepth 100000 in
theorem pack_ReadNum.calls (a0 : ByteArray) (r1 : Int) (r2 : ByteArray) (r3 : Option Int) (w : World) (h : pack_ReadNum.f a0 = some (r1, r2, r3)) :
    Calls Try.prog 29 #[.string a0] w fun e w' => e = .returned (.tuple #[.int .i64 r1, .string r2, errW r3]) ∧ Below w.heap.size w w' := by
  have H : pack_ReadNum.tell a0 = (r1, r2, r3) := Option.some.inj h
  clear h
  unfold pack_ReadNum.tell at H
  have hb0 := bt_range a0 0
  by_cases c1 : a0.size = 0
  · rw [if_pos c1] at H
    simp only [Prod.mk.injEq] at H
    obtain ⟨rfl, rfl, rfl⟩ := H
    have e0 : a0 = ⟨#[]⟩ := by
      apply ByteArray.ext
      exact Array.eq_empty_of_size_eq_zero c1
    subst e0
    clear c1 hb0
    go_enter Try.func29, Try.ntmps29
    go_wp2
    go_ret3
    exact ⟨by simp [errW_some], Below.refl _ _⟩
  · rw [if_neg c1] at H
    have hne : (a0.toList == ([] : List UInt8)) = false := by
      rw [ByteArray.toList_eq, beq_eq_false_iff_ne]
      intro q
      apply c1
      have := congrArg List.length q
      simpa using this
    have hpos : 0 < a0.size := by omega
    have hat : (((a0[0]'hpos).toNat : Nat) : Int) = bt a0 0 := bt_at a0 0 hpos
    obtain ⟨k, hk⟩ : ∃ k : Nat, bt a0 0 = k := ⟨(bt a0 0).toNat, by omega⟩
    rw [hk] at H hb0 hat
    have hw : wrap64 (k : Int) = k := by unfold wrap64; omega
    by_cases c2 : 7 < (k : Int)
    · rw [if_pos c2] at H
      simp only [Prod.mk.injEq] at H
      obtain ⟨rfl, rfl, rfl⟩ := H
      clear c1
      go_enter Try.func29, Try.ntmps29
      go_wp2
      go_ret3
      exact ⟨by simp [errW_some], Below.refl _ _⟩
    · rw [if_neg c2] at H
      by_cases c3 : (a0.size : Int) ≤ k
      · rw [if_pos c3] at H
        simp only [Prod.mk.injEq] at H
        obtain ⟨rfl, rfl, rfl⟩ := H
        clear c1
        go_enter Try.func29, Try.ntmps29
        go_wp2
        go_ret3
        exact ⟨by simp [errW_some], Below.refl _ _⟩
      · rw [if_neg c3, Int.toNat_natCast] at H
        have H := Aside0.mk H
        have hk7 : k ≤ 7 := by omega
        have hks : 1 + k ≤ a0.size := by omega
        have hw1 : wrap64 (1 + (k : Int)) = ((1 + k : Nat) : Int) := by unfold wrap64; omega
        have hsz : (a0.extract 1 (1 + k)).size = k := by rw [ByteArray.size_extract]; omega
        have kb := fun W => print_bytes (P := Try.prog) 9 35 5 Try.underlying9 Try.underlying35 Try.underlying5 (a0.extract 1 (1 + k)) W
        clear c1
        go_enter Try.func29, Try.ntmps29
        have hs8 : ∀ W, (Instr.slice 9 (.string a0) (some (.int .i64 1)) (some (.int .i64 (1 + (k : Int)))) none).run Try.prog W = .ok (.string (a0.extract 1 (1 + k))) W := fun W => by
          have := run_slice_string (P := Try.prog) (w := W) 9 a0 .i64 .i64 1 (1 + (k : Int)) Try.underlying9 (by omega) (by omega) (by omega)
          rw [this]
          congr 3
        go_upto_region 8 with (fail)
        go_wp2_with (fail)
        obtain ⟨L, hL⟩ : ∃ L, L = ((bytesOf a0).drop 1).take k := ⟨_, rfl⟩
        have hbs : bytesOf (a0.extract 1 (1 + k)) = L := by
          rw [hL]
          simp only [bytesOf, ByteArray.data_extract, Array.toList_extract, List.map_take, List.map_drop, List.extract_eq_take_drop]
          congr 1
          omega
        have hLb : ∀ x ∈ L, 0 ≤ x ∧ x < 256 := by
          intro x hx
          rw [← hbs] at hx
          unfold bytesOf at hx
          obtain ⟨y, _, rfl⟩ := List.mem_map.1 hx
          have := y.toNat_lt
          omega
        have hLl : L.length = k := by rw [← hbs, bytesOf_length, hsz]
        have hcell : ∀ j, j < k → (Lib.bytesWorld w 5 (a0.extract 1 (1 + k))).cell? ⟨w.heap.size, j, none⟩ = some (.int .u8 (L.getD j 0)) := by
          intro j hj
          have h : ReadsInt (Lib.bytesWorld w 5 (a0.extract 1 (1 + k))) .u8 (some ⟨w.heap.size, 0, none⟩) (a0.extract 1 (1 + k)).size (bytesOf (a0.extract 1 (1 + k))) := bytes_reads w 5 (a0.extract 1 (1 + k)) (by omega)
          rw [hbs, hsz] at h
          obtain ⟨ad, e, hc⟩ := h.2.2 (by omega)
          injection e with e
          subst e
          have := hc j hj
          rwa [add_plain] at this
        have HBW := Aside0.mk (bytes_below (Below.refl w.heap.size w) (Nat.le_refl _) 5 (a0.extract 1 (1 + k)))
        have HC := Aside0.mk hcell
        have HLB := Aside0.mk hLb
        have HLL := Aside0.mk hLl
        have HL := Aside0.mk hL
        clear hcell hLb hLl hL hbs kb hs8
        generalize Lib.bytesWorld w 5 (a0.extract 1 (1 + k)) = w2 at HBW HC ⊢
        go_loop [2, 30] (fun v i => ∃ j : Nat, j ≤ k ∧ i = .int .i64 j ∧ v = .int .i64 (pack_ReadNum.num (L.take j))) (fun _ i => k - (intOf i).toNat)
        case atStart => exact ⟨0, Nat.zero_le _, rfl, rfl⟩
        case round =>
          obtain ⟨j, hj, rfl, rfl⟩ := hrel
          by_cases hlt : j < k
          · have hc := HC.out j hlt
            obtain ⟨c, hc0⟩ : ∃ c : Int, c = L.getD j 0 := ⟨_, rfl⟩
            rw [← hc0] at hc
            have hjl : j < L.length := by rw [HLL.out]; exact hlt
            have hcm : c ∈ L := by rw [hc0, List.getD_eq_getElem?_getD, List.getElem?_eq_getElem hjl]; exact List.getElem_mem _
            obtain ⟨c1, c2⟩ := HLB.out c hcm
            obtain ⟨v, hv⟩ : ∃ v, v = pack_ReadNum.num (L.take j) := ⟨_, rfl⟩
            rw [← hv]
            have vb : 0 ≤ v ∧ v ≤ 281474976710655 := by rw [hv]; exact pack_ReadNum.num_six _ (fun x hx => HLB.out x (List.mem_of_mem_take hx)) (by simp; omega)
            obtain ⟨v1, v2⟩ := vb
            have hor := or_byte v c v1 (by omega) c1 c2
            have hsn : pack_ReadNum.num (L.take (j + 1)) = v * 256 + c := by
              rw [List.take_succ_eq_append_getElem hjl, pack_ReadNum.num_snoc, ← hv, hc0]
              simp [List.getD, hjl]
            have HSN := Aside0.mk hsn
            clear hc0 hv hsn hcm
            go_wp2
            exact ⟨⟨j + 1, by omega, by go_num, by rw [HSN.out]⟩, by simp [intOf]; omega⟩
          · obtain rfl : j = k := by omega
            have htl : L.take j = L := List.take_of_length_le (by rw [HLL.out]; exact Nat.le_refl _)
            rw [htl]
            have hn := pack_ReadNum.num_small L HLB.out (by rw [HLL.out]; exact hk7)
            have hsm := pack_ReadNum.size_some (pack_ReadNum.num L) hn.2
            have H2 := Aside0.mk (show (if ((pack_Num.sz 8 (pack_ReadNum.num L) : Nat) : Int) ≠ (j : Int) ∨ 9007199254740991 < pack_ReadNum.num L then ((0 : Int), (⟨#[]⟩ : ByteArray), some (3 : Int)) else (pack_ReadNum.num L, a0.extract (1 + j) a0.size, none)) = (r1, r2, r3) by rw [HL.out]; exact H.out)
            have HSM := Aside0.mk hsm
            clear H htl hsm HC HLB HLL HL
            generalize pack_ReadNum.num L = n at hn H2 HSM ⊢
            obtain ⟨n1, n2⟩ := hn
            obtain ⟨z, hz⟩ : ∃ z : Int, z = ((pack_Num.sz 8 n : Nat) : Int) := ⟨_, rfl⟩
            rw [← hz] at H2 HSM
            clear hz
            go_wp2_with fail
            refine (pack_size.calls 10 n _ w2 HSM.out).mono ?_
            rintro e w3 ⟨rfl, hd⟩
            have HBB := Aside0.mk (below_step HBW.out (hd.below))
            clear hd HBW HSM
            by_cases c4 : z = (j : Int)
            · by_cases c5 : 9007199254740991 < n
              · have H3 := H2.out
                rw [if_pos (Or.inr c5)] at H3
                simp only [Prod.mk.injEq] at H3
                obtain ⟨rfl, rfl, rfl⟩ := H3
                subst c4
                clear H2
                go_wp2
                go_ret3
                exact ⟨by simp [errW_some], HBB.out⟩
              · have H3 := H2.out
                rw [if_neg (by omega)] at H3
                simp only [Prod.mk.injEq] at H3
                obtain ⟨rfl, rfl, rfl⟩ := H3
                subst c4
                clear H2
                have hs15 : ∀ W, (Instr.slice 9 (.string a0) (some (.int .i64 (1 + (j : Int)))) none none).run Try.prog W = .ok (.string (a0.extract (1 + j) a0.size)) W := fun W => by
                  have := run_slice_string_l (P := Try.prog) (w := W) (t := 9) (s := a0) Try.underlying9 .i64 (1 + (j : Int)) (by omega) (by omega)
                  rw [this]
                  congr 3
                go_wp2
                refine start_ (n := 8) (S := fun w' => Below w.heap.size w w') (ds := []) #[false, false, false, false, false, false, false, false] (by kernel_rfl) rfl rfl (below_drew HBB.out) (fun hHeld => ?_)
                generalize w3.drew = w4 at hHeld ⊢
                clear HBB
                refine pure_ (i := 0) (N := some 49) (v := ?_) (a' := ?_) #[true, false, false, false, false, false, false, false] rfl rfl (by kernel_rfl) (fun _ _ _ h => h) (Or.inl ⟨by rfl, ?_⟩) ?_ ?_
                rotate_left
                · intro w'
                  go_simp
                  with_reducible rfl
                rotate_left
                · simp only [Act.put, List.setIfInBounds_toArray, List.set_cons_zero, List.set_cons_succ, i64_w, i32_w]
                  rfl
                refine pure_ (i := 1) (N := some 50) (v := ?_) (a' := ?_) #[true, true, false, false, false, false, false, false] rfl rfl (by kernel_rfl) (fun _ _ _ h => h) (Or.inl ⟨by rfl, ?_⟩) ?_ ?_
                rotate_left
                · intro w'
                  go_simp
                  with_reducible rfl
                rotate_left
                · simp only [Act.put, List.setIfInBounds_toArray, List.set_cons_zero, List.set_cons_succ, i64_w, i32_w]
                  rfl
                refine pure_ (i := 2) (N := some 51) (v := ?_) (a' := ?_) #[true, true, true, false, false, false, false, false] rfl rfl (by kernel_rfl) (fun _ _ _ h => h) (Or.inl ⟨by rfl, ?_⟩) ?_ ?_
                rotate_left
                · intro w'
                  go_simp
                  with_reducible rfl
                rotate_left
                · simp only [Act.put, List.setIfInBounds_toArray, List.set_cons_zero, List.set_cons_succ, i64_w, i32_w]
                  rfl
                refine pure_ (i := 3) (N := some 52) (v := ?_) (a' := ?_) #[true, true, true, true, false, false, false, false] rfl rfl (by kernel_rfl) (fun _ _ _ h => h) (Or.inl ⟨by rfl, ?_⟩) ?_ ?_
                rotate_left
                · intro w'
                  go_simp
                  with_reducible rfl
                rotate_left
                · simp only [Act.put, List.setIfInBounds_toArray, List.set_cons_zero, List.set_cons_succ, i64_w, i32_w]
                  rfl
                refine pure_ (i := 4) (N := some 53) (v := ?_) (a' := ?_) #[true, true, true, true, true, false, false, false] rfl rfl (by kernel_rfl) (fun _ _ _ h => h) (Or.inl ⟨by rfl, ?_⟩) ?_ ?_
                rotate_left
                · intro w'
                  go_simp
                  with_reducible rfl
                rotate_left
                · simp only [Act.put, List.setIfInBounds_toArray, List.set_cons_zero, List.set_cons_succ, i64_w, i32_w]
                  rfl
                refine pure_ (i := 5) (N := some 2) (v := ?_) (a' := ?_) #[true, true, true, true, true, true, false, false] rfl rfl (by kernel_rfl) (fun _ _ _ h => h) (Or.inl ⟨by rfl, ?_⟩) ?_ ?_
                rotate_left
                · intro w'
                  go_simp
                  with_reducible rfl
                rotate_left
                · simp only [Act.put, List.setIfInBounds_toArray, List.set_cons_zero, List.set_cons_succ, i64_w, i32_w]
                  rfl
                refine pure_ (i := 6) (N := some 3) (v := ?_) (a' := ?_) #[true, true, true, true, true, true, true, false] rfl rfl (by kernel_rfl) (fun _ _ _ h => h) (Or.inl ⟨by rfl, ?_⟩) ?_ ?_
                rotate_left
                · intro w'
                  go_simp
                  with_reducible rfl
                rotate_left
                · simp only [Act.put, List.setIfInBounds_toArray, List.set_cons_zero, List.set_cons_succ, i64_w, i32_w]
                  rfl
                refine pure_ (i := 7) (N := some 4) (v := ?_) (a' := ?_) #[true, true, true, true, true, true, true, true] rfl rfl (by kernel_rfl) (fun _ _ _ h => h) (Or.inl ⟨by rfl, ?_⟩) ?_ ?_
                rotate_left
                · intro w'
                  go_simp
                  with_reducible rfl
                rotate_left
                · simp only [Act.put, List.setIfInBounds_toArray, List.set_cons_zero, List.set_cons_succ, i64_w, i32_w]
                  rfl
                refine done_ (by kernel_rfl) ?_
                go_wp2
                go_ret3
                exact ⟨by simp [errW_none], hHeld⟩
            · have H3 := H2.out
              rw [if_pos (Or.inl c4)] at H3
              simp only [Prod.mk.injEq] at H3
              obtain ⟨rfl, rfl, rfl⟩ := H3
              clear H2
              go_wp2
              go_ret3
              exact ⟨by simp [errW_some], HBB.out⟩
/-- What a number's reading leaves. -/
def root_Decode.stepN (b : ByteArray) (e : Option Int) : ByteArray × Option Int := if e.isNone = true then ((pack_ReadNum.tell b).2.1, (pack_ReadNum.tell b).2.2) else (b, e)
theorem root_Decode.errW_one (e : Option Int) : (errW e).oneCell' = true := by cases e <;> rfl
theorem root_Decode.errW_cells (e : Option Int) : (errW e).cells = #[errW e] := by cases e <;> rfl
set_option maxHeartbeats 4000000 in
set_option maxRecDepth 100000 in
theorem root_Decode.next_ (gt i g3 g5 : Nat) (T : TypeId) (cs : Array Value) (old : Int) (b : ByteArray) (e : Option Int) (W : World) (hi : cs[i]? = some (.int .i64 old))
    (h35 : g3 ≠ g5) (ht3 : gt ≠ g3) (ht5 : gt ≠ g5)
    (ht : W.heap[gt]? = some (.cells cs T (0, 0))) (h3 : W.heap[g3]? = some (.cells #[.string b] 9 (0, 0))) (h5 : W.heap[g5]? = some (.cells #[errW e] 24 (0, 0))) :
    Calls Try.prog 28 #[.pointer (some ⟨gt, i, none⟩), .pointer (some ⟨g5, 0, none⟩), .pointer (some ⟨g3, 0, none⟩)] W fun en w' => en = .returned (.tuple #[]) ∧ w'.heap[gt]? = some (.cells (if e.isNone = true then cs.setIfInBounds i (.int .i64 (pack_ReadNum.tell b).1) else cs) T (0, 0)) ∧
      w'.heap[g3]? = some (.cells #[.string (root_Decode.stepN b e).1] 9 (0, 0)) ∧ w'.heap[g5]? = some (.cells #[errW (root_Decode.stepN b e).2] 24 (0, 0)) ∧ (∀ k, k < W.heap.size → k ≠ gt → k ≠ g3 → k ≠ g5 → w'.heap[k]? = W.heap[k]?) ∧ (∀ w0 : World, w0.heap.size ≤ gt → w0.heap.size ≤ g3 → w0.heap.size ≤ g5 → Below w0.heap.size w0 W → Below w0.heap.size w0 w') := by
  have HT := Aside0.mk ht
  have H3 := Aside0.mk h3
  have H5 := Aside0.mk h5
  have hc5 := (blk_cell h5 0).trans rfl
  have hf5 := blk_frozen h5 0
  clear ht h3 h5
  cases e with
  | some x =>
    simp only [errW_some] at hc5
    go_enter Try.func28, Try.ntmps28
    go_wp2
    go_end0
    refine ⟨rfl, HT.out, H3.out, H5.out, fun _ _ _ _ _ => rfl, fun _ _ _ _ q => q⟩
  | none =>
    simp only [errW_none] at hc5
    obtain ⟨n, b2, e2, htl⟩ : ∃ n b2 e2, pack_ReadNum.tell b = (n, b2, e2) := ⟨_, _, _, rfl⟩
    have hf : pack_ReadNum.f b = some (n, b2, e2) := by rw [← htl]; rfl
    have hc3 := (blk_cell H3.out 0).trans rfl
    have HTL := Aside0.mk htl
    have HF := Aside0.mk hf
    clear htl hf
    go_enter Try.func28, Try.ntmps28
    go_wp2_with (fail)
    refine (pack_ReadNum.calls b n b2 e2 W HF.out).mono ?_
    rintro e w1 ⟨rfl, hb⟩
    have T1 := Aside0.mk (blk_below HT.out hb)
    have B1 := Aside0.mk (blk_below H3.out hb)
    have E1 := Aside0.mk (blk_below H5.out hb)
    have O1 := Aside0.mk (hb)
    clear hb hc5 hf5 hc3 HF HT H3 H5
    go_wp2_with (first | ((with_reducible refine gate_store (t := 3) (p := 13) (v := .tmp 10) rfl ?_); refine put_event rfl 3 (.tmp 13) (.tmp 10) rfl gt i rfl (.int .i64 n) cs T rfl T1.out (by kernel_rfl) (by have := Array.getElem?_eq_some_iff.1 hi; exact this.1) rfl rfl ?_; intro w2 q1 q2 q3; have T2 := Aside0.mk q1; have B2 := Aside0.mk (blk_grown B1.out q2 (by intro q; injection q with q; exact ht3 q.symm)); have E2 := Aside0.mk (blk_grown E1.out q2 (by intro q; injection q with q; exact ht5 q.symm)); have G2 := Aside0.mk q2; have Z2 := Aside0.mk q3; clear q1 q2 q3) | ((with_reducible refine gate_store (t := 9) (p := 2) (v := .tmp 11) rfl ?_); refine put_event rfl 9 (.tmp 2) (.tmp 11) rfl g3 0 rfl (.string b2) _ _ rfl B2.out (by kernel_rfl) (by simp) rfl rfl ?_; intro w3 q1 q2 q3; have T3 := Aside0.mk (blk_grown T2.out q2 (by intro q; injection q with q; exact ht3 q)); have B3 := Aside0.mk q1; have E3 := Aside0.mk (blk_grown E2.out q2 (by intro q; injection q with q; exact h35 q.symm)); have G3 := Aside0.mk q2; have Z3 := Aside0.mk q3; clear q1 q2 q3) | ((with_reducible refine gate_store (t := 24) (p := 1) (v := .tmp 12) rfl ?_); refine put_event rfl 24 (.tmp 1) (.tmp 12) rfl g5 0 rfl (errW e2) _ _ rfl E3.out (by kernel_rfl) (by simp) (root_Decode.errW_one e2) (root_Decode.errW_cells e2) ?_; intro w4 q1 q2 q3; have T4 := Aside0.mk (blk_grown T3.out q2 (by intro q; injection q with q; exact ht5 q)); have B4 := Aside0.mk (blk_grown B3.out q2 (by intro q; injection q with q; exact h35 q)); have E4 := Aside0.mk q1; have G4 := Aside0.mk q2; have Z4 := Aside0.mk q3; clear q1 q2 q3))
    go_end0
    have HT2 := HTL.out
    refine ⟨rfl, ?_, ?_, ?_, fun k hk n1 n2 n3 => ?_, fun w0 q1 q2 q3 q4 => ?_⟩
    · rw [HT2]; exact T4.out
    · have := B4.out; simpa [root_Decode.stepN, HT2] using this
    · have := E4.out; simpa [root_Decode.stepN, HT2] using this
    · have hk1 : k < w1.heap.size := Nat.lt_of_lt_of_le hk O1.out.size
      have hk2 : k < w2.heap.size := by rw [Z2.out]; exact hk1
      have hk3 : k < w3.heap.size := by rw [Z3.out]; exact hk2
      rw [G4.out.block k hk3 (by intro q; injection q with q; exact n3 q), G3.out.block k hk2 (by intro q; injection q with q; exact n2 q), G2.out.block k hk1 (by intro q; injection q with q; exact n1 q)]
      exact O1.out.block k hk
    · have s1 := below_step q4 O1.out
      have s2 := pw_below_grown s1 (some gt) s1.size G2.out (fun k e => by injection e with e; omega)
      have s3 := pw_below_grown s2 (some g3) s2.size G3.out (fun k e => by injection e with e; omega)
      exact pw_below_grown s3 (some g5) s3.size G4.out (fun k e => by injection e with e; omega)

/-- A number read into what was there. -/
def root_Decode.rd (old : Int) (b : ByteArray) (e : Option Int) : Int × ByteArray × Option Int := if e.isNone = true then pack_ReadNum.tell b else (old, b, e)
/-- What a reading knows so far. -/
structure root_Decode.Q where
  x1 : Int
  x2 : Int
  x3 : Int
  m : Int
  b : ByteArray
  e : Option Int
def root_Decode.fs (j : Nat) (t : root_Decode.Q) : root_Decode.Q := match j with
  | 0 => let r := root_Decode.rd t.x1 t.b t.e; ⟨r.1, t.x2, t.x3, t.m, r.2.1, r.2.2⟩
  | 1 => let r := root_Decode.rd t.x2 t.b t.e; ⟨t.x1, r.1, t.x3, t.m, r.2.1, r.2.2⟩
  | 2 => let r := root_Decode.rd t.x3 t.b t.e; ⟨t.x1, t.x2, r.1, t.m, r.2.1, r.2.2⟩
  | _ => let r := root_Decode.rd t.m t.b t.e; ⟨t.x1, t.x2, t.x3, r.1, r.2.1, r.2.2⟩
def root_Decode.go4 (t : root_Decode.Q) : Nat → root_Decode.Q
  | 0 => t
  | j + 1 => root_Decode.fs j (root_Decode.go4 t j)
def root_Decode.rows : Nat → ByteArray → Option Int → List S42 → List S42 × ByteArray × Option Int
  | 0, b, e, l => (l, b, e)
  | n + 1, b, e, l => if e.isNone = true then (let t := root_Decode.go4 ⟨0, 0, 0, 0, b, e⟩ 3; root_Decode.rows n t.b t.e (l ++ [⟨t.x1, t.x2, t.x3⟩])) else (l, b, e)
def root_Decode.pre (b : ByteArray) : root_Decode.Q × List S42 × ByteArray × Option Int :=
  let t := root_Decode.go4 ⟨0, 0, 0, 0, b, none⟩ 4
  let e := if t.e.isNone = true ∧ 24 < t.m then some 5 else t.e
  (t, root_Decode.rows t.m.toNat t.b e [])
/-- The blocks of a reading: what lies in each. -/
structure root_Decode.St (w0 : World) (base gb gr ge gm : Nat) (ok : Nat → Prop) (W : World) (b : ByteArray) (x1 x2 x3 : Int) (v : Value) (e : Option Int) (m : Int) (l : List S42) : Prop where
  hb : W.heap[gb]? = some (.cells #[.string b] 9 (0, 0))
  hr : W.heap[gr]? = some (.cells #[.int .i64 x1, .int .i64 x2, .int .i64 x3, v] 39 (0, 0))
  he : W.heap[ge]? = some (.cells #[errW e] 24 (0, 0))
  hm : W.heap[gm]? = some (.cells #[.int .i64 m] 3 (0, 0))
  rows : Kd.R k42 42 W base (fun k => (k ≠ gb ∧ k ≠ gr ∧ k ≠ ge ∧ k ≠ gm) ∧ ok k) v l
  low : Below base w0 W
/-- Where they lie: apart, and behind what came in. -/
structure root_Decode.Far (base gb gr ge gm : Nat) : Prop where
  b0 : base ≤ gb
  r0 : base ≤ gr
  e0 : base ≤ ge
  m0 : base ≤ gm
  br : gb ≠ gr
  be : gb ≠ ge
  bm : gb ≠ gm
  re : gr ≠ ge
  rm : gr ≠ gm
  em : ge ≠ gm
theorem root_Decode.begin0 (w : World) (b : ByteArray) : root_Decode.St w w.heap.size w.heap.size (w.heap.size + 1) (w.heap.size + 1 + 1) (w.heap.size + 1 + 1 + 1) (fun _ => True) ((((w.alloc (.cells #[.string b] 9)).alloc (.cells #[.int .i64 0, .int .i64 0, .int .i64 0, .slice none 0 0] 39)).alloc (.cells #[.nilIface] 24)).alloc (.cells #[.int .i64 0] 3)) b 0 0 0 (.slice none 0 0) none 0 [] where
  hb := blk_alloc (blk_alloc (blk_alloc (blk_new _ _) _) _) _
  hr := by
    have h := blk_new (w.alloc (.cells #[.string b] 9)) (.cells #[.int .i64 0, .int .i64 0, .int .i64 0, .slice none 0 0] 39)
    rw [show (w.alloc (.cells #[.string b] 9)).heap.size = w.heap.size + 1 by simp] at h
    exact blk_alloc (blk_alloc h _) _
  he := by
    have h := blk_new ((w.alloc (.cells #[.string b] 9)).alloc (.cells #[.int .i64 0, .int .i64 0, .int .i64 0, .slice none 0 0] 39)) (.cells #[.nilIface] 24)
    rw [show ((w.alloc (.cells #[.string b] 9)).alloc (.cells #[.int .i64 0, .int .i64 0, .int .i64 0, .slice none 0 0] 39)).heap.size = w.heap.size + 1 + 1 by simp] at h
    exact blk_alloc h _
  hm := by
    have h := blk_new (((w.alloc (.cells #[.string b] 9)).alloc (.cells #[.int .i64 0, .int .i64 0, .int .i64 0, .slice none 0 0] 39)).alloc (.cells #[.nilIface] 24)) (.cells #[.int .i64 0] 3)
    rwa [show (((w.alloc (.cells #[.string b] 9)).alloc (.cells #[.int .i64 0, .int .i64 0, .int .i64 0, .slice none 0 0] 39)).alloc (.cells #[.nilIface] 24)).heap.size = w.heap.size + 1 + 1 + 1 by simp] at h
  rows := Kd.R_nil _ _ _ _ _
  low := by
    refine below_alloc (below_alloc (below_alloc (below_alloc (Below.refl _ _) _) _) _) _
theorem root_Decode.begin_ (w : World) (b : ByteArray) : ∃ gb gr ge gm, gb = w.heap.size ∧ gr = w.heap.size + 1 ∧ ge = w.heap.size + 1 + 1 ∧ gm = w.heap.size + 1 + 1 + 1 ∧ root_Decode.Far w.heap.size gb gr ge gm ∧ root_Decode.St w w.heap.size gb gr ge gm (fun _ => True) ((((w.alloc (.cells #[.string b] 9)).alloc (.cells #[.int .i64 0, .int .i64 0, .int .i64 0, .slice none 0 0] 39)).alloc (.cells #[.nilIface] 24)).alloc (.cells #[.int .i64 0] 3)) b 0 0 0 (.slice none 0 0) none 0 [] :=
  ⟨_, _, _, _, rfl, rfl, rfl, rfl, ⟨by omega, by omega, by omega, by omega, by omega, by omega, by omega, by omega, by omega, by omega⟩, root_Decode.begin0 w b⟩
/-- St, of a state. -/
def root_Decode.StQ (w0 : World) (base gb gr ge gm : Nat) (ok : Nat → Prop) (W : World) (t : root_Decode.Q) (v : Value) (l : List S42) : Prop := root_Decode.St w0 base gb gr ge gm ok W t.b t.x1 t.x2 t.x3 v t.e t.m l
def root_Decode.pt (gr gm : Nat) : Nat → Addr
  | 0 => ⟨gr, 0, none⟩
  | 1 => ⟨gr, 1, none⟩
  | 2 => ⟨gr, 2, none⟩
  | _ => ⟨gm, 0, none⟩
theorem root_Decode.stepN_rd (old : Int) (b : ByteArray) (e : Option Int) : root_Decode.stepN b e = ((root_Decode.rd old b e).2.1, (root_Decode.rd old b e).2.2) := by
  unfold root_Decode.stepN root_Decode.rd
  split <;> rfl
theorem root_Decode.cells_rd (cs : Array Value) (i : Nat) (old : Int) (b : ByteArray) (e : Option Int) (hi : cs[i]? = some (.int .i64 old)) : (if e.isNone = true then cs.setIfInBounds i (.int .i64 (pack_ReadNum.tell b).1) else cs) = cs.setIfInBounds i (.int .i64 (root_Decode.rd old b e).1) := by
  unfold root_Decode.rd
  split
  · rfl
  · apply Array.ext_getElem?
    intro k
    rw [Array.getElem?_setIfInBounds]
    split
    · next h => subst h; split
                · exact hi
                · next h2 => exact Array.getElem?_eq_none (by omega)
    · rfl
/-- A reading's step into one of the four. -/
theorem root_Decode.step_ {w0 : World} {gb gr ge gm : Nat} {ok : Nat → Prop} {W : World} {t : root_Decode.Q} {v : Value} {l : List S42} (HF : root_Decode.Far w0.heap.size gb gr ge gm) (ST : root_Decode.StQ w0 w0.heap.size gb gr ge gm ok W t v l) (j : Nat) (hj : j < 4) :
    Calls Try.prog 28 #[.pointer (some (root_Decode.pt gr gm j)), .pointer (some ⟨ge, 0, none⟩), .pointer (some ⟨gb, 0, none⟩)] W fun en w' => en = .returned (.tuple #[]) ∧ root_Decode.StQ w0 w0.heap.size gb gr ge gm ok w' (root_Decode.fs j t) v l ∧ (∀ k, k < W.heap.size → k ≠ gb → k ≠ gr → k ≠ ge → k ≠ gm → w'.heap[k]? = W.heap[k]?) := by
  have hro : ∀ (w' : World), (∀ k, k < W.heap.size → k ≠ gb → k ≠ gr → k ≠ ge → k ≠ gm → w'.heap[k]? = W.heap[k]?) → Kd.R k42 42 w' w0.heap.size (fun k => (k ≠ gb ∧ k ≠ gr ∧ k ≠ ge ∧ k ≠ gm) ∧ ok k) v l := fun w' h => Kd.R_step ST.rows (fun k ho hk => h k hk ho.1.1 ho.1.2.1 ho.1.2.2.1 ho.1.2.2.2)
  have root : ∀ i old, i < 3 → #[.int .i64 t.x1, .int .i64 t.x2, .int .i64 t.x3, v][i]? = some (.int .i64 old) → Calls Try.prog 28 #[.pointer (some ⟨gr, i, none⟩), .pointer (some ⟨ge, 0, none⟩), .pointer (some ⟨gb, 0, none⟩)] W fun en w' => en = .returned (.tuple #[]) ∧ (w'.heap[gr]? = some (.cells (#[.int .i64 t.x1, .int .i64 t.x2, .int .i64 t.x3, v].setIfInBounds i (.int .i64 (root_Decode.rd old t.b t.e).1)) 39 (0, 0)) ∧ w'.heap[gb]? = some (.cells #[.string (root_Decode.rd old t.b t.e).2.1] 9 (0, 0)) ∧ w'.heap[ge]? = some (.cells #[errW (root_Decode.rd old t.b t.e).2.2] 24 (0, 0)) ∧ w'.heap[gm]? = some (.cells #[.int .i64 t.m] 3 (0, 0)) ∧ Kd.R k42 42 w' w0.heap.size (fun k => (k ≠ gb ∧ k ≠ gr ∧ k ≠ ge ∧ k ≠ gm) ∧ ok k) v l ∧ Below w0.heap.size w0 w') ∧ (∀ k, k < W.heap.size → k ≠ gb → k ≠ gr → k ≠ ge → k ≠ gm → w'.heap[k]? = W.heap[k]?) := by
    intro i old hi hc
    refine (root_Decode.next_ gr i gb ge 39 _ old t.b t.e W hc HF.be HF.br.symm HF.re ST.hr ST.hb ST.he).mono ?_
    rintro en w' ⟨rfl, h1, h2, h3, h4, h5⟩
    rw [root_Decode.cells_rd _ _ _ _ _ hc] at h1
    rw [root_Decode.stepN_rd old] at h2 h3
    have hk : ∀ k, k < W.heap.size → k ≠ gb → k ≠ gr → k ≠ ge → k ≠ gm → w'.heap[k]? = W.heap[k]? := fun k q q1 q2 q3 _ => h4 k q q2 q1 q3
    exact ⟨rfl, ⟨h1, h2, h3, (h4 gm (blk_lt ST.hm) HF.rm.symm HF.bm.symm HF.em.symm).trans ST.hm, hro w' hk, h5 w0 HF.r0 HF.b0 HF.e0 ST.low⟩, hk⟩
  rcases j with _ | _ | _ | _ | j
  · refine (root 0 t.x1 (by omega) rfl).mono ?_
    rintro en w' ⟨rfl, ⟨h1, h2, h3, h4, h5, h6⟩, h7⟩
    exact ⟨rfl, ⟨h2, h1, h3, h4, h5, h6⟩, h7⟩
  · refine (root 1 t.x2 (by omega) rfl).mono ?_
    rintro en w' ⟨rfl, ⟨h1, h2, h3, h4, h5, h6⟩, h7⟩
    exact ⟨rfl, ⟨h2, h1, h3, h4, h5, h6⟩, h7⟩
  · refine (root 2 t.x3 (by omega) rfl).mono ?_
    rintro en w' ⟨rfl, ⟨h1, h2, h3, h4, h5, h6⟩, h7⟩
    exact ⟨rfl, ⟨h2, h1, h3, h4, h5, h6⟩, h7⟩
  · refine (root_Decode.next_ gm 0 gb ge 3 #[.int .i64 t.m] t.m t.b t.e W rfl HF.be HF.bm.symm HF.em.symm ST.hm ST.hb ST.he).mono ?_
    rintro en w' ⟨rfl, h1, h2, h3, h4, h5⟩
    rw [root_Decode.cells_rd _ _ t.m _ _ rfl] at h1
    rw [root_Decode.stepN_rd t.m] at h2 h3
    have hk : ∀ k, k < W.heap.size → k ≠ gb → k ≠ gr → k ≠ ge → k ≠ gm → w'.heap[k]? = W.heap[k]? := fun k q q1 _ q3 q4 => h4 k q q4 q1 q3
    exact ⟨rfl, ⟨h2, (h4 gr (blk_lt ST.hr) HF.rm HF.br.symm HF.re).trans ST.hr, h3, h1, hro w' hk, h5 w0 HF.m0 HF.b0 HF.e0 ST.low⟩, hk⟩
  · omega
/-- A number of a file's own. -/
theorem root_Decode.stepF_ {w0 : World} {gb gr ge gm gf : Nat} {W : World} {t : root_Decode.Q} {v : Value} {l : List S42} {x1 x2 x3 m : Int} (HF : root_Decode.Far w0.heap.size gb gr ge gm) (hgf : w0.heap.size ≤ gf) (n1 : gf ≠ gb) (n2 : gf ≠ gr) (n3 : gf ≠ ge) (n4 : gf ≠ gm)
    (ST : root_Decode.St w0 w0.heap.size gb gr ge gm (fun k => k ≠ gf) W t.b x1 x2 x3 v t.e m l) (hg : W.heap[gf]? = some (.cells #[.int .i64 t.x1, .int .i64 t.x2, .int .i64 t.x3] 42 (0, 0))) (j : Nat) (hj : j < 3) :
    Calls Try.prog 28 #[.pointer (some ⟨gf, j, none⟩), .pointer (some ⟨ge, 0, none⟩), .pointer (some ⟨gb, 0, none⟩)] W fun en w' => en = .returned (.tuple #[]) ∧ root_Decode.St w0 w0.heap.size gb gr ge gm (fun k => k ≠ gf) w' (root_Decode.fs j t).b x1 x2 x3 v (root_Decode.fs j t).e m l ∧ w'.heap[gf]? = some (.cells #[.int .i64 (root_Decode.fs j t).x1, .int .i64 (root_Decode.fs j t).x2, .int .i64 (root_Decode.fs j t).x3] 42 (0, 0)) ∧ (∀ k, k < W.heap.size → k ≠ gb → k ≠ ge → k ≠ gf → w'.heap[k]? = W.heap[k]?) := by
  have root : ∀ i old, i < 3 → #[Value.int .i64 t.x1, .int .i64 t.x2, .int .i64 t.x3][i]? = some (.int .i64 old) → Calls Try.prog 28 #[.pointer (some ⟨gf, i, none⟩), .pointer (some ⟨ge, 0, none⟩), .pointer (some ⟨gb, 0, none⟩)] W fun en w' => en = .returned (.tuple #[]) ∧ root_Decode.St w0 w0.heap.size gb gr ge gm (fun k => k ≠ gf) w' (root_Decode.rd old t.b t.e).2.1 x1 x2 x3 v (root_Decode.rd old t.b t.e).2.2 m l ∧ w'.heap[gf]? = some (.cells (#[Value.int .i64 t.x1, .int .i64 t.x2, .int .i64 t.x3].setIfInBounds i (.int .i64 (root_Decode.rd old t.b t.e).1)) 42 (0, 0)) ∧ (∀ k, k < W.heap.size → k ≠ gb → k ≠ ge → k ≠ gf → w'.heap[k]? = W.heap[k]?) := by
    intro i old hi hc
    refine (root_Decode.next_ gf i gb ge 42 _ old t.b t.e W hc HF.be n1 n3 hg ST.hb ST.he).mono ?_
    rintro en w' ⟨rfl, h1, h2, h3, h4, h5⟩
    rw [root_Decode.cells_rd _ _ _ _ _ hc] at h1
    rw [root_Decode.stepN_rd old] at h2 h3
    have hk : ∀ k, k < W.heap.size → k ≠ gb → k ≠ ge → k ≠ gf → w'.heap[k]? = W.heap[k]? := fun k q q1 q2 q3 => h4 k q q3 q1 q2
    exact ⟨rfl, ⟨h2, (hk gr (blk_lt ST.hr) HF.br.symm HF.re n2.symm).trans ST.hr, h3, (hk gm (blk_lt ST.hm) HF.bm.symm HF.em.symm n4.symm).trans ST.hm, Kd.R_step ST.rows (fun k ho hlt => hk k hlt ho.1.1 ho.1.2.2.1 ho.2), h5 w0 hgf HF.b0 HF.e0 ST.low⟩, h1, hk⟩
  rcases j with _ | _ | _ | j
  · exact (root 0 t.x1 (by omega) rfl).mono fun en w' h => h
  · exact (root 1 t.x2 (by omega) rfl).mono fun en w' h => h
  · exact (root 2 t.x3 (by omega) rfl).mono fun en w' h => h
  · omega
theorem root_Decode.fin_blocks {W : World} {gr ge : Nat} {T1 T2 : TypeId} {y0 y1 y2 y3 z a b c d x : Value} (hr : W.heap[gr]? = some (.cells #[y0, y1, y2, y3] T1 (0, 0))) (he : W.heap[ge]? = some (.cells #[z] T2 (0, 0))) (hne : gr ≠ ge) :
    ∃ W', W' = ((((W.setCell ⟨gr, 0, none⟩ a).setCell ⟨gr, 1, none⟩ b).setCell ⟨gr, 2, none⟩ c).setCell ⟨gr, 3, none⟩ d).setCell ⟨ge, 0, none⟩ x ∧ W'.heap[gr]? = some (.cells #[a, b, c, d] T1 (0, 0)) ∧ W'.heap[ge]? = some (.cells #[x] T2 (0, 0)) ∧ (∀ w0 : World, w0.heap.size ≤ gr → w0.heap.size ≤ ge → Below w0.heap.size w0 W → Below w0.heap.size w0 W') ∧ W'.heap.size = W.heap.size ∧ (∀ k, k ≠ gr → k ≠ ge → W'.heap[k]? = W.heap[k]?) := by
  refine ⟨_, rfl, blk_far (blk_put (blk_put (blk_put (blk_put hr 0 _ rfl) 1 _ rfl) 2 _ rfl) 3 _ rfl) hne _, blk_put (blk_far (blk_far (blk_far (blk_far he hne.symm _) hne.symm _) hne.symm _) hne.symm _) 0 _ rfl, fun w0 h1 h2 h => below_set (below_set (below_set (below_set (below_set h h1) h1) h1) h1) h2, by simp, fun k n1 n2 => ?_⟩
  exact (((((Below.heap_setCell _ _ _ k n2).trans (Below.heap_setCell _ _ _ k n1)).trans (Below.heap_setCell _ _ _ k n1)).trans (Below.heap_setCell _ _ _ k n1)).trans (Below.heap_setCell _ _ _ k n1))
theorem root_Decode.far4 {W : World} {gr ge : Nat} {v a b c d : Value} (he : W.cell? ⟨ge, 0, none⟩ = some v) (hne : ge ≠ gr) : ((((W.setCell ⟨gr, 0, none⟩ a).setCell ⟨gr, 1, none⟩ b).setCell ⟨gr, 2, none⟩ c).setCell ⟨gr, 3, none⟩ d).cell? ⟨ge, 0, none⟩ = some v := by
  have h : ∀ (W : World) (j : Nat) (u : Value), (W.setCell ⟨gr, j, none⟩ u).cell? ⟨ge, 0, none⟩ = W.cell? ⟨ge, 0, none⟩ := fun W j u => by
    simp only [World.cell?, Below.heap_setCell W ⟨gr, j, none⟩ u ge hne]
  rw [h, h, h, h]
  exact he
theorem root_Decode.load_one (w : World) (a : Addr) (v : Value) (hc : w.cell? a = some v) (ty : TypeId) (d : TypeDesc) (hu : Try.prog.underlying ty = some d) (hd : d.isRow = false) : (loadVar ty a).run Try.prog w = .ok v w := by
  have hagg : (isAgg ty).run Try.prog w = .ok false w := by
    unfold isAgg
    rw [Sem.run_bind, run_underlying hu w]
    cases d <;> simp_all [TypeDesc.isRow]
  simp [loadVar, Sem.run_bind, hagg, run_load, hc]
theorem root_Decode.results_cv {fn : Func} {p p' : Tmp} {ty ty' : TypeId} (h : fn.results = #[.cell p ty, .cell p' ty']) (tmps : Array Value) (w : World) (g g' : Nat) (t : TypeId) (cs : Array Value) (fr : Nat × Nat) (d d' : TypeDesc) (v : Value)
    (hp : tmps.getD p undef = .pointer (some ⟨g, 0, none⟩)) (hg : w.heap[g]? = some (.cells cs t fr))
    (hu : Try.prog.underlying ty = some d) (hd : d.isRow = true) (hi : (Try.prog.info? ty).map (·.size) = some cs.size)
    (hp' : tmps.getD p' undef = .pointer (some ⟨g', 0, none⟩)) (hc : w.cell? ⟨g', 0, none⟩ = some v)
    (hu' : Try.prog.underlying ty' = some d') (hd' : d'.isRow = false) :
    (results fn tmps).run Try.prog w = .ok (.tuple #[.agg cs, v]) w := by
  have h1 : tmps[p]?.getD undef = .pointer (some ⟨g, 0, none⟩) := by simpa using hp
  have h2 : tmps[p']?.getD undef = .pointer (some ⟨g', 0, none⟩) := by simpa using hp'
  simp [results, h, h1, h2, asAddr, run_loadVar_row w g t ty cs fr d hg hu (by cases d <;> simp_all [TypeDesc.isRow]) hi, root_Decode.load_one w _ v hc ty' d' hu' hd']
theorem root_Decode.StQ.alloc_ {w0 W : World} {gb gr ge gm : Nat} {ok : Nat → Prop} {t : root_Decode.Q} {v : Value} {l : List S42} (ST : root_Decode.StQ w0 w0.heap.size gb gr ge gm ok W t v l) (o : Obj) : root_Decode.StQ w0 w0.heap.size gb gr ge gm ok (W.alloc o) t v l :=
  ⟨blk_alloc ST.hb _, blk_alloc ST.hr _, blk_alloc ST.he _, blk_alloc ST.hm _, Kd.R_alloc ST.rows _, below_alloc ST.low _⟩
/-- St, the error another one. -/
theorem root_Decode.St.err_ {w0 W : World} {gb gr ge gm : Nat} {ok : Nat → Prop} {b : ByteArray} {x1 x2 x3 m : Int} {v : Value} {e : Option Int} {l : List S42} (HF : root_Decode.Far w0.heap.size gb gr ge gm) (ST : root_Decode.St w0 w0.heap.size gb gr ge gm ok W b x1 x2 x3 v e m l) (c : Int) :
    root_Decode.St w0 w0.heap.size gb gr ge gm ok (W.setCell ⟨ge, 0, none⟩ (.iface 54 (.int .i64 c))) b x1 x2 x3 v (some c) m l :=
  ⟨blk_far ST.hb HF.be _, blk_far ST.hr HF.re _, blk_put ST.he 0 _ rfl, blk_far ST.hm HF.em.symm _, Kd.R_far ST.rows (fun k hk => hk.1.2.2.1) _, below_set ST.low HF.e0⟩
theorem root_Decode.St.below_ {w0 W W2 : World} {gb gr ge gm : Nat} {ok : Nat → Prop} {b : ByteArray} {x1 x2 x3 m : Int} {v : Value} {e : Option Int} {l : List S42} (ST : root_Decode.St w0 w0.heap.size gb gr ge gm ok W b x1 x2 x3 v e m l) (h : Below W.heap.size W W2) : root_Decode.St w0 w0.heap.size gb gr ge gm ok W2 b x1 x2 x3 v e m l :=
  ⟨blk_below ST.hb h, blk_below ST.hr h, blk_below ST.he h, blk_below ST.hm h, Kd.R_below ST.rows h, below_step ST.low h⟩
theorem root_Decode.St.file_ {w0 W : World} {gb gr ge gm gf : Nat} {b : ByteArray} {x1 x2 x3 m : Int} {v : Value} {e : Option Int} {l : List S42} (ST : root_Decode.St w0 w0.heap.size gb gr ge gm (fun _ => True) W b x1 x2 x3 v e m l) (h : gf = W.heap.size) (o o' : Obj) : root_Decode.St w0 w0.heap.size gb gr ge gm (fun k => k ≠ gf) ((W.alloc o).alloc o') b x1 x2 x3 v e m l :=
  root_Decode.St.below_ (ok := fun k => k ≠ gf) ⟨ST.hb, ST.hr, ST.he, ST.hm, Kd.R_mono (Kd.R_elderB ST.rows gf (Nat.le_of_eq h.symm)) (fun k hk => ⟨hk.1.1, hk.2⟩), ST.low⟩ (below_alloc (below_alloc (Below.refl _ _) _) _)
theorem root_Decode.St.app_ {w0 W w3 : World} {gb gr ge gm gf : Nat} {b : ByteArray} {x1 x2 x3 m : Int} {v v3 : Value} {e : Option Int} {l l3 : List S42} (HF : root_Decode.Far w0.heap.size gb gr ge gm) (ST : root_Decode.St w0 w0.heap.size gb gr ge gm (fun k => k ≠ gf) W b x1 x2 x3 v e m l)
    (ho : Kd.R k42 42 w3 w0.heap.size (fun k => (k ≠ gb ∧ k ≠ gr ∧ k ≠ ge ∧ k ≠ gm) ∧ k ≠ gf) v3 l3) (hb : Below w0.heap.size w0 w3) (hg : W.grownBy w3 v.ownBlock) : root_Decode.St w0 w0.heap.size gb gr ge gm (fun _ => True) (w3.setCell ⟨gr, 3, none⟩ v3) b x1 x2 x3 v3 e m l3 :=
  ⟨blk_far (blk_grown ST.hb hg (Kd.R_ne ST.rows ST.hb (by decide))) HF.br _, blk_put (blk_grown ST.hr hg (Kd.R_ne ST.rows ST.hr (by decide))) 3 _ rfl, blk_far (blk_grown ST.he hg (Kd.R_ne ST.rows ST.he (by decide))) HF.re.symm _, blk_far (blk_grown ST.hm hg (Kd.R_ne ST.rows ST.hm (by decide))) HF.rm.symm _, Kd.R_far (Kd.R_mono ho (fun k hk => ⟨hk.1, trivial⟩)) (fun k hk => hk.1.2.1) _, below_set hb HF.r0⟩
theorem root_Decode.rows_some (n : Nat) (b : ByteArray) (c : Int) (l : List S42) : root_Decode.rows n b (some c) l = (l, b, some c) := by cases n <;> rfl
theorem root_Decode.pre_ (a1 b : ByteArray) (x1 x2 x3 m : Int) (e : Option Int) (h : (⟨x1, x2, x3, m, b, e⟩ : root_Decode.Q) = root_Decode.go4 ⟨0, 0, 0, 0, a1, none⟩ 4) : root_Decode.pre a1 = (⟨x1, x2, x3, m, b, e⟩, root_Decode.rows m.toNat b (if e.isNone = true ∧ 24 < m then some 5 else e) []) := by
  unfold root_Decode.pre
  rw [← h]
def root_Decode.tellQ (RR : Int → Int → Int → List S42 → Option Bool) : root_Decode.Q × List S42 × ByteArray × Option Int → Option (Int × Int × Int × List S42 × Option Int)
  | (_, _, _, some e) => some (0, 0, 0, [], some e)
  | (t, l, b, none) => if b.toList = [] then (RR t.x1 t.x2 t.x3 l).bind fun q => if q = true then some (t.x1, t.x2, t.x3, l, none) else some (0, 0, 0, [], some 1) else some (0, 0, 0, [], some 3)
theorem root_Decode.five {α β γ δ ε : Type} {a a' : α} {b b' : β} {c c' : γ} {d d' : δ} {e e' : ε} (h : some (a, b, c, d, e) = some (a', b', c', d', e')) : a' = a ∧ b' = b ∧ c' = c ∧ d' = d ∧ e' = e := by
  simp only [Option.some.injEq, Prod.mk.injEq] at h
  obtain ⟨h1, h2, h3, h4, h5⟩ := h
  exact ⟨h1.symm, h2.symm, h3.symm, h4.symm, h5.symm⟩
set_option maxHeartbeats 8000000 in
set_option maxRecDepth 100000 in
theorem root_Decode.walk_ (RR : Int → Int → Int → List S42 → Option Bool) (a0 : Int) (a1 : ByteArray) (r1 r2 r3 : Int) (r4 : List S42) (r5 : Option Int) (w : World) (c1 : ¬ 512 < a1.size)
    (hright : ∀ (x1 x2 x3 : Int) (A : Option Addr) (c : Nat) (l : List S42) (r : Bool) (W : World), Kd.C k42 W A l.length l → l.length ≤ c → RR x1 x2 x3 l = some r → Calls Try.prog 15 #[.int .i64 a0, .agg #[.int .i64 x1, .int .i64 x2, .int .i64 x3, .slice A l.length c]] W fun e w' => e = .returned (.bool r) ∧ Below W.heap.size W w')
    (h : root_Decode.tellQ RR (root_Decode.pre a1) = some (r1, r2, r3, r4, r5)) :
    Calls Try.prog 19 #[.int .i64 a0, .string a1] w fun e w' => ∃ v3_ : Value, e = .returned (.tuple #[.agg #[.int .i64 r1, .int .i64 r2, .int .i64 r3, v3_], errW r5]) ∧ Kd.R k42 42 w' w.heap.size (fun _ => True) v3_ r4 ∧ Below w.heap.size w w' := by
    have HH := Aside0.mk h
    have HRT := Lib.hid hright
    clear h hright
    go_enter Try.func19, Try.ntmps19
    go_upto_region 5 with (fail)
    obtain ⟨gb, gr, ge, gm, e1, e2, e3, e4, HF, ST⟩ := root_Decode.begin_ w a1
    have HF := Aside0.mk HF
    have ST := Aside0.mk ST
    rw [← e4, ← e3, ← e2, ← e1]
    clear e1 e2 e3 e4
    generalize ((((w.alloc (.cells #[.string a1] 9)).alloc (.cells #[.int .i64 0, .int .i64 0, .int .i64 0, .slice none 0 0] 39)).alloc (.cells #[.nilIface] 24)).alloc (.cells #[.int .i64 0] 3)) = w1 at ST ⊢
    go_wp2_with (fail)
    obtain ⟨gp, hgp⟩ : ∃ gp, gp = w1.heap.size := ⟨_, rfl⟩
    rw [← hgp]
    have HP := Aside0.mk (show (w1.alloc (.cells #[.pointer (some ⟨gr, 0, none⟩), .pointer (some ⟨gr, 1, none⟩), .pointer (some ⟨gr, 2, none⟩), .pointer (some ⟨gm, 0, none⟩)] 69)).heap[gp]? = some _ by rw [hgp]; exact blk_new _ _)
    go_loopw [25] (fun i wr => ∃ j : Nat, j ≤ 4 ∧ i = .int .i64 j ∧ Aside0 (root_Decode.StQ w w.heap.size gb gr ge gm (fun _ => True) wr (root_Decode.go4 ⟨0, 0, 0, 0, a1, none⟩ j) (.slice none 0 0) []) ∧ Aside0 (wr.heap[gp]? = some (.cells #[.pointer (some ⟨gr, 0, none⟩), .pointer (some ⟨gr, 1, none⟩), .pointer (some ⟨gr, 2, none⟩), .pointer (some ⟨gm, 0, none⟩)] 69 (0, 0))) ∧ Aside0 (gp ≠ gb ∧ gp ≠ gr ∧ gp ≠ ge ∧ gp ≠ gm)) (fun i _ => 4 - (intOf i).toNat)
    case atStart =>
      have n0 := blk_lt ST.out.hb
      have n1 := blk_lt ST.out.hr
      have n2 := blk_lt ST.out.he
      have n3 := blk_lt ST.out.hm
      exact ⟨0, by omega, rfl, ⟨root_Decode.StQ.alloc_ (t := ⟨0, 0, 0, 0, a1, none⟩) ST.out _⟩, HP, ⟨by omega, by omega, by omega, by omega⟩⟩
    case round =>
      obtain ⟨j, hj, rfl, ST2, HP2, HN⟩ := hrel
      clear HP ST hgp
      by_cases hj4 : j = 4
      · subst hj4
        obtain ⟨t, ht⟩ : ∃ t, t = root_Decode.go4 ⟨0, 0, 0, 0, a1, none⟩ 4 := ⟨_, rfl⟩
        rw [← ht] at ST2
        have HT := Aside0.mk ht
        clear ht
        obtain ⟨x1, x2, x3, m, b, e⟩ := t
        have he := (blk_cell ST2.out.he 0).trans rfl
        have hm := (blk_cell ST2.out.hm 0).trans rfl
        simp only at he hm
        have HPR := Aside0.mk (root_Decode.pre_ a1 b x1 x2 x3 m e HT.out)
        clear HT HP2 HN
        have hf := blk_frozen ST2.out.he 0
        cases e with
        | some c =>
          simp only [errW_some] at he
          have HQ : Aside0 (some (0, 0, 0, [], some c) = some (r1, r2, r3, r4, r5)) := ⟨by rw [← HH.out, HPR.out]; simp [root_Decode.rows_some, root_Decode.tellQ]⟩
          clear HH HPR
          go_wp2_with fail
          go_loopw [10] (fun i wz => i = .int .i64 0 ∧ wz = wr) (fun _ _ => 0)
          case atStart => exact ⟨rfl, rfl⟩
          case round =>
            obtain ⟨rfl, rfl⟩ := hrel
            by_cases hm0 : 0 < m
            all_goals
              go_wp2_with fail
              have hz0 := (blk_cell ST2.out.hr 0).trans rfl
              have hz1 := (blk_cell ST2.out.hr 1).trans rfl
              have hz2 := (blk_cell ST2.out.hr 2).trans rfl
              have hz3 := (blk_cell ST2.out.hr 3).trans rfl
              have hy0 := blk_frozen ST2.out.hr 0
              have hy1 := blk_frozen ST2.out.hr 1
              have hy2 := blk_frozen ST2.out.hr 2
              have hy3 := blk_frozen ST2.out.hr 3
              have hge := HF.out.re
              have hge' := HF.out.re.symm
              refine start_ (n := 4) (S := fun w' => w'.cell? ⟨ge, 0, none⟩ = some (.iface 54 (.int .i64 c))) (ds := [3]) #[false, false, false, false] (by kernel_rfl) rfl rfl he (fun hHeld => ?_)
              refine pure_ (i := 0) (N := some 83) (v := ?_) (a' := ?_) #[true, false, false, false] rfl rfl (by kernel_rfl) (fun _ _ _ h => h) (Or.inl ⟨by rfl, ?_⟩) ?_ ?_
              rotate_left
              · intro w'
                go_simp
                with_reducible rfl
              rotate_left
              · simp only [Act.put, List.setIfInBounds_toArray, List.set_cons_zero, List.set_cons_succ, i64_w, i32_w]
                rfl
              refine take_ (i := 1) (N := some 84) (v := ?_) (a' := ?_) #[true, true, false, false] rfl rfl (by kernel_rfl) (fun _ _ _ h => h) (Or.inl ⟨by rfl, ?_⟩) hHeld ?_ ?_
              rotate_left
              · intro w' s0
                go_simp
                with_reducible rfl
              rotate_left
              · simp only [Act.put, List.setIfInBounds_toArray, List.set_cons_zero, List.set_cons_succ, i64_w, i32_w]
                rfl
              refine one_ (i := 2) (N := none) #[true, true, true, false] rfl rfl (by kernel_rfl) (by decide) (fun K hK => ?_)
              refine skip_ (w1 := ?_) (by rfl) rfl ?_ ?_
              rotate_left
              · go_simp
                rfl
              refine hK.out _ _ (root_Decode.far4 he hge') (fun hHeld => ?_)
              clear hK K
              refine last_ (i := 3) (N := none) #[true, true, true, true] rfl rfl (by kernel_rfl) (by decide) (fun K hK => ?_)
              refine skip_ (w1 := ?_) (by rfl) rfl ?_ ?_
              rotate_left
              · go_simp
                rfl
              refine hK.out _ _ ?_
              clear hK K
              refine done_ (by kernel_rfl) ?_
              go_wp2
              obtain ⟨W9, e9, q1, q2, q3, q4, q5⟩ := root_Decode.fin_blocks (a := .int .i64 0) (b := .int .i64 0) (c := .int .i64 0) (d := .slice none 0 0) (x := .iface 54 (.int .i64 c)) ST2.out.hr ST2.out.he HF.out.re
              rw [← e9]
              have q3' := q3 w HF.out.r0 HF.out.e0 ST2.out.low
              clear e9
              refine bodyPost_ret (root_Decode.results_cv rfl _ _ gr ge 39 #[.int .i64 0, .int .i64 0, .int .i64 0, .slice none 0 0] (0, 0) _ _ (.iface 54 (.int .i64 c)) rfl (blk_drew q1) Try.underlying39 rfl (by kernel_rfl) rfl ((blk_cell (blk_drew q2) 0).trans rfl) Try.underlying24 rfl) rfl ?_
              obtain ⟨rfl, rfl, rfl, rfl, rfl⟩ := root_Decode.five HQ.out
              exact ⟨.slice none 0 0, rfl, Kd.R_nil _ _ _ _ _, below_drew1 q3'⟩
        | none =>
          simp only [errW_none] at he
          by_cases hm24 : 24 < m
          · have HQ : Aside0 (some (0, 0, 0, [], some 5) = some (r1, r2, r3, r4, r5)) := ⟨by rw [← HH.out, HPR.out]; simp [root_Decode.rows_some, root_Decode.tellQ, hm24]⟩
            clear HH HPR
            have ST3 := Aside0.mk (root_Decode.St.err_ HF.out ST2.out 5)
            simp only at ST3
            go_wp2_with fail
            clear ST2 he hm hf
            obtain ⟨wq, hwq⟩ : ∃ wq, wq = wr.setCell ⟨ge, 0, none⟩ (.iface 54 (.int .i64 5)) := ⟨_, rfl⟩
            rw [← hwq] at ST3 ⊢
            clear hwq
            have ST2 := ST3
            clear ST3
            have he := (blk_cell ST2.out.he 0).trans rfl
            have hm := (blk_cell ST2.out.hm 0).trans rfl
            have hf := blk_frozen ST2.out.he 0
            simp only [errW_some] at he
            go_loopw [10] (fun i wz => i = .int .i64 0 ∧ wz = wq) (fun _ _ => 0)
            case atStart => exact ⟨rfl, rfl⟩
            case round =>
              obtain ⟨rfl, rfl⟩ := hrel
              by_cases hm0 : 0 < m
              all_goals
                go_wp2_with fail
                have hz0 := (blk_cell ST2.out.hr 0).trans rfl
                have hz1 := (blk_cell ST2.out.hr 1).trans rfl
                have hz2 := (blk_cell ST2.out.hr 2).trans rfl
                have hz3 := (blk_cell ST2.out.hr 3).trans rfl
                have hy0 := blk_frozen ST2.out.hr 0
                have hy1 := blk_frozen ST2.out.hr 1
                have hy2 := blk_frozen ST2.out.hr 2
                have hy3 := blk_frozen ST2.out.hr 3
                have hge := HF.out.re
                have hge' := HF.out.re.symm
                refine start_ (n := 4) (S := fun w' => w'.cell? ⟨ge, 0, none⟩ = some (.iface 54 (.int .i64 5))) (ds := [3]) #[false, false, false, false] (by kernel_rfl) rfl rfl he (fun hHeld => ?_)
                refine pure_ (i := 0) (N := some 83) (v := ?_) (a' := ?_) #[true, false, false, false] rfl rfl (by kernel_rfl) (fun _ _ _ h => h) (Or.inl ⟨by rfl, ?_⟩) ?_ ?_
                rotate_left
                · intro w'
                  go_simp
                  with_reducible rfl
                rotate_left
                · simp only [Act.put, List.setIfInBounds_toArray, List.set_cons_zero, List.set_cons_succ, i64_w, i32_w]
                  rfl
                refine take_ (i := 1) (N := some 84) (v := ?_) (a' := ?_) #[true, true, false, false] rfl rfl (by kernel_rfl) (fun _ _ _ h => h) (Or.inl ⟨by rfl, ?_⟩) hHeld ?_ ?_
                rotate_left
                · intro w' s0
                  go_simp
                  with_reducible rfl
                rotate_left
                · simp only [Act.put, List.setIfInBounds_toArray, List.set_cons_zero, List.set_cons_succ, i64_w, i32_w]
                  rfl
                refine one_ (i := 2) (N := none) #[true, true, true, false] rfl rfl (by kernel_rfl) (by decide) (fun K hK => ?_)
                refine skip_ (w1 := ?_) (by rfl) rfl ?_ ?_
                rotate_left
                · go_simp
                  rfl
                refine hK.out _ _ (root_Decode.far4 he hge') (fun hHeld => ?_)
                clear hK K
                refine last_ (i := 3) (N := none) #[true, true, true, true] rfl rfl (by kernel_rfl) (by decide) (fun K hK => ?_)
                refine skip_ (w1 := ?_) (by rfl) rfl ?_ ?_
                rotate_left
                · go_simp
                  rfl
                refine hK.out _ _ ?_
                clear hK K
                refine done_ (by kernel_rfl) ?_
                go_wp2
                obtain ⟨W9, e9, q1, q2, q3, q4, q5⟩ := root_Decode.fin_blocks (a := .int .i64 0) (b := .int .i64 0) (c := .int .i64 0) (d := .slice none 0 0) (x := .iface 54 (.int .i64 5)) ST2.out.hr ST2.out.he HF.out.re
                rw [← e9]
                have q3' := q3 w HF.out.r0 HF.out.e0 ST2.out.low
                clear e9
                refine bodyPost_ret (root_Decode.results_cv rfl _ _ gr ge 39 #[.int .i64 0, .int .i64 0, .int .i64 0, .slice none 0 0] (0, 0) _ _ (.iface 54 (.int .i64 5)) rfl (blk_drew q1) Try.underlying39 rfl (by kernel_rfl) rfl ((blk_cell (blk_drew q2) 0).trans rfl) Try.underlying24 rfl) rfl ?_
                obtain ⟨rfl, rfl, rfl, rfl, rfl⟩ := root_Decode.five HQ.out
                exact ⟨.slice none 0 0, rfl, Kd.R_nil _ _ _ _ _, below_drew1 q3'⟩
          · obtain ⟨R3, hR3⟩ : ∃ R, R = root_Decode.rows m.toNat b none [] := ⟨_, rfl⟩
            have HH2 : Aside0 (root_Decode.tellQ RR (⟨x1, x2, x3, m, b, none⟩, R3) = some (r1, r2, r3, r4, r5)) := ⟨by rw [← HH.out, HPR.out, hR3, if_neg (fun q => hm24 q.2)]⟩
            have HR3 := Aside0.mk hR3.symm
            clear HH HPR hR3
            go_wp2_with fail
            clear he hm hf
            go_loopw [10] (fun i wz => ∃ (n : Nat) (b2 : ByteArray) (e2 : Option Int) (v2 : Value) (l2 : List S42), i = .int .i64 n ∧ n ≤ m.toNat ∧ Aside0 (l2.length = n) ∧ Aside0 (root_Decode.St w w.heap.size gb gr ge gm (fun _ => True) wz b2 x1 x2 x3 v2 e2 m l2) ∧ Aside0 (root_Decode.rows (m.toNat - n) b2 e2 l2 = R3)) (fun i _ => m.toNat - (intOf i).toNat)
            case atStart => exact ⟨0, b, none, _, [], rfl, Nat.zero_le _, ⟨rfl⟩, ST2, HR3⟩
            case round =>
              clear ST2 HR3
              obtain ⟨n, b2, e2, v2, l2, rfl, hn, HL, ST2, HR⟩ := hrel
              have he := (blk_cell ST2.out.he 0).trans rfl
              have hm := (blk_cell ST2.out.hm 0).trans rfl
              have hf := blk_frozen ST2.out.he 0
              cases e2 with
              | some c =>
                simp only [errW_some] at he
                have HQ : Aside0 (some (0, 0, 0, [], some c) = some (r1, r2, r3, r4, r5)) := ⟨by rw [← HH2.out, ← HR.out]; simp [root_Decode.rows_some, root_Decode.tellQ]⟩
                clear HH2 HR
                by_cases hm0 : (n : Int) < m
                all_goals
                  go_wp2_with fail
                  have hz0 := (blk_cell ST2.out.hr 0).trans rfl
                  have hz1 := (blk_cell ST2.out.hr 1).trans rfl
                  have hz2 := (blk_cell ST2.out.hr 2).trans rfl
                  have hz3 := (blk_cell ST2.out.hr 3).trans rfl
                  have hy0 := blk_frozen ST2.out.hr 0
                  have hy1 := blk_frozen ST2.out.hr 1
                  have hy2 := blk_frozen ST2.out.hr 2
                  have hy3 := blk_frozen ST2.out.hr 3
                  have hge := HF.out.re
                  have hge' := HF.out.re.symm
                  refine start_ (n := 4) (S := fun w' => w'.cell? ⟨ge, 0, none⟩ = some (.iface 54 (.int .i64 c))) (ds := [3]) #[false, false, false, false] (by kernel_rfl) rfl rfl he (fun hHeld => ?_)
                  refine pure_ (i := 0) (N := some 83) (v := ?_) (a' := ?_) #[true, false, false, false] rfl rfl (by kernel_rfl) (fun _ _ _ h => h) (Or.inl ⟨by rfl, ?_⟩) ?_ ?_
                  rotate_left
                  · intro w'
                    go_simp
                    with_reducible rfl
                  rotate_left
                  · simp only [Act.put, List.setIfInBounds_toArray, List.set_cons_zero, List.set_cons_succ, i64_w, i32_w]
                    rfl
                  refine take_ (i := 1) (N := some 84) (v := ?_) (a' := ?_) #[true, true, false, false] rfl rfl (by kernel_rfl) (fun _ _ _ h => h) (Or.inl ⟨by rfl, ?_⟩) hHeld ?_ ?_
                  rotate_left
                  · intro w' s0
                    go_simp
                    with_reducible rfl
                  rotate_left
                  · simp only [Act.put, List.setIfInBounds_toArray, List.set_cons_zero, List.set_cons_succ, i64_w, i32_w]
                    rfl
                  refine one_ (i := 2) (N := none) #[true, true, true, false] rfl rfl (by kernel_rfl) (by decide) (fun K hK => ?_)
                  refine skip_ (w1 := ?_) (by rfl) rfl ?_ ?_
                  rotate_left
                  · go_simp
                    rfl
                  refine hK.out _ _ (root_Decode.far4 he hge') (fun hHeld => ?_)
                  clear hK K
                  refine last_ (i := 3) (N := none) #[true, true, true, true] rfl rfl (by kernel_rfl) (by decide) (fun K hK => ?_)
                  refine skip_ (w1 := ?_) (by rfl) rfl ?_ ?_
                  rotate_left
                  · go_simp
                    rfl
                  refine hK.out _ _ ?_
                  clear hK K
                  refine done_ (by kernel_rfl) ?_
                  go_wp2
                  obtain ⟨W9, e9, q1, q2, q3, q4, q5⟩ := root_Decode.fin_blocks (a := .int .i64 0) (b := .int .i64 0) (c := .int .i64 0) (d := .slice none 0 0) (x := .iface 54 (.int .i64 c)) ST2.out.hr ST2.out.he HF.out.re
                  rw [← e9]
                  have q3' := q3 w HF.out.r0 HF.out.e0 ST2.out.low
                  clear e9
                  refine bodyPost_ret (root_Decode.results_cv rfl _ _ gr ge 39 #[.int .i64 0, .int .i64 0, .int .i64 0, .slice none 0 0] (0, 0) _ _ (.iface 54 (.int .i64 c)) rfl (blk_drew q1) Try.underlying39 rfl (by kernel_rfl) rfl ((blk_cell (blk_drew q2) 0).trans rfl) Try.underlying24 rfl) rfl ?_
                  obtain ⟨rfl, rfl, rfl, rfl, rfl⟩ := root_Decode.five HQ.out
                  exact ⟨.slice none 0 0, rfl, Kd.R_nil _ _ _ _ _, below_drew1 q3'⟩
              | none =>
                simp only [errW_none] at he
                by_cases hm0 : (n : Int) < m
                · have HRn : Aside0 (root_Decode.rows (m.toNat - (n + 1)) (root_Decode.go4 ⟨0, 0, 0, 0, b2, none⟩ 3).b (root_Decode.go4 ⟨0, 0, 0, 0, b2, none⟩ 3).e (l2 ++ [⟨(root_Decode.go4 ⟨0, 0, 0, 0, b2, none⟩ 3).x1, (root_Decode.go4 ⟨0, 0, 0, 0, b2, none⟩ 3).x2, (root_Decode.go4 ⟨0, 0, 0, 0, b2, none⟩ 3).x3⟩]) = R3) := ⟨by rw [← HR.out, show m.toNat - n = (m.toNat - (n + 1)) + 1 by omega]; rfl⟩
                  obtain ⟨A, c0, hv, hlc, hC⟩ := Kd.R_reads ST2.out.rows
                  subst hv
                  clear hC hlc HR
                  go_wp2_with fail
                  clear he hm hf
                  obtain ⟨gf, hgf⟩ : ∃ gf, gf = wr.heap.size := ⟨_, rfl⟩
                  have ST4 := Aside0.mk (root_Decode.St.file_ ST2.out hgf (.cells #[.int .i64 0, .int .i64 0, .int .i64 0] 42) (.cells #[.pointer (some ⟨gf, 0, none⟩), .pointer (some ⟨gf, 1, none⟩), .pointer (some ⟨gf, 2, none⟩)] 69))
                  have HG : Aside0 (w.heap.size ≤ gf ∧ gf ≠ gb ∧ gf ≠ gr ∧ gf ≠ ge ∧ gf ≠ gm) := ⟨by
                    have n0 := blk_lt ST2.out.hb
                    have n1 := blk_lt ST2.out.hr
                    have n2 := blk_lt ST2.out.he
                    have n3 := blk_lt ST2.out.hm
                    have n4 := ST2.out.low.size
                    exact ⟨by omega, by omega, by omega, by omega, by omega⟩⟩
                  have HGF := Aside0.mk (show ((wr.alloc (.cells #[.int .i64 0, .int .i64 0, .int .i64 0] 42)).alloc (.cells #[.pointer (some ⟨gf, 0, none⟩), .pointer (some ⟨gf, 1, none⟩), .pointer (some ⟨gf, 2, none⟩)] 69)).heap[gf]? = some _ by rw [hgf]; exact blk_alloc (blk_new _ _) _)
                  have HGQ := Aside0.mk (blk_new (wr.alloc (.cells #[.int .i64 0, .int .i64 0, .int .i64 0] 42)) (.cells #[.pointer (some ⟨gf, 0, none⟩), .pointer (some ⟨gf, 1, none⟩), .pointer (some ⟨gf, 2, none⟩)] 69))
                  rw [← hgf]
                  obtain ⟨gq, hgq⟩ : ∃ gq, gq = gf + 1 := ⟨_, rfl⟩
                  rw [show (wr.alloc (.cells #[.int .i64 0, .int .i64 0, .int .i64 0] 42)).heap.size = gq by simp [hgq, hgf]] at HGQ
                  have HN : Aside0 (gq ≠ gb ∧ gq ≠ ge ∧ gq ≠ gf) := ⟨by
                    have n0 := blk_lt ST2.out.hb
                    have n2 := blk_lt ST2.out.he
                    exact ⟨by omega, by omega, by omega⟩⟩
                  first | rw [← hgq] | skip
                  clear hgf hgq ST2
                  go_loopw [54] (fun i wz => ∃ j : Nat, j ≤ 3 ∧ i = .int .i64 j ∧ Aside0 (root_Decode.St w w.heap.size gb gr ge gm (fun k => k ≠ gf) wz (root_Decode.go4 ⟨0, 0, 0, 0, b2, none⟩ j).b x1 x2 x3 (.slice A l2.length c0) (root_Decode.go4 ⟨0, 0, 0, 0, b2, none⟩ j).e m l2) ∧ Aside0 (wz.heap[gf]? = some (.cells #[.int .i64 (root_Decode.go4 ⟨0, 0, 0, 0, b2, none⟩ j).x1, .int .i64 (root_Decode.go4 ⟨0, 0, 0, 0, b2, none⟩ j).x2, .int .i64 (root_Decode.go4 ⟨0, 0, 0, 0, b2, none⟩ j).x3] 42 (0, 0))) ∧ Aside0 (wz.heap[gq]? = some (.cells #[.pointer (some ⟨gf, 0, none⟩), .pointer (some ⟨gf, 1, none⟩), .pointer (some ⟨gf, 2, none⟩)] 69 (0, 0))) ∧ Aside0 (gq ≠ gb ∧ gq ≠ ge ∧ gq ≠ gf)) (fun i _ => 3 - (intOf i).toNat)
                  case atStart => exact ⟨0, by omega, rfl, ST4, HGF, HGQ, HN⟩
                  case round =>
                    clear ST4 HGF HGQ HN
                    obtain ⟨j, hj, rfl, ST4, HGF, HGQ, HN⟩ := hrel
                    by_cases hj3 : j = 3
                    · subst hj3
                      generalize root_Decode.go4 ⟨0, 0, 0, 0, b2, none⟩ 3 = t at ST4 HGF HRn
                      obtain ⟨y1, y2, y3, y4, y5, y6⟩ := t
                      simp only at ST4 HGF HRn
                      have z3 := (blk_cell ST4.out.hr 3).trans rfl
                      have g0 := (blk_cell HGF.out 0).trans rfl
                      have g1 := (blk_cell HGF.out 1).trans rfl
                      have g2 := (blk_cell HGF.out 2).trans rfl
                      have HFW : Aside0 (gb < wr.heap.size ∧ gr < wr.heap.size ∧ ge < wr.heap.size ∧ gm < wr.heap.size ∧ gf < wr.heap.size) := ⟨⟨blk_lt ST4.out.hb, blk_lt ST4.out.hr, blk_lt ST4.out.he, blk_lt ST4.out.hm, blk_lt HGF.out⟩⟩
                      have hn24 : n < 24 := by omega
                      go_wp2_with (first | ((with_reducible refine gate_builtin (b := .append) (xs := #[.tmp 63, .tmp 65]) rfl ?_); at_builtin; refine Kd.R_append k42 (w0 := w) w.heap.size rfl (.tmp 63) (.tmp 65) 37 42 (.agg #[(.int .i64 0), (.int .i64 0), (.int .i64 0)]) 24 rfl Try.underlying37 info42 rfl (by decide) (by omega) (.slice A l2.length c0) l2 (⟨y1, y2, y3⟩ : S42) [.int .i64 y1, .int .i64 y2, .int .i64 y3] (fun k => (k ≠ gb ∧ k ≠ gr ∧ k ≠ ge ∧ k ≠ gm) ∧ k ≠ gf) (fun _ => False) rfl (by first | (go_simp; done) | (go_simp; rfl)) ?aP (fun _ hk => hk.elim) ?aF ?aO ?aB ?aS ?aL ?_; (case aP => exact k42_mkM _ _ _ (⟨y1, y2, y3⟩ : S42)); (case aB => exact ST4.out.low); (case aF => exact (fun k hk => by have := HFW.out; exact ⟨⟨by omega, by omega, by omega, by omega⟩, by omega⟩)); (case aO => exact ST4.out.rows); (case aS => exact ST4.out.low.size); (case aL => have := HL.out; omega); intro v3 w3 ho hb hg hat; have ST5 := Aside0.mk (root_Decode.St.app_ HF.out ST4.out ho hb hg); have hr3 := Aside0.mk (blk_grown ST4.out.hr hg (Kd.R_ne ST4.out.rows ST4.out.hr (by decide))); have hsl := Kd.R_slice ho; obtain ⟨A3, c3, hv3⟩ := hsl; simp only [List.length_append, List.length_cons, List.length_nil] at hv3; subst hv3; have z4 := (blk_cell hr3.out 3).trans rfl; have z5 := blk_frozen hr3.out 3; clear ho hb hg hat))
                      refine ⟨⟨n + 1, _, _, _, _, rfl, by omega, ⟨by rw [List.length_append, HL.out]; rfl⟩, ST5, HRn⟩, ?_⟩
                      show m.toNat - (intOf (.int .i64 ((n + 1 : Nat) : Int))).toNat < m.toNat - (intOf (.int .i64 (n : Int))).toNat
                      simp only [intOf, Int.toNat_natCast]
                      omega
                    · have d0 := (blk_cell HGQ.out 0).trans rfl
                      have d1 := (blk_cell HGQ.out 1).trans rfl
                      have d2 := (blk_cell HGQ.out 2).trans rfl
                      rcases j with _ | _ | _ | j
                      · go_wp2_with fail
                        refine (root_Decode.stepF_ (t := root_Decode.go4 ⟨0, 0, 0, 0, b2, none⟩ 0) HF.out HG.out.1 HG.out.2.1 HG.out.2.2.1 HG.out.2.2.2.1 HG.out.2.2.2.2 ST4.out HGF.out 0 (by decide)).mono ?_
                        rintro e w2 ⟨rfl, h1, h2, h3⟩
                        have h4 := Aside0.mk h1
                        have h5 := Aside0.mk h2
                        have h6 := Aside0.mk ((h3 _ (blk_lt HGQ.out) HN.out.1 HN.out.2.1 HN.out.2.2).trans HGQ.out)
                        clear h1 h2 h3 d0 d1 d2 HGQ ST4 HGF
                        go_wp2_with fail
                        refine ⟨⟨1, by omega, by go_num, h4, h5, h6, HN⟩, by simp [intOf]⟩
                      · go_wp2_with fail
                        refine (root_Decode.stepF_ (t := root_Decode.go4 ⟨0, 0, 0, 0, b2, none⟩ 1) HF.out HG.out.1 HG.out.2.1 HG.out.2.2.1 HG.out.2.2.2.1 HG.out.2.2.2.2 ST4.out HGF.out 1 (by decide)).mono ?_
                        rintro e w2 ⟨rfl, h1, h2, h3⟩
                        have h4 := Aside0.mk h1
                        have h5 := Aside0.mk h2
                        have h6 := Aside0.mk ((h3 _ (blk_lt HGQ.out) HN.out.1 HN.out.2.1 HN.out.2.2).trans HGQ.out)
                        clear h1 h2 h3 d0 d1 d2 HGQ ST4 HGF
                        go_wp2_with fail
                        refine ⟨⟨2, by omega, by go_num, h4, h5, h6, HN⟩, by simp [intOf]⟩
                      · go_wp2_with fail
                        refine (root_Decode.stepF_ (t := root_Decode.go4 ⟨0, 0, 0, 0, b2, none⟩ 2) HF.out HG.out.1 HG.out.2.1 HG.out.2.2.1 HG.out.2.2.2.1 HG.out.2.2.2.2 ST4.out HGF.out 2 (by decide)).mono ?_
                        rintro e w2 ⟨rfl, h1, h2, h3⟩
                        have h4 := Aside0.mk h1
                        have h5 := Aside0.mk h2
                        have h6 := Aside0.mk ((h3 _ (blk_lt HGQ.out) HN.out.1 HN.out.2.1 HN.out.2.2).trans HGQ.out)
                        clear h1 h2 h3 d0 d1 d2 HGQ ST4 HGF
                        go_wp2_with fail
                        refine ⟨⟨3, by omega, by go_num, h4, h5, h6, HN⟩, by simp [intOf]⟩
                      · omega
                · have HR3 : Aside0 (R3 = (l2, b2, none)) := ⟨by rw [← HR.out, show m.toNat - n = 0 by omega]; rfl⟩
                  have HH3 : Aside0 (root_Decode.tellQ RR (⟨x1, x2, x3, m, b, none⟩, l2, b2, none) = some (r1, r2, r3, r4, r5)) := ⟨by rw [← HH2.out, HR3.out]⟩
                  have hbc := (blk_cell ST2.out.hb 0).trans rfl
                  clear HH2 HR HR3
                  obtain ⟨A, c0, hv, hlc, hC⟩ := Kd.R_reads ST2.out.rows
                  subst hv
                  have HC := Aside0.mk hC
                  have HLC := Aside0.mk hlc
                  clear hC hlc
                  have hz0 := (blk_cell ST2.out.hr 0).trans rfl
                  have hz1 := (blk_cell ST2.out.hr 1).trans rfl
                  have hz2 := (blk_cell ST2.out.hr 2).trans rfl
                  have hz3 := (blk_cell ST2.out.hr 3).trans rfl
                  by_cases hb0 : b2.toList = []
                  · have hb1 : (b2.toList == ([] : List UInt8)) = true := beq_iff_eq.mpr hb0
                    have hb2 : (b2.toList != ([] : List UInt8)) = false := bne_eq_false_iff_eq.mpr hb0
                    have HH4 := HH3.out
                    simp only [root_Decode.tellQ, if_pos hb0] at HH4
                    clear hb0 HH3
                    obtain ⟨q, hq, HH4⟩ := Option.bind_eq_some_iff.mp HH4
                    have HQ4 := Aside0.mk HH4
                    have HRC := Lib.hid (HRT.out x1 x2 x3 A c0 l2 q wr HC.out HLC.out hq)
                    clear hq HH4
                    go_wp2_with fail
                    refine HRC.out.mono ?_
                    rintro e w2 ⟨rfl, hb⟩
                    have ST3 := Aside0.mk (root_Decode.St.below_ ST2.out hb)
                    clear hb HC ST2 he hm hf hbc hz0 hz1 hz2 hz3 hb1 hb2 HRC
                    dsimp only
                    have ST2 := ST3
                    clear ST3
                    cases q with
                    | true =>
                      have HQ : Aside0 (some (x1, x2, x3, l2, none) = some (r1, r2, r3, r4, r5)) := ⟨HQ4.out⟩
                      clear HQ4
                      have he := (blk_cell ST2.out.he 0).trans rfl
                      have hf := blk_frozen ST2.out.he 0
                      simp only [errW_none] at he
                      have hz0 := (blk_cell ST2.out.hr 0).trans rfl
                      have hz1 := (blk_cell ST2.out.hr 1).trans rfl
                      have hz2 := (blk_cell ST2.out.hr 2).trans rfl
                      have hz3 := (blk_cell ST2.out.hr 3).trans rfl
                      have hy0 := blk_frozen ST2.out.hr 0
                      have hy1 := blk_frozen ST2.out.hr 1
                      have hy2 := blk_frozen ST2.out.hr 2
                      have hy3 := blk_frozen ST2.out.hr 3
                      have hge := HF.out.re
                      have hge' := HF.out.re.symm
                      go_wp2_with fail
                      obtain ⟨W9, e9, q1, q2, q3, q4, q5⟩ := root_Decode.fin_blocks (a := .int .i64 x1) (b := .int .i64 x2) (c := .int .i64 x3) (d := .slice A l2.length c0) (x := .nilIface) ST2.out.hr ST2.out.he HF.out.re
                      rw [← e9]
                      have q3' := q3 w HF.out.r0 HF.out.e0 ST2.out.low
                      clear e9
                      refine bodyPost_ret (root_Decode.results_cv rfl _ _ gr ge 39 #[.int .i64 x1, .int .i64 x2, .int .i64 x3, .slice A l2.length c0] (0, 0) _ _ (.nilIface) rfl q1 Try.underlying39 rfl (by kernel_rfl) rfl ((blk_cell q2 0).trans rfl) Try.underlying24 rfl) rfl ?_
                      have hrw := Kd.R_mono (ok' := fun _ => True) (Kd.R_step ST2.out.rows (fun k hk _ => q5 k hk.1.2.1 hk.1.2.2.1)) (fun _ _ => trivial)
                      obtain ⟨rfl, rfl, rfl, rfl, rfl⟩ := root_Decode.five HQ.out
                      exact ⟨_, rfl, hrw, q3'⟩
                    | false =>
                      have HQ : Aside0 (some (0, 0, 0, [], some 1) = some (r1, r2, r3, r4, r5)) := ⟨HQ4.out⟩
                      clear HQ4
                      have he := (blk_cell ST2.out.he 0).trans rfl
                      have hf := blk_frozen ST2.out.he 0
                      simp only [errW_none] at he
                      have ST3 := Aside0.mk (root_Decode.St.err_ HF.out ST2.out 1)
                      have he3 := (blk_cell ST3.out.he 0).trans rfl
                      simp only [errW_some] at he3
                      go_wp2_with fail
                      clear ST2 he hf he3
                      obtain ⟨wq, hwq⟩ : ∃ wq, wq = w2.setCell ⟨ge, 0, none⟩ (.iface 54 (.int .i64 1)) := ⟨_, rfl⟩
                      rw [← hwq] at ST3 ⊢
                      clear hwq
                      have he := (blk_cell ST3.out.he 0).trans rfl
                      have hf := blk_frozen ST3.out.he 0
                      simp only [errW_some] at he
                      have hz0 := (blk_cell ST3.out.hr 0).trans rfl
                      have hz1 := (blk_cell ST3.out.hr 1).trans rfl
                      have hz2 := (blk_cell ST3.out.hr 2).trans rfl
                      have hz3 := (blk_cell ST3.out.hr 3).trans rfl
                      have hy0 := blk_frozen ST3.out.hr 0
                      have hy1 := blk_frozen ST3.out.hr 1
                      have hy2 := blk_frozen ST3.out.hr 2
                      have hy3 := blk_frozen ST3.out.hr 3
                      have hge := HF.out.re
                      have hge' := HF.out.re.symm
                      refine start_ (n := 4) (S := fun w' => w'.cell? ⟨ge, 0, none⟩ = some (.iface 54 (.int .i64 1))) (ds := [3]) #[false, false, false, false] (by kernel_rfl) rfl rfl he (fun hHeld => ?_)
                      refine pure_ (i := 0) (N := some 83) (v := ?_) (a' := ?_) #[true, false, false, false] rfl rfl (by kernel_rfl) (fun _ _ _ h => h) (Or.inl ⟨by rfl, ?_⟩) ?_ ?_
                      rotate_left
                      · intro w'
                        go_simp
                        with_reducible rfl
                      rotate_left
                      · simp only [Act.put, List.setIfInBounds_toArray, List.set_cons_zero, List.set_cons_succ, i64_w, i32_w]
                        rfl
                      refine take_ (i := 1) (N := some 84) (v := ?_) (a' := ?_) #[true, true, false, false] rfl rfl (by kernel_rfl) (fun _ _ _ h => h) (Or.inl ⟨by rfl, ?_⟩) hHeld ?_ ?_
                      rotate_left
                      · intro w' s0
                        go_simp
                        with_reducible rfl
                      rotate_left
                      · simp only [Act.put, List.setIfInBounds_toArray, List.set_cons_zero, List.set_cons_succ, i64_w, i32_w]
                        rfl
                      refine one_ (i := 2) (N := none) #[true, true, true, false] rfl rfl (by kernel_rfl) (by decide) (fun K hK => ?_)
                      refine skip_ (w1 := ?_) (by rfl) rfl ?_ ?_
                      rotate_left
                      · go_simp
                        rfl
                      refine hK.out _ _ (root_Decode.far4 he hge') (fun hHeld => ?_)
                      clear hK K
                      refine last_ (i := 3) (N := none) #[true, true, true, true] rfl rfl (by kernel_rfl) (by decide) (fun K hK => ?_)
                      refine skip_ (w1 := ?_) (by rfl) rfl ?_ ?_
                      rotate_left
                      · go_simp
                        rfl
                      refine hK.out _ _ ?_
                      clear hK K
                      refine done_ (by kernel_rfl) ?_
                      go_wp2
                      obtain ⟨W9, e9, q1, q2, q3, q4, q5⟩ := root_Decode.fin_blocks (a := .int .i64 0) (b := .int .i64 0) (c := .int .i64 0) (d := .slice none 0 0) (x := .iface 54 (.int .i64 1)) ST3.out.hr ST3.out.he HF.out.re
                      rw [← e9]
                      have q3' := q3 w HF.out.r0 HF.out.e0 ST3.out.low
                      clear e9
                      refine bodyPost_ret (root_Decode.results_cv rfl _ _ gr ge 39 #[.int .i64 0, .int .i64 0, .int .i64 0, .slice none 0 0] (0, 0) _ _ (.iface 54 (.int .i64 1)) rfl (blk_drew q1) Try.underlying39 rfl (by kernel_rfl) rfl ((blk_cell (blk_drew q2) 0).trans rfl) Try.underlying24 rfl) rfl ?_
                      obtain ⟨rfl, rfl, rfl, rfl, rfl⟩ := root_Decode.five HQ.out
                      exact ⟨.slice none 0 0, rfl, Kd.R_nil _ _ _ _ _, below_drew1 q3'⟩
                  · have hb1 : (b2.toList == ([] : List UInt8)) = false := beq_eq_false_iff_ne.mpr hb0
                    have hb2 : (b2.toList != ([] : List UInt8)) = true := bne_iff_ne.mpr hb0
                    have HQ : Aside0 (some (0, 0, 0, [], some 3) = some (r1, r2, r3, r4, r5)) := ⟨by rw [← HH3.out]; simp [root_Decode.tellQ, hb0]⟩
                    clear hb0 HH3
                    have ST3 := Aside0.mk (root_Decode.St.err_ HF.out ST2.out 3)
                    have he3 := (blk_cell ST3.out.he 0).trans rfl
                    have hf3 := blk_frozen ST3.out.he 0
                    simp only [errW_some] at he3
                    go_wp2_with fail
                    clear ST2 he hm hf hbc he3 hf3 hz0 hz1 hz2 hz3 hb1 hb2
                    obtain ⟨wq, hwq⟩ : ∃ wq, wq = wr.setCell ⟨ge, 0, none⟩ (.iface 54 (.int .i64 3)) := ⟨_, rfl⟩
                    rw [← hwq] at ST3 ⊢
                    clear hwq
                    have he := (blk_cell ST3.out.he 0).trans rfl
                    have hf := blk_frozen ST3.out.he 0
                    simp only [errW_some] at he
                    have hz0 := (blk_cell ST3.out.hr 0).trans rfl
                    have hz1 := (blk_cell ST3.out.hr 1).trans rfl
                    have hz2 := (blk_cell ST3.out.hr 2).trans rfl
                    have hz3 := (blk_cell ST3.out.hr 3).trans rfl
                    have hy0 := blk_frozen ST3.out.hr 0
                    have hy1 := blk_frozen ST3.out.hr 1
                    have hy2 := blk_frozen ST3.out.hr 2
                    have hy3 := blk_frozen ST3.out.hr 3
                    have hge := HF.out.re
                    have hge' := HF.out.re.symm
                    refine start_ (n := 4) (S := fun w' => w'.cell? ⟨ge, 0, none⟩ = some (.iface 54 (.int .i64 3))) (ds := [3]) #[false, false, false, false] (by kernel_rfl) rfl rfl he (fun hHeld => ?_)
                    refine pure_ (i := 0) (N := some 83) (v := ?_) (a' := ?_) #[true, false, false, false] rfl rfl (by kernel_rfl) (fun _ _ _ h => h) (Or.inl ⟨by rfl, ?_⟩) ?_ ?_
                    rotate_left
                    · intro w'
                      go_simp
                      with_reducible rfl
                    rotate_left
                    · simp only [Act.put, List.setIfInBounds_toArray, List.set_cons_zero, List.set_cons_succ, i64_w, i32_w]
                      rfl
                    refine take_ (i := 1) (N := some 84) (v := ?_) (a' := ?_) #[true, true, false, false] rfl rfl (by kernel_rfl) (fun _ _ _ h => h) (Or.inl ⟨by rfl, ?_⟩) hHeld ?_ ?_
                    rotate_left
                    · intro w' s0
                      go_simp
                      with_reducible rfl
                    rotate_left
                    · simp only [Act.put, List.setIfInBounds_toArray, List.set_cons_zero, List.set_cons_succ, i64_w, i32_w]
                      rfl
                    refine one_ (i := 2) (N := none) #[true, true, true, false] rfl rfl (by kernel_rfl) (by decide) (fun K hK => ?_)
                    refine skip_ (w1 := ?_) (by rfl) rfl ?_ ?_
                    rotate_left
                    · go_simp
                      rfl
                    refine hK.out _ _ (root_Decode.far4 he hge') (fun hHeld => ?_)
                    clear hK K
                    refine last_ (i := 3) (N := none) #[true, true, true, true] rfl rfl (by kernel_rfl) (by decide) (fun K hK => ?_)
                    refine skip_ (w1 := ?_) (by rfl) rfl ?_ ?_
                    rotate_left
                    · go_simp
                      rfl
                    refine hK.out _ _ ?_
                    clear hK K
                    refine done_ (by kernel_rfl) ?_
                    go_wp2
                    obtain ⟨W9, e9, q1, q2, q3, q4, q5⟩ := root_Decode.fin_blocks (a := .int .i64 0) (b := .int .i64 0) (c := .int .i64 0) (d := .slice none 0 0) (x := .iface 54 (.int .i64 3)) ST3.out.hr ST3.out.he HF.out.re
                    rw [← e9]
                    have q3' := q3 w HF.out.r0 HF.out.e0 ST3.out.low
                    clear e9
                    refine bodyPost_ret (root_Decode.results_cv rfl _ _ gr ge 39 #[.int .i64 0, .int .i64 0, .int .i64 0, .slice none 0 0] (0, 0) _ _ (.iface 54 (.int .i64 3)) rfl (blk_drew q1) Try.underlying39 rfl (by kernel_rfl) rfl ((blk_cell (blk_drew q2) 0).trans rfl) Try.underlying24 rfl) rfl ?_
                    obtain ⟨rfl, rfl, rfl, rfl, rfl⟩ := root_Decode.five HQ.out
                    exact ⟨.slice none 0 0, rfl, Kd.R_nil _ _ _ _ _, below_drew1 q3'⟩
      · have c0 := (blk_cell HP2.out 0).trans rfl
        have c1 := (blk_cell HP2.out 1).trans rfl
        have c2 := (blk_cell HP2.out 2).trans rfl
        have c3 := (blk_cell HP2.out 3).trans rfl
        rcases j with _ | _ | _ | _ | j
        · go_wp2_with fail
          refine (root_Decode.step_ HF.out ST2.out 0 (by decide)).mono ?_
          rintro e w2 ⟨rfl, h1, h2⟩
          have h3 := Aside0.mk h1
          have h4 := Aside0.mk ((h2 _ (blk_lt HP2.out) HN.out.1 HN.out.2.1 HN.out.2.2.1 HN.out.2.2.2).trans HP2.out)
          clear h1 h2 c0 c1 c2 c3 HP2 ST2
          go_wp2_with fail
          refine ⟨⟨1, by omega, by go_num, h3, h4, HN⟩, by simp [intOf]⟩
        · go_wp2_with fail
          refine (root_Decode.step_ HF.out ST2.out 1 (by decide)).mono ?_
          rintro e w2 ⟨rfl, h1, h2⟩
          have h3 := Aside0.mk h1
          have h4 := Aside0.mk ((h2 _ (blk_lt HP2.out) HN.out.1 HN.out.2.1 HN.out.2.2.1 HN.out.2.2.2).trans HP2.out)
          clear h1 h2 c0 c1 c2 c3 HP2 ST2
          go_wp2_with fail
          refine ⟨⟨2, by omega, by go_num, h3, h4, HN⟩, by simp [intOf]⟩
        · go_wp2_with fail
          refine (root_Decode.step_ HF.out ST2.out 2 (by decide)).mono ?_
          rintro e w2 ⟨rfl, h1, h2⟩
          have h3 := Aside0.mk h1
          have h4 := Aside0.mk ((h2 _ (blk_lt HP2.out) HN.out.1 HN.out.2.1 HN.out.2.2.1 HN.out.2.2.2).trans HP2.out)
          clear h1 h2 c0 c1 c2 c3 HP2 ST2
          go_wp2_with fail
          refine ⟨⟨3, by omega, by go_num, h3, h4, HN⟩, by simp [intOf]⟩
        · go_wp2_with fail
          refine (root_Decode.step_ HF.out ST2.out 3 (by decide)).mono ?_
          rintro e w2 ⟨rfl, h1, h2⟩
          have h3 := Aside0.mk h1
          have h4 := Aside0.mk ((h2 _ (blk_lt HP2.out) HN.out.1 HN.out.2.1 HN.out.2.2.1 HN.out.2.2.2).trans HP2.out)
          clear h1 h2 c0 c1 c2 c3 HP2 ST2
          go_wp2_with fail
          refine ⟨⟨4, by omega, by go_num, h3, h4, HN⟩, by simp [intOf]⟩
        · omega
set_option maxHeartbeats 4000000 in
set_option maxRecDepth 100000 in
theorem root_Decode.long_ (a0 : Int) (a1 : ByteArray) (r1 r2 r3 : Int) (r4 : List S42) (r5 : Option Int) (w : World) (c1 : 512 < a1.size) (h : some (0, 0, 0, [], some 5) = some (r1, r2, r3, r4, r5)) :
    Calls Try.prog 19 #[.int .i64 a0, .string a1] w fun e w' => ∃ v3_ : Value, e = .returned (.tuple #[.agg #[.int .i64 r1, .int .i64 r2, .int .i64 r3, v3_], errW r5]) ∧ Kd.R k42 42 w' w.heap.size (fun _ => True) v3_ r4 ∧ Below w.heap.size w w' := by
  have HQ := Aside0.mk h
  clear h
  go_enter Try.func19, Try.ntmps19
  go_wp2_with fail
  have hr := blk_new (w.alloc (.cells #[.string a1] 9)) (.cells #[.int .i64 0, .int .i64 0, .int .i64 0, .slice none 0 0] 39)
  rw [show (w.alloc (.cells #[.string a1] 9)).heap.size = w.heap.size + 1 by simp] at hr
  have he := blk_new ((w.alloc (.cells #[.string a1] 9)).alloc (.cells #[.int .i64 0, .int .i64 0, .int .i64 0, .slice none 0 0] 39)) (.cells #[.iface 54 (.int .i64 5)] 24)
  rw [show ((w.alloc (.cells #[.string a1] 9)).alloc (.cells #[.int .i64 0, .int .i64 0, .int .i64 0, .slice none 0 0] 39)).heap.size = w.heap.size + 1 + 1 by simp] at he
  refine bodyPost_ret (root_Decode.results_cv rfl _ _ (w.heap.size + 1) (w.heap.size + 1 + 1) 39 #[.int .i64 0, .int .i64 0, .int .i64 0, .slice none 0 0] (0, 0) _ _ (.iface 54 (.int .i64 5)) rfl (blk_alloc hr _) Try.underlying39 rfl (by kernel_rfl) rfl ((blk_cell he 0).trans rfl) Try.underlying24 rfl) rfl ?_
  obtain ⟨rfl, rfl, rfl, rfl, rfl⟩ := root_Decode.five HQ.out
  exact ⟨.slice none 0 0, rfl, Kd.R_nil _ _ _ _ _, below_alloc (below_alloc (below_alloc (Below.refl _ _) _) _) _⟩
def root_Decode.f (k : Nat) (a0 : Int) (a1 : ByteArray) : Option (Int × Int × Int × List S42 × Option Int) := if 512 < a1.size then some (0, 0, 0, [], some 5) else root_Decode.tellQ (root_Right.f k a0) (root_Decode.pre a1)
theorem root_Decode.mono : ∀ a0 a1 k, LeO (root_Decode.f k a0 a1) (root_Decode.f (k + 1) a0 a1) := by
  intro a0 a1 k
  unfold root_Decode.f
  split
  · exact LeO.refl _
  · obtain ⟨t, l, b, e⟩ := root_Decode.pre a1
    cases e with
    | some e => exact LeO.refl _
    | none =>
      simp only [root_Decode.tellQ]
      split
      · exact LeO.bind (root_Right.mono _ _ _ _ _ _) (fun _ => LeO.refl _)
      · exact LeO.refl _
theorem root_Decode.calls (k : Nat) (a0 : Int) (a1 : ByteArray) (r1 : Int) (r2 : Int) (r3 : Int) (r4 : List (S42)) (r5 : Option Int) (w : World) (h : root_Decode.f k a0 a1 = some (r1, r2, r3, r4, r5)) :
    Calls Try.prog 19 #[.int .i64 a0, .string a1] w fun e w' => ∃ v3_ : Value, e = .returned (.tuple #[.agg #[.int .i64 r1, .int .i64 r2, .int .i64 r3, v3_], errW r5]) ∧ Kd.R k42 42 w' w.heap.size (fun _ => True) v3_ r4 ∧ Below w.heap.size w w' := by
  unfold root_Decode.f at h
  split at h
  · next c1 => exact root_Decode.long_ a0 a1 r1 r2 r3 r4 r5 w c1 h
  · next c1 => exact root_Decode.walk_ (root_Right.f k a0) a0 a1 r1 r2 r3 r4 r5 w c1 (fun x1 x2 x3 A c l r W h1 h2 h3 => root_Right.calls k a0 x1 x2 x3 A c l r W h1 h2 h3) h


end Go.Proofs.Yticajnfmjapkgaa.PD

-- printed by gprint.py (own tool) over the kit's print
namespace Go.Proofs.Yticajnfmjapkgaa.PD
open Go.RowKit Go.Proofs.Yticajnfmjapkgaa Go.Proofs.YticajnfmjapkgaaW.PrintWords Go.Proofs.YticajnfmjapkgaaW.PrintLast Go.Proofs.YticajnfmjapkgaaW.PrintMore
attribute [local go_sem] max2_int min2_int max_two min_two max_three min_three max_four min_four   -- for this text's walks alone
set_option linter.unnecessarySimpa false
attribute [local go_sem] min2_str max2_str leq_str gtr_str geq_str
set_option linter.unusedVariables false
set_option linter.unusedSimpArgs false

/-! ### palinoderef01_ReadNum: function 33 -/
mutual
def palinoderef01_ReadNum.j0 : Nat → ByteArray → Int → Bool → Option (Int × ByteArray × Int)
  | 0, _, _, _ => none
  | k + 1, x0, x5, x26 => if x26 = true then (some (0, (⟨#[]⟩ : ByteArray), 3)) else (palinoderef01_ReadNum.l0 k x0 x5 0 0)
def palinoderef01_ReadNum.l0 : Nat → ByteArray → Int → Int → Int → Option (Int × ByteArray × Int)
  | 0, _, _, _, _ => none
  | k + 1, x0, x5, x6, x7 => if x7 < x5 then (if 0 ≤ (wrap64 (1 + x7)) then (if (wrap64 (1 + x7)) < (x0.size : Int) then (palinoderef01_ReadNum.l0 k x0 x5 (wrap64 ((wrap64 (256 * x6)) + (wrap64 (bt x0 (wrap64 (1 + x7)))))) (wrap64 (x7 + 1))) else (none)) else (none)) else (if x6 > 9007199254740991 then (some (0, (⟨#[]⟩ : ByteArray), 3)) else (if 0 ≤ (wrap64 (1 + x5)) then (if (wrap64 (1 + x5)) ≤ (x0.size : Int) then (some (x6, x0.extract ((wrap64 (1 + x5)) : Int).toNat x0.size, 0)) else (none)) else (none)))
end
def palinoderef01_ReadNum.f (k : Nat) (a0 : ByteArray) : Option (Int × ByteArray × Int) := if a0.toList = ([] : List UInt8) then (some (0, (⟨#[]⟩ : ByteArray), 2)) else (if 0 < (a0.size : Int) then (if (wrap64 (bt a0 0)) > 7 then (some (0, (⟨#[]⟩ : ByteArray), 3)) else (if (a0.size : Int) < (wrap64 (1 + (wrap64 (bt a0 0)))) then (some (0, (⟨#[]⟩ : ByteArray), 2)) else (if (wrap64 (bt a0 0)) > 0 then (if 1 < (a0.size : Int) then (palinoderef01_ReadNum.j0 k a0 (wrap64 (bt a0 0)) ((bt a0 1) == 0)) else (none)) else (palinoderef01_ReadNum.j0 k a0 (wrap64 (bt a0 0)) false)))) else (none))
theorem palinoderef01_ReadNum.mono_l : ∀ k, (∀ y0 y1 y2, LeO (palinoderef01_ReadNum.j0 k y0 y1 y2) (palinoderef01_ReadNum.j0 (k + 1) y0 y1 y2)) ∧ (∀ y0 y1 y2 y3, LeO (palinoderef01_ReadNum.l0 k y0 y1 y2 y3) (palinoderef01_ReadNum.l0 (k + 1) y0 y1 y2 y3))
  | 0 => ⟨fun _ _ _ r h => by simp [palinoderef01_ReadNum.j0] at h, fun _ _ _ _ r h => by simp [palinoderef01_ReadNum.l0] at h⟩
  | k + 1 => by
    obtain ⟨ih0, ih1⟩ := palinoderef01_ReadNum.mono_l k
    refine ⟨?_, ?_⟩
    · intro y0 y1 y2
      unfold palinoderef01_ReadNum.j0
      repeat' first
      | (with_reducible exact ih0 _ _ _)
      | (with_reducible exact ih1 _ _ _ _)
      | (with_reducible exact LeO.refl _)
      | (with_reducible exact LeO.none _)
      | (with_reducible refine LeO.ite ?_ ?_)
      | (with_reducible refine LeO.bind ?_ (fun _ => ?_))
      | exact ih0 _ _ _
      | exact ih1 _ _ _ _
      | exact LeO.none _
      | refine LeO.ite ?_ ?_
      | refine LeO.bind ?_ (fun _ => ?_)
    · intro y0 y1 y2 y3
      unfold palinoderef01_ReadNum.l0
      repeat' first
      | (with_reducible exact ih0 _ _ _)
      | (with_reducible exact ih1 _ _ _ _)
      | (with_reducible exact LeO.refl _)
      | (with_reducible exact LeO.none _)
      | (with_reducible refine LeO.ite ?_ ?_)
      | (with_reducible refine LeO.bind ?_ (fun _ => ?_))
      | exact ih0 _ _ _
      | exact ih1 _ _ _ _
      | exact LeO.none _
      | refine LeO.ite ?_ ?_
      | refine LeO.bind ?_ (fun _ => ?_)
theorem palinoderef01_ReadNum.mono : ∀ a0 k, LeO (palinoderef01_ReadNum.f k a0) (palinoderef01_ReadNum.f (k + 1) a0) := by
  intro a0 k
  obtain ⟨ih0, ih1⟩ := palinoderef01_ReadNum.mono_l k
  unfold palinoderef01_ReadNum.f
  repeat' first
      | (with_reducible exact ih0 _ _ _)
      | (with_reducible exact ih1 _ _ _ _)
      | (with_reducible exact LeO.refl _)
      | (with_reducible exact LeO.none _)
      | (with_reducible refine LeO.ite ?_ ?_)
      | (with_reducible refine LeO.bind ?_ (fun _ => ?_))
      | exact ih0 _ _ _
      | exact ih1 _ _ _ _
      | exact LeO.none _
      | refine LeO.ite ?_ ?_
      | refine LeO.bind ?_ (fun _ => ?_)
set_option maxHeartbeats 8000000 in
set_option maxRecDepth 100000 in
theorem palinoderef01_ReadNum.calls (k : Nat) (a0 : ByteArray) (r1 : Int) (r2 : ByteArray) (r3 : Int) (w : World) (h : palinoderef01_ReadNum.f k a0 = some (r1, r2, r3)) :
    Calls Try.prog 33 #[.string a0] w fun e w' => e = .returned (.tuple #[.int .i64 r1, .string r2, .int .i64 r3]) ∧ Drawn0 w w' := by
  have H : (if a0.toList = ([] : List UInt8) then (some (0, (⟨#[]⟩ : ByteArray), 2)) else (if 0 < (a0.size : Int) then (if (wrap64 (bt a0 0)) > 7 then (some (0, (⟨#[]⟩ : ByteArray), 3)) else (if (a0.size : Int) < (wrap64 (1 + (wrap64 (bt a0 0)))) then (some (0, (⟨#[]⟩ : ByteArray), 2)) else (if (wrap64 (bt a0 0)) > 0 then (if 1 < (a0.size : Int) then (palinoderef01_ReadNum.j0 k a0 (wrap64 (bt a0 0)) ((bt a0 1) == 0)) else (none)) else (palinoderef01_ReadNum.j0 k a0 (wrap64 (bt a0 0)) false)))) else (none))) = some (r1, r2, r3) := h
  clear h
  by_cases c2 : a0.toList = ([] : List UInt8)
  · rw [if_pos c2] at H
    have c2b0 : (a0.toList == ([] : List UInt8)) = true := beq_iff_eq.mpr c2
    have c2b1 : (a0.toList != ([] : List UInt8)) = false := bne_eq_false_iff_eq.mpr c2
    clear c2
    simp only [Option.some.injEq, Prod.mk.injEq] at H
    obtain ⟨rfl, rfl, rfl⟩ := H
    go_enter Try.func33, Try.ntmps33
    go_wp2
    repeat (go_quiet (fail); try go_wp2)
    go_ret3
    exact ⟨by first | rfl | (simp; done) | (simp [*]; done), by repeat (first | exact Drawn0.refl _ | apply Drawn0.step)⟩
  · rw [if_neg c2] at H
    have c2b0 : (a0.toList == ([] : List UInt8)) = false := beq_eq_false_iff_ne.mpr c2
    have c2b1 : (a0.toList != ([] : List UInt8)) = true := bne_iff_ne.mpr c2
    by_cases c3 : 0 < (a0.size : Int)
    · rw [if_pos c3] at H
      have c3b0 : decide (0 < (a0.size : Int)) = true := decide_eq_true c3
      have c3b1 : decide (0 < a0.size) = true := decide_eq_true (by omega)
      clear c3
      by_cases c5 : (wrap64 (bt a0 0)) > 7
      · rw [if_pos c5] at H
        have c5b0 : decide (7 < (wrap64 (bt a0 0))) = true := decide_eq_true c5
        clear c5
        simp only [Option.some.injEq, Prod.mk.injEq] at H
        obtain ⟨rfl, rfl, rfl⟩ := H
        have p4 : 0 ≤ (0 : Int) := (by omega)
        have q4 : 0 < a0.size := (by have : (0 : Int) < (a0.size : Int) := of_decide_eq_true (by first | (with_reducible assumption) | assumption); omega)
        have hx4 : ∀ h : 0 < a0.size, ((a0[0]'h).toNat : Int) = bt a0 0 := bt_at a0 0
        clear p4
        have qi4 : (0 < (a0.size : Int)) = True := eq_true (of_decide_eq_true (by first | (with_reducible assumption) | assumption))
        replace q4 := eq_true q4
        go_enter Try.func33, Try.ntmps33
        go_wp2
        repeat (go_quiet (fail); try go_wp2)
        go_ret3
        exact ⟨by first | rfl | (simp; done) | (simp [*]; done), by repeat (first | exact Drawn0.refl _ | apply Drawn0.step)⟩
      · rw [if_neg c5] at H
        have c5b0 : decide (7 < (wrap64 (bt a0 0))) = false := decide_eq_false c5
        clear c5
        by_cases c6 : (a0.size : Int) < (wrap64 (1 + (wrap64 (bt a0 0))))
        · rw [if_pos c6] at H
          have c6b0 : decide ((a0.size : Int) < (wrap64 (1 + (wrap64 (bt a0 0))))) = true := decide_eq_true c6
          clear c6
          simp only [Option.some.injEq, Prod.mk.injEq] at H
          obtain ⟨rfl, rfl, rfl⟩ := H
          have p4 : 0 ≤ (0 : Int) := (by omega)
          have q4 : 0 < a0.size := (by have : (0 : Int) < (a0.size : Int) := of_decide_eq_true (by first | (with_reducible assumption) | assumption); omega)
          have hx4 : ∀ h : 0 < a0.size, ((a0[0]'h).toNat : Int) = bt a0 0 := bt_at a0 0
          clear p4
          have qi4 : (0 < (a0.size : Int)) = True := eq_true (of_decide_eq_true (by first | (with_reducible assumption) | assumption))
          replace q4 := eq_true q4
          go_enter Try.func33, Try.ntmps33
          go_wp2
          repeat (go_quiet (fail); try go_wp2)
          go_ret3
          exact ⟨by first | rfl | (simp; done) | (simp [*]; done), by repeat (first | exact Drawn0.refl _ | apply Drawn0.step)⟩
        · rw [if_neg c6] at H
          have c6b0 : decide ((a0.size : Int) < (wrap64 (1 + (wrap64 (bt a0 0))))) = false := decide_eq_false c6
          clear c6
          have HC7 := Aside0.mk H
          clear H
          have p4 : 0 ≤ (0 : Int) := (by omega)
          have q4 : 0 < a0.size := (by have : (0 : Int) < (a0.size : Int) := of_decide_eq_true (by first | (with_reducible assumption) | assumption); omega)
          have hx4 : ∀ h : 0 < a0.size, ((a0[0]'h).toNat : Int) = bt a0 0 := bt_at a0 0
          clear p4
          have qi4 : (0 < (a0.size : Int)) = True := eq_true (of_decide_eq_true (by first | (with_reducible assumption) | assumption))
          replace q4 := eq_true q4
          go_enter Try.func33, Try.ntmps33
          go_upto_region 8 with (fail)
          repeat (go_quiet (fail); go_upto_region 8 with (fail))
          go_cut [26] (fun v26 wc => ∃ (kq : Nat) (x26_6 : Bool), v26 = .bool x26_6 ∧ Aside0 (palinoderef01_ReadNum.j0 kq a0 (wrap64 (bt a0 0)) x26_6 = some (r1, r2, r3)) ∧ Aside0 (kq ≤ k) ∧ Drawn0 w wc)
          case first =>
            have H := HC7.out
            clear HC7
            by_cases c8 : (wrap64 (bt a0 0)) > 0
            · rw [if_pos c8] at H
              have c8b0 : decide (0 < (wrap64 (bt a0 0))) = true := decide_eq_true c8
              clear c8
              (first | rw [c8b0] | (simp only [i64_w, i32_w]; rw [c8b0]) | skip)
              by_cases c9 : 1 < (a0.size : Int)
              · rw [if_pos c9] at H
                have c9b0 : decide (1 < (a0.size : Int)) = true := decide_eq_true c9
                have c9b1 : decide (1 < a0.size) = true := decide_eq_true (by omega)
                clear c9
                have H' := Aside0.mk H
                clear H
                have p10 : 0 ≤ (1 : Int) := (by omega)
                have q10 : 1 < a0.size := (by have : (1 : Int) < (a0.size : Int) := of_decide_eq_true (by first | (with_reducible assumption) | assumption); omega)
                have hx10 : ∀ h : 1 < a0.size, ((a0[1]'h).toNat : Int) = bt a0 1 := bt_at a0 1
                clear p10
                have qi10 : (1 < (a0.size : Int)) = True := eq_true (of_decide_eq_true (by first | (with_reducible assumption) | assumption))
                replace q10 := eq_true q10
                go_wp2
                repeat (go_quiet (fail); try go_wp2)
                go_meet
                case rel => exact ⟨_, (((bt a0 1) == 0)), (by first | rfl | (simp; done) | (simp [*]; done)), H', ⟨by first | omega | exact Nat.le_refl _⟩, by repeat (first | exact Drawn0.refl _ | apply Drawn0.step)⟩
              · rw [if_neg c9] at H
                exact absurd H (by simp)
            · rw [if_neg c8] at H
              have c8b0 : decide (0 < (wrap64 (bt a0 0))) = false := decide_eq_false c8
              clear c8
              (first | rw [c8b0] | (simp only [i64_w, i32_w]; rw [c8b0]) | skip)
              have H' := Aside0.mk H
              clear H
              go_wp2
              repeat (go_quiet (fail); try go_wp2)
              go_meet
              case rel => exact ⟨_, (false), (by first | rfl | (simp; done) | (simp [*]; done)), H', ⟨by first | omega | exact Nat.le_refl _⟩, by repeat (first | exact Drawn0.refl _ | apply Drawn0.step)⟩
          case rest =>
            clear HC7
            try clear p1
            try clear q1
            try clear hx1
            try clear qi1
            try clear c2
            try clear c2b0
            try clear c2b1
            try clear p2
            try clear c3
            try clear c3b0
            try clear c3b1
            try clear p4
            try clear q4
            try clear hx4
            try clear qi4
            try clear c5
            try clear c5b0
            try clear c6
            try clear c6b0
            try clear p6
            try clear c8
            try clear c8b0
            try clear c9
            try clear c9b0
            try clear c9b1
            try clear p10
            try clear q10
            try clear hx10
            try clear qi10
            try clear p10
            try clear p4
            try clear q10
            try clear q4
            obtain ⟨kq, x26_6, rfl, HA, HJ6, ⟨mc6, rfl⟩⟩ := hcut
            cases kq with
            | zero => exact absurd HA.out (by simp [palinoderef01_ReadNum.j0])
            | succ kj6 =>
              have H := HA.out
              clear HA
              simp only [palinoderef01_ReadNum.j0] at H
              by_cases c11 : x26_6 = true
              · subst c11
                have H1 : (some (0, (⟨#[]⟩ : ByteArray), 3)) = some (r1, r2, r3) := by rw [if_pos rfl] at H; exact H
                clear H
                have H := H1
                clear H1
                simp only [Option.some.injEq, Prod.mk.injEq] at H
                obtain ⟨rfl, rfl, rfl⟩ := H
                go_wp2
                repeat (go_quiet (fail); try go_wp2)
                go_ret3
                exact ⟨by first | rfl | (simp; done) | (simp [*]; done), by repeat (first | exact Drawn0.refl _ | apply Drawn0.step)⟩
              · replace c11 := Bool.eq_false_iff.mpr c11
                subst c11
                have H1 : (palinoderef01_ReadNum.l0 kj6 a0 (wrap64 (bt a0 0)) 0 0) = some (r1, r2, r3) := by rw [if_neg (show ¬ (false = true) by decide)] at H; exact H
                clear H
                have H := H1
                clear H1
                have H' := Aside0.mk H
                clear H
                go_wp2
                repeat (go_quiet (fail); try go_wp2)
                go_loopg [6, 7] kj6 (fun kq v6 v7 w' => ∃ (x6_2 : Int) (x7_2 : Int), v6 = .int .i64 x6_2 ∧ v7 = .int .i64 x7_2 ∧ Aside0 (palinoderef01_ReadNum.l0 kq a0 (wrap64 (bt a0 0)) x6_2 x7_2 = some (r1, r2, r3)) ∧ Aside0 (kq ≤ kj6) ∧ Drawn0 w w')
                case atStart => exact ⟨(0), (0), (by first | rfl | (simp; done) | (simp [*]; done)), (by first | rfl | (simp; done) | (simp [*]; done)), H', ⟨Nat.le_refl _⟩, by repeat (first | exact Drawn0.refl _ | apply Drawn0.step)⟩
                case round =>
                  clear H'
                  try clear c1
                  try clear p1
                  try clear q1
                  try clear hx1
                  try clear qi1
                  try clear c2
                  try clear c2b0
                  try clear c2b1
                  try clear p2
                  try clear c3
                  try clear c3b0
                  try clear c3b1
                  try clear p4
                  try clear q4
                  try clear hx4
                  try clear qi4
                  try clear c5
                  try clear c5b0
                  try clear c6
                  try clear c6b0
                  try clear p6
                  try clear c8
                  try clear c8b0
                  try clear c9
                  try clear c9b0
                  try clear c9b1
                  try clear p10
                  try clear q10
                  try clear hx10
                  try clear qi10
                  try clear c11
                  try clear p1
                  try clear p10
                  try clear p2
                  try clear p4
                  try clear p6
                  try clear q1
                  try clear q10
                  try clear q4
                  obtain ⟨x6_2, x7_2, rfl, rfl, HA, HK2, ⟨m2, rfl⟩⟩ := hrel
                  cases gk with
                  | zero => exact absurd HA.out (by simp [palinoderef01_ReadNum.l0])
                  | succ k2 =>
                    have H := HA.out
                    clear HA
                    simp only [palinoderef01_ReadNum.l0] at H
                    by_cases c12 : x7_2 < (wrap64 (bt a0 0))
                    · rw [if_pos c12] at H
                      have c12b0 : decide (x7_2 < (wrap64 (bt a0 0))) = true := decide_eq_true c12
                      clear c12
                      obtain ⟨ji13, hji13⟩ : ∃ j_ : Int, (wrap64 (1 + x7_2)) = j_ := ⟨_, rfl⟩
                      replace H : (if 0 ≤ (ji13) then (if (ji13) < (a0.size : Int) then (palinoderef01_ReadNum.l0 k2 a0 (wrap64 (bt a0 0)) (wrap64 ((wrap64 (256 * x6_2)) + (wrap64 (bt a0 (ji13))))) (wrap64 (x7_2 + 1))) else (none)) else (none)) = some (r1, r2, r3) := by first | (rw [hji13] at H; exact H) | (simp only [hji13] at H ⊢; exact H)
                      have hji13w : (IntKind.i64.wrap (1 + x7_2)) = ji13 := (i64_w _).trans hji13
                      by_cases c14 : 0 ≤ (ji13)
                      · rw [if_pos c14] at H
                        have c14b0 : decide (0 ≤ (ji13)) = true := decide_eq_true c14
                        clear c14
                        by_cases c15 : (ji13) < (a0.size : Int)
                        · rw [if_pos c15] at H
                          have c15b0 : decide ((ji13) < (a0.size : Int)) = true := decide_eq_true c15
                          clear c15
                          have H' := Aside0.mk H
                          clear H
                          have p16 : 0 ≤ ((ji13) : Int) := of_decide_eq_true (by first | (with_reducible assumption) | assumption)
                          have q16 : (ji13) < (a0.size : Int) := of_decide_eq_true (by first | (with_reducible assumption) | assumption)
                          have hx16 := bt_at a0 (ji13)
                          replace p16 := eq_true p16
                          replace q16 := eq_true q16
                          go_wp2
                          repeat (go_quiet (fail); try go_wp2)
                          go_roundg k2
                          case measure => have := HJ6.out; have := HK2.out; omega
                          case rel => exact ⟨(wrap64 ((wrap64 (256 * x6_2)) + (wrap64 (bt a0 (ji13))))), (wrap64 (x7_2 + 1)), (by first | rfl | (simp; done) | (simp only [← hji13] <;> (first | rfl | simp)) | (simp [*]; done)), (by first | rfl | (simp; done) | (simp [*]; done)), H', ⟨by have := HJ6.out; have := HK2.out; omega⟩, by repeat (first | exact Drawn0.refl _ | apply Drawn0.step)⟩
                        · rw [if_neg c15] at H
                          exact absurd H (by simp)
                      · rw [if_neg c14] at H
                        exact absurd H (by simp)
                    · rw [if_neg c12] at H
                      have c12b0 : decide (x7_2 < (wrap64 (bt a0 0))) = false := decide_eq_false c12
                      clear c12
                      by_cases c17 : x6_2 > 9007199254740991
                      · rw [if_pos c17] at H
                        have c17b0 : decide (9007199254740991 < x6_2) = true := decide_eq_true c17
                        clear c17
                        simp only [Option.some.injEq, Prod.mk.injEq] at H
                        obtain ⟨rfl, rfl, rfl⟩ := H
                        go_wp2
                        repeat (go_quiet (fail); try go_wp2)
                        go_ret3
                        exact ⟨by first | rfl | (simp; done) | (simp [*]; done), by repeat (first | exact Drawn0.refl _ | apply Drawn0.step)⟩
                      · rw [if_neg c17] at H
                        have c17b0 : decide (9007199254740991 < x6_2) = false := decide_eq_false c17
                        clear c17
                        obtain ⟨ji18, hji18⟩ : ∃ j_ : Int, (wrap64 (1 + (wrap64 (bt a0 0)))) = j_ := ⟨_, rfl⟩
                        replace H : (if 0 ≤ (ji18) then (if (ji18) ≤ (a0.size : Int) then (some (x6_2, a0.extract ((ji18) : Int).toNat a0.size, 0)) else (none)) else (none)) = some (r1, r2, r3) := by first | (rw [hji18] at H; exact H) | (simp only [hji18] at H ⊢; exact H)
                        (try rw [hji18] at c6b0)
                        have hji18w : (IntKind.i64.wrap (1 + (wrap64 (bt a0 0)))) = ji18 := (i64_w _).trans hji18
                        by_cases c19 : 0 ≤ (ji18)
                        · rw [if_pos c19] at H
                          have c19b0 := eq_true c19
                          have c19b1 : decide (0 ≤ (ji18)) = true := decide_eq_true c19
                          clear c19
                          by_cases c20 : (ji18) ≤ (a0.size : Int)
                          · rw [if_pos c20] at H
                            have c20b0 := eq_true c20
                            have c20b1 : decide ((ji18) ≤ (a0.size : Int)) = true := decide_eq_true c20
                            clear c20
                            simp only [Option.some.injEq, Prod.mk.injEq] at H
                            obtain ⟨rfl, rfl, rfl⟩ := H
                            go_wp2
                            repeat (go_quiet (fail); try go_wp2)
                            go_ret3
                            exact ⟨by first | rfl | (simp; done) | (simp only [← hji18] <;> (first | rfl | simp)) | (simp [*]; done), by repeat (first | exact Drawn0.refl _ | apply Drawn0.step)⟩
                          · rw [if_neg c20] at H
                            exact absurd H (by simp)
                        · rw [if_neg c19] at H
                          exact absurd H (by simp)
    · rw [if_neg c3] at H
      exact absurd H (by simp)

end Go.Proofs.Yticajnfmjapkgaa.PD

-- printed by gprint.py (own tool) over the kit's print
namespace Go.Proofs.Yticajnfmjapkgaa.PD
open Go.RowKit Go.Proofs.Yticajnfmjapkgaa Go.Proofs.YticajnfmjapkgaaW.PrintWords Go.Proofs.YticajnfmjapkgaaW.PrintLast Go.Proofs.YticajnfmjapkgaaW.PrintMore
attribute [local go_sem] max2_int min2_int max_two min_two max_three min_three max_four min_four   -- for this text's walks alone
set_option linter.unnecessarySimpa false
attribute [local go_sem] min2_str max2_str leq_str gtr_str geq_str
set_option linter.unusedVariables false
set_option linter.unusedSimpArgs false

/-! ### palinoderef01_Num: function 26 -/
mutual
def palinoderef01_Num.j0 : Nat → Int → Bool → Option (ByteArray × Bool)
  | 0, _, _ => none
  | k + 1, x0, x12 => if x12 = true then (some ((⟨#[]⟩ : ByteArray), false)) else (palinoderef01_Num.l0 k x0 ([] : List Int))
def palinoderef01_Num.l0 : Nat → Int → List Int → Option (ByteArray × Bool)
  | 0, _, _ => none
  | k + 1, x0, x4 => if x0 > 0 then (if x4.length < 140737488355328 then (palinoderef01_Num.l0 k (wrap64 (Int.tdiv x0 256)) (x4 ++ [(Int.tmod x0 256) % 256])) else (none)) else (palinoderef01_Num.l1 k x4 (([((x4.length : Int)) % 256] : List Int)) (wrap64 ((x4.length : Int) - 1)))
def palinoderef01_Num.l1 : Nat → List Int → List Int → Int → Option (ByteArray × Bool)
  | 0, _, _, _ => none
  | k + 1, x4, x5, x6 => if x6 ≥ 0 then (if 0 ≤ x6 then (if x6 < (x4.length : Int) then (if x5.length < 140737488355328 then (palinoderef01_Num.l1 k x4 (x5 ++ [rd x4 x6]) (wrap64 (x6 - 1))) else (none)) else (none)) else (none)) else (some (strOfNums x5, true))
end
def palinoderef01_Num.f (k : Nat) (a0 : Int) : Option (ByteArray × Bool) := if a0 < 0 then (palinoderef01_Num.j0 k a0 true) else (palinoderef01_Num.j0 k a0 (decide (a0 > 9007199254740991)))
theorem palinoderef01_Num.mono_l : ∀ k, (∀ y0 y1, LeO (palinoderef01_Num.j0 k y0 y1) (palinoderef01_Num.j0 (k + 1) y0 y1)) ∧ (∀ y0 y1, LeO (palinoderef01_Num.l0 k y0 y1) (palinoderef01_Num.l0 (k + 1) y0 y1)) ∧ (∀ y0 y1 y2, LeO (palinoderef01_Num.l1 k y0 y1 y2) (palinoderef01_Num.l1 (k + 1) y0 y1 y2))
  | 0 => ⟨fun _ _ r h => by simp [palinoderef01_Num.j0] at h, fun _ _ r h => by simp [palinoderef01_Num.l0] at h, fun _ _ _ r h => by simp [palinoderef01_Num.l1] at h⟩
  | k + 1 => by
    obtain ⟨ih0, ih1, ih2⟩ := palinoderef01_Num.mono_l k
    refine ⟨?_, ?_, ?_⟩
    · intro y0 y1
      unfold palinoderef01_Num.j0
      repeat' first
      | (with_reducible exact ih0 _ _)
      | (with_reducible exact ih1 _ _)
      | (with_reducible exact ih2 _ _ _)
      | (with_reducible exact LeO.refl _)
      | (with_reducible exact LeO.none _)
      | (with_reducible refine LeO.ite ?_ ?_)
      | (with_reducible refine LeO.bind ?_ (fun _ => ?_))
      | exact ih0 _ _
      | exact ih1 _ _
      | exact ih2 _ _ _
      | exact LeO.none _
      | refine LeO.ite ?_ ?_
      | refine LeO.bind ?_ (fun _ => ?_)
    · intro y0 y1
      unfold palinoderef01_Num.l0
      repeat' first
      | (with_reducible exact ih0 _ _)
      | (with_reducible exact ih1 _ _)
      | (with_reducible exact ih2 _ _ _)
      | (with_reducible exact LeO.refl _)
      | (with_reducible exact LeO.none _)
      | (with_reducible refine LeO.ite ?_ ?_)
      | (with_reducible refine LeO.bind ?_ (fun _ => ?_))
      | exact ih0 _ _
      | exact ih1 _ _
      | exact ih2 _ _ _
      | exact LeO.none _
      | refine LeO.ite ?_ ?_
      | refine LeO.bind ?_ (fun _ => ?_)
    · intro y0 y1 y2
      unfold palinoderef01_Num.l1
      repeat' first
      | (with_reducible exact ih0 _ _)
      | (with_reducible exact ih1 _ _)
      | (with_reducible exact ih2 _ _ _)
      | (with_reducible exact LeO.refl _)
      | (with_reducible exact LeO.none _)
      | (with_reducible refine LeO.ite ?_ ?_)
      | (with_reducible refine LeO.bind ?_ (fun _ => ?_))
      | exact ih0 _ _
      | exact ih1 _ _
      | exact ih2 _ _ _
      | exact LeO.none _
      | refine LeO.ite ?_ ?_
      | refine LeO.bind ?_ (fun _ => ?_)
theorem palinoderef01_Num.mono : ∀ a0 k, LeO (palinoderef01_Num.f k a0) (palinoderef01_Num.f (k + 1) a0) := by
  intro a0 k
  obtain ⟨ih0, ih1, ih2⟩ := palinoderef01_Num.mono_l k
  unfold palinoderef01_Num.f
  repeat' first
      | (with_reducible exact ih0 _ _)
      | (with_reducible exact ih1 _ _)
      | (with_reducible exact ih2 _ _ _)
      | (with_reducible exact LeO.refl _)
      | (with_reducible exact LeO.none _)
      | (with_reducible refine LeO.ite ?_ ?_)
      | (with_reducible refine LeO.bind ?_ (fun _ => ?_))
      | exact ih0 _ _
      | exact ih1 _ _
      | exact ih2 _ _ _
      | exact LeO.none _
      | refine LeO.ite ?_ ?_
      | refine LeO.bind ?_ (fun _ => ?_)
set_option maxHeartbeats 8000000 in
set_option maxRecDepth 100000 in
theorem palinoderef01_Num.calls (k : Nat) (a0 : Int) (r1 : ByteArray) (r2 : Bool) (w : World) (h : palinoderef01_Num.f k a0 = some (r1, r2)) :
    Calls Try.prog 26 #[.int .i64 a0] w fun e w' => e = .returned (.tuple #[.string r1, .bool r2]) ∧ Below w.heap.size w w' := by
  have HB := Aside0.mk (Below.refl w.heap.size w)
  have H : (if a0 < 0 then (palinoderef01_Num.j0 k a0 true) else (palinoderef01_Num.j0 k a0 (decide (a0 > 9007199254740991)))) = some (r1, r2) := h
  clear h
  have HC2 := Aside0.mk H
  clear H
  go_enter Try.func26, Try.ntmps26
  go_upto_region 1 with (fail)
  go_cut [12] (fun v12 wc => ∃ (kq : Nat) (x12_1 : Bool), v12 = .bool x12_1 ∧ Aside0 (palinoderef01_Num.j0 kq a0 x12_1 = some (r1, r2)) ∧ Aside0 (kq ≤ k) ∧ Aside0 (Below w.heap.size w wc))
  case first =>
    have H := HC2.out
    clear HC2
    by_cases c3 : a0 < 0
    · rw [if_pos c3] at H
      have c3b0 : decide (a0 < 0) = true := decide_eq_true c3
      clear c3
      (first | rw [c3b0] | (simp only [i64_w, i32_w]; rw [c3b0]) | skip)
      have H' := Aside0.mk H
      clear H
      go_wp2
      go_meet
      case rel => exact ⟨_, (true), (by first | rfl | (simp; done) | (simp [*]; done)), H', ⟨by first | omega | exact Nat.le_refl _⟩, ⟨by repeat (first | (with_reducible first | exact HB.out | apply below_alloc | apply pw_below_drewN | apply below_drew1) | exact HB.out)⟩⟩
    · rw [if_neg c3] at H
      have c3b0 : decide (a0 < 0) = false := decide_eq_false c3
      clear c3
      (first | rw [c3b0] | (simp only [i64_w, i32_w]; rw [c3b0]) | skip)
      have H' := Aside0.mk H
      clear H
      go_wp2
      go_meet
      case rel => exact ⟨_, (decide (a0 > 9007199254740991)), (by first | rfl | (simp; done) | (simp [*]; done)), H', ⟨by first | omega | exact Nat.le_refl _⟩, ⟨by repeat (first | (with_reducible first | exact HB.out | apply below_alloc | apply pw_below_drewN | apply below_drew1) | exact HB.out)⟩⟩
  case rest =>
    clear HC2
    try clear c2
    try clear p2
    try clear c3
    try clear c3b0
    obtain ⟨kq, x12_1, rfl, HA, HJ1, HB⟩ := hcut
    cases kq with
    | zero => exact absurd HA.out (by simp [palinoderef01_Num.j0])
    | succ kj1 =>
      have H := HA.out
      clear HA
      simp only [palinoderef01_Num.j0] at H
      by_cases c4 : x12_1 = true
      · subst c4
        have H1 : (some ((⟨#[]⟩ : ByteArray), false)) = some (r1, r2) := by rw [if_pos rfl] at H; exact H
        clear H
        have H := H1
        clear H1
        simp only [Option.some.injEq, Prod.mk.injEq] at H
        obtain ⟨rfl, rfl⟩ := H
        go_wp2
        go_ret2
        exact ⟨by first | rfl | (simp [errW_none, errW_some] <;> rfl) | (simp [*, errW_none, errW_some] <;> rfl), by repeat (first | (with_reducible first | exact HB.out | apply below_alloc | apply pw_below_drewN | apply below_drew1) | exact HB.out)⟩
      · replace c4 := Bool.eq_false_iff.mpr c4
        subst c4
        have H1 : (palinoderef01_Num.l0 kj1 a0 ([] : List Int)) = some (r1, r2) := by rw [if_neg (show ¬ (false = true) by decide)] at H; exact H
        clear H
        have H := H1
        clear H1
        have H' := Aside0.mk H
        clear H
        go_wp2
        go_loopg [0, 4] kj1 (fun kq v0 v4 w' => ∃ (x0_2 : Int) (x4_2 : List Int), v0 = .int .i64 x0_2 ∧ Aside0 (palinoderef01_Num.l0 kq x0_2 x4_2 = some (r1, r2)) ∧ Aside0 (kq ≤ kj1) ∧ Aside0 (Kd.R (Kd.int .u8) 5 w' w.heap.size (fun _ => True) v4 x4_2) ∧ Aside0 (Below w.heap.size w w'))
        case atStart => exact ⟨(a0), (([] : List Int)), (by first | rfl | (simp; done) | (simp [*]; done)), H', ⟨Nat.le_refl _⟩, ⟨by first | exact Kd.R_nil _ _ _ _ _ | exact Kd.N_nil _ _ _ _ _ | exact Kd.V_nil _ _ _ _ _ | exact Kd.Q_nil _ _ _ _ _ | exact Kd.S_nil _ _ _ _ _⟩, ⟨by repeat (first | (with_reducible first | exact HB.out | apply below_alloc | apply pw_below_drewN | apply below_drew1) | exact HB.out)⟩⟩
        case round =>
          clear H'
          try clear c2
          try clear p2
          try clear c3
          try clear c3b0
          try clear c4
          try clear p2
          obtain ⟨x0_2, x4_2, rfl, HA, HK2, HO_4, HB⟩ := hrel
          cases gk with
          | zero => exact absurd HA.out (by simp [palinoderef01_Num.l0])
          | succ k2 =>
            have H := HA.out
            clear HA
            simp only [palinoderef01_Num.l0] at H
            by_cases c5 : x0_2 > 0
            · rw [if_pos c5] at H
              have c5b0 : decide (0 < x0_2) = true := decide_eq_true c5
              clear c5
              by_cases c6 : x4_2.length < 140737488355328
              · rw [if_pos c6] at H
                have LMc6 := Aside0.mk c6
                clear c6
                obtain ⟨y245, hy245⟩ : ∃ y_ : List Int, y_ = (x4_2 ++ [(Int.tmod x0_2 256) % 256]) := ⟨_, rfl⟩
                replace H : (palinoderef01_Num.l0 k2 (wrap64 (Int.tdiv x0_2 256)) y245) = some (r1, r2) := by first | (rw [hy245]; with_reducible exact H) | (have H2_ := (Option.bind_some _ _).symm.trans H; rw [hy245]; with_reducible exact H2_) | (have H2_ := (Option.bind_some _ _).symm.trans H; with_reducible exact H2_) | with_reducible exact H | (rw [hy245]; exact H) | exact H
                have Ny245 := Aside0.mk hy245
                clear hy245
                have H' := Aside0.mk H
                clear H
                go_wp2_with (first | ((with_reducible refine gate_builtin (b := .append) (xs := #[.tmp 15, .tmp 19]) rfl ?_); at_builtin; refine Kd.R_append (Kd.int .u8) (w0 := w) w.heap.size rfl (.tmp 15) (.tmp 19) 35 5 (.int .u8 0) 1 rfl Try.underlying35 info5 rfl (by decide) (by omega) u4 x4_2 ((Int.tmod x0_2 256) % 256) [.int .u8 ((Int.tmod x0_2 256) % 256)] (fun _ => True) (fun _ => False) rfl rfl ?aP (fun _ hk => hk.elim) ?aF ?aO ?aB ?aS ?aL ?_; (case aP => exact rfl); (case aB => exact (by repeat (first | (with_reducible first | exact HB.out | apply below_alloc | apply pw_below_drewN | apply below_drew1) | exact HB.out))); (case aF => exact (fun _ _ => trivial)); (case aO => exact (by (with_reducible repeat (first | apply Kd.R_alloc | apply Kd.R_drewN | apply Kd.R_drew)); exact HO_4.out)); (case aS => exact (below_size (by repeat (first | (with_reducible first | exact HB.out | apply below_alloc | apply pw_below_drewN | apply below_drew1) | exact HB.out)))); (case aL => have := LMc6.out; omega); intro v246 w7 ho hb hg hat; rw [← Ny245.out] at ho; have n0_ := Aside0.mk (hb); have n1_ := Aside0.mk (ho); clear HB; clear HO_4; have HB := n0_; have HO247 := n1_; clear n0_ n1_; clear ho hb hg hat))
                go_roundg k2
                case measure => have := HJ1.out; have := HK2.out; omega
                case rel => exact ⟨(wrap64 (Int.tdiv x0_2 256)), (y245), (by first | rfl | (simp; done) | (simp [*]; done)), H', ⟨by have := HJ1.out; have := HK2.out; omega⟩, ⟨by (with_reducible repeat (first | apply Kd.R_alloc | apply Kd.R_drewN | apply Kd.R_drew)); exact HO247.out⟩, ⟨by repeat (first | (with_reducible first | exact HB.out | apply below_alloc | apply pw_below_drewN | apply below_drew1) | exact HB.out)⟩⟩
              · rw [if_neg c6] at H
                exact absurd H (by simp)
            · rw [if_neg c5] at H
              have c5b0 : decide (0 < x0_2) = false := decide_eq_false c5
              clear c5
              obtain ⟨y248, hy248⟩ : ∃ y_ : List Int, y_ = (([((x4_2.length : Int)) % 256] : List Int)) := ⟨_, rfl⟩
              replace H : (palinoderef01_Num.l1 k2 x4_2 y248 (wrap64 ((x4_2.length : Int) - 1))) = some (r1, r2) := by first | (rw [hy248]; with_reducible exact H) | (have H2_ := (Option.bind_some _ _).symm.trans H; rw [hy248]; with_reducible exact H2_) | (have H2_ := (Option.bind_some _ _).symm.trans H; with_reducible exact H2_) | with_reducible exact H | (rw [hy248]; exact H) | exact H
              have Ny248 := Aside0.mk hy248
              clear hy248
              have H' := Aside0.mk H
              clear H
              obtain ⟨Ao8, co8, eo8⟩ := Kd.R_slice HO_4.out
              subst eo8
              go_wp2_with (first | ((with_reducible refine gate_dst (N := 26) rfl ?_); refine Kd.R_lit (Kd.int .u8) _ 5 ?hg (N := 26) ?hd (xs := ([((x4_2.length : Int)) % 256] : List Int)) (inner := [.int .u8 (((x4_2.length : Int)) % 256)]) (ok := fun _ => True) (okp := fun _ => True) ?hr ?hp (fun _ hk => hk) trivial (Below.refl _ _) (Nat.le_refl _) (by simp) ?_; (case hd => rfl); (case hg => rfl); (case hr => first | (go_simp; done) | (go_simp; rfl)); (case hp => exact (Reps.one (show Kd.M (Kd.int .u8) _ _ _ (((x4_2.length : Int)) % 256) [.int .u8 (((x4_2.length : Int)) % 256)] from rfl) (Reps.none _ _))); intro v249 w9 ho10 hb hg_ hnew_; clear hg_ hnew_; (first | rw [← Ny248.out] at ho10 | (simp only [Int.reduceToNat] at ho10; rw [← Ny248.out] at ho10)); have n0_ := Aside0.mk (Kd.R_elder' (by (with_reducible repeat (first | apply Kd.R_alloc | apply Kd.R_drewN | apply Kd.R_drew)); exact HO_4.out) (Kd.R_base ho10) hb); have n1_ := Aside0.mk (Kd.R_lower (Kd.R_new' ho10 (Kd.R_lt (by (with_reducible repeat (first | apply Kd.R_alloc | apply Kd.R_drewN | apply Kd.R_drew)); exact HO_4.out))) (below_size (by repeat (first | (with_reducible first | exact HB.out | apply below_alloc | apply pw_below_drewN | apply below_drew1) | exact HB.out)))); have n2_ := Aside0.mk (below_step (by repeat (first | (with_reducible first | exact HB.out | apply below_alloc | apply pw_below_drewN | apply below_drew1) | exact HB.out)) hb); clear HO_4; clear HB; have HO_4 := n0_; have HO250 := n1_; have HB := n2_; clear n0_ n1_ n2_; clear hb ho10))
              go_loopg [5, 6] k2 (fun kq v5 v6 w' => ∃ (x5_3 : List Int) (x6_3 : Int), v6 = .int .i64 x6_3 ∧ Aside0 (palinoderef01_Num.l1 kq x4_2 x5_3 x6_3 = some (r1, r2)) ∧ Aside0 (kq ≤ k2) ∧ Aside0 (Kd.R (Kd.int .u8) 5 w' w.heap.size (fun k_ => some k_ ≠ (v5 : Value).ownBlock) (.slice Ao8 x4_2.length co8) x4_2) ∧ Aside0 (Kd.R (Kd.int .u8) 5 w' w.heap.size (fun k_ => some k_ ≠ ((.slice Ao8 x4_2.length co8) : Value).ownBlock) v5 x5_3) ∧ Aside0 (Below w.heap.size w w'))
              case atStart => exact ⟨(y248), (wrap64 ((x4_2.length : Int) - 1)), (by first | rfl | (simp; done) | (simp [*]; done)), H', ⟨Nat.le_refl _⟩, ⟨by (with_reducible repeat (first | apply Kd.R_alloc | apply Kd.R_drewN | apply Kd.R_drew)); exact Kd.R_mono HO_4.out (fun _ hk => hk.2)⟩, ⟨by (with_reducible repeat (first | apply Kd.R_alloc | apply Kd.R_drewN | apply Kd.R_drew)); exact Kd.R_mono HO250.out (fun _ hk => hk.2)⟩, ⟨by repeat (first | (with_reducible first | exact HB.out | apply below_alloc | apply pw_below_drewN | apply below_drew1) | exact HB.out)⟩⟩
              case round =>
                clear H'
                try clear c2
                try clear p2
                try clear c3
                try clear c3b0
                try clear c4
                try clear c5
                try clear c5b0
                try clear c6
                try clear p6
                try clear p2
                obtain ⟨x5_3, x6_3, rfl, HA, HK3, HO_4, HO_5, HB⟩ := hrel
                cases gk with
                | zero => exact absurd HA.out (by simp [palinoderef01_Num.l1])
                | succ k3 =>
                  have H := HA.out
                  clear HA
                  simp only [palinoderef01_Num.l1] at H
                  by_cases c11 : x6_3 ≥ 0
                  · rw [if_pos c11] at H
                    have c11b0 : decide (0 ≤ x6_3) = true := decide_eq_true c11
                    clear c11
                    by_cases c12 : 0 ≤ x6_3
                    · rw [if_pos c12] at H
                      have c12b0 : decide (0 ≤ x6_3) = true := decide_eq_true c12
                      clear c12
                      by_cases c13 : x6_3 < (x4_2.length : Int)
                      · rw [if_pos c13] at H
                        have c13b0 : decide (x6_3 < (x4_2.length : Int)) = true := decide_eq_true c13
                        clear c13
                        by_cases c14 : x5_3.length < 140737488355328
                        · rw [if_pos c14] at H
                          have LMc14 := Aside0.mk c14
                          clear c14
                          obtain ⟨y252, hy252⟩ : ∃ y_ : List Int, y_ = (x5_3 ++ [rd x4_2 x6_3]) := ⟨_, rfl⟩
                          replace H : (palinoderef01_Num.l1 k3 x4_2 y252 (wrap64 (x6_3 - 1))) = some (r1, r2) := by first | (rw [hy252]; with_reducible exact H) | (have H2_ := (Option.bind_some _ _).symm.trans H; rw [hy252]; with_reducible exact H2_) | (have H2_ := (Option.bind_some _ _).symm.trans H; with_reducible exact H2_) | with_reducible exact H | (rw [hy252]; exact H) | exact H
                          have Ny252 := Aside0.mk hy252
                          clear hy252
                          have H' := Aside0.mk H
                          clear H
                          have p251 : 0 ≤ (x6_3 : Int) := of_decide_eq_true (by first | (with_reducible assumption) | assumption)
                          have q251 : x6_3 < (x4_2.length : Int) := of_decide_eq_true (by first | (with_reducible assumption) | assumption)
                          obtain ⟨ad251, e251, hx251_0⟩ := Kd.at_int (Kd.R_reads' HO_4.out).2.2 x6_3 p251 q251
                          cases e251
                          replace p251 := eq_true p251
                          replace q251 := eq_true q251
                          go_wp2_with (first | ((with_reducible refine gate_builtin (b := .append) (xs := #[.tmp 34, .tmp 39]) rfl ?_); at_builtin; refine Kd.R_append (Kd.int .u8) (w0 := w) w.heap.size rfl (.tmp 34) (.tmp 39) 35 5 (.int .u8 0) 1 rfl Try.underlying35 info5 rfl (by decide) (by omega) u5 x5_3 (rd x4_2 x6_3) [.int .u8 (rd x4_2 x6_3)] (fun k_ => some k_ ≠ (.slice (some ad251) x4_2.length co8 : Value).ownBlock) (fun _ => False) rfl rfl ?aP (fun _ hk => hk.elim) ?aF ?aO ?aB ?aS ?aL ?_; (case aP => exact rfl); (case aB => exact (by repeat (first | (with_reducible first | exact HB.out | apply below_alloc | apply pw_below_drewN | apply below_drew1) | exact HB.out))); (case aF => exact (fun k_ hk => Kd.fresh' (Kd.R_lt (by (with_reducible repeat (first | apply Kd.R_alloc | apply Kd.R_drewN | apply Kd.R_drew)); exact HO_4.out)) k_ hk)); (case aO => exact (by (with_reducible repeat (first | apply Kd.R_alloc | apply Kd.R_drewN | apply Kd.R_drew)); exact HO_5.out)); (case aS => exact (below_size (by repeat (first | (with_reducible first | exact HB.out | apply below_alloc | apply pw_below_drewN | apply below_drew1) | exact HB.out)))); (case aL => have := LMc14.out; omega); intro v253 w15 ho hb hg hat; rw [← Ny252.out] at ho; have n0_ := Aside0.mk (Kd.R_after (ok := (fun _ => True)) (by (with_reducible repeat (first | apply Kd.R_alloc | apply Kd.R_drewN | apply Kd.R_drew)); exact Kd.R_mono HO_4.out (fun _ hk => ⟨trivial, hk⟩)) hg hat); have n1_ := Aside0.mk (hb); have n2_ := Aside0.mk (ho); clear HO_4; clear HB; clear HO_5; have HO_4 := n0_; have HB := n1_; have HO254 := n2_; clear n0_ n1_ n2_; clear ho hb hg hat))
                          go_roundg k3
                          case measure => have := HJ1.out; have := HK2.out; have := HK3.out; omega
                          case rel => exact ⟨(y252), (wrap64 (x6_3 - 1)), (by first | rfl | (simp; done) | (simp [*]; done)), H', ⟨by have := HJ1.out; have := HK2.out; have := HK3.out; omega⟩, ⟨by (with_reducible repeat (first | apply Kd.R_alloc | apply Kd.R_drewN | apply Kd.R_drew)); exact Kd.R_mono HO_4.out (fun _ hk => hk.2)⟩, ⟨by (with_reducible repeat (first | apply Kd.R_alloc | apply Kd.R_drewN | apply Kd.R_drew)); exact HO254.out⟩, ⟨by repeat (first | (with_reducible first | exact HB.out | apply below_alloc | apply pw_below_drewN | apply below_drew1) | exact HB.out)⟩⟩
                        · rw [if_neg c14] at H
                          exact absurd H (by simp)
                      · rw [if_neg c13] at H
                        exact absurd H (by simp)
                    · rw [if_neg c12] at H
                      exact absurd H (by simp)
                  · rw [if_neg c11] at H
                    have c11b0 : decide (0 ≤ x6_3) = false := decide_eq_false c11
                    clear c11
                    simp only [Option.some.injEq, Prod.mk.injEq] at H
                    obtain ⟨rfl, rfl⟩ := H
                    have hcv16 := own_string (P := Try.prog) Try.underlying35 Try.underlying5 Try.underlying9 (Kd.own_of_R HO_5.out)
                    go_wp2
                    go_ret2
                    exact ⟨by first | rfl | (simp [errW_none, errW_some] <;> rfl) | (simp [*, errW_none, errW_some] <;> rfl), by repeat (first | (with_reducible first | exact HB.out | apply below_alloc | apply pw_below_drewN | apply below_drew1) | exact HB.out)⟩

end Go.Proofs.Yticajnfmjapkgaa.PD

/-
  Layer 6, the plain part of numbers: what a number's bytes are, what is read of them; and the document's own answer to both.
-/
set_option linter.unusedVariables false
set_option linter.unusedSimpArgs false
namespace Go.Proofs.Yticajnfmjapkgaa.PD
open Go.RowKit Go.Proofs.Yticajnfmjapkgaa Go.Proofs.YticajnfmjapkgaaW.PrintWords

theorem num_be (k : Nat) : ∀ n : Int, 0 ≤ n → n < 256 ^ k → pack_ReadNum.num (pack_Num.be k n) = n := by
  induction k with
  | zero => intro n h0 h1; simp at h1; simp [pack_Num.be, pack_ReadNum.num]; omega
  | succ k ih =>
    intro n h0 h1
    rw [Int.pow_succ] at h1
    rw [be_snoc, pack_ReadNum.num_snoc, ih (n / 256) (by omega) (Int.ediv_lt_of_lt_mul (by omega) h1)]
    omega
theorem be_num : ∀ (s : Nat) (l : List Int), l.length = s → (∀ x ∈ l, 0 ≤ x ∧ x < 256) → pack_Num.be s (pack_ReadNum.num l) = l := by
  intro s
  induction s with
  | zero => intro l h _; simp at h; subst h; rfl
  | succ s ih =>
    intro l h hb
    obtain ⟨l', c, rfl⟩ : ∃ l' c, l = l' ++ [c] := ⟨l.dropLast, l.getLast (by intro e; simp [e] at h), (List.dropLast_concat_getLast _).symm⟩
    have hc := hb c (by simp)
    have h1 : (pack_ReadNum.num l' * 256 + c) / 256 = pack_ReadNum.num l' := by omega
    have h2 : (pack_ReadNum.num l' * 256 + c) % 256 = c := by omega
    rw [pack_ReadNum.num_snoc, be_snoc, h1, h2, ih l' (by simpa using h) (fun x hx => hb x (by simp [hx]))]
theorem sz_lt : ∀ (m : Nat) (n : Int), 0 ≤ n → n < 256 ^ m → n < 256 ^ (pack_Num.sz m n) := by
  intro m
  induction m with
  | zero => intro n h0 h1; simpa [pack_Num.sz] using h1
  | succ m ih =>
    intro n h0 h1
    simp only [pack_Num.sz]
    rw [Int.pow_succ] at h1
    split
    · have := ih (n / 256) (by omega) (Int.ediv_lt_of_lt_mul (by omega) h1)
      rw [Int.pow_succ]
      omega
    · simp; omega
theorem num_lt (l : List Int) (hb : ∀ x ∈ l, 0 ≤ x ∧ x < 256) : 0 ≤ pack_ReadNum.num l ∧ pack_ReadNum.num l < 256 ^ l.length := by
  have := pack_ReadNum.fold_bound l 0 (Int.le_refl _) hb
  simpa [pack_ReadNum.num] using this
theorem bytesOf_length (b : ByteArray) : (bytesOf b).length = b.size := by simp [bytesOf]
theorem bytesOf_bound (b : ByteArray) : ∀ x ∈ bytesOf b, 0 ≤ x ∧ x < 256 := by
  intro x hx
  simp only [bytesOf, List.mem_map] at hx
  obtain ⟨y, _, rfl⟩ := hx
  have := y.toNat_lt
  omega
theorem bt_get (b : ByteArray) (i : Nat) (hi : i < b.size) : bt b (i : Int) = (bytesOf b).getD i 0 := by
  have hl := bytesOf_length b
  have h2 : i < b.data.toList.length := by simpa using hi
  unfold bt bytesOf
  rw [dif_pos (by simpa using hi)]
  simp only [List.getD, List.getElem?_map, List.getElem?_eq_getElem h2, Option.map_some, Option.getD_some]
  simp
  rfl
theorem be_length (k : Nat) (n : Int) : (pack_Num.be k n).length = k := root_Head.be_length k n
theorem nb_bound (n : Int) (h1 : n ≤ 9007199254740991) : ∀ x ∈ ((pack_Num.sz 8 n : Int) :: pack_Num.be (pack_Num.sz 8 n) n), 0 ≤ x ∧ x < 256 := by
  intro x hx
  have := pack_Num.sz_le 7 8 n (by omega)
  rcases List.mem_cons.1 hx with rfl | hx
  · omega
  · exact be_bound _ _ x hx
theorem bytes_list (n : Int) (h1 : n ≤ 9007199254740991) : bytesOf (pack_Num.bytes n) = (pack_Num.sz 8 n : Int) :: pack_Num.be (pack_Num.sz 8 n) n := bytesOf_str _ (nb_bound n h1)
theorem bytes_size (n : Int) : (pack_Num.bytes n).size = 1 + pack_Num.sz 8 n := by
  unfold pack_Num.bytes
  rw [str_size, List.length_cons, be_length]; omega
/-- What was written is read. -/
theorem tell_bytes (n : Int) (h0 : 0 ≤ n) (h1 : n ≤ 9007199254740991) (r : ByteArray) : pack_ReadNum.tell (pack_Num.bytes n ++ r) = (n, r, none) := by
  have hs := pack_Num.sz_le 7 8 n (by omega)
  have hsz : (pack_Num.bytes n ++ r).size = 1 + pack_Num.sz 8 n + r.size := by rw [ByteArray.size_append, bytes_size]
  have hb : bytesOf (pack_Num.bytes n ++ r) = (pack_Num.sz 8 n : Int) :: (pack_Num.be (pack_Num.sz 8 n) n ++ bytesOf r) := by rw [bytesOf_append, bytes_list n h1]; rfl
  have h0' : bt (pack_Num.bytes n ++ r) 0 = (pack_Num.sz 8 n : Int) := by
    have := bt_get (pack_Num.bytes n ++ r) 0 (by omega)
    rw [Int.natCast_zero] at this
    rw [this, hb]; rfl
  have hn : pack_ReadNum.num (((bytesOf (pack_Num.bytes n ++ r)).drop 1).take (pack_Num.sz 8 n)) = n := by
    rw [hb, List.drop_succ_cons, List.drop_zero, List.take_left' (be_length _ _)]
    exact num_be _ n h0 (sz_lt 8 n h0 (by omega))
  unfold pack_ReadNum.tell
  rw [h0', Int.toNat_natCast, hn, if_neg (by omega), if_neg (by omega), if_neg (by omega), if_neg (by omega)]
  congr 2
  apply bytesOf_inj
  rw [bytesOf_extract, hb, Nat.add_comm 1, List.drop_succ_cons, List.drop_left' (be_length _ _), List.take_of_length_le]
  rw [bytesOf_length]; omega
/-- What is read was written so. -/
theorem tell_some {b r : ByteArray} {n : Int} (h : pack_ReadNum.tell b = (n, r, none)) : 0 ≤ n ∧ n ≤ 9007199254740991 ∧ b = pack_Num.bytes n ++ r := by
  unfold pack_ReadNum.tell at h
  split at h
  · simp at h
  · next c0 =>
    split at h
    · simp at h
    · next c1 =>
      split at h
      · simp at h
      · next c2 =>
        split at h
        · simp at h
        · next c3 =>
          have hr := bt_range b 0
          obtain ⟨s, hs⟩ : ∃ s : Nat, bt b 0 = s := ⟨(bt b 0).toNat, by omega⟩
          rw [hs, Int.toNat_natCast] at h c3
          obtain ⟨h1, h2⟩ : pack_ReadNum.num (((bytesOf b).drop 1).take s) = n ∧ b.extract (1 + s) b.size = r := by simpa using h
          have hl := bytesOf_length b
          have hlen : (((bytesOf b).drop 1).take s).length = s := by simp; omega
          have hbd : ∀ x ∈ ((bytesOf b).drop 1).take s, 0 ≤ x ∧ x < 256 := fun x hx => bytesOf_bound b x (List.mem_of_mem_drop (List.mem_of_mem_take hx))
          have hnum := num_lt _ hbd
          rw [h1] at c3 hnum
          have hsz : pack_Num.sz 8 n = s := by omega
          refine ⟨hnum.1, by omega, ?_⟩
          apply bytesOf_inj
          rw [bytesOf_append, bytes_list n (by omega), hsz, ← h1, be_num s _ hlen hbd, ← h2, bytesOf_extract]
          have hb0 := bt_get b 0 (by omega)
          rw [Int.natCast_zero, hs] at hb0
          have hne : bytesOf b ≠ [] := by intro e; rw [e] at hl; simp at hl; omega
          obtain ⟨x, xs, hx⟩ := List.exists_cons_of_ne_nil hne
          rw [hx] at hb0 hl ⊢
          simp only [List.getD_cons_zero] at hb0
          rw [hb0, Nat.add_comm 1 s, List.drop_succ_cons, List.drop_succ_cons, List.drop_zero, List.cons_append]
          congr 1
          rw [List.take_of_length_le (l := xs.drop s) (by simp at hl ⊢; omega), List.take_append_drop]
theorem Num_some (n : Int) : pack_Num.f n = some (if n < 0 ∨ 9007199254740991 < n then (⟨#[]⟩, some 1) else (pack_Num.bytes n, none)) := rfl
end Go.Proofs.Yticajnfmjapkgaa.PD
