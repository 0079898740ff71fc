-- packed: PDx12 PDx13 PDx14 PDx18 PDx21 PDx66 PDx67 PDx75 PDx76 PDx77 PDx78 PDx79
import Derived.Test.YtokimlfagpddlaaQC1
-- printed by gprint.py (own tool) over the kit's print
namespace Go.Proofs.Ytokimlfagpddlaa.PD
open Go.RowKit Go.Proofs.Ytokimlfagpddlaa Go.Proofs.YtokimlfagpddlaaW.PrintWords Go.Proofs.YtokimlfagpddlaaW.PrintLast Go.Proofs.YtokimlfagpddlaaW.PrintMore
attribute [local go_sem] max2_int min2_int max_two min_two max_three min_three max_four min_four   -- for this text's walks alone
set_option linter.unnecessarySimpa false
attribute [local go_sem] min2_str max2_str leq_str gtr_str geq_str
set_option linter.unusedVariables false
set_option linter.unusedSimpArgs false

/-! ### version_compare: function 27 -/
def version_compare.f (k : Nat) (a0_0 : Int) (a0_1 : Int) (a0_2 : ByteArray) (a0_3 : ByteArray) (a0_4 : Int) (a1_0 : Int) (a1_1 : Int) (a1_2 : ByteArray) (a1_3 : ByteArray) (a1_4 : Int) : Option (Int) := (cmp_Compare_int.f a0_1 a1_1).bind fun t114 => (if a0_1 > 0 then ((cmp_Compare_string.f a0_2 a1_2).bind fun t115 => ((cmp_Or_int.f k (([t114, t115] : List Int))).bind fun t119 => ((cmp_Compare_int.f a0_0 a1_0).bind fun t120 => ((cmp_Or_int.f k (([t119, t120] : List Int))).bind fun t124 => (some t124))))) else ((cmp_Compare_int.f a0_0 a1_0).bind fun t125 => ((cmp_Or_int.f k (([t114, t125] : List Int))).bind fun t129 => (some t129))))
theorem version_compare.mono : ∀ a0 a1 a2 a3 a4 a5 a6 a7 a8 a9 k, LeO (version_compare.f k a0 a1 a2 a3 a4 a5 a6 a7 a8 a9) (version_compare.f (k + 1) a0 a1 a2 a3 a4 a5 a6 a7 a8 a9) := by
  intro a0 a1 a2 a3 a4 a5 a6 a7 a8 a9 k
  unfold version_compare.f
  repeat' first
      | (with_reducible exact cmp_Or_int.mono _ _)
      | (with_reducible exact LeO.refl _)
      | (with_reducible exact LeO.none _)
      | (with_reducible refine LeO.ite ?_ ?_)
      | (with_reducible refine LeO.bind ?_ (fun _ => ?_))
      | exact cmp_Or_int.mono _ _
      | exact LeO.none _
      | refine LeO.ite ?_ ?_
      | refine LeO.bind ?_ (fun _ => ?_)
set_option maxHeartbeats 8000000 in
set_option maxRecDepth 100000 in
theorem version_compare.calls (k : Nat) (a0_0 : Int) (a0_1 : Int) (a0_2 : ByteArray) (a0_3 : ByteArray) (a0_4 : Int) (a1_0 : Int) (a1_1 : Int) (a1_2 : ByteArray) (a1_3 : ByteArray) (a1_4 : Int) (r : Int) (w : World) (h : version_compare.f k a0_0 a0_1 a0_2 a0_3 a0_4 a1_0 a1_1 a1_2 a1_3 a1_4 = some r) :
    Calls Try.prog 27 #[.agg #[.int .i64 a0_0, .int .i64 a0_1, .string a0_2, .string a0_3, .int .i64 a0_4], .agg #[.int .i64 a1_0, .int .i64 a1_1, .string a1_2, .string a1_3, .int .i64 a1_4]] w fun e w' => e = .returned (.int .i64 r) ∧ Below w.heap.size w w' := by
  have hu35 := Try.underlying35
  have HB := Aside0.mk (Below.refl w.heap.size w)
  have H : ((cmp_Compare_int.f a0_1 a1_1).bind fun t114 => (if a0_1 > 0 then ((cmp_Compare_string.f a0_2 a1_2).bind fun t115 => ((cmp_Or_int.f k (([t114, t115] : List Int))).bind fun t119 => ((cmp_Compare_int.f a0_0 a1_0).bind fun t120 => ((cmp_Or_int.f k (([t119, t120] : List Int))).bind fun t124 => (some t124))))) else ((cmp_Compare_int.f a0_0 a1_0).bind fun t125 => ((cmp_Or_int.f k (([t114, t125] : List Int))).bind fun t129 => (some t129))))) = some r := h
  clear h
  replace H := Option.bind_eq_some_iff.mp H
  obtain ⟨t114, A30, H⟩ := H
  replace H : (if a0_1 > 0 then ((cmp_Compare_string.f a0_2 a1_2).bind fun t115 => ((cmp_Or_int.f k (([t114, t115] : List Int))).bind fun t119 => ((cmp_Compare_int.f a0_0 a1_0).bind fun t120 => ((cmp_Or_int.f k (([t119, t120] : List Int))).bind fun t124 => (some t124))))) else ((cmp_Compare_int.f a0_0 a1_0).bind fun t125 => ((cmp_Or_int.f k (([t114, t125] : List Int))).bind fun t129 => (some t129)))) = some r := H
  have A3 := Aside0.mk A30
  clear A30
  by_cases c4 : a0_1 > 0
  · rw [if_pos c4] at H
    have c4b0 : decide (0 < a0_1) = true := decide_eq_true c4
    clear c4
    replace H := Option.bind_eq_some_iff.mp H
    obtain ⟨t115, A50, H⟩ := H
    replace H : ((cmp_Or_int.f k (([t114, t115] : List Int))).bind fun t119 => ((cmp_Compare_int.f a0_0 a1_0).bind fun t120 => ((cmp_Or_int.f k (([t119, t120] : List Int))).bind fun t124 => (some t124)))) = some r := H
    have A5 := Aside0.mk A50
    clear A50
    obtain ⟨y116, hy116⟩ : ∃ y_ : List Int, y_ = (([t114, t115] : List Int)) := ⟨_, rfl⟩
    replace H : ((cmp_Or_int.f k y116).bind fun t119 => ((cmp_Compare_int.f a0_0 a1_0).bind fun t120 => ((cmp_Or_int.f k (([t119, t120] : List Int))).bind fun t124 => (some t124)))) = some r := by first | (rw [hy116]; with_reducible exact H) | (have H2_ := (Option.bind_some _ _).symm.trans H; rw [hy116]; with_reducible exact H2_) | (have H2_ := (Option.bind_some _ _).symm.trans H; with_reducible exact H2_) | with_reducible exact H | (rw [hy116]; exact H) | exact H
    have Ny116 := Aside0.mk hy116
    clear hy116
    replace H := Option.bind_eq_some_iff.mp H
    obtain ⟨t119, A60, H⟩ := H
    replace H : ((cmp_Compare_int.f a0_0 a1_0).bind fun t120 => ((cmp_Or_int.f k (([t119, t120] : List Int))).bind fun t124 => (some t124))) = some r := H
    have A6 := Aside0.mk A60
    clear A60
    replace H := Option.bind_eq_some_iff.mp H
    obtain ⟨t120, A70, H⟩ := H
    replace H : ((cmp_Or_int.f k (([t119, t120] : List Int))).bind fun t124 => (some t124)) = some r := H
    have A7 := Aside0.mk A70
    clear A70
    obtain ⟨y121, hy121⟩ : ∃ y_ : List Int, y_ = (([t119, t120] : List Int)) := ⟨_, rfl⟩
    replace H : ((cmp_Or_int.f k y121).bind fun t124 => (some t124)) = some r := by first | (rw [hy121]; with_reducible exact H) | (have H2_ := (Option.bind_some _ _).symm.trans H; rw [hy121]; with_reducible exact H2_) | (have H2_ := (Option.bind_some _ _).symm.trans H; with_reducible exact H2_) | with_reducible exact H | (rw [hy121]; exact H) | exact H
    have Ny121 := Aside0.mk hy121
    clear hy121
    replace H := Option.bind_eq_some_iff.mp H
    obtain ⟨t124, A80, H⟩ := H
    replace H : (some t124) = some r := H
    have A8 := Aside0.mk A80
    clear A80
    obtain rfl := Option.some.inj H
    go_enter Try.func27, Try.ntmps27
    go_wp2_with (first | ((with_reducible refine gate_dst (N := 2) rfl ?_); refine box_event ?hg (N := 2) ?hd (cs := #[.int .i64 a0_0, .int .i64 a0_1, .string a0_2, .string a0_3, .int .i64 a0_4]) (t := 35) ?hr ?_; (case hd => rfl); (case hg => rfl); (case hr => first | (go_simp; done) | (go_simp; rfl)); intro gb112 hg w9 hbox hb; have n0_ := Aside0.mk (below_step (by repeat (first | (with_reducible first | exact HB.out | apply below_alloc | apply pw_below_drewN | apply below_drew1) | exact HB.out)) hb); have n1_ := Aside0.mk (hbox); have n2_ := Aside0.mk ((by rw [hg]; exact (below_size (by repeat (first | (with_reducible first | exact HB.out | apply below_alloc | apply pw_below_drewN | apply below_drew1) | exact HB.out))) : w.heap.size ≤ gb112)); have n3_ := Aside0.mk ((by rw [hg]; exact (below_size (by repeat (first | (with_reducible first | exact HB.out | apply below_alloc | apply pw_below_drewN | apply below_drew1) | exact HB.out))) : w.heap.size ≤ gb112)); clear HB; have HB := n0_; have BK112 := n1_; have GW112 := n2_; have GE112 := n3_; clear n0_ n1_ n2_ n3_; clear hb hbox hg) | ((with_reducible refine gate_dst (N := 3) rfl ?_); refine box_event ?hg (N := 3) ?hd (cs := #[.int .i64 a1_0, .int .i64 a1_1, .string a1_2, .string a1_3, .int .i64 a1_4]) (t := 35) ?hr ?_; (case hd => rfl); (case hg => rfl); (case hr => first | (go_simp; done) | (go_simp; rfl)); intro gb113 hg w10 hbox hb; have n0_ := Aside0.mk (blk_below (g := gb112) (o := .cells #[.int .i64 a0_0, .int .i64 a0_1, .string a0_2, .string a0_3, .int .i64 a0_4] 35 (0, 0)) (by (with_reducible repeat (first | refine blk_drewN ?_ _ | refine blk_drew ?_ | refine blk_alloc ?_ _)); exact BK112.out) hb); have n1_ := Aside0.mk (below_step (by repeat (first | (with_reducible first | exact HB.out | apply below_alloc | apply pw_below_drewN | apply below_drew1 | refine below_set ?_ GE112.out) | exact HB.out)) hb); have n2_ := Aside0.mk (hbox); have n3_ := Aside0.mk ((by rw [hg]; exact (below_size (by repeat (first | (with_reducible first | exact HB.out | apply below_alloc | apply pw_below_drewN | apply below_drew1 | refine below_set ?_ GE112.out) | exact HB.out))) : w.heap.size ≤ gb113)); have n4_ := Aside0.mk ((by rw [hg]; exact (below_size (by repeat (first | (with_reducible first | exact HB.out | apply below_alloc | apply pw_below_drewN | apply below_drew1 | refine below_set ?_ GE112.out) | exact HB.out))) : w.heap.size ≤ gb113)); have n5_ := Aside0.mk ((by rw [hg]; exact Nat.ne_of_lt (blk_lt (g := gb112) (o := .cells #[.int .i64 a0_0, .int .i64 a0_1, .string a0_2, .string a0_3, .int .i64 a0_4] 35 (0, 0)) (by (with_reducible repeat (first | refine blk_drewN ?_ _ | refine blk_drew ?_ | refine blk_alloc ?_ _)); exact BK112.out)) : gb112 ≠ gb113)); have n6_ := Aside0.mk ((by rw [hg]; exact Nat.ne_of_gt (blk_lt (g := gb112) (o := .cells #[.int .i64 a0_0, .int .i64 a0_1, .string a0_2, .string a0_3, .int .i64 a0_4] 35 (0, 0)) (by (with_reducible repeat (first | refine blk_drewN ?_ _ | refine blk_drew ?_ | refine blk_alloc ?_ _)); exact BK112.out)) : gb113 ≠ gb112)); clear BK112; clear HB; have BK112 := n0_; have HB := n1_; have BK113 := n2_; have GW113 := n3_; have GE113 := n4_; have NB112_113 := n5_; have NB113_112 := n6_; clear n0_ n1_ n2_ n3_ n4_ n5_ n6_; clear hb hbox hg; have hnb11 := NB112_113.out; have hnc11 := NB113_112.out; have hcz12_0 : w10.cell? ⟨gb112, 0, none⟩ = some (.int .i64 a0_0) := (blk_cell BK112.out 0).trans rfl; have hcz12_1 : w10.cell? ⟨gb112, 1, none⟩ = some (.int .i64 a0_1) := (blk_cell BK112.out 1).trans rfl; have hcz12_2 : w10.cell? ⟨gb112, 2, none⟩ = some (.string a0_2) := (blk_cell BK112.out 2).trans rfl; have hcz12_3 : w10.cell? ⟨gb112, 3, none⟩ = some (.string a0_3) := (blk_cell BK112.out 3).trans rfl; have hcz12_4 : w10.cell? ⟨gb112, 4, none⟩ = some (.int .i64 a0_4) := (blk_cell BK112.out 4).trans rfl; have hfz12_0 := blk_frozen BK112.out 0; have hfz12_1 := blk_frozen BK112.out 1; have hfz12_2 := blk_frozen BK112.out 2; have hfz12_3 := blk_frozen BK112.out 3; have hfz12_4 := blk_frozen BK112.out 4; have hcz13_0 : w10.cell? ⟨gb113, 0, none⟩ = some (.int .i64 a1_0) := (blk_cell BK113.out 0).trans rfl; have hcz13_1 : w10.cell? ⟨gb113, 1, none⟩ = some (.int .i64 a1_1) := (blk_cell BK113.out 1).trans rfl; have hcz13_2 : w10.cell? ⟨gb113, 2, none⟩ = some (.string a1_2) := (blk_cell BK113.out 2).trans rfl; have hcz13_3 : w10.cell? ⟨gb113, 3, none⟩ = some (.string a1_3) := (blk_cell BK113.out 3).trans rfl; have hcz13_4 : w10.cell? ⟨gb113, 4, none⟩ = some (.int .i64 a1_4) := (blk_cell BK113.out 4).trans rfl; have hfz13_0 := blk_frozen BK113.out 0; have hfz13_1 := blk_frozen BK113.out 1; have hfz13_2 := blk_frozen BK113.out 2; have hfz13_3 := blk_frozen BK113.out 3; have hfz13_4 := blk_frozen BK113.out 4) | ((with_reducible refine gate_callee (f := 64) rfl ?_); refine goesL_ (some 10) rfl rfl Try.func64 (by kernel_rfl) rfl #[.int .i64 a0_1, .int .i64 a1_1] rfl (by (try simp only [List.map_toArray, List.map_cons, List.map_nil]); first | done | rfl | (simp only [List.length_drop, List.length_take]; rfl)) ?_; (with_reducible refine (cmp_Compare_int.calls a0_1 a1_1 t114 _ A3.out).mono ?_); rintro e w' ⟨rfl, ⟨nd, rfl⟩⟩; refine ⟨_, rfl, ?_⟩) | ((with_reducible refine gate_callee (f := 66) rfl ?_); refine goesL_ (some 19) rfl rfl Try.func66 (by kernel_rfl) rfl #[.string a0_2, .string a1_2] rfl (by (try simp only [List.map_toArray, List.map_cons, List.map_nil]); first | done | rfl | (simp only [List.length_drop, List.length_take]; rfl)) ?_; (with_reducible refine (cmp_Compare_string.calls a0_2 a1_2 t115 _ A5.out).mono ?_); rintro e w' ⟨rfl, ⟨nd, rfl⟩⟩; refine ⟨_, rfl, ?_⟩) | ((with_reducible refine gate_dst (N := 20) rfl ?_); refine Kd.R_lit (Kd.int .i64) _ 3 ?hg (N := 20) ?hd (xs := ([t114, t115] : List Int)) (inner := [.int .i64 t114, .int .i64 t115]) (ok := fun _ => True) (okp := fun _ => True) ?hr ?hp (fun _ hk => hk) trivial (Below.refl _ _) (Nat.le_refl _) (by simp) ?_; (case hd => rfl); (case hg => rfl); (case hr => first | (go_simp; done) | (go_simp; rfl)); (case hp => exact (Reps.one (show Kd.M (Kd.int .i64) _ _ _ t114 [.int .i64 t114] from rfl) (Reps.one (show Kd.M (Kd.int .i64) _ _ _ t115 [.int .i64 t115] from rfl) (Reps.none _ _)))); intro v117 w14 ho15 hb hg_ hnew_; clear hg_ hnew_; (first | rw [← Ny116.out] at ho15 | (simp only [Int.reduceToNat] at ho15; rw [← Ny116.out] at ho15)); have n0_ := Aside0.mk (Kd.R_lower ho15 (below_size (by repeat (first | (with_reducible first | exact HB.out | apply below_alloc | apply pw_below_drewN | apply below_drew1 | refine below_set ?_ GE112.out | refine below_set ?_ GE113.out) | exact HB.out)))); have n1_ := Aside0.mk (blk_below (g := gb112) (o := .cells #[.int .i64 a0_0, .int .i64 a0_1, .string a0_2, .string a0_3, .int .i64 a0_4] 35 (0, 0)) (by (with_reducible repeat (first | refine blk_drewN ?_ _ | refine blk_drew ?_ | refine blk_alloc ?_ _)); exact BK112.out) hb); have n2_ := Aside0.mk (blk_below (g := gb113) (o := .cells #[.int .i64 a1_0, .int .i64 a1_1, .string a1_2, .string a1_3, .int .i64 a1_4] 35 (0, 0)) (by (with_reducible repeat (first | refine blk_drewN ?_ _ | refine blk_drew ?_ | refine blk_alloc ?_ _)); exact BK113.out) hb); have n3_ := Aside0.mk (below_step (by repeat (first | (with_reducible first | exact HB.out | apply below_alloc | apply pw_below_drewN | apply below_drew1 | refine below_set ?_ GE112.out | refine below_set ?_ GE113.out) | exact HB.out)) hb); clear BK112; clear BK113; clear HB; have HO118 := n0_; have BK112 := n1_; have BK113 := n2_; have HB := n3_; clear n0_ n1_ n2_ n3_; clear hb ho15; obtain ⟨Ao16, co16, eo16⟩ := Kd.R_slice HO118.out; subst eo16) | ((with_reducible refine gate_callee (f := 65) rfl ?_); refine goesL_ (some 21) rfl rfl Try.func65 (by kernel_rfl) rfl #[.slice Ao16 y116.length co16] rfl (by (try simp only [List.map_toArray, List.map_cons, List.map_nil]); first | done | rfl | (simp only [List.length_drop, List.length_take]; rfl)) ?_; (with_reducible refine (cmp_Or_int.calls k _ _ y116 t119 _ ?side1 ?side2 A6.out).mono ?_); (case side1 => repeat (first | exact (Kd.R_reads' HO118.out).2.2 | (with_reducible refine Kd.C_alloc ?_ _) | (with_reducible refine Kd.C_drewN ?_ _) | (with_reducible refine Kd.C_drew ?_))); (case side2 => exact (Kd.R_reads' HO118.out).2.1); rintro e w' ⟨rfl, ⟨nd, rfl⟩⟩; refine ⟨_, rfl, ?_⟩; have hcz17_0 : w14.cell? ⟨gb112, 0, none⟩ = some (.int .i64 a0_0) := (blk_cell BK112.out 0).trans rfl; have hcz17_1 : w14.cell? ⟨gb112, 1, none⟩ = some (.int .i64 a0_1) := (blk_cell BK112.out 1).trans rfl; have hcz17_2 : w14.cell? ⟨gb112, 2, none⟩ = some (.string a0_2) := (blk_cell BK112.out 2).trans rfl; have hcz17_3 : w14.cell? ⟨gb112, 3, none⟩ = some (.string a0_3) := (blk_cell BK112.out 3).trans rfl; have hcz17_4 : w14.cell? ⟨gb112, 4, none⟩ = some (.int .i64 a0_4) := (blk_cell BK112.out 4).trans rfl; have hfz17_0 := blk_frozen BK112.out 0; have hfz17_1 := blk_frozen BK112.out 1; have hfz17_2 := blk_frozen BK112.out 2; have hfz17_3 := blk_frozen BK112.out 3; have hfz17_4 := blk_frozen BK112.out 4; have hcz18_0 : w14.cell? ⟨gb113, 0, none⟩ = some (.int .i64 a1_0) := (blk_cell BK113.out 0).trans rfl; have hcz18_1 : w14.cell? ⟨gb113, 1, none⟩ = some (.int .i64 a1_1) := (blk_cell BK113.out 1).trans rfl; have hcz18_2 : w14.cell? ⟨gb113, 2, none⟩ = some (.string a1_2) := (blk_cell BK113.out 2).trans rfl; have hcz18_3 : w14.cell? ⟨gb113, 3, none⟩ = some (.string a1_3) := (blk_cell BK113.out 3).trans rfl; have hcz18_4 : w14.cell? ⟨gb113, 4, none⟩ = some (.int .i64 a1_4) := (blk_cell BK113.out 4).trans rfl; have hfz18_0 := blk_frozen BK113.out 0; have hfz18_1 := blk_frozen BK113.out 1; have hfz18_2 := blk_frozen BK113.out 2; have hfz18_3 := blk_frozen BK113.out 3; have hfz18_4 := blk_frozen BK113.out 4) | ((with_reducible refine gate_callee (f := 64) rfl ?_); refine goesL_ (some 27) rfl rfl Try.func64 (by kernel_rfl) rfl #[.int .i64 a0_0, .int .i64 a1_0] rfl (by (try simp only [List.map_toArray, List.map_cons, List.map_nil]); first | done | rfl | (simp only [List.length_drop, List.length_take]; rfl)) ?_; (with_reducible refine (cmp_Compare_int.calls a0_0 a1_0 t120 _ A7.out).mono ?_); rintro e w' ⟨rfl, ⟨nd, rfl⟩⟩; refine ⟨_, rfl, ?_⟩) | ((with_reducible refine gate_dst (N := 28) rfl ?_); refine Kd.R_lit (Kd.int .i64) _ 3 ?hg (N := 28) ?hd (xs := ([t119, t120] : List Int)) (inner := [.int .i64 t119, .int .i64 t120]) (ok := fun _ => True) (okp := fun _ => True) ?hr ?hp (fun _ hk => hk) trivial (Below.refl _ _) (Nat.le_refl _) (by simp) ?_; (case hd => rfl); (case hg => rfl); (case hr => first | (go_simp; done) | (go_simp; rfl)); (case hp => exact (Reps.one (show Kd.M (Kd.int .i64) _ _ _ t119 [.int .i64 t119] from rfl) (Reps.one (show Kd.M (Kd.int .i64) _ _ _ t120 [.int .i64 t120] from rfl) (Reps.none _ _)))); intro v122 w19 ho20 hb hg_ hnew_; clear hg_ hnew_; (first | rw [← Ny121.out] at ho20 | (simp only [Int.reduceToNat] at ho20; rw [← Ny121.out] at ho20)); have n0_ := Aside0.mk (Kd.R_elder' (by (with_reducible repeat (first | apply Kd.R_alloc | apply Kd.R_drewN | apply Kd.R_drew)); exact HO118.out) (Kd.R_base ho20) hb); have n1_ := Aside0.mk (Kd.R_lower (Kd.R_new' ho20 (Kd.R_lt (by (with_reducible repeat (first | apply Kd.R_alloc | apply Kd.R_drewN | apply Kd.R_drew)); exact HO118.out))) (below_size (by repeat (first | (with_reducible first | exact HB.out | apply below_alloc | apply pw_below_drewN | apply below_drew1 | refine below_set ?_ GE112.out | refine below_set ?_ GE113.out) | exact HB.out)))); have n2_ := Aside0.mk (blk_below (g := gb112) (o := .cells #[.int .i64 a0_0, .int .i64 a0_1, .string a0_2, .string a0_3, .int .i64 a0_4] 35 (0, 0)) (by (with_reducible repeat (first | refine blk_drewN ?_ _ | refine blk_drew ?_ | refine blk_alloc ?_ _)); exact BK112.out) hb); have n3_ := Aside0.mk (blk_below (g := gb113) (o := .cells #[.int .i64 a1_0, .int .i64 a1_1, .string a1_2, .string a1_3, .int .i64 a1_4] 35 (0, 0)) (by (with_reducible repeat (first | refine blk_drewN ?_ _ | refine blk_drew ?_ | refine blk_alloc ?_ _)); exact BK113.out) hb); have n4_ := Aside0.mk (below_step (by repeat (first | (with_reducible first | exact HB.out | apply below_alloc | apply pw_below_drewN | apply below_drew1 | refine below_set ?_ GE112.out | refine below_set ?_ GE113.out) | exact HB.out)) hb); clear HO118; clear BK112; clear BK113; clear HB; have HO118 := n0_; have HO123 := n1_; have BK112 := n2_; have BK113 := n3_; have HB := n4_; clear n0_ n1_ n2_ n3_ n4_; clear hb ho20; obtain ⟨Ao21, co21, eo21⟩ := Kd.R_slice HO123.out; subst eo21) | ((with_reducible refine gate_callee (f := 65) rfl ?_); refine goesL_ (some 29) rfl rfl Try.func65 (by kernel_rfl) rfl #[.slice Ao21 y121.length co21] rfl (by (try simp only [List.map_toArray, List.map_cons, List.map_nil]); first | done | rfl | (simp only [List.length_drop, List.length_take]; rfl)) ?_; (with_reducible refine (cmp_Or_int.calls k _ _ y121 t124 _ ?side1 ?side2 A8.out).mono ?_); (case side1 => repeat (first | exact (Kd.R_reads' HO123.out).2.2 | (with_reducible refine Kd.C_alloc ?_ _) | (with_reducible refine Kd.C_drewN ?_ _) | (with_reducible refine Kd.C_drew ?_))); (case side2 => exact (Kd.R_reads' HO123.out).2.1); rintro e w' ⟨rfl, ⟨nd, rfl⟩⟩; refine ⟨_, rfl, ?_⟩))
    go_ret
    exact ⟨by first | rfl | (simp [errW_none, errW_some] <;> rfl) | (simp [*, errW_none, errW_some] <;> rfl), by repeat (first | (with_reducible first | exact HB.out | apply below_alloc | apply pw_below_drewN | apply below_drew1 | refine below_set ?_ GE112.out | refine below_set ?_ GE113.out) | exact HB.out)⟩
  · rw [if_neg c4] at H
    have c4b0 : decide (0 < a0_1) = false := decide_eq_false c4
    clear c4
    replace H := Option.bind_eq_some_iff.mp H
    obtain ⟨t125, A220, H⟩ := H
    replace H : ((cmp_Or_int.f k (([t114, t125] : List Int))).bind fun t129 => (some t129)) = some r := H
    have A22 := Aside0.mk A220
    clear A220
    obtain ⟨y126, hy126⟩ : ∃ y_ : List Int, y_ = (([t114, t125] : List Int)) := ⟨_, rfl⟩
    replace H : ((cmp_Or_int.f k y126).bind fun t129 => (some t129)) = some r := by first | (rw [hy126]; with_reducible exact H) | (have H2_ := (Option.bind_some _ _).symm.trans H; rw [hy126]; with_reducible exact H2_) | (have H2_ := (Option.bind_some _ _).symm.trans H; with_reducible exact H2_) | with_reducible exact H | (rw [hy126]; exact H) | exact H
    have Ny126 := Aside0.mk hy126
    clear hy126
    replace H := Option.bind_eq_some_iff.mp H
    obtain ⟨t129, A230, H⟩ := H
    replace H : (some t129) = some r := H
    have A23 := Aside0.mk A230
    clear A230
    obtain rfl := Option.some.inj H
    go_enter Try.func27, Try.ntmps27
    go_wp2_with (first | ((with_reducible refine gate_dst (N := 2) rfl ?_); refine box_event ?hg (N := 2) ?hd (cs := #[.int .i64 a0_0, .int .i64 a0_1, .string a0_2, .string a0_3, .int .i64 a0_4]) (t := 35) ?hr ?_; (case hd => rfl); (case hg => rfl); (case hr => first | (go_simp; done) | (go_simp; rfl)); intro gb112 hg w24 hbox hb; have n0_ := Aside0.mk (below_step (by repeat (first | (with_reducible first | exact HB.out | apply below_alloc | apply pw_below_drewN | apply below_drew1) | exact HB.out)) hb); have n1_ := Aside0.mk (hbox); have n2_ := Aside0.mk ((by rw [hg]; exact (below_size (by repeat (first | (with_reducible first | exact HB.out | apply below_alloc | apply pw_below_drewN | apply below_drew1) | exact HB.out))) : w.heap.size ≤ gb112)); have n3_ := Aside0.mk ((by rw [hg]; exact (below_size (by repeat (first | (with_reducible first | exact HB.out | apply below_alloc | apply pw_below_drewN | apply below_drew1) | exact HB.out))) : w.heap.size ≤ gb112)); clear HB; have HB := n0_; have BK112 := n1_; have GW112 := n2_; have GE112 := n3_; clear n0_ n1_ n2_ n3_; clear hb hbox hg) | ((with_reducible refine gate_dst (N := 3) rfl ?_); refine box_event ?hg (N := 3) ?hd (cs := #[.int .i64 a1_0, .int .i64 a1_1, .string a1_2, .string a1_3, .int .i64 a1_4]) (t := 35) ?hr ?_; (case hd => rfl); (case hg => rfl); (case hr => first | (go_simp; done) | (go_simp; rfl)); intro gb113 hg w25 hbox hb; have n0_ := Aside0.mk (blk_below (g := gb112) (o := .cells #[.int .i64 a0_0, .int .i64 a0_1, .string a0_2, .string a0_3, .int .i64 a0_4] 35 (0, 0)) (by (with_reducible repeat (first | refine blk_drewN ?_ _ | refine blk_drew ?_ | refine blk_alloc ?_ _)); exact BK112.out) hb); have n1_ := Aside0.mk (below_step (by repeat (first | (with_reducible first | exact HB.out | apply below_alloc | apply pw_below_drewN | apply below_drew1 | refine below_set ?_ GE112.out) | exact HB.out)) hb); have n2_ := Aside0.mk (hbox); have n3_ := Aside0.mk ((by rw [hg]; exact (below_size (by repeat (first | (with_reducible first | exact HB.out | apply below_alloc | apply pw_below_drewN | apply below_drew1 | refine below_set ?_ GE112.out) | exact HB.out))) : w.heap.size ≤ gb113)); have n4_ := Aside0.mk ((by rw [hg]; exact (below_size (by repeat (first | (with_reducible first | exact HB.out | apply below_alloc | apply pw_below_drewN | apply below_drew1 | refine below_set ?_ GE112.out) | exact HB.out))) : w.heap.size ≤ gb113)); have n5_ := Aside0.mk ((by rw [hg]; exact Nat.ne_of_lt (blk_lt (g := gb112) (o := .cells #[.int .i64 a0_0, .int .i64 a0_1, .string a0_2, .string a0_3, .int .i64 a0_4] 35 (0, 0)) (by (with_reducible repeat (first | refine blk_drewN ?_ _ | refine blk_drew ?_ | refine blk_alloc ?_ _)); exact BK112.out)) : gb112 ≠ gb113)); have n6_ := Aside0.mk ((by rw [hg]; exact Nat.ne_of_gt (blk_lt (g := gb112) (o := .cells #[.int .i64 a0_0, .int .i64 a0_1, .string a0_2, .string a0_3, .int .i64 a0_4] 35 (0, 0)) (by (with_reducible repeat (first | refine blk_drewN ?_ _ | refine blk_drew ?_ | refine blk_alloc ?_ _)); exact BK112.out)) : gb113 ≠ gb112)); clear BK112; clear HB; have BK112 := n0_; have HB := n1_; have BK113 := n2_; have GW113 := n3_; have GE113 := n4_; have NB112_113 := n5_; have NB113_112 := n6_; clear n0_ n1_ n2_ n3_ n4_ n5_ n6_; clear hb hbox hg; have hnb26 := NB112_113.out; have hnc26 := NB113_112.out; have hcz27_0 : w25.cell? ⟨gb112, 0, none⟩ = some (.int .i64 a0_0) := (blk_cell BK112.out 0).trans rfl; have hcz27_1 : w25.cell? ⟨gb112, 1, none⟩ = some (.int .i64 a0_1) := (blk_cell BK112.out 1).trans rfl; have hcz27_2 : w25.cell? ⟨gb112, 2, none⟩ = some (.string a0_2) := (blk_cell BK112.out 2).trans rfl; have hcz27_3 : w25.cell? ⟨gb112, 3, none⟩ = some (.string a0_3) := (blk_cell BK112.out 3).trans rfl; have hcz27_4 : w25.cell? ⟨gb112, 4, none⟩ = some (.int .i64 a0_4) := (blk_cell BK112.out 4).trans rfl; have hfz27_0 := blk_frozen BK112.out 0; have hfz27_1 := blk_frozen BK112.out 1; have hfz27_2 := blk_frozen BK112.out 2; have hfz27_3 := blk_frozen BK112.out 3; have hfz27_4 := blk_frozen BK112.out 4; have hcz28_0 : w25.cell? ⟨gb113, 0, none⟩ = some (.int .i64 a1_0) := (blk_cell BK113.out 0).trans rfl; have hcz28_1 : w25.cell? ⟨gb113, 1, none⟩ = some (.int .i64 a1_1) := (blk_cell BK113.out 1).trans rfl; have hcz28_2 : w25.cell? ⟨gb113, 2, none⟩ = some (.string a1_2) := (blk_cell BK113.out 2).trans rfl; have hcz28_3 : w25.cell? ⟨gb113, 3, none⟩ = some (.string a1_3) := (blk_cell BK113.out 3).trans rfl; have hcz28_4 : w25.cell? ⟨gb113, 4, none⟩ = some (.int .i64 a1_4) := (blk_cell BK113.out 4).trans rfl; have hfz28_0 := blk_frozen BK113.out 0; have hfz28_1 := blk_frozen BK113.out 1; have hfz28_2 := blk_frozen BK113.out 2; have hfz28_3 := blk_frozen BK113.out 3; have hfz28_4 := blk_frozen BK113.out 4) | ((with_reducible refine gate_callee (f := 64) rfl ?_); refine goesL_ (some 10) rfl rfl Try.func64 (by kernel_rfl) rfl #[.int .i64 a0_1, .int .i64 a1_1] rfl (by (try simp only [List.map_toArray, List.map_cons, List.map_nil]); first | done | rfl | (simp only [List.length_drop, List.length_take]; rfl)) ?_; (with_reducible refine (cmp_Compare_int.calls a0_1 a1_1 t114 _ A3.out).mono ?_); rintro e w' ⟨rfl, ⟨nd, rfl⟩⟩; refine ⟨_, rfl, ?_⟩) | ((with_reducible refine gate_callee (f := 64) rfl ?_); refine goesL_ (some 27) rfl rfl Try.func64 (by kernel_rfl) rfl #[.int .i64 a0_0, .int .i64 a1_0] rfl (by (try simp only [List.map_toArray, List.map_cons, List.map_nil]); first | done | rfl | (simp only [List.length_drop, List.length_take]; rfl)) ?_; (with_reducible refine (cmp_Compare_int.calls a0_0 a1_0 t125 _ A22.out).mono ?_); rintro e w' ⟨rfl, ⟨nd, rfl⟩⟩; refine ⟨_, rfl, ?_⟩) | ((with_reducible refine gate_dst (N := 28) rfl ?_); refine Kd.R_lit (Kd.int .i64) _ 3 ?hg (N := 28) ?hd (xs := ([t114, t125] : List Int)) (inner := [.int .i64 t114, .int .i64 t125]) (ok := fun _ => True) (okp := fun _ => True) ?hr ?hp (fun _ hk => hk) trivial (Below.refl _ _) (Nat.le_refl _) (by simp) ?_; (case hd => rfl); (case hg => rfl); (case hr => first | (go_simp; done) | (go_simp; rfl)); (case hp => exact (Reps.one (show Kd.M (Kd.int .i64) _ _ _ t114 [.int .i64 t114] from rfl) (Reps.one (show Kd.M (Kd.int .i64) _ _ _ t125 [.int .i64 t125] from rfl) (Reps.none _ _)))); intro v127 w29 ho30 hb hg_ hnew_; clear hg_ hnew_; (first | rw [← Ny126.out] at ho30 | (simp only [Int.reduceToNat] at ho30; rw [← Ny126.out] at ho30)); have n0_ := Aside0.mk (Kd.R_lower ho30 (below_size (by repeat (first | (with_reducible first | exact HB.out | apply below_alloc | apply pw_below_drewN | apply below_drew1 | refine below_set ?_ GE112.out | refine below_set ?_ GE113.out) | exact HB.out)))); have n1_ := Aside0.mk (blk_below (g := gb112) (o := .cells #[.int .i64 a0_0, .int .i64 a0_1, .string a0_2, .string a0_3, .int .i64 a0_4] 35 (0, 0)) (by (with_reducible repeat (first | refine blk_drewN ?_ _ | refine blk_drew ?_ | refine blk_alloc ?_ _)); exact BK112.out) hb); have n2_ := Aside0.mk (blk_below (g := gb113) (o := .cells #[.int .i64 a1_0, .int .i64 a1_1, .string a1_2, .string a1_3, .int .i64 a1_4] 35 (0, 0)) (by (with_reducible repeat (first | refine blk_drewN ?_ _ | refine blk_drew ?_ | refine blk_alloc ?_ _)); exact BK113.out) hb); have n3_ := Aside0.mk (below_step (by repeat (first | (with_reducible first | exact HB.out | apply below_alloc | apply pw_below_drewN | apply below_drew1 | refine below_set ?_ GE112.out | refine below_set ?_ GE113.out) | exact HB.out)) hb); clear BK112; clear BK113; clear HB; have HO128 := n0_; have BK112 := n1_; have BK113 := n2_; have HB := n3_; clear n0_ n1_ n2_ n3_; clear hb ho30; obtain ⟨Ao31, co31, eo31⟩ := Kd.R_slice HO128.out; subst eo31) | ((with_reducible refine gate_callee (f := 65) rfl ?_); refine goesL_ (some 29) rfl rfl Try.func65 (by kernel_rfl) rfl #[.slice Ao31 y126.length co31] rfl (by (try simp only [List.map_toArray, List.map_cons, List.map_nil]); first | done | rfl | (simp only [List.length_drop, List.length_take]; rfl)) ?_; (with_reducible refine (cmp_Or_int.calls k _ _ y126 t129 _ ?side1 ?side2 A23.out).mono ?_); (case side1 => repeat (first | exact (Kd.R_reads' HO128.out).2.2 | (with_reducible refine Kd.C_alloc ?_ _) | (with_reducible refine Kd.C_drewN ?_ _) | (with_reducible refine Kd.C_drew ?_))); (case side2 => exact (Kd.R_reads' HO128.out).2.1); rintro e w' ⟨rfl, ⟨nd, rfl⟩⟩; refine ⟨_, rfl, ?_⟩))
    go_ret
    exact ⟨by first | rfl | (simp [errW_none, errW_some] <;> rfl) | (simp [*, errW_none, errW_some] <;> rfl), by repeat (first | (with_reducible first | exact HB.out | apply below_alloc | apply pw_below_drewN | apply below_drew1 | refine below_set ?_ GE112.out | refine below_set ?_ GE113.out) | exact HB.out)⟩

end Go.Proofs.Ytokimlfagpddlaa.PD

-- printed by gprint.py (own tool) over the kit's print
namespace Go.Proofs.Ytokimlfagpddlaa.PD
open Go.RowKit Go.Proofs.Ytokimlfagpddlaa Go.Proofs.YtokimlfagpddlaaW.PrintWords Go.Proofs.YtokimlfagpddlaaW.PrintLast Go.Proofs.YtokimlfagpddlaaW.PrintMore
attribute [local go_sem] max2_int min2_int max_two min_two max_three min_three max_four min_four   -- for this text's walks alone
set_option linter.unnecessarySimpa false
attribute [local go_sem] min2_str max2_str leq_str gtr_str geq_str
set_option linter.unusedVariables false
set_option linter.unusedSimpArgs false

/-! ### version_twice: function 28 -/
def version_twice.f (l0 : List Int) : Option Bool := if l0.length < 1099511627776 ∧ ∀ x ∈ l0, -9223372036854775808 ≤ x ∧ x ≤ 9223372036854775807 then some (decide (¬ l0.Nodup)) else none
theorem version_twice.wf_ {x : Int} (h : -9223372036854775808 ≤ x ∧ x ≤ 9223372036854775807) : (Lit.int .i64 x).wf = true := by
  simp [Lit.wf, IntKind.min, IntKind.max, IntKind.signed, IntKind.bits]
  omega
theorem version_twice.nodup_ (l : List Int) (k : Nat) (hk : k < l.length) (h : (l.take k).Nodup) : (l.getD k 0 ∈ l.take k → ¬ l.Nodup) ∧ (l.getD k 0 ∉ l.take k → (l.take (k + 1)).Nodup) := by
  have e : l.take (k + 1) = l.take k ++ [l.getD k 0] := by rw [List.take_succ_eq_append_getElem hk]; simp [List.getD, hk]
  refine ⟨fun hm hn => ?_, fun hm => ?_⟩
  · have h1 : (l.take (k + 1)).Nodup := hn.sublist (List.take_sublist _ _)
    rw [e, List.nodup_append] at h1
    exact h1.2.2 _ hm _ (by simp) rfl
  · rw [e, List.nodup_append]
    exact ⟨h, by simp, fun a ha b hb => by simp at hb; subst hb; rintro rfl; exact hm ha⟩
set_option maxHeartbeats 2000000 in
theorem version_twice.calls (A0 : Option Addr) (c0 : Nat) (l0 : List Int) (r : Bool) (w : World) (hr0 : Kd.C (Kd.int .i64) w A0 l0.length l0) (hc0 : l0.length ≤ c0) (h : version_twice.f l0 = some r) :
    Calls Try.prog 28 #[.slice A0 l0.length c0] w fun e w' => e = .returned (.bool r) ∧ Below w.heap.size w w' := by
  obtain ⟨⟨hlen, hwf⟩, rfl⟩ : (l0.length < 1099511627776 ∧ ∀ x ∈ l0, -9223372036854775808 ≤ x ∧ x ≤ 9223372036854775807) ∧ decide (¬ l0.Nodup) = r := by
    unfold version_twice.f at h
    split at h
    · rename_i hl; exact ⟨hl, Option.some.inj h⟩
    · cases h
  clear h
  have HR := Aside0.mk hr0
  have HW := Aside0.mk hwf
  obtain ⟨R, hRR⟩ : ∃ R : Bool, R = decide (¬ l0.Nodup) := ⟨_, rfl⟩
  rw [← hRR]
  have HRR := Aside0.mk hRR
  clear hr0 hwf hc0 hRR
  have hmm := @run_makeMap Try.prog
  go_enter Try.func28, Try.ntmps28
  go_wp2
  obtain ⟨B, hB⟩ : ∃ B, B = w.heap.size := ⟨_, rfl⟩
  have HS : Aside0 (SetAt (w.alloc (.map #[] 0)) 3 4 B []) := ⟨by rw [hB]; exact setAt_made _ _ _⟩
  have HB : Aside0 (Below w.heap.size w (w.alloc (.map #[] 0))) := ⟨below_alloc (Below.refl _ _) _⟩
  have HLB : Aside0 (w.heap.size ≤ B) := ⟨by omega⟩
  have hz : ∀ w : World, (zeroValue 4).run Try.prog w = .ok (.bool false) w := fun w => by kernel_rfl
  have HZ := Aside0.mk hz
  rw [← hB]
  generalize w.alloc (.map #[] 0) = w1 at HS HB ⊢
  clear hB hmm hz
  go_loopw [9] (fun i wr => ∃ k : Nat, k ≤ l0.length ∧ i = .int .i64 k ∧ Aside0 ((l0.take k).Nodup) ∧ Aside0 (SetAt wr 3 4 B (l0.take k)) ∧ Aside0 (Below w.heap.size w wr)) (fun i _ => l0.length - (intOf i).toNat)
  case atStart => exact ⟨0, Nat.zero_le _, rfl, ⟨by simp⟩, by simpa using HS, HB⟩
  case round =>
    clear HS HB
    obtain ⟨k, hk, rfl, HN, HS, HB⟩ := hrel
    by_cases hlt : k < l0.length
    · obtain ⟨ad, rfl, hcell⟩ := Kd.at_int (Kd.C_below HR.out HB.out) (k : Int) (by omega) (by omega)
      obtain ⟨n, hn⟩ : ∃ n : Int, n = rd l0 (k : Int) := ⟨_, rfl⟩
      rw [← hn] at hcell
      have hg : n = l0.getD k 0 := by rw [hn, rd, Int.toNat_natCast]
      have hwn : (Lit.int .i64 n).wf = true := version_twice.wf_ (HW.out n (by rw [hg]; simp [List.getD, hlt]))
      have HWN := Aside0.mk hwn
      have HG := Aside0.mk hg
      rw [Int.toNat_natCast] at hcell
      clear hn hg hwn
      by_cases hm : n ∈ l0.take k
      · have hd := Aside0.mk (decide_eq_true hm)
        have hR : R = true := by rw [HRR.out]; exact decide_eq_true ((version_twice.nodup_ l0 k hlt HN.out).1 (by rw [← HG.out]; exact hm))
        have HRT := Aside0.mk hR
        clear hm hR
        go_wp2_with (first
          | (refine wpList_lookup_set _ rfl (.tmp 13) (.tmp 14) 95 rfl 3 4 Try.underlying3 Try.underlying95 Try.underlying4 HZ.out B _ rfl HS.out n rfl HWN.out true hd.out ?_))
        go_ret
        exact ⟨by rw [HRT.out]; rfl, HB.out⟩
      · have hd := Aside0.mk (decide_eq_false hm)
        have HN2 := Aside0.mk ((version_twice.nodup_ l0 k hlt HN.out).2 (by rw [← HG.out]; exact hm))
        have hl1 : (l0.take k).length < maxLen := by rw [List.length_take]; unfold maxLen; omega
        have HL1 := Aside0.mk hl1
        have e : l0.take k ++ [n] = l0.take (k + 1) := by rw [List.take_succ_eq_append_getElem hlt, HG.out]; simp [List.getD, hlt]
        have HE := Aside0.mk e
        clear hm hl1 e HN
        go_wp2_with (first
          | (refine wpList_lookup_set _ rfl (.tmp 13) (.tmp 14) 95 rfl 3 4 Try.underlying3 Try.underlying95 Try.underlying4 HZ.out B _ rfl HS.out n rfl HWN.out false hd.out ?_)
          | (refine wpList_put_set _ rfl (.tmp 16) (.tmp 17) (.const (.bool true)) 95 rfl 3 4 Try.underlying3 Try.underlying95 Try.underlying4 B _ rfl HS.out HL1.out n rfl rfl HWN.out ?_; intro w2 hs2 hg2; have HS2 := Aside0.mk hs2; have HB2 := Aside0.mk (pw_below_grown HB.out (some B) HB.out.size hg2 (fun k_ e_ => by injection e_ with e_; have := HLB.out; omega)); clear hs2 hg2 HS HB))
        refine ⟨⟨k + 1, by omega, by go_num, HN2, ⟨by rw [← HE.out]; exact HS2.out⟩, HB2⟩, by simp [intOf]; omega⟩
    · obtain rfl : k = l0.length := by omega
      have hR : R = false := by rw [HRR.out]; have := HN.out; rw [List.take_length] at this; simp [this]
      have HRT := Aside0.mk hR
      clear hR
      go_wp2
      go_ret
      exact ⟨by rw [HRT.out]; rfl, HB.out⟩


end Go.Proofs.Ytokimlfagpddlaa.PD

-- printed by gprint.py (own tool) over the kit's print
namespace Go.Proofs.Ytokimlfagpddlaa.PD
open Go.RowKit Go.Proofs.Ytokimlfagpddlaa Go.Proofs.YtokimlfagpddlaaW.PrintWords Go.Proofs.YtokimlfagpddlaaW.PrintLast Go.Proofs.YtokimlfagpddlaaW.PrintMore
attribute [local go_sem] max2_int min2_int max_two min_two max_three min_three max_four min_four   -- for this text's walks alone
set_option linter.unnecessarySimpa false
attribute [local go_sem] min2_str max2_str leq_str gtr_str geq_str
set_option linter.unusedVariables false
set_option linter.unusedSimpArgs false

/-! ### version_ids: function 29 -/
def version_ids.l0 : Nat → List Int → List (S35) → Int → Int → List (S35) → List Int → Int → Option (List Int)
  | 0, _, _, _, _, _, _, _ => none
  | k + 1, x3, x7, x8, x9, x131000, x131001, x131002 => if x9 < x8 then (if 0 ≤ x9 then (if x9 < (x7.length : Int) then (if x3.length < 17592186044416 then (version_ids.l0 k (x3 ++ [(rd_T35 x7 x9).f0]) x7 x8 (wrap64 (x9 + 1)) x131000 x131001 x131002) else (none)) else (none)) else (none)) else (if x3.length + x131001.length < 17592186044416 then (some (x3 ++ x131001)) else (none))
def version_ids.f (k : Nat) (l0_0 : List (S35)) (l0_1 : List Int) (a0_2 : Int) : Option (List Int) := version_ids.l0 k ([] : List Int) l0_0 (l0_0.length : Int) 0 l0_0 l0_1 a0_2
theorem version_ids.mono_l : ∀ k, (∀ y0 y1 y2 y3 y4 y5 y6, LeO (version_ids.l0 k y0 y1 y2 y3 y4 y5 y6) (version_ids.l0 (k + 1) y0 y1 y2 y3 y4 y5 y6))
  | 0 => fun _ _ _ _ _ _ _ r h => by simp [version_ids.l0] at h
  | k + 1 => by
    have ih0 := version_ids.mono_l k
    · intro y0 y1 y2 y3 y4 y5 y6
      unfold version_ids.l0
      repeat' first
      | (with_reducible exact ih0 _ _ _ _ _ _ _)
      | (with_reducible exact LeO.refl _)
      | (with_reducible exact LeO.none _)
      | (with_reducible refine LeO.ite ?_ ?_)
      | (with_reducible refine LeO.bind ?_ (fun _ => ?_))
      | exact ih0 _ _ _ _ _ _ _
      | exact LeO.none _
      | refine LeO.ite ?_ ?_
      | refine LeO.bind ?_ (fun _ => ?_)
theorem version_ids.mono : ∀ a0 a1 a2 k, LeO (version_ids.f k a0 a1 a2) (version_ids.f (k + 1) a0 a1 a2) := by
  intro a0 a1 a2 k
  have ih0 := version_ids.mono_l k
  unfold version_ids.f
  repeat' first
      | (with_reducible exact ih0 _ _ _ _ _ _ _)
      | (with_reducible exact LeO.refl _)
      | (with_reducible exact LeO.none _)
      | (with_reducible refine LeO.ite ?_ ?_)
      | (with_reducible refine LeO.bind ?_ (fun _ => ?_))
      | exact ih0 _ _ _ _ _ _ _
      | exact LeO.none _
      | refine LeO.ite ?_ ?_
      | refine LeO.bind ?_ (fun _ => ?_)
set_option maxHeartbeats 8000000 in
set_option maxRecDepth 100000 in
theorem version_ids.calls (k : Nat) (A0_0 : Option Addr) (c0_0 : Nat) (l0_0 : List (S35)) (A0_1 : Option Addr) (c0_1 : Nat) (l0_1 : List Int) (a0_2 : Int) (r : List Int) (w : World) (hr0_0 : Kd.C k35 w A0_0 l0_0.length l0_0) (hc0_0 : l0_0.length ≤ c0_0) (hr0_1 : Kd.C (Kd.int .i64) w A0_1 l0_1.length l0_1) (hc0_1 : l0_1.length ≤ c0_1) (h : version_ids.f k l0_0 l0_1 a0_2 = some r) :
    Calls Try.prog 29 #[.agg #[.slice A0_0 l0_0.length c0_0, .slice A0_1 l0_1.length c0_1, .int .i64 a0_2]] w fun e w' => ∃ v0_ : Value, e = .returned (v0_) ∧ Kd.R (Kd.int .i64) 3 w' w.heap.size (fun _ => True) v0_ r ∧ Below w.heap.size w w' := by
  have hu25 := Try.underlying25
  have hu35 := Try.underlying35
  have HR0_0 := Aside0.mk hr0_0
  have HC0_0 := Aside0.mk hc0_0
  clear hr0_0 hc0_0
  have HR0_1 := Aside0.mk hr0_1
  have HC0_1 := Aside0.mk hc0_1
  clear hr0_1 hc0_1
  have HB := Aside0.mk (Below.refl w.heap.size w)
  have H : (version_ids.l0 k ([] : List Int) l0_0 (l0_0.length : Int) 0 l0_0 l0_1 a0_2) = some r := h
  clear h
  have H' := Aside0.mk H
  clear H
  go_enter Try.func29, Try.ntmps29
  go_wp2_with (first | ((with_reducible refine gate_dst (N := 1) rfl ?_); refine box_event ?hg (N := 1) ?hd (cs := #[.slice A0_0 l0_0.length c0_0, .slice A0_1 l0_1.length c0_1, .int .i64 a0_2]) (t := 25) ?hr ?_; (case hd => rfl); (case hg => rfl); (case hr => first | (go_simp; done) | (go_simp; rfl)); intro gb130 hg w2 hbox hb; have n0_ := Aside0.mk (below_step (by repeat (first | (with_reducible first | exact HB.out | apply below_alloc | apply pw_below_drewN | apply below_drew1) | exact HB.out)) hb); have n1_ := Aside0.mk (hbox); have n2_ := Aside0.mk ((by rw [hg]; exact (below_size (by repeat (first | (with_reducible first | exact HB.out | apply below_alloc | apply pw_below_drewN | apply below_drew1) | exact HB.out))) : w.heap.size ≤ gb130)); have n3_ := Aside0.mk ((by rw [hg]; exact (below_size (by repeat (first | (with_reducible first | exact HB.out | apply below_alloc | apply pw_below_drewN | apply below_drew1) | exact HB.out))) : w.heap.size ≤ gb130)); clear HB; have HB := n0_; have BK130 := n1_; have GW130 := n2_; have GE130 := n3_; clear n0_ n1_ n2_ n3_; clear hb hbox hg; have hcz3_0 : w2.cell? ⟨gb130, 0, none⟩ = some (.slice A0_0 l0_0.length c0_0) := (blk_cell BK130.out 0).trans rfl; have hcz3_1 : w2.cell? ⟨gb130, 1, none⟩ = some (.slice A0_1 l0_1.length c0_1) := (blk_cell BK130.out 1).trans rfl; have hcz3_2 : w2.cell? ⟨gb130, 2, none⟩ = some (.int .i64 a0_2) := (blk_cell BK130.out 2).trans rfl; have hfz3_0 := blk_frozen BK130.out 0; have hfz3_1 := blk_frozen BK130.out 1; have hfz3_2 := blk_frozen BK130.out 2))
  go_loopg [3, 9] k (fun kq v3 v9 w' => ∃ (x3_1 : List Int) (x9_1 : Int), v9 = .int .i64 x9_1 ∧ Aside0 (version_ids.l0 kq x3_1 l0_0 (l0_0.length : Int) x9_1 l0_0 l0_1 a0_2 = some r) ∧ Aside0 (kq ≤ k) ∧ Aside0 (Kd.R (Kd.int .i64) 3 w' w.heap.size (fun _ => True) v3 x3_1) ∧ Aside0 (w'.heap[gb130]? = some (.cells #[(.slice A0_0 l0_0.length c0_0), (.slice A0_1 l0_1.length c0_1), .int .i64 a0_2] 25 (0, 0))) ∧ Aside0 (Below w.heap.size w w'))
  case atStart => exact ⟨(([] : List Int)), (0), (by first | rfl | (simp; done) | (simp [*]; done)), H', ⟨Nat.le_refl _⟩, ⟨by first | exact Kd.R_nil _ _ _ _ _ | exact Kd.N_nil _ _ _ _ _ | exact Kd.V_nil _ _ _ _ _ | exact Kd.Q_nil _ _ _ _ _ | exact Kd.S_nil _ _ _ _ _⟩, ⟨by (with_reducible repeat (first | refine blk_drewN ?_ _ | refine blk_drew ?_ | refine blk_alloc ?_ _)); exact BK130.out⟩, ⟨by repeat (first | (with_reducible first | exact HB.out | apply below_alloc | apply pw_below_drewN | apply below_drew1 | refine below_set ?_ GE130.out) | exact HB.out)⟩⟩
  case round =>
    clear H'
    try clear c2
    try clear p2
    try clear hcz3_0
    try clear hcz3_1
    try clear hcz3_2
    try clear hfz3_0
    try clear hfz3_1
    try clear hfz3_2
    obtain ⟨x3_1, x9_1, rfl, HA, HK1, HO_3, BK130, HB⟩ := hrel
    cases gk with
    | zero => exact absurd HA.out (by simp [version_ids.l0])
    | succ k1 =>
      have H := HA.out
      clear HA
      simp only [version_ids.l0] at H
      by_cases c4 : x9_1 < (l0_0.length : Int)
      · rw [if_pos c4] at H
        have c4b0 : decide (x9_1 < (l0_0.length : Int)) = true := decide_eq_true c4
        clear c4
        by_cases c5 : 0 ≤ x9_1
        · rw [if_pos c5] at H
          have c5b0 : decide (0 ≤ x9_1) = true := decide_eq_true c5
          clear c5
          by_cases c6 : x9_1 < (l0_0.length : Int)
          · rw [if_pos c6] at H
            have c6b0 : decide (x9_1 < (l0_0.length : Int)) = true := decide_eq_true c6
            clear c6
            by_cases c7 : x3_1.length < 17592186044416
            · rw [if_pos c7] at H
              have LMc7 := Aside0.mk c7
              clear c7
              obtain ⟨y133, hy133⟩ : ∃ y_ : List Int, y_ = (x3_1 ++ [(rd_T35 l0_0 x9_1).f0]) := ⟨_, rfl⟩
              replace H : (version_ids.l0 k1 y133 l0_0 (l0_0.length : Int) (wrap64 (x9_1 + 1)) l0_0 l0_1 a0_2) = some r := by first | (rw [hy133]; with_reducible exact H) | (have H2_ := (Option.bind_some _ _).symm.trans H; rw [hy133]; with_reducible exact H2_) | (have H2_ := (Option.bind_some _ _).symm.trans H; with_reducible exact H2_) | with_reducible exact H | (rw [hy133]; exact H) | exact H
              have Ny133 := Aside0.mk hy133
              clear hy133
              have H' := Aside0.mk H
              clear H
              have p131 : 0 ≤ (x9_1 : Int) := of_decide_eq_true (by first | (with_reducible assumption) | assumption)
              have q131 : x9_1 < (l0_0.length : Int) := of_decide_eq_true (by first | (with_reducible assumption) | assumption)
              obtain ⟨ad131, e131, hx131_0, hx131_1, hx131_2, hx131_3, hx131_4⟩ := at_T35 HR0_0.out x9_1 p131 q131
              cases e131
              replace hx131_0 := (HB.out.cell (World.block_lt_of_cell? w _ hx131_0)).trans hx131_0
              replace hx131_1 := (HB.out.cell (World.block_lt_of_cell? w _ hx131_1)).trans hx131_1
              replace hx131_2 := (HB.out.cell (World.block_lt_of_cell? w _ hx131_2)).trans hx131_2
              replace hx131_3 := (HB.out.cell (World.block_lt_of_cell? w _ hx131_3)).trans hx131_3
              replace hx131_4 := (HB.out.cell (World.block_lt_of_cell? w _ hx131_4)).trans hx131_4
              replace p131 := eq_true p131
              replace q131 := eq_true q131
              go_wp2_with (first | ((with_reducible refine gate_dst (N := 5) rfl ?_); refine box_event ?hg (N := 5) ?hd (cs := #[.int .i64 0, .int .i64 0, .string (⟨#[]⟩ : ByteArray), .string (⟨#[]⟩ : ByteArray), .int .i64 0]) (t := 35) ?hr ?_; (case hd => rfl); (case hg => rfl); (case hr => first | (go_simp; done) | (go_simp; rfl)); intro gb132 hg w8 hbox hb; have n0_ := Aside0.mk (Kd.R_below (by (with_reducible repeat (first | apply Kd.R_alloc | apply Kd.R_drewN | apply Kd.R_drew)); exact HO_3.out) hb); have n1_ := Aside0.mk (blk_below (g := gb130) (o := .cells #[.slice (some ad131) l0_0.length c0_0, .slice A0_1 l0_1.length c0_1, .int .i64 a0_2] 25 (0, 0)) (by (with_reducible repeat (first | refine blk_drewN ?_ _ | refine blk_drew ?_ | refine blk_alloc ?_ _)); exact BK130.out) hb); have n2_ := Aside0.mk (below_step (by repeat (first | (with_reducible first | exact HB.out | apply below_alloc | apply pw_below_drewN | apply below_drew1 | refine below_set ?_ GE130.out) | exact HB.out)) hb); have n3_ := Aside0.mk (hbox); have n4_ := Aside0.mk ((by rw [hg]; exact (below_size (by repeat (first | (with_reducible first | exact HB.out | apply below_alloc | apply pw_below_drewN | apply below_drew1 | refine below_set ?_ GE130.out) | exact HB.out))) : w.heap.size ≤ gb132)); have n5_ := Aside0.mk ((by rw [hg]; exact (below_size (by repeat (first | (with_reducible first | exact HB.out | apply below_alloc | apply pw_below_drewN | apply below_drew1 | refine below_set ?_ GE130.out) | exact HB.out))) : w.heap.size ≤ gb132)); have n6_ := Aside0.mk ((by rw [hg]; exact Nat.ne_of_lt (blk_lt (g := gb130) (o := .cells #[.slice (some ad131) l0_0.length c0_0, .slice A0_1 l0_1.length c0_1, .int .i64 a0_2] 25 (0, 0)) (by (with_reducible repeat (first | refine blk_drewN ?_ _ | refine blk_drew ?_ | refine blk_alloc ?_ _)); exact BK130.out)) : gb130 ≠ gb132)); have n7_ := Aside0.mk ((by rw [hg]; exact Nat.ne_of_gt (blk_lt (g := gb130) (o := .cells #[.slice (some ad131) l0_0.length c0_0, .slice A0_1 l0_1.length c0_1, .int .i64 a0_2] 25 (0, 0)) (by (with_reducible repeat (first | refine blk_drewN ?_ _ | refine blk_drew ?_ | refine blk_alloc ?_ _)); exact BK130.out)) : gb132 ≠ gb130)); clear HO_3; clear BK130; clear HB; have HO_3 := n0_; have BK130 := n1_; have HB := n2_; have BK132 := n3_; have GW132 := n4_; have GE132 := n5_; have NB130_132 := n6_; have NB132_130 := n7_; clear n0_ n1_ n2_ n3_ n4_ n5_ n6_ n7_; clear hb hbox hg; have hnb9 := NB132_130.out; have hnc9 := NB130_132.out; have hcz10_0 : w8.cell? ⟨gb132, 0, none⟩ = some (.int .i64 0) := (blk_cell BK132.out 0).trans rfl; have hcz10_1 : w8.cell? ⟨gb132, 1, none⟩ = some (.int .i64 0) := (blk_cell BK132.out 1).trans rfl; have hcz10_2 : w8.cell? ⟨gb132, 2, none⟩ = some (.string (⟨#[]⟩ : ByteArray)) := (blk_cell BK132.out 2).trans rfl; have hcz10_3 : w8.cell? ⟨gb132, 3, none⟩ = some (.string (⟨#[]⟩ : ByteArray)) := (blk_cell BK132.out 3).trans rfl; have hcz10_4 : w8.cell? ⟨gb132, 4, none⟩ = some (.int .i64 0) := (blk_cell BK132.out 4).trans rfl; have hfz10_0 := blk_frozen BK132.out 0; have hfz10_1 := blk_frozen BK132.out 1; have hfz10_2 := blk_frozen BK132.out 2; have hfz10_3 := blk_frozen BK132.out 3; have hfz10_4 := blk_frozen BK132.out 4) | ((with_reducible refine gate_builtin (b := .append) (xs := #[.tmp 13, .tmp 16]) rfl ?_); at_builtin; refine Kd.R_append (Kd.int .i64) (w0 := w) w.heap.size rfl (.tmp 13) (.tmp 16) 23 3 (.int .i64 0) 8 rfl Try.underlying23 info3 rfl (by decide) (by omega) u3 x3_1 ((rd_T35 l0_0 x9_1).f0) [.int .i64 ((rd_T35 l0_0 x9_1).f0)] (fun _ => True) (fun _ => False) rfl (by first | (go_simp; done) | (go_simp; rfl)) ?aP (fun _ hk => hk.elim) ?aF ?aO ?aB ?aS ?aL ?_; (case aP => exact rfl); (case aB => exact (by repeat (first | (with_reducible first | exact HB.out | apply below_alloc | apply pw_below_drewN | apply below_drew1 | refine below_set ?_ GE130.out | refine below_set ?_ GE132.out) | exact HB.out))); (case aF => exact (fun _ _ => trivial)); (case aO => exact (by (with_reducible repeat (first | apply Kd.R_alloc | apply Kd.R_drewN | apply Kd.R_drew)); exact Kd.R_mono (Kd.R_far (p := ⟨gb132, 4, none⟩) (Kd.R_far (p := ⟨gb132, 3, none⟩) (Kd.R_far (p := ⟨gb132, 2, none⟩) (Kd.R_far (p := ⟨gb132, 1, none⟩) (Kd.R_far (p := ⟨gb132, 0, none⟩) (Kd.R_types HO_3.out BK132.out (by decide)) (fun _ hk => hk.2) (.int .i64 ((rd_T35 l0_0 x9_1).f0))) (fun _ hk => hk.2) (.int .i64 ((rd_T35 l0_0 x9_1).f1))) (fun _ hk => hk.2) (.string ((rd_T35 l0_0 x9_1).f2))) (fun _ hk => hk.2) (.string ((rd_T35 l0_0 x9_1).f3))) (fun _ hk => hk.2) (.int .i64 ((rd_T35 l0_0 x9_1).f4))) (fun _ hk => trivial))); (case aS => exact (below_size (by repeat (first | (with_reducible first | exact HB.out | apply below_alloc | apply pw_below_drewN | apply below_drew1 | refine below_set ?_ GE130.out | refine below_set ?_ GE132.out) | exact HB.out)))); (case aL => have := LMc7.out; omega); intro v134 w11 ho hb hg hat; rw [← Ny133.out] at ho; have n0_ := Aside0.mk (blk_grown (g := gb130) (o := .cells #[.slice (some ad131) l0_0.length c0_0, .slice A0_1 l0_1.length c0_1, .int .i64 a0_2] 25 (0, 0)) (by (with_reducible repeat (first | refine blk_drewN ?_ _ | refine blk_drew ?_ | refine blk_alloc ?_ _)); refine blk_far ?_ NB130_132.out _; (with_reducible repeat (first | refine blk_drewN ?_ _ | refine blk_drew ?_ | refine blk_alloc ?_ _)); refine blk_far ?_ NB130_132.out _; (with_reducible repeat (first | refine blk_drewN ?_ _ | refine blk_drew ?_ | refine blk_alloc ?_ _)); refine blk_far ?_ NB130_132.out _; (with_reducible repeat (first | refine blk_drewN ?_ _ | refine blk_drew ?_ | refine blk_alloc ?_ _)); refine blk_far ?_ NB130_132.out _; (with_reducible repeat (first | refine blk_drewN ?_ _ | refine blk_drew ?_ | refine blk_alloc ?_ _)); refine blk_far ?_ NB130_132.out _; (with_reducible repeat (first | refine blk_drewN ?_ _ | refine blk_drew ?_ | refine blk_alloc ?_ _)); exact BK130.out) hg (Kd.R_ne HO_3.out BK130.out (by decide))); have n1_ := Aside0.mk (blk_grown (g := gb132) (o := .cells #[.int .i64 ((rd_T35 l0_0 x9_1).f0), .int .i64 ((rd_T35 l0_0 x9_1).f1), .string ((rd_T35 l0_0 x9_1).f2), .string ((rd_T35 l0_0 x9_1).f3), .int .i64 ((rd_T35 l0_0 x9_1).f4)] 35 (0, 0)) (by (with_reducible repeat (first | refine blk_drewN ?_ _ | refine blk_drew ?_ | refine blk_alloc ?_ _)); refine blk_put (cs := #[.int .i64 ((rd_T35 l0_0 x9_1).f0), .int .i64 ((rd_T35 l0_0 x9_1).f1), .string ((rd_T35 l0_0 x9_1).f2), .string ((rd_T35 l0_0 x9_1).f3), .int .i64 0]) ?_ 4 _ rfl; (with_reducible repeat (first | refine blk_drewN ?_ _ | refine blk_drew ?_ | refine blk_alloc ?_ _)); refine blk_put (cs := #[.int .i64 ((rd_T35 l0_0 x9_1).f0), .int .i64 ((rd_T35 l0_0 x9_1).f1), .string ((rd_T35 l0_0 x9_1).f2), .string (⟨#[]⟩ : ByteArray), .int .i64 0]) ?_ 3 _ rfl; (with_reducible repeat (first | refine blk_drewN ?_ _ | refine blk_drew ?_ | refine blk_alloc ?_ _)); refine blk_put (cs := #[.int .i64 ((rd_T35 l0_0 x9_1).f0), .int .i64 ((rd_T35 l0_0 x9_1).f1), .string (⟨#[]⟩ : ByteArray), .string (⟨#[]⟩ : ByteArray), .int .i64 0]) ?_ 2 _ rfl; (with_reducible repeat (first | refine blk_drewN ?_ _ | refine blk_drew ?_ | refine blk_alloc ?_ _)); refine blk_put (cs := #[.int .i64 ((rd_T35 l0_0 x9_1).f0), .int .i64 0, .string (⟨#[]⟩ : ByteArray), .string (⟨#[]⟩ : ByteArray), .int .i64 0]) ?_ 1 _ rfl; (with_reducible repeat (first | refine blk_drewN ?_ _ | refine blk_drew ?_ | refine blk_alloc ?_ _)); refine blk_put (cs := #[.int .i64 0, .int .i64 0, .string (⟨#[]⟩ : ByteArray), .string (⟨#[]⟩ : ByteArray), .int .i64 0]) ?_ 0 _ rfl; (with_reducible repeat (first | refine blk_drewN ?_ _ | refine blk_drew ?_ | refine blk_alloc ?_ _)); exact BK132.out) hg (Kd.R_ne HO_3.out BK132.out (by decide))); have n2_ := Aside0.mk (hb); have n3_ := Aside0.mk (ho); clear BK130; clear BK132; clear HB; clear HO_3; have BK130 := n0_; have BK132 := n1_; have HB := n2_; have HO135 := n3_; clear n0_ n1_ n2_ n3_; clear ho hb hg hat))
              go_roundg k1
              case measure => have := HK1.out; omega
              case rel => exact ⟨(y133), (wrap64 (x9_1 + 1)), (by first | rfl | (simp; done) | (simp [*]; done)), H', ⟨by have := HK1.out; omega⟩, ⟨by (with_reducible repeat (first | apply Kd.R_alloc | apply Kd.R_drewN | apply Kd.R_drew)); exact HO135.out⟩, ⟨by (with_reducible repeat (first | refine blk_drewN ?_ _ | refine blk_drew ?_ | refine blk_alloc ?_ _)); exact BK130.out⟩, ⟨by repeat (first | (with_reducible first | exact HB.out | apply below_alloc | apply pw_below_drewN | apply below_drew1 | refine below_set ?_ GE130.out | refine below_set ?_ GE132.out) | exact HB.out)⟩⟩
            · rw [if_neg c7] at H
              exact absurd H (by simp)
          · rw [if_neg c6] at H
            exact absurd H (by simp)
        · rw [if_neg c5] at H
          exact absurd H (by simp)
      · rw [if_neg c4] at H
        have c4b0 : decide (x9_1 < (l0_0.length : Int)) = false := decide_eq_false c4
        clear c4
        by_cases c12 : x3_1.length + l0_1.length < 17592186044416
        · rw [if_pos c12] at H
          have LMc12 := Aside0.mk c12
          clear c12
          obtain ⟨y136, hy136⟩ : ∃ y_ : List Int, y_ = (x3_1 ++ l0_1) := ⟨_, rfl⟩
          replace H : (some y136) = some r := by first | (rw [hy136]; with_reducible exact H) | (have H2_ := (Option.bind_some _ _).symm.trans H; rw [hy136]; with_reducible exact H2_) | (have H2_ := (Option.bind_some _ _).symm.trans H; with_reducible exact H2_) | with_reducible exact H | (rw [hy136]; exact H) | exact H
          have Ny136 := Aside0.mk hy136
          clear hy136
          obtain rfl := Option.some.inj H
          have hcz13_0 : wr.cell? ⟨gb130, 0, none⟩ = some (.slice A0_0 l0_0.length c0_0) := (blk_cell BK130.out 0).trans rfl
          have hcz13_1 : wr.cell? ⟨gb130, 1, none⟩ = some (.slice A0_1 l0_1.length c0_1) := (blk_cell BK130.out 1).trans rfl
          have hcz13_2 : wr.cell? ⟨gb130, 2, none⟩ = some (.int .i64 a0_2) := (blk_cell BK130.out 2).trans rfl
          have hfz13_0 := blk_frozen BK130.out 0
          have hfz13_1 := blk_frozen BK130.out 1
          have hfz13_2 := blk_frozen BK130.out 2
          go_wp2_with (first | ((with_reducible refine gate_builtin (b := .append) (xs := #[.tmp 19, .tmp 21]) rfl ?_); at_builtin; refine Kd.R_append_rows (Kd.int .i64) (w0 := w) w.heap.size rfl (.tmp 19) (.tmp 21) 23 3 (.int .i64 0) 8 rfl Try.underlying23 info3 rfl (by decide) (by omega) u3 x3_1 l0_1 _ _ _ (fun _ => True) (fun _ => False) rfl rfl ?aO ?aR (fun _ _ h => h) (fun _ h => h.elim) ?aF ?aB ?aS ?aL ?_; (case aR => repeat (first | exact (Kd.C_below HR0_1.out HB.out) | (with_reducible refine Kd.C_alloc ?_ _) | (with_reducible refine Kd.C_drewN ?_ _) | (with_reducible refine Kd.C_drew ?_))); (case aB => exact (by repeat (first | (with_reducible first | exact HB.out | apply below_alloc | apply pw_below_drewN | apply below_drew1 | refine below_set ?_ GE130.out) | exact HB.out))); (case aF => exact (fun _ _ => trivial)); (case aO => exact (by (with_reducible repeat (first | apply Kd.R_alloc | apply Kd.R_drewN | apply Kd.R_drew)); exact HO_3.out)); (case aS => exact (below_size (by repeat (first | (with_reducible first | exact HB.out | apply below_alloc | apply pw_below_drewN | apply below_drew1 | refine below_set ?_ GE130.out) | exact HB.out)))); (case aL => have := LMc12.out; omega); intro v137 w14 ho hb hg hat; rw [← Ny136.out] at ho; have n0_ := Aside0.mk (blk_grown (g := gb130) (o := .cells #[.slice A0_0 l0_0.length c0_0, .slice A0_1 l0_1.length c0_1, .int .i64 a0_2] 25 (0, 0)) (by (with_reducible repeat (first | refine blk_drewN ?_ _ | refine blk_drew ?_ | refine blk_alloc ?_ _)); exact BK130.out) hg (Kd.R_ne HO_3.out BK130.out (by decide))); have n1_ := Aside0.mk (hb); have n2_ := Aside0.mk (ho); clear BK130; clear HB; clear HO_3; have BK130 := n0_; have HB := n1_; have HO138 := n2_; clear n0_ n1_ n2_; clear ho hb hg hat))
          go_ret
          exact ⟨_, by first | rfl | (simp [errW_none, errW_some] <;> rfl) | (simp [*, errW_none, errW_some] <;> rfl), by (with_reducible repeat (first | apply Kd.R_alloc | apply Kd.R_drewN | apply Kd.R_drew)); exact HO138.out, by repeat (first | (with_reducible first | exact HB.out | apply below_alloc | apply pw_below_drewN | apply below_drew1 | refine below_set ?_ GE130.out) | exact HB.out)⟩
        · rw [if_neg c12] at H
          exact absurd H (by simp)

end Go.Proofs.Ytokimlfagpddlaa.PD

-- printed by gprint.py (own tool) over the kit's print
namespace Go.Proofs.Ytokimlfagpddlaa.PD
open Go.RowKit Go.Proofs.Ytokimlfagpddlaa Go.Proofs.YtokimlfagpddlaaW.PrintWords Go.Proofs.YtokimlfagpddlaaW.PrintLast Go.Proofs.YtokimlfagpddlaaW.PrintMore
attribute [local go_sem] max2_int min2_int max_two min_two max_three min_three max_four min_four   -- for this text's walks alone
set_option linter.unnecessarySimpa false
attribute [local go_sem] min2_str max2_str leq_str gtr_str geq_str
set_option linter.unusedVariables false
set_option linter.unusedSimpArgs false

/-! ### version_Right: function 13 -/
def version_Right.litB (n : Int) : Bool := decide (n < 1 ∨ 9007199254740991 < n)
theorem version_Right.lit_ (n : Int) (w : World) : Calls Try.prog 33 #[.int .i64 n] w fun e w' => e = .returned (.bool (decide (n < 1 ∨ 9007199254740991 < n))) ∧ w' = w := by
  by_cases h1 : n < 1
  · have h : decide (n < 1 ∨ 9007199254740991 < n) = true := by simp [h1]
    rw [h]
    go_enter Try.func33, Try.ntmps33
    go_wp2
    go_ret
    exact ⟨rfl, rfl⟩
  · have h : decide (n < 1 ∨ 9007199254740991 < n) = decide (9007199254740991 < n) := by simp [h1]
    rw [h]
    clear h
    by_cases h2 : 9007199254740991 < n
    all_goals
      go_enter Try.func33, Try.ntmps33
      go_wp2
      go_ret
      exact ⟨by simp [h2], rfl⟩
theorem version_Right.lit2_ (n : Int) (w : World) : Calls Try.prog 33 #[.int .i64 n] w fun e w' => e = .returned (.bool (version_Right.litB n)) ∧ w' = w := version_Right.lit_ n w
theorem version_Right.index_ (A0 : Option Addr) (c0 : Nat) (l0 : List Int) (w : World) (hr0 : Kd.C (Kd.int .i64) w A0 l0.length l0) :
    Calls Try.prog 67 #[.slice A0 l0.length c0, .func (.func 33) #[] #[]] w fun e w' => (∃ n : Int, e = .returned (.int .i64 n) ∧ (0 ≤ n ↔ ∃ x ∈ l0, version_Right.litB x = true)) ∧ w' = w := by
  have hm := hr0.2.1
  have HR := Aside0.mk hr0
  clear hr0
  go_enter Try.func67, Try.ntmps67
  go_wp2
  go_loop [8] (fun i => ∃ k : Nat, k ≤ l0.length ∧ i = .int .i64 k ∧ Aside0 (∀ j, j < k → version_Right.litB (l0.getD j 0) = false)) (fun i => l0.length - (intOf i).toNat)
  case atStart => exact ⟨0, Nat.zero_le _, rfl, ⟨fun j h => absurd h (by omega)⟩⟩
  case round =>
    obtain ⟨k, hk, rfl, HN⟩ := hrel
    by_cases hlt : k < l0.length
    · obtain ⟨ad, rfl, hcell⟩ := Kd.at_int HR.out (k : Int) (by omega) (by omega)
      obtain ⟨n, hn⟩ : ∃ n : Int, n = rd l0 (k : Int) := ⟨_, rfl⟩
      rw [← hn] at hcell
      have hg : n = l0.getD k 0 := by rw [hn, rd, Int.toNat_natCast]
      have HG := Aside0.mk hg
      rw [Int.toNat_natCast] at hcell
      clear hn hg
      cases hb : version_Right.litB n with
      | true =>
        have HB := Aside0.mk hb
        clear hb
        have hc := version_Right.lit2_ n w
        rw [HB.out] at hc
        have HC := Lib.hid hc
        clear hc
        go_wp2_with (go_at_call 33; refine HC.out.mono ?_; rintro e w' ⟨rfl, rfl⟩)
        go_ret
        exact ⟨⟨k, rfl, by simp; exact ⟨n, by rw [HG.out]; simp [List.getD, hlt], HB.out⟩⟩, rfl⟩
      | false =>
        have HB := Aside0.mk hb
        clear hb
        have hc := version_Right.lit2_ n w
        rw [HB.out] at hc
        have HC := Lib.hid hc
        clear hc
        go_wp2_with (go_at_call 33; refine HC.out.mono ?_; rintro e w' ⟨rfl, rfl⟩)
        refine ⟨⟨k + 1, by omega, by go_num, ⟨fun j hj => ?_⟩⟩, by simp [intOf]; omega⟩
        by_cases e : j = k
        · subst e; rw [← HG.out]; exact HB.out
        · exact HN.out j (by omega)
    · obtain rfl : k = l0.length := by omega
      go_wp2
      go_ret
      refine ⟨⟨-1, rfl, by simp; intro x hx; obtain ⟨j, hj, rfl⟩ := List.mem_iff_getElem.1 hx; have := HN.out j hj; simpa [List.getD, hj] using this⟩, rfl⟩
theorem version_Right.contains_ (A0 : Option Addr) (c0 : Nat) (l0 : List Int) (w : World) (hr0 : Kd.C (Kd.int .i64) w A0 l0.length l0) :
    Calls Try.prog 32 #[.slice A0 l0.length c0, .func (.func 33) #[] #[]] w fun e w' => e = .returned (.bool (l0.any version_Right.litB)) ∧ w' = w := by
  have HC := Lib.hid (version_Right.index_ A0 c0 l0 w hr0)
  have hm := hr0.2.1
  clear hr0
  go_enter Try.func32, Try.ntmps32
  go_wp2_with (go_at_call 67; refine HC.out.mono ?_; rintro e w' ⟨⟨n, rfl, hn⟩, rfl⟩; have HN := Aside0.mk hn; clear hn)
  go_ret
  refine ⟨?_, rfl⟩
  have e : l0.any version_Right.litB = decide (0 ≤ n) := by rw [Bool.eq_iff_iff, List.any_eq_true, decide_eq_true_iff]; exact HN.out.symm
  rw [e]
  rfl
/-- Right, by the plain facts. -/
def version_Right.meta_ (m : S35) : Bool := (version_meta.f m.f0 m.f1 m.f2 m.f3 m.f4).getD false
def version_Right.cmp_ (a b : S35) : Int := (version_compare.f 5 a.f0 a.f1 a.f2 a.f3 a.f4 b.f0 b.f1 b.f2 b.f3 b.f4).getD 0
theorem version_Right.meta_some (m : S35) : version_meta.f m.f0 m.f1 m.f2 m.f3 m.f4 = some (version_Right.meta_ m) := by
  unfold version_Right.meta_ version_meta.f
  repeat' split
  all_goals rfl
theorem version_Right.isnan_int (a : Int) : cmp_isNaN_int.f a = some false := by simp [cmp_isNaN_int.f]
theorem version_Right.isnan_str (a : ByteArray) : cmp_isNaN_string.f a = some false := by simp [cmp_isNaN_string.f]
theorem version_Right.cmp_int (a b : Int) : cmp_Compare_int.f a b = some (if a < b then -1 else if a > b then 1 else 0) := by
  simp only [cmp_Compare_int.f, version_Right.isnan_int, Option.bind_some]
  simp
  repeat' split
  all_goals rfl
theorem version_Right.cmp_str (a b : ByteArray) : cmp_Compare_string.f a b = some (if Op.bytesLess a.toList b.toList = true then -1 else if Op.bytesLess b.toList a.toList = true then 1 else 0) := by
  simp only [cmp_Compare_string.f, version_Right.isnan_str, Option.bind_some]
  simp
  repeat' split
  all_goals rfl
theorem version_Right.or2 (k : Nat) (a b : Int) : cmp_Or_int.f (k + 3) [a, b] = some (if a = 0 then b else a) := by
  have w0 : wrap64 (0 + 1) = 1 := by unfold wrap64; omega
  have w1 : wrap64 (1 + 1) = 2 := by unfold wrap64; omega
  simp only [cmp_Or_int.f, cmp_Or_int.l0, List.length_cons, List.length_nil, w0, w1]
  by_cases h : a = 0
  · by_cases h2 : b = 0 <;> simp [h, h2, rd]
  · simp [h, rd]
/-- The order of two tables. -/
def version_Right.ord (a b : S35) : Int :=
  let c := if a.f1 < b.f1 then -1 else if a.f1 > b.f1 then 1 else 0
  let c := if a.f1 > 0 then (if c = 0 then (if Op.bytesLess a.f2.toList b.f2.toList = true then -1 else if Op.bytesLess b.f2.toList a.f2.toList = true then 1 else 0) else c) else c
  if c = 0 then (if a.f0 < b.f0 then -1 else if a.f0 > b.f0 then 1 else 0) else c
theorem version_Right.compare_some (k : Nat) (a b : S35) : version_compare.f (k + 3) a.f0 a.f1 a.f2 a.f3 a.f4 b.f0 b.f1 b.f2 b.f3 b.f4 = some (version_Right.ord a b) := by
  unfold version_compare.f version_Right.ord
  simp only [version_Right.cmp_int, version_Right.cmp_str, version_Right.or2, Option.bind_some]
  by_cases h : a.f1 > 0 <;> simp [h]
theorem version_Right.ids_loop (L : List S35) (G : List Int) (a : Int) (hL : L.length + G.length < 17592186044416) (d : Nat) : ∀ (k i : Nat) (acc : List Int), d = L.length - i → i ≤ L.length → acc.length = i → d < k →
    version_ids.l0 k acc L (L.length : Int) i L G a = some (acc ++ (L.drop i).map (·.f0) ++ G) := by
  induction d with
  | zero =>
    intro k i acc hd hi ha hk
    obtain ⟨k, rfl⟩ : ∃ m, k = m + 1 := ⟨k - 1, by omega⟩
    obtain rfl : i = L.length := by omega
    simp only [version_ids.l0]
    rw [if_neg (by omega), if_pos (by omega)]
    simp
  | succ d ih =>
    intro k i acc hd hi ha hk
    obtain ⟨k, rfl⟩ : ∃ m, k = m + 1 := ⟨k - 1, by omega⟩
    have hlt : i < L.length := by omega
    simp only [version_ids.l0]
    rw [if_pos (by omega), if_pos (by omega), if_pos (by omega), if_pos (by omega)]
    have hw : wrap64 ((i : Int) + 1) = ((i + 1 : Nat) : Int) := by unfold wrap64; omega
    rw [hw, ih k (i + 1) _ (by omega) (by omega) (by simp [ha]) (by omega)]
    have e : acc ++ [(rd_T35 L (i : Int)).f0] ++ (L.drop (i + 1)).map (·.f0) ++ G = acc ++ (L.drop i).map (·.f0) ++ G := by
      rw [List.drop_eq_getElem_cons hlt, List.map_cons]
      simp only [rd_T35, Int.toNat_natCast, List.getD, List.getElem?_eq_getElem hlt, Option.getD_some, List.append_assoc, List.cons_append, List.nil_append]
    rw [e]
theorem version_Right.ids_some (L : List S35) (G : List Int) (a : Int) (hL : L.length + G.length < 17592186044416) : version_ids.f (L.length + 1) L G a = some (L.map (·.f0) ++ G) := by
  unfold version_ids.f
  have := version_Right.ids_loop L G a hL L.length (L.length + 1) 0 [] (by omega) (by omega) rfl (by omega)
  simpa using this
def version_Right.step_ (a b : S35) : Bool := decide (version_Right.ord a b < 0) && !(decide (a.f1 = b.f1) && decide (0 < b.f1) && !(Op.bytesLess a.f3.toList b.f2.toList))
def version_Right.good_ (l : List S35) (i : Nat) : Bool := version_Right.meta_ (l.getD i z35) && (i == 0 || version_Right.step_ (l.getD (i - 1) z35) (l.getD i z35))
def version_Right.tell (l0_0 : List S35) (l0_1 : List Int) (a0_2 : Int) : Bool :=
  decide (l0_0.length ≤ 200) && (decide (l0_1.length ≤ 20) && (decide (0 ≤ a0_2) && (decide (a0_2 ≤ 9007199254740991) && (decide (l0_0.map (·.f0) ++ l0_1).Nodup && (!(l0_1.any version_Right.litB) && (List.range l0_0.length).all (version_Right.good_ l0_0))))))
def version_Right.f (l0_0 : List S35) (l0_1 : List Int) (a0_2 : Int) : Option Bool := if (∀ m ∈ l0_0, -9223372036854775808 ≤ m.f0 ∧ m.f0 ≤ 9223372036854775807) ∧ (∀ n ∈ l0_1, -9223372036854775808 ≤ n ∧ n ≤ 9223372036854775807) then some (version_Right.tell l0_0 l0_1 a0_2) else none
set_option maxHeartbeats 4000000 in
set_option maxRecDepth 100000 in
theorem version_Right.calls (A0_0 : Option Addr) (c0_0 : Nat) (l0_0 : List (S35)) (A0_1 : Option Addr) (c0_1 : Nat) (l0_1 : List Int) (a0_2 : Int) (r : Bool) (w : World) (hr0_0 : Kd.C k35 w A0_0 l0_0.length l0_0) (hc0_0 : l0_0.length ≤ c0_0) (hr0_1 : Kd.C (Kd.int .i64) w A0_1 l0_1.length l0_1) (hc0_1 : l0_1.length ≤ c0_1) (h : version_Right.f l0_0 l0_1 a0_2 = some r) :
    Calls Try.prog 13 #[.agg #[.slice A0_0 l0_0.length c0_0, .slice A0_1 l0_1.length c0_1, .int .i64 a0_2]] w fun e w' => e = .returned (.bool r) ∧ Below w.heap.size w w' := by
  obtain ⟨⟨hw0, hw1⟩, hR⟩ : ((∀ m ∈ l0_0, -9223372036854775808 ≤ m.f0 ∧ m.f0 ≤ 9223372036854775807) ∧ (∀ n ∈ l0_1, -9223372036854775808 ≤ n ∧ n ≤ 9223372036854775807)) ∧ version_Right.tell l0_0 l0_1 a0_2 = r := by
    unfold version_Right.f at h
    split at h
    · rename_i hl; exact ⟨hl, Option.some.inj h⟩
    · cases h
  clear h
  have HR0 := Aside0.mk hr0_0
  have HR1 := Aside0.mk hr0_1
  have HW0 := Aside0.mk hw0
  have HW1 := Aside0.mk hw1
  have HC0 := Aside0.mk hc0_0
  have HC1 := Aside0.mk hc0_1
  have HRR := Aside0.mk hR
  have hm0 := hr0_0.2.1
  have hm1 := hr0_1.2.1
  clear hr0_0 hr0_1 hw0 hw1 hc0_0 hc0_1 hR
  by_cases c1 : l0_0.length ≤ 200
  · by_cases c2 : l0_1.length ≤ 20
    · by_cases c3 : 0 ≤ a0_2
      · by_cases c4 : a0_2 ≤ 9007199254740991
        · go_enter Try.func13, Try.ntmps13
          go_wp2_with ((with_reducible refine gate_dst (N := 1) rfl ?_); refine box_event ?hg (N := 1) ?hd (cs := #[.slice A0_0 l0_0.length c0_0, .slice A0_1 l0_1.length c0_1, .int .i64 a0_2]) (t := 25) ?hr ?_; (case hd => rfl); (case hg => rfl); (case hr => first | (go_simp; done) | (go_simp; rfl)); intro gb hg w1 hbox hb; have HB := Aside0.mk hb; have HK := Aside0.mk hbox; have HG := Aside0.mk (Nat.le_of_eq hg.symm); clear hb hbox hg; have e0 : w1.cell? ⟨gb, 0, none⟩ = some (.slice A0_0 l0_0.length c0_0) := (blk_cell HK.out 0).trans rfl; have e1 : w1.cell? ⟨gb, 1, none⟩ = some (.slice A0_1 l0_1.length c0_1) := (blk_cell HK.out 1).trans rfl; have e2 : w1.cell? ⟨gb, 2, none⟩ = some (.int .i64 a0_2) := (blk_cell HK.out 2).trans rfl)
          refine (version_ids.calls (l0_0.length + 1) A0_0 c0_0 l0_0 A0_1 c0_1 l0_1 a0_2 _ w1 (Kd.C_below HR0.out HB.out) HC0.out (Kd.C_below HR1.out HB.out) HC1.out (version_Right.ids_some l0_0 l0_1 a0_2 (by omega))).mono ?_
          rintro e w2 ⟨v, rfl, hv, hb2⟩
          obtain ⟨Ai, ci, rfl, hci, hri⟩ := Kd.R_reads hv
          have HB2 := Aside0.mk (below_step HB.out hb2)
          have HK2 := Aside0.mk (blk_below HK.out hb2)
          have HRI := Aside0.mk hri
          have HCI := Aside0.mk hci
          clear hv hb2 HB HK e0 e1 e2 hri hci
          have htw : version_twice.f (l0_0.map (·.f0) ++ l0_1) = some (decide (¬ (l0_0.map (·.f0) ++ l0_1).Nodup)) := by
            unfold version_twice.f
            rw [if_pos]
            refine ⟨by simp; omega, fun x hx => ?_⟩
            rcases List.mem_append.1 hx with hx | hx
            · obtain ⟨m, hm, rfl⟩ := List.mem_map.1 hx; exact HW0.out m hm
            · exact HW1.out x hx
          have HTW := Aside0.mk htw
          clear htw
          generalize hids : l0_0.map (·.f0) ++ l0_1 = ids at HRI HCI HTW ⊢
          have HIDS := Aside0.mk hids
          clear hids
          go_wp2_with fail
          refine (version_twice.calls Ai ci ids _ w2 HRI.out HCI.out HTW.out).mono ?_
          rintro e w3 ⟨rfl, hb3⟩
          have HB3 := Aside0.mk (below_step HB2.out hb3)
          have HK3 := Aside0.mk (blk_below HK2.out hb3)
          clear hb3 HB2 HK2 HRI HCI HTW
          by_cases c5 : ids.Nodup
          · have HC5 := Aside0.mk c5
            rw [show decide (¬ ids.Nodup) = false by simp [c5]]
            clear c5
            have e0 : w3.cell? ⟨gb, 0, none⟩ = some (.slice A0_0 l0_0.length c0_0) := (blk_cell HK3.out 0).trans rfl
            have e1 : w3.cell? ⟨gb, 1, none⟩ = some (.slice A0_1 l0_1.length c0_1) := (blk_cell HK3.out 1).trans rfl
            go_wp2_with fail
            refine (version_Right.contains_ A0_1 c0_1 l0_1 _ (Kd.C_below HR1.out HB3.out)).mono ?_
            rintro e w3 ⟨rfl, rfl⟩
            cases c6 : l0_1.any version_Right.litB with
            | true =>
              have hR := HRR.out
              simp only [version_Right.tell, c1, c2, c3, c4, c6, HIDS.out, HC5.out, decide_true, Bool.true_and, Bool.false_and, Bool.not_true] at hR
              have HRF := Aside0.mk hR
              clear hR c6
              go_wp2_with fail
              go_ret
              exact ⟨by rw [← HRF.out]; rfl, HB3.out⟩
            | false =>
              have hR := HRR.out
              simp only [version_Right.tell, c1, c2, c3, c4, c6, HIDS.out, HC5.out, decide_true, Bool.true_and, Bool.not_false] at hR
              have HRT := Aside0.mk hR
              clear hR c6 HC5 HIDS HRR
              go_wp2_with fail
              clear e0 e1
              generalize w3 = ws at HB3 HK3 ⊢
              go_loopw [37] (fun i wr => ∃ k : Nat, k ≤ l0_0.length ∧ i = .int .i64 k ∧ Aside0 (∀ j, j < k → version_Right.good_ l0_0 j = true) ∧ Aside0 (wr.heap[gb]? = some (.cells #[.slice A0_0 l0_0.length c0_0, .slice A0_1 l0_1.length c0_1, .int .i64 a0_2] 25 (0, 0))) ∧ Aside0 (Below w.heap.size w wr)) (fun i _ => l0_0.length - (intOf i).toNat)
              case atStart => exact ⟨0, Nat.zero_le _, rfl, ⟨fun j h => absurd h (by omega)⟩, HK3, HB3⟩
              case round =>
                clear HB3 HK3
                obtain ⟨k, hk, rfl, HN, HK, HB⟩ := hrel
                by_cases hlt : k < l0_0.length
                · obtain ⟨ad, rfl, x0, x1, x2, x3, x4⟩ := at_T35 (Kd.C_below HR0.out HB.out) (k : Int) (by omega) (by omega)
                  obtain ⟨m, hm⟩ : ∃ m : S35, m = rd_T35 l0_0 (k : Int) := ⟨_, rfl⟩
                  rw [← hm, Int.toNat_natCast] at x0 x1 x2 x3 x4
                  have hmg : m = l0_0.getD k z35 := by rw [hm, rd_T35, Int.toNat_natCast]
                  have HM := Aside0.mk hmg
                  clear hm hmg
                  have HGB := Aside0.mk (blk_lt HK.out)
                  go_wp2_with (first | ((with_reducible refine gate_dst (N := 4) rfl ?_); refine box_event ?hg (N := 4) ?hd (cs := #[.int .i64 0, .int .i64 0, .string (⟨#[]⟩ : ByteArray), .string (⟨#[]⟩ : ByteArray), .int .i64 0]) (t := 35) ?hr ?_; (case hd => rfl); (case hg => rfl); (case hr => first | (go_simp; done) | (go_simp; rfl)); intro g4 hg w4 hbox hb; have HB4 := Aside0.mk (below_step HB.out hb); have Hg4 := Aside0.mk hbox; have HGg4 := Aside0.mk (Nat.le_of_eq hg.symm); have HK4 := Aside0.mk (blk_below HK.out hb); have HN4 := Aside0.mk (by rw [hg]; have := HGB.out; omega : gb < g4); have HS4 := Aside0.mk (by rw [hg]; exact HB.out.size : w.heap.size ≤ g4); clear hb hbox hg) | ((with_reducible refine gate_store (t := 35) (p := 4) (v := .tmp 41) rfl ?_); refine agg_event rfl 35 (.tmp 4) (.tmp 41) rfl g4 rfl #[.int .i64 m.f0, .int .i64 m.f1, .string m.f2, .string m.f3, .int .i64 m.f4] #[.int .i64 0, .int .i64 0, .string (⟨#[]⟩ : ByteArray), .string (⟨#[]⟩ : ByteArray), .int .i64 0] rfl Hg4.out (by kernel_rfl) rfl (by simp [Value.oneCell']) ?_; intro w5 hst hgr hszz; clear hszz; have HM4 := Aside0.mk hst; have HB5 := Aside0.mk (pw_below_grown HB4.out (some g4) HB4.out.size hgr (fun k_ e_ => by injection e_ with e_; have := HS4.out; omega)); have HK5 := Aside0.mk (blk_grown HK4.out hgr (by intro e_; injection e_ with e_; have := HN4.out; omega)); clear hst hgr x0 x1 x2 x3 x4; have c4_0 : w5.cell? ⟨g4, 0, none⟩ = some (.int .i64 m.f0) := (blk_cell HM4.out 0).trans rfl; have c4_1 : w5.cell? ⟨g4, 1, none⟩ = some (.int .i64 m.f1) := (blk_cell HM4.out 1).trans rfl; have c4_2 : w5.cell? ⟨g4, 2, none⟩ = some (.string m.f2) := (blk_cell HM4.out 2).trans rfl; have c4_3 : w5.cell? ⟨g4, 3, none⟩ = some (.string m.f3) := (blk_cell HM4.out 3).trans rfl; have c4_4 : w5.cell? ⟨g4, 4, none⟩ = some (.int .i64 m.f4) := (blk_cell HM4.out 4).trans rfl))
                  clear HB HK HB4 HK4 Hg4 HGg4
                  go_wp2_with fail
                  refine (version_meta.calls m.f0 m.f1 m.f2 m.f3 m.f4 (version_Right.meta_ m) w5 (version_Right.meta_some m)).mono ?_
                  rintro e w6 ⟨rfl, hb6⟩
                  have HB6 := Aside0.mk (below_step HB5.out hb6)
                  have HK6 := Aside0.mk (blk_below HK5.out hb6)
                  have HM6 := Aside0.mk (blk_below HM4.out hb6)
                  clear hb6 HB5 HK5 HM4 c4_0 c4_1 c4_2 c4_3 c4_4
                  cases hme : version_Right.meta_ m with
                  | false =>
                    have hR : r = false := by
                      rw [← HRT.out, List.all_eq_false]
                      exact ⟨k, List.mem_range.2 hlt, by rw [version_Right.good_, ← HM.out, hme]; simp⟩
                    have HRF := Aside0.mk hR
                    clear hR hme
                    go_wp2_with fail
                    go_ret
                    exact ⟨by rw [HRF.out]; rfl, HB6.out⟩
                  | true =>
                    have HME := Aside0.mk hme
                    clear hme
                    by_cases hk0 : k = 0
                    · subst hk0
                      have hn1 : ∀ j, j < 1 → version_Right.good_ l0_0 j = true := by
                        intro j hj
                        obtain rfl : j = 0 := by omega
                        rw [version_Right.good_, ← HM.out, HME.out]; rfl
                      have HN1 := Aside0.mk hn1
                      clear hn1 HN HME HM
                      go_wp2_with fail
                      refine ⟨⟨1, by omega, rfl, HN1, HK6, HB6⟩, by simp [intOf]; omega⟩
                    · have hkp : 1 ≤ (k : Int) := by omega
                      have hk0b : ((k : Int) == 0) = false := beq_eq_false_iff_ne.2 (by omega)
                      have e0 : w6.cell? ⟨gb, 0, none⟩ = some (.slice (some ad) l0_0.length c0_0) := (blk_cell HK6.out 0).trans rfl
                      obtain ⟨ad', ead, x0, x1, x2, x3, x4⟩ := at_T35 (Kd.C_below HR0.out HB6.out) ((k : Int) - 1) (by omega) (by omega)
                      injection ead with ead
                      subst ead
                      obtain ⟨p, hp⟩ : ∃ p : S35, p = rd_T35 l0_0 ((k : Int) - 1) := ⟨_, rfl⟩
                      rw [← hp, show ((k : Int) - 1).toNat = k - 1 by omega] at x0 x1 x2 x3 x4
                      have hpg : p = l0_0.getD (k - 1) z35 := by rw [hp, rd_T35, show ((k : Int) - 1).toNat = k - 1 by omega]
                      have HP := Aside0.mk hpg
                      clear hp hpg
                      have HGB6 := Aside0.mk (blk_lt HK6.out)
                      have HGM6 := Aside0.mk (blk_lt HM6.out)
                      go_wp2_with (first | ((with_reducible refine gate_dst (N := 5) rfl ?_); refine box_event ?hg (N := 5) ?hd (cs := #[.int .i64 0, .int .i64 0, .string (⟨#[]⟩ : ByteArray), .string (⟨#[]⟩ : ByteArray), .int .i64 0]) (t := 35) ?hr ?_; (case hd => rfl); (case hg => rfl); (case hr => first | (go_simp; done) | (go_simp; rfl)); intro g5 hg w7 hbox hb; have HB7 := Aside0.mk (below_step HB6.out hb); have Hg5 := Aside0.mk hbox; have HGg5 := Aside0.mk (Nat.le_of_eq hg.symm); have HK7 := Aside0.mk (blk_below HK6.out hb); have HM7 := Aside0.mk (blk_below HM6.out hb); have HN7 := Aside0.mk (by rw [hg]; have := HGB6.out; omega : gb < g5); have HN7m := Aside0.mk (by rw [hg]; have := HGM6.out; omega : g4 < g5); have HS7 := Aside0.mk (by rw [hg]; exact HB6.out.size : w.heap.size ≤ g5); clear hb hbox hg) | ((with_reducible refine gate_store (t := 35) (p := 5) (v := .tmp 52) rfl ?_); refine agg_event rfl 35 (.tmp 5) (.tmp 52) rfl g5 rfl #[.int .i64 p.f0, .int .i64 p.f1, .string p.f2, .string p.f3, .int .i64 p.f4] #[.int .i64 0, .int .i64 0, .string (⟨#[]⟩ : ByteArray), .string (⟨#[]⟩ : ByteArray), .int .i64 0] rfl Hg5.out (by kernel_rfl) rfl (by simp [Value.oneCell']) ?_; intro w8 hst hgr hszz; clear hszz; have HP8 := Aside0.mk hst; have HB8 := Aside0.mk (pw_below_grown HB7.out (some g5) HB7.out.size hgr (fun k_ e_ => by injection e_ with e_; have := HS7.out; omega)); have HK8 := Aside0.mk (blk_grown HK7.out hgr (by intro e_; injection e_ with e_; have := HN7.out; omega)); have HM8 := Aside0.mk (blk_grown HM7.out hgr (by intro e_; injection e_ with e_; have := HN7m.out; omega)); clear hst hgr x0 x1 x2 x3 x4 e0; have c4_0 : w8.cell? ⟨g4, 0, none⟩ = some (.int .i64 m.f0) := (blk_cell HM8.out 0).trans rfl; have c4_1 : w8.cell? ⟨g4, 1, none⟩ = some (.int .i64 m.f1) := (blk_cell HM8.out 1).trans rfl; have c4_2 : w8.cell? ⟨g4, 2, none⟩ = some (.string m.f2) := (blk_cell HM8.out 2).trans rfl; have c4_3 : w8.cell? ⟨g4, 3, none⟩ = some (.string m.f3) := (blk_cell HM8.out 3).trans rfl; have c4_4 : w8.cell? ⟨g4, 4, none⟩ = some (.int .i64 m.f4) := (blk_cell HM8.out 4).trans rfl; have c5_0 : w8.cell? ⟨g5, 0, none⟩ = some (.int .i64 p.f0) := (blk_cell HP8.out 0).trans rfl; have c5_1 : w8.cell? ⟨g5, 1, none⟩ = some (.int .i64 p.f1) := (blk_cell HP8.out 1).trans rfl; have c5_2 : w8.cell? ⟨g5, 2, none⟩ = some (.string p.f2) := (blk_cell HP8.out 2).trans rfl; have c5_3 : w8.cell? ⟨g5, 3, none⟩ = some (.string p.f3) := (blk_cell HP8.out 3).trans rfl; have c5_4 : w8.cell? ⟨g5, 4, none⟩ = some (.int .i64 p.f4) := (blk_cell HP8.out 4).trans rfl))
                      clear HB6 HK6 HM6 HB7 HK7 HM7 Hg5 HGg5
                      go_wp2_with fail
                      refine (version_compare.calls 5 p.f0 p.f1 p.f2 p.f3 p.f4 m.f0 m.f1 m.f2 m.f3 m.f4 _ w8 (version_Right.compare_some 2 p m)).mono ?_
                      rintro e w9 ⟨rfl, hb9⟩
                      have HB9 := Aside0.mk (below_step HB8.out hb9)
                      have HK9 := Aside0.mk (blk_below HK8.out hb9)
                      have HM9 := Aside0.mk (blk_below HM8.out hb9)
                      have HP9 := Aside0.mk (blk_below HP8.out hb9)
                      clear hb9 HB8 HK8 HM8 HP8 c4_0 c4_1 c4_2 c4_3 c4_4 c5_0 c5_1 c5_2 c5_3 c5_4
                      obtain ⟨od, hod⟩ : ∃ od : Int, od = version_Right.ord p m := ⟨_, rfl⟩
                      rw [← hod]
                      have HOD := Aside0.mk hod
                      clear hod
                      have c4_0 : w9.cell? ⟨g4, 0, none⟩ = some (.int .i64 m.f0) := (blk_cell HM9.out 0).trans rfl
                      have c4_1 : w9.cell? ⟨g4, 1, none⟩ = some (.int .i64 m.f1) := (blk_cell HM9.out 1).trans rfl
                      have c4_2 : w9.cell? ⟨g4, 2, none⟩ = some (.string m.f2) := (blk_cell HM9.out 2).trans rfl
                      have c4_3 : w9.cell? ⟨g4, 3, none⟩ = some (.string m.f3) := (blk_cell HM9.out 3).trans rfl
                      have c4_4 : w9.cell? ⟨g4, 4, none⟩ = some (.int .i64 m.f4) := (blk_cell HM9.out 4).trans rfl
                      have c5_0 : w9.cell? ⟨g5, 0, none⟩ = some (.int .i64 p.f0) := (blk_cell HP9.out 0).trans rfl
                      have c5_1 : w9.cell? ⟨g5, 1, none⟩ = some (.int .i64 p.f1) := (blk_cell HP9.out 1).trans rfl
                      have c5_2 : w9.cell? ⟨g5, 2, none⟩ = some (.string p.f2) := (blk_cell HP9.out 2).trans rfl
                      have c5_3 : w9.cell? ⟨g5, 3, none⟩ = some (.string p.f3) := (blk_cell HP9.out 3).trans rfl
                      have c5_4 : w9.cell? ⟨g5, 4, none⟩ = some (.int .i64 p.f4) := (blk_cell HP9.out 4).trans rfl
                      have hgood : version_Right.good_ l0_0 k = version_Right.step_ p m := by rw [version_Right.good_, ← HM.out, ← HP.out, HME.out]; simp [hk0]
                      have HGD := Aside0.mk hgood
                      clear hgood
                      have bad : version_Right.step_ p m = false → r = false := fun hs => by
                        rw [← HRT.out, List.all_eq_false]
                        exact ⟨k, List.mem_range.2 hlt, by rw [HGD.out, hs]; simp⟩
                      have next : version_Right.step_ p m = true → ∀ j, j < k + 1 → version_Right.good_ l0_0 j = true := fun hs j hj => by
                        by_cases e : j = k
                        · rw [e, HGD.out, hs]
                        · exact HN.out j (by omega)
                      have BAD := Aside0.mk bad
                      have NEXT := Aside0.mk next
                      clear bad next HGD HN HM HP HME
                      by_cases d1 : od < 0
                      · by_cases d2 : p.f1 = m.f1
                        · have d2b : (p.f1 == m.f1) = true := beq_iff_eq.2 d2
                          by_cases d3 : 0 < m.f1
                          · cases d4 : Op.bytesLess p.f3.toList m.f2.toList with
                            | true =>
                              have hst : version_Right.step_ p m = true := by rw [version_Right.step_, ← HOD.out]; simp [d1, d2, d3, d4]
                              have HNX := Aside0.mk (NEXT.out hst)
                              clear hst
                              clear d2
                              go_wp2_with fail
                              refine ⟨⟨k + 1, by omega, by go_num, HNX, HK9, HB9⟩, by simp [intOf]; omega⟩
                            | false =>
                              have hst : version_Right.step_ p m = false := by rw [version_Right.step_, ← HOD.out]; simp [d1, d2, d3, d4]
                              have HRF := Aside0.mk (BAD.out hst)
                              clear hst
                              clear d2
                              go_wp2_with fail
                              go_ret
                              exact ⟨by rw [HRF.out]; rfl, HB9.out⟩
                          · have d3b : decide (0 < m.f1) = false := decide_eq_false d3
                            have hst : version_Right.step_ p m = true := by rw [version_Right.step_, ← HOD.out]; simp [d1, d2, d3]
                            have HNX := Aside0.mk (NEXT.out hst)
                            clear hst
                            clear d2
                            go_wp2_with fail
                            refine ⟨⟨k + 1, by omega, by go_num, HNX, HK9, HB9⟩, by simp [intOf]; omega⟩
                        · have d2b : (p.f1 == m.f1) = false := beq_eq_false_iff_ne.2 d2
                          have hst : version_Right.step_ p m = true := by rw [version_Right.step_, ← HOD.out]; simp [d1, d2]
                          have HNX := Aside0.mk (NEXT.out hst)
                          clear hst
                          clear d2
                          go_wp2_with fail
                          refine ⟨⟨k + 1, by omega, by go_num, HNX, HK9, HB9⟩, by simp [intOf]; omega⟩
                      · have d1b : decide (0 ≤ od) = true := decide_eq_true (by omega)
                        have hst : version_Right.step_ p m = false := by rw [version_Right.step_, ← HOD.out]; simp [d1]
                        have HRF := Aside0.mk (BAD.out hst)
                        clear hst
                        go_wp2_with fail
                        go_ret
                        exact ⟨by rw [HRF.out]; rfl, HB9.out⟩
                · obtain rfl : k = l0_0.length := by omega
                  have hR : r = true := by rw [← HRT.out, List.all_eq_true]; intro j hj; exact HN.out j (List.mem_range.1 hj)
                  have HRF := Aside0.mk hR
                  clear hR
                  go_wp2_with fail
                  go_ret
                  exact ⟨by rw [HRF.out]; rfl, HB.out⟩
          · have hR := HRR.out
            simp only [version_Right.tell, c1, c2, c3, c4, HIDS.out, c5, decide_true, decide_false, Bool.true_and, Bool.false_and] at hR
            have HRF := Aside0.mk hR
            rw [show decide (¬ ids.Nodup) = true by simp [c5]]
            clear hR c5
            go_wp2_with fail
            go_ret
            exact ⟨by rw [← HRF.out]; rfl, HB3.out⟩
        · have hR := HRR.out
          simp only [version_Right.tell, c1, c2, c3, c4, decide_true, decide_false, Bool.true_and, Bool.false_and] at hR
          have HRF := Aside0.mk hR
          clear hR
          go_enter Try.func13, Try.ntmps13
          go_wp2
          go_ret
          exact ⟨by rw [← HRF.out]; rfl, below_alloc (Below.refl _ _) _⟩
      · have hR := HRR.out
        simp only [version_Right.tell, c1, c2, c3, decide_true, decide_false, Bool.true_and, Bool.false_and] at hR
        have HRF := Aside0.mk hR
        clear hR
        go_enter Try.func13, Try.ntmps13
        go_wp2
        go_ret
        exact ⟨by rw [← HRF.out]; rfl, below_alloc (Below.refl _ _) _⟩
    · have hR := HRR.out
      simp only [version_Right.tell, c1, c2, decide_true, decide_false, Bool.true_and, Bool.false_and] at hR
      have HRF := Aside0.mk hR
      clear hR
      go_enter Try.func13, Try.ntmps13
      go_wp2
      go_ret
      exact ⟨by rw [← HRF.out]; rfl, below_alloc (Below.refl _ _) _⟩
  · have hR := HRR.out
    simp only [version_Right.tell, c1, decide_true, decide_false, Bool.true_and, Bool.false_and] at hR
    have HRF := Aside0.mk hR
    clear hR
    go_enter Try.func13, Try.ntmps13
    go_wp2
    go_ret
    exact ⟨by rw [← HRF.out]; rfl, below_alloc (Below.refl _ _) _⟩


end Go.Proofs.Ytokimlfagpddlaa.PD

-- printed by gprint.py (own tool) over the kit's print
namespace Go.Proofs.Ytokimlfagpddlaa.PD
open Go.RowKit Go.Proofs.Ytokimlfagpddlaa Go.Proofs.YtokimlfagpddlaaW.PrintWords Go.Proofs.YtokimlfagpddlaaW.PrintLast Go.Proofs.YtokimlfagpddlaaW.PrintMore
attribute [local go_sem] max2_int min2_int max_two min_two max_three min_three max_four min_four   -- for this text's walks alone
set_option linter.unnecessarySimpa false
attribute [local go_sem] min2_str max2_str leq_str gtr_str geq_str
set_option linter.unusedVariables false
set_option linter.unusedSimpArgs false

/-! ### api_Meta_39: function 39 -/
def api_Meta_39.bad (m : S35) : Bool := !(version_Right.meta_ m)
theorem api_Meta_39.one_ (m : S35) (w : World) : Calls Try.prog 40 #[.agg #[.int .i64 m.f0, .int .i64 m.f1, .string m.f2, .string m.f3, .int .i64 m.f4]] w fun e w' => e = .returned (.bool (api_Meta_39.bad m)) ∧ Below w.heap.size w w' := by
  go_enter Try.func40, Try.ntmps40
  go_wp2_with ((with_reducible refine gate_dst (N := 1) rfl ?_); refine box_event ?hg (N := 1) ?hd (cs := #[.int .i64 m.f0, .int .i64 m.f1, .string m.f2, .string m.f3, .int .i64 m.f4]) (t := 35) ?hr ?_; (case hd => rfl); (case hg => rfl); (case hr => first | (go_simp; done) | (go_simp; rfl)); intro gb hg w1 hbox hb; have HB := Aside0.mk hb; have e0 : w1.cell? ⟨gb, 0, none⟩ = some (.int .i64 m.f0) := (blk_cell hbox 0).trans rfl; have e1 : w1.cell? ⟨gb, 1, none⟩ = some (.int .i64 m.f1) := (blk_cell hbox 1).trans rfl; have e2 : w1.cell? ⟨gb, 2, none⟩ = some (.string m.f2) := (blk_cell hbox 2).trans rfl; have e3 : w1.cell? ⟨gb, 3, none⟩ = some (.string m.f3) := (blk_cell hbox 3).trans rfl; have e4 : w1.cell? ⟨gb, 4, none⟩ = some (.int .i64 m.f4) := (blk_cell hbox 4).trans rfl; clear hb hbox hg)
  refine (version_meta.calls m.f0 m.f1 m.f2 m.f3 m.f4 _ w1 (version_Right.meta_some m)).mono ?_
  rintro e w2 ⟨rfl, hb2⟩
  have HB2 := Aside0.mk (below_step HB.out hb2)
  clear hb2 HB e0 e1 e2 e3 e4
  go_wp2_with fail
  go_ret
  exact ⟨rfl, HB2.out⟩
set_option maxHeartbeats 2000000 in
theorem api_Meta_39.index_ (A0 : Option Addr) (c0 : Nat) (l0 : List S35) (w : World) (hr0 : Kd.C k35 w A0 l0.length l0) (hl : l0.length < 4294967296) :
    Calls Try.prog 71 #[.slice A0 l0.length c0, .func (.func 40) #[] #[]] w fun e w' => (∃ n : Int, e = .returned (.int .i64 n) ∧ (0 ≤ n ↔ ∃ x ∈ l0, api_Meta_39.bad x = true)) ∧ Below w.heap.size w w' := by
  have HR := Aside0.mk hr0
  have HB0 := Aside0.mk (Below.refl w.heap.size w)
  clear hr0
  go_enter Try.func71, Try.ntmps71
  go_wp2
  go_loopw [8] (fun i wr => ∃ k : Nat, k ≤ l0.length ∧ i = .int .i64 k ∧ Aside0 (∀ j, j < k → api_Meta_39.bad (l0.getD j z35) = false) ∧ Aside0 (Below w.heap.size w wr)) (fun i _ => l0.length - (intOf i).toNat)
  case atStart => exact ⟨0, Nat.zero_le _, rfl, ⟨fun j h => absurd h (by omega)⟩, HB0⟩
  case round =>
    clear HB0
    obtain ⟨k, hk, rfl, HN, HB⟩ := hrel
    by_cases hlt : k < l0.length
    · obtain ⟨ad, rfl, x0, x1, x2, x3, x4⟩ := at_T35 (Kd.C_below HR.out HB.out) (k : Int) (by omega) (by omega)
      obtain ⟨m, hm⟩ : ∃ m, m = rd_T35 l0 (k : Int) := ⟨_, rfl⟩
      rw [← hm, Int.toNat_natCast] at x0 x1 x2 x3 x4
      have hg : m = l0.getD k z35 := by rw [hm, rd_T35, Int.toNat_natCast]
      have HG := Aside0.mk hg
      clear hm hg
      obtain ⟨bb, hbb⟩ : ∃ bb, bb = api_Meta_39.bad m := ⟨_, rfl⟩
      have HBB := Aside0.mk hbb
      go_wp2_with fail
      refine (api_Meta_39.one_ m wr).mono ?_
      rintro e w5 ⟨rfl, hb5⟩
      rw [← hbb]
      have HB5 := Aside0.mk (below_step HB.out hb5)
      clear hb5 hbb x0 x1 x2 x3 x4
      cases bb with
      | true =>
        go_wp2_with fail
        go_ret
        exact ⟨⟨k, rfl, by simp; exact ⟨m, by rw [HG.out]; simp [List.getD, hlt], HBB.out.symm⟩⟩, HB5.out⟩
      | false =>
        go_wp2_with fail
        refine ⟨⟨k + 1, by omega, by go_num, ⟨fun j hj => ?_⟩, HB5⟩, by simp [intOf]; omega⟩
        by_cases e : j = k
        · subst e; rw [← HG.out]; exact HBB.out.symm
        · exact HN.out j (by omega)
    · obtain rfl : k = l0.length := by omega
      go_wp2_with fail
      go_ret
      refine ⟨⟨-1, rfl, by simp; intro x hx; obtain ⟨j, hj, rfl⟩ := List.mem_iff_getElem.1 hx; have := HN.out j hj; simpa [List.getD, hj] using this⟩, HB.out⟩
def api_Meta_39.f (l0 : List S35) : Option Bool := if l0.length < 4294967296 then some (l0.any api_Meta_39.bad) else none
theorem api_Meta_39.calls (A0 : Option Addr) (c0 : Nat) (l0 : List S35) (r : Bool) (w : World) (hr0 : Kd.C k35 w A0 l0.length l0) (hc0 : l0.length ≤ c0) (h : api_Meta_39.f l0 = some r) :
    Calls Try.prog 39 #[.slice A0 l0.length c0, .func (.func 40) #[] #[]] w fun e w' => e = .returned (.bool r) ∧ Below w.heap.size w w' := by
  obtain ⟨hl, rfl⟩ : l0.length < 4294967296 ∧ l0.any api_Meta_39.bad = r := by
    unfold api_Meta_39.f at h
    split at h
    · rename_i hl; exact ⟨hl, Option.some.inj h⟩
    · cases h
  have HC := Lib.hid (api_Meta_39.index_ A0 c0 l0 w hr0 hl)
  clear hr0 h
  go_enter Try.func39, Try.ntmps39
  go_wp2_with fail
  refine HC.out.mono ?_
  rintro e w5 ⟨⟨n, rfl, hn⟩, hb⟩
  have HN := Aside0.mk hn
  have HB := Aside0.mk hb
  clear hn hb
  go_wp2_with fail
  go_ret
  refine ⟨?_, HB.out⟩
  have e : l0.any api_Meta_39.bad = decide (0 ≤ n) := by rw [Bool.eq_iff_iff, List.any_eq_true, decide_eq_true_iff]; exact HN.out.symm
  rw [e]
  rfl


end Go.Proofs.Ytokimlfagpddlaa.PD

-- printed by gprint.py (own tool) over the kit's print
namespace Go.Proofs.Ytokimlfagpddlaa.PD
open Go.RowKit Go.Proofs.Ytokimlfagpddlaa Go.Proofs.YtokimlfagpddlaaW.PrintWords Go.Proofs.YtokimlfagpddlaaW.PrintLast Go.Proofs.YtokimlfagpddlaaW.PrintMore
attribute [local go_sem] max2_int min2_int max_two min_two max_three min_three max_four min_four   -- for this text's walks alone
set_option linter.unnecessarySimpa false
attribute [local go_sem] min2_str max2_str leq_str gtr_str geq_str
set_option linter.unusedVariables false
set_option linter.unusedSimpArgs false

/-! ### version_numbers: function 38 -/
def version_numbers.f (l0 : List Int) (a1 : Int) : Option (Bool) := if (l0.length : Int) ≤ a1 then ((slices_ContainsFunc_int_int.f l0).bind fun t436 => (some (!t436))) else (some false)
set_option maxHeartbeats 8000000 in
set_option maxRecDepth 100000 in
theorem version_numbers.calls (A0 : Option Addr) (c0 : Nat) (l0 : List Int) (a1 : Int) (r : Bool) (w : World) (hr0 : Kd.C (Kd.int .i64) w A0 l0.length l0) (hc0 : l0.length ≤ c0) (h : version_numbers.f l0 a1 = some r) :
    Calls Try.prog 38 #[.slice A0 l0.length c0, .int .i64 a1] w fun e w' => e = .returned (.bool r) ∧ Drawn0 w w' := by
  have HR0 := Aside0.mk hr0
  have HC0 := Aside0.mk hc0
  clear hr0 hc0
  have H : (if (l0.length : Int) ≤ a1 then ((slices_ContainsFunc_int_int.f l0).bind fun t436 => (some (!t436))) else (some false)) = some r := h
  clear h
  by_cases c3 : (l0.length : Int) ≤ a1
  · rw [if_pos c3] at H
    have c3b0 : decide ((l0.length : Int) ≤ a1) = true := decide_eq_true c3
    clear c3
    replace H := Option.bind_eq_some_iff.mp H
    obtain ⟨t436, A40, H⟩ := H
    replace H : (some (!t436)) = some r := H
    have A4 := Aside0.mk A40
    clear A40
    obtain rfl := Option.some.inj H
    go_enter Try.func38, Try.ntmps38
    go_wp2_with (first | (go_at_call 32; (with_reducible refine (slices_ContainsFunc_int_int.calls _ _ l0 t436 _ ?side1 ?side2 A4.out).mono ?_); (case side1 => repeat (first | exact HR0.out | (with_reducible refine Kd.C_alloc ?_ _) | (with_reducible refine Kd.C_drewN ?_ _) | (with_reducible refine Kd.C_drew ?_))); (case side2 => exact HC0.out); rintro e w' ⟨rfl, ⟨nd, rfl⟩⟩))
    go_ret
    exact ⟨by first | rfl | (simp; done) | (simp [*]; done), by repeat (first | exact Drawn0.refl _ | apply Drawn0.step)⟩
  · rw [if_neg c3] at H
    have c3b0 : decide ((l0.length : Int) ≤ a1) = false := decide_eq_false c3
    clear c3
    obtain rfl := Option.some.inj H
    go_enter Try.func38, Try.ntmps38
    go_wp2
    go_ret
    exact ⟨by first | rfl | (simp; done) | (simp [*]; done), by repeat (first | exact Drawn0.refl _ | apply Drawn0.step)⟩

end Go.Proofs.Ytokimlfagpddlaa.PD

-- printed by gprint.py (own tool) over the kit's print
namespace Go.Proofs.Ytokimlfagpddlaa.PD
open Go.RowKit Go.Proofs.Ytokimlfagpddlaa Go.Proofs.YtokimlfagpddlaaW.PrintWords Go.Proofs.YtokimlfagpddlaaW.PrintLast Go.Proofs.YtokimlfagpddlaaW.PrintMore
attribute [local go_sem] max2_int min2_int max_two min_two max_three min_three max_four min_four   -- for this text's walks alone
set_option linter.unnecessarySimpa false
attribute [local go_sem] min2_str max2_str leq_str gtr_str geq_str
set_option linter.unusedVariables false
set_option linter.unusedSimpArgs false

/-! ### version_Encode: function 17 -/
/-- The bytes so far: their variable's block, and what it holds. -/
structure version_Encode.BS (w0 W : World) (g : Nat) (v : Value) (bs : List Int) : Prop where
  cell : W.heap[g]? = some (.cells #[v] 74 (0, 0))
  row : Kd.R (Kd.int .u8) 5 W w0.heap.size (fun _ => True) v bs
  bel : Below w0.heap.size w0 W
  low : w0.heap.size ≤ g
/-- But for that variable, and rows of bytes, all stays. -/
def version_Encode.KT (W W' : World) (g : Nat) : Prop := ∀ k cs t, k ≠ g → t ≠ 5 → W.heap[k]? = some (.cells cs t (0, 0)) → W'.heap[k]? = some (.cells cs t (0, 0))
theorem version_Encode.KT.refl (W : World) (g : Nat) : version_Encode.KT W W g := fun _ _ _ _ _ h => h
theorem version_Encode.KT.trans {A B C : World} {g : Nat} (h : version_Encode.KT A B g) (k : version_Encode.KT B C g) : version_Encode.KT A C g := fun i cs t h1 h2 h3 => k i cs t h1 h2 (h i cs t h1 h2 h3)
theorem version_Encode.KT.below {A B : World} {g : Nat} (h : Below A.heap.size A B) : version_Encode.KT A B g := fun i cs t _ _ h3 => blk_below h3 h
theorem version_Encode.BS.below {w0 W W2 : World} {g : Nat} {v : Value} {bs : List Int} (h : version_Encode.BS w0 W g v bs) (hb : Below W.heap.size W W2) : version_Encode.BS w0 W2 g v bs :=
  ⟨blk_below h.cell hb, Kd.R_below h.row hb, below_step h.bel hb, h.low⟩
/-- Some more bytes, and the variable set. -/
theorem version_Encode.BS.put {w0 W w1 : World} {g : Nat} {v v1 : Value} {bs b2 : List Int} (h : version_Encode.BS w0 W g v bs) (ho : w1.ownsRow w0.heap.size 5 1 v1 b2.length (nums .u8 b2)) (hb : Below w0.heap.size w0 w1) (hg : W.grownBy w1 v.ownBlock) :
    version_Encode.BS w0 (w1.setCell ⟨g, 0, none⟩ v1) g v1 b2 ∧ version_Encode.KT W (w1.setCell ⟨g, 0, none⟩ v1) g := by
  have hc : w1.heap[g]? = some (.cells #[v] 74 (0, 0)) := blk_grown h.cell hg (Kd.R_ne h.row h.cell (by decide))
  have hr : Kd.R (Kd.int .u8) 5 w1 w0.heap.size (fun _ => True) v1 b2 := Kd.R_of_own ho (fun _ _ => trivial)
  refine ⟨⟨blk_put hc 0 _ rfl, Kd.R_mono (Kd.R_far (p := ⟨g, 0, none⟩) (Kd.R_types hr hc (by decide)) (fun _ hk => hk.2) v1) (fun _ _ => trivial), below_set hb h.low, h.low⟩, fun k cs t h1 h2 h3 => ?_⟩
  exact blk_far (p := ⟨g, 0, none⟩) (blk_grown h3 hg (Kd.R_ne h.row h3 (fun e => h2 e.symm))) h1 v1
def version_Encode.numB (n : Int) : ByteArray := if n < 0 ∨ 9007199254740991 < n then ⟨#[]⟩ else pack_Num.bytes n
theorem version_Encode.num_f (n : Int) : ∃ e, pack_Num.f n = some (version_Encode.numB n, e) := by
  unfold pack_Num.f version_Encode.numB
  by_cases h : n < 0 ∨ 9007199254740991 < n
  · rw [if_pos h, if_pos h]; exact ⟨_, rfl⟩
  · rw [if_neg h, if_neg h]; exact ⟨_, rfl⟩
/-- The bytes of some numbers. -/
def version_Encode.flat (L : List Int) : List Int := L.flatMap fun n => bytesOf (version_Encode.numB n)
theorem version_Encode.flat_snoc (L : List Int) (i : Nat) (h : i < L.length) : version_Encode.flat (L.take (i + 1)) = version_Encode.flat (L.take i) ++ bytesOf (version_Encode.numB (rd L (i : Int))) := by
  unfold version_Encode.flat
  rw [List.take_succ_eq_append_getElem h, List.flatMap_append]
  simp [rd, List.getD, h]
theorem version_Encode.be_length (k : Nat) (n : Int) : (pack_Num.be k n).length = k := by
  induction k with
  | zero => rfl
  | succ k ih => simp [pack_Num.be, ih]
theorem version_Encode.num_size (n : Int) : (version_Encode.numB n).size ≤ 9 := by
  unfold version_Encode.numB
  split
  · decide
  · unfold pack_Num.bytes
    rw [strOfNums_size, List.length_cons, version_Encode.be_length]
    have : pack_Num.sz 8 n ≤ 8 := by
      have h : ∀ (m : Nat) (x : Int), pack_Num.sz m x ≤ m := by
        intro m
        induction m with
        | zero => intro x; exact Nat.le_refl _
        | succ m ih => intro x; unfold pack_Num.sz; split <;> (try have := ih (x / 256)) <;> omega
      exact h 8 n
    omega
theorem version_Encode.flat_len (L : List Int) : (version_Encode.flat L).length ≤ 9 * L.length := by
  unfold version_Encode.flat
  induction L with
  | nil => simp
  | cons n L ih =>
    rw [List.flatMap_cons, List.length_append, bytesOf_length, List.length_cons]
    have := version_Encode.num_size n
    omega
set_option maxHeartbeats 2000000 in
set_option maxRecDepth 100000 in
/-- The closure that writes numbers. -/
theorem version_Encode.nums_ (w0 W : World) (g : Nat) (v : Value) (bs : List Int) (A : Option Addr) (n c : Nat) (L : List Int) (hB : version_Encode.BS w0 W g v bs) (hr : ∀ W2, version_Encode.KT W W2 g → Below w0.heap.size w0 W2 → Kd.C (Kd.int .i64) W2 A n L) (hsz : bs.length + 9 * n ≤ 100000000) :
    Calls Try.prog 41 #[.slice A n c, .pointer (some ⟨g, 0, none⟩)] W fun e W' => e = .returned (.tuple #[]) ∧ ∃ v', version_Encode.BS w0 W' g v' (bs ++ version_Encode.flat L) ∧ version_Encode.KT W W' g := by
  have HR := Aside0.mk hr
  have HB0 := Aside0.mk hB
  have HLEN := Aside0.mk (hr W (version_Encode.KT.refl _ _) hB.bel).1
  clear hr hB
  go_enter Try.func41, Try.ntmps41
  go_wp2_with fail
  go_loopw [9] (fun i wr => ∃ (k : Nat) (v2 : Value), i = .int .i64 k ∧ k ≤ n ∧ Aside0 (version_Encode.BS w0 wr g v2 (bs ++ version_Encode.flat (L.take k))) ∧ Aside0 (version_Encode.KT W wr g)) (fun i _ => n - (intOf i).toNat)
  case atStart => exact ⟨0, v, rfl, Nat.zero_le _, ⟨by simpa [version_Encode.flat] using HB0.out⟩, ⟨version_Encode.KT.refl _ _⟩⟩
  case round =>
    clear HB0
    obtain ⟨k, v2, rfl, hk, HB, HK⟩ := hrel
    by_cases hlt : k < n
    · have hlt' : (k : Int) < (n : Int) := by omega
      obtain ⟨ad, rfl, hcell⟩ := Kd.at_int (HR.out wr HK.out HB.out.bel) (k : Int) (by omega) (by omega)
      obtain ⟨x, hx⟩ : ∃ x : Int, x = rd L (k : Int) := ⟨_, rfl⟩
      rw [← hx, Int.toNat_natCast] at hcell
      have hfl := version_Encode.flat_snoc L k (by rw [HLEN.out]; exact hlt)
      rw [← hx] at hfl
      have HFL := Aside0.mk hfl
      obtain ⟨er, her⟩ := version_Encode.num_f x
      have HER := Aside0.mk her
      have hlen1 := version_Encode.flat_len (L.take k)
      have HLN := Aside0.mk (show (bs ++ version_Encode.flat (L.take k)).length + (version_Encode.numB x).size ≤ 140737488355328 by
        have := version_Encode.num_size x
        rw [List.length_take] at hlen1
        rw [List.length_append]
        omega)
      clear hx hfl her hlen1
      go_wp2_with fail
      refine (pack_Num.calls x _ er wr HER.out).mono ?_
      rintro e w5 ⟨rfl, hb5⟩
      have HB5 := Aside0.mk (HB.out.below hb5)
      have HK5 := Aside0.mk (HK.out.trans (version_Encode.KT.below (g := g) hb5))
      obtain ⟨y, hy⟩ : ∃ y, y = version_Encode.numB x := ⟨_, rfl⟩
      have HY := Aside0.mk hy
      rw [← hy]
      have c0 : w5.cell? ⟨g, 0, none⟩ = some v2 := (blk_cell HB5.out.cell 0).trans rfl
      clear hb5 hcell hy HB HK
      go_wp2_with (first | ((with_reducible refine gate_builtin (b := .append) (xs := #[.tmp 18, .tmp 19]) rfl ?_); at_builtin; refine print_append_str (w0 := w0) w0.heap.size rfl (.tmp 18) (.tmp 19) 74 9 5 rfl Try.underlying74 Try.underlying9 info5 v2 (bs ++ version_Encode.flat (L.take k)) y rfl rfl (Kd.own_of_R HB5.out.row) HB5.out.bel HB5.out.bel.size (by rw [HY.out]; exact HLN.out) ?_; intro v1 w6 ho hb hg; obtain ⟨A9, c9, e9, -, -⟩ := Kd.R_reads (show Kd.R (Kd.int .u8) 5 w6 w0.heap.size (fun _ => True) v1 _ from Kd.R_of_own ho (fun _ _ => trivial)); subst e9; have hc6 := blk_grown HB5.out.cell hg (Kd.R_ne HB5.out.row HB5.out.cell (by decide)); have c6 : w6.cell? ⟨g, 0, none⟩ = some v2 := (blk_cell hc6 0).trans rfl; have f6 := blk_frozen hc6 0; have HO := Aside0.mk ho; have HBB := Aside0.mk hb; have HG := Aside0.mk hg; clear ho hb hg c0 hc6))
      obtain ⟨hP1, hP2⟩ := HB5.out.put HO.out HBB.out HG.out
      rw [List.length_append, List.length_append, Nat.add_assoc] at hP1 hP2
      refine ⟨⟨k + 1, .slice A9 (bs.length + ((version_Encode.flat (L.take k)).length + (bytesOf y).length)) c9, by go_num, by omega, ⟨?_⟩, ⟨HK5.out.trans hP2⟩⟩, by simp only [intOf]; omega⟩
      rw [HFL.out, ← HY.out, ← List.append_assoc]
      exact hP1
    · obtain rfl : k = n := by omega
      go_wp2_with fail
      go_end0
      refine ⟨rfl, v2, ?_, HK.out⟩
      have := HB.out
      rw [List.take_of_length_le (by rw [HLEN.out]; exact Nat.le_refl _)] at this
      exact this
def version_Encode.textB (s : ByteArray) : ByteArray := if (s.size : Int) > 1048576 then ⟨#[]⟩ else version_Encode.numB s.size ++ s
theorem version_Encode.text_f (s : ByteArray) (h : s.size ≤ 100000000) : ∃ e, pack_Text.f s = some (version_Encode.textB s, e) := by
  obtain ⟨e, he⟩ := version_Encode.num_f s.size
  unfold pack_Text.f version_Encode.textB
  by_cases c : (s.size : Int) > 1048576
  · rw [if_pos c, if_pos c]; exact ⟨_, rfl⟩
  · have := version_Encode.num_size s.size
    rw [if_neg c, if_neg c, he, Option.bind_some, if_pos (by show (version_Encode.numB s.size).size + s.size ≤ _; omega)]; exact ⟨_, rfl⟩
set_option maxHeartbeats 2000000 in
set_option maxRecDepth 100000 in
/-- The closure that writes a text. -/
theorem version_Encode.text_ (w0 W : World) (g : Nat) (v : Value) (bs : List Int) (s : ByteArray) (hB : version_Encode.BS w0 W g v bs) (hs : s.size ≤ 1000) (hsz : bs.length ≤ 100000000) :
    Calls Try.prog 43 #[.string s, .pointer (some ⟨g, 0, none⟩)] W fun e W' => e = .returned (.tuple #[]) ∧ ∃ v', version_Encode.BS w0 W' g v' (bs ++ bytesOf (version_Encode.textB s)) ∧ version_Encode.KT W W' g := by
  have HB := Aside0.mk hB
  obtain ⟨er, her⟩ := version_Encode.text_f s (by omega)
  have HER := Aside0.mk her
  have HLN := Aside0.mk (show bs.length + (version_Encode.textB s).size ≤ 140737488355328 by
    have := version_Encode.num_size s.size
    unfold version_Encode.textB
    split
    · show bs.length + 0 ≤ _; omega
    · rw [ByteArray.size_append]; omega)
  clear hB her
  go_enter Try.func43, Try.ntmps43
  go_wp2_with fail
  refine (pack_Text.calls s _ er W HER.out).mono ?_
  rintro e w5 ⟨rfl, hb5⟩
  have HB5 := Aside0.mk (HB.out.below hb5)
  have HK5 := Aside0.mk (version_Encode.KT.below (g := g) hb5)
  obtain ⟨y, hy⟩ : ∃ y, y = version_Encode.textB s := ⟨_, rfl⟩
  have HY := Aside0.mk hy
  rw [← hy]
  have c0 : w5.cell? ⟨g, 0, none⟩ = some v := (blk_cell HB5.out.cell 0).trans rfl
  clear hb5 hy HB
  go_wp2_with (first | ((with_reducible refine gate_builtin (b := .append) (xs := #[.tmp 10, .tmp 11]) rfl ?_); at_builtin; refine print_append_str (w0 := w0) w0.heap.size rfl (.tmp 10) (.tmp 11) 74 9 5 rfl Try.underlying74 Try.underlying9 info5 v bs y rfl rfl (Kd.own_of_R HB5.out.row) HB5.out.bel HB5.out.bel.size (by rw [HY.out]; exact HLN.out) ?_; intro v1 w6 ho hb hg; obtain ⟨A9, c9, e9, -, -⟩ := Kd.R_reads (show Kd.R (Kd.int .u8) 5 w6 w0.heap.size (fun _ => True) v1 _ from Kd.R_of_own ho (fun _ _ => trivial)); subst e9; have hc6 := blk_grown HB5.out.cell hg (Kd.R_ne HB5.out.row HB5.out.cell (by decide)); have c6 : w6.cell? ⟨g, 0, none⟩ = some v := (blk_cell hc6 0).trans rfl; have f6 := blk_frozen hc6 0; have HO := Aside0.mk ho; have HBB := Aside0.mk hb; have HG := Aside0.mk hg; clear ho hb hg c0 hc6))
  go_end0
  obtain ⟨hP1, hP2⟩ := HB5.out.put HO.out HBB.out HG.out
  rw [List.length_append] at hP1 hP2
  exact ⟨rfl, _, by rw [← HY.out]; exact hP1, HK5.out.trans hP2⟩
theorem version_Encode.list_C {W : World} {b : Nat} {L : List Int} (h : W.heap[b]? = some (.cells (L.map (Value.int .i64)).toArray 3 (0, 0))) (hl : L.length ≤ 1000) : Kd.C (Kd.int .i64) W (some ⟨b, 0, none⟩) L.length L := by
  refine ⟨rfl, by omega, fun _ => ⟨_, rfl, fun j p hp => ⟨[.int .i64 p], rfl, rfl, fun i u hu => ?_⟩⟩⟩
  obtain ⟨rfl, rfl⟩ : i = 0 ∧ u = .int .i64 p := by
    cases i with
    | zero => simpa [eq_comm] using hu
    | succ i => simp at hu
  have := blk_cell h j
  simp [List.getElem?_map, hp] at this
  have e : (⟨b, 0, none⟩ : Addr).add (j * 1 + 0) = ⟨b, j, none⟩ := by cases j <;> simp [Addr.add]
  show W.cell? ((⟨b, 0, none⟩ : Addr).add (j * 1 + 0)) = _
  rw [e]
  exact this
/-- Numbers of a literal, written. -/
theorem version_Encode.lit_ (w0 W : World) (g : Nat) (v : Value) (bs : List Int) (L : List Int) (hB : version_Encode.BS w0 W g v bs) (hl : L.length ≤ 1000) (hsz : bs.length ≤ 10000000) :
    Calls Try.prog 41 #[.slice (some ⟨W.heap.size, 0, none⟩) L.length L.length, .pointer (some ⟨g, 0, none⟩)] (W.alloc (.cells (L.map (Value.int .i64)).toArray 3)) fun e W' => e = .returned (.tuple #[]) ∧ ∃ v', version_Encode.BS w0 W' g v' (bs ++ version_Encode.flat L) ∧ version_Encode.KT W W' g := by
  have hgl := blk_lt hB.cell
  refine (version_Encode.nums_ w0 _ g v bs (some ⟨W.heap.size, 0, none⟩) L.length L.length L (hB.below (below_alloc (Below.refl _ _) _)) (fun W2 hk hb => version_Encode.list_C (hk _ _ _ (by omega) (by decide) (blk_new _ _)) hl) (by omega)).mono ?_
  rintro e W' ⟨he, v', h1, h2⟩
  exact ⟨he, v', h1, (version_Encode.KT.below (below_alloc (Below.refl _ _) _)).trans h2⟩
theorem version_Encode.meta_sz (m : S35) (h : api_Meta_39.bad m = false) : m.f2.size ≤ 80 ∧ m.f3.size ≤ 80 := by
  unfold api_Meta_39.bad at h
  rw [Bool.not_eq_false'] at h
  unfold version_Right.meta_ version_meta.f at h
  repeat' split at h
  all_goals first | (exfalso; revert h; simp; done) | (revert h; simp; omega)
def version_Encode.nOK (l : List Int) (m : Int) : Bool := if (l.length : Int) ≤ m then !(l.any slices_ContainsFunc_int_int.litB) else false
theorem version_Encode.num_ok (l : List Int) (m : Int) : version_numbers.f l m = some (version_Encode.nOK l m) := by
  unfold version_numbers.f version_Encode.nOK slices_ContainsFunc_int_int.f
  split <;> rfl
def version_Encode.fine (D G H : List Int) (q : Int) : Bool := version_Encode.nOK D 200 && (version_Encode.nOK G 20 && (version_Encode.nOK H 20 && version_Encode.nOK [q] 1))
def version_Encode.metaF (m : S35) : List Int := version_Encode.flat [m.f0, m.f1] ++ (bytesOf (version_Encode.textB m.f2) ++ (bytesOf (version_Encode.textB m.f3) ++ version_Encode.flat [m.f4]))
theorem version_Encode.BS.store {w0 W W2 : World} {g gm : Nat} {v : Value} {bs : List Int} {cs : Array Value} (h : version_Encode.BS w0 W g v bs) (hg : W.grownBy W2 (some gm)) (hk : W.heap[gm]? = some (.cells cs 35 (0, 0))) (hlow : w0.heap.size ≤ gm) : version_Encode.BS w0 W2 g v bs :=
  ⟨blk_grown h.cell hg (fun e => blk_ne h.cell hk (by decide) (Option.some.inj e)), Kd.R_mono (Kd.R_grown (Kd.R_types h.row hk (by decide)) hg (fun k_ hk => by intro e_; injection e_ with e_; exact hk.2 e_)) (fun _ hk => hk.1), pw_below_grown h.bel (some gm) h.bel.size hg (fun k_ e_ => by injection e_ with e_; omega), h.low⟩
theorem version_Encode.text_size (s : ByteArray) : (version_Encode.textB s).size ≤ s.size + 9 := by
  have := version_Encode.num_size s.size
  unfold version_Encode.textB
  split
  · show 0 ≤ _; omega
  · rw [ByteArray.size_append]; omega
theorem version_Encode.metaF_len (m : S35) (h : m.f2.size ≤ 80 ∧ m.f3.size ≤ 80) : (version_Encode.metaF m).length ≤ 250 := by
  have h1 := version_Encode.flat_len [m.f0, m.f1]
  have h2 := version_Encode.flat_len [m.f4]
  have h3 := version_Encode.text_size m.f2
  have h4 := version_Encode.text_size m.f3
  simp only [List.length_cons, List.length_nil] at h1 h2
  unfold version_Encode.metaF
  simp only [List.length_append, bytesOf_length]
  omega
theorem version_Encode.metas_len (L : List S35) (h : ∀ m ∈ L, m.f2.size ≤ 80 ∧ m.f3.size ≤ 80) : (L.flatMap version_Encode.metaF).length ≤ 250 * L.length := by
  induction L with
  | nil => simp
  | cons m L ih =>
    rw [List.flatMap_cons, List.length_append, List.length_cons]
    have := version_Encode.metaF_len m (h m (by simp))
    have := ih (fun x hx => h x (List.mem_cons_of_mem _ hx))
    omega
def version_Encode.rowF (l : List Int) : List Int := version_Encode.flat [(l.length : Int)] ++ version_Encode.flat l
def version_Encode.all (L : List S35) (D G H : List Int) (q : Int) : List Int := version_Encode.flat [(L.length : Int)] ++ (L.flatMap version_Encode.metaF ++ (version_Encode.rowF D ++ (version_Encode.rowF G ++ (version_Encode.rowF H ++ version_Encode.flat [q]))))
theorem version_Encode.nOK_len {l : List Int} {m : Int} (h : version_Encode.nOK l m = true) : (l.length : Int) ≤ m := by
  unfold version_Encode.nOK at h
  split at h
  · assumption
  · cases h
theorem version_Encode.fine_len {D G H : List Int} {q : Int} (h : version_Encode.fine D G H q = true) : D.length ≤ 200 ∧ G.length ≤ 20 ∧ H.length ≤ 20 := by
  unfold version_Encode.fine at h
  simp only [Bool.and_eq_true] at h
  have h1 := version_Encode.nOK_len h.1
  have h2 := version_Encode.nOK_len h.2.1
  have h3 := version_Encode.nOK_len h.2.2.1
  omega
theorem version_Encode.rowF_len (l : List Int) : (version_Encode.rowF l).length ≤ 9 + 9 * l.length := by
  unfold version_Encode.rowF
  rw [List.length_append]
  have := version_Encode.flat_len [(l.length : Int)]
  have := version_Encode.flat_len l
  simp only [List.length_cons, List.length_nil] at *
  omega
def version_Encode.rowsF (D G H : List Int) : Nat → List Int
  | 0 => []
  | 1 => version_Encode.rowF D
  | 2 => version_Encode.rowF D ++ version_Encode.rowF G
  | _ => version_Encode.rowF D ++ (version_Encode.rowF G ++ version_Encode.rowF H)
def version_Encode.good (L : List S35) (D G H : List Int) (q : Int) : Bool := version_Encode.fine D G H q && (decide (L.length ≤ 200) && !(L.any api_Meta_39.bad))
def version_Encode.f (l0_0 : List S35) (l0_1 l0_2 l0_3 : List Int) (a0_4 : Int) : Option (ByteArray × Option Int) := some (if version_Encode.good l0_0 l0_1 l0_2 l0_3 a0_4 = true then (strOfNums (version_Encode.all l0_0 l0_1 l0_2 l0_3 a0_4), none) else (⟨#[]⟩, some 1))
set_option maxHeartbeats 4000000 in
set_option maxRecDepth 100000 in
theorem version_Encode.calls (A0_0 : Option Addr) (c0_0 : Nat) (l0_0 : List S35) (A0_1 : Option Addr) (c0_1 : Nat) (l0_1 : List Int) (A0_2 : Option Addr) (c0_2 : Nat) (l0_2 : List Int) (A0_3 : Option Addr) (c0_3 : Nat) (l0_3 : List Int) (a0_4 : Int) (r1 : ByteArray) (r2 : Option Int) (w : World) (hr0_0 : Kd.C k35 w A0_0 l0_0.length l0_0) (hc0_0 : l0_0.length ≤ c0_0) (hr0_1 : Kd.C (Kd.int .i64) w A0_1 l0_1.length l0_1) (hc0_1 : l0_1.length ≤ c0_1) (hr0_2 : Kd.C (Kd.int .i64) w A0_2 l0_2.length l0_2) (hc0_2 : l0_2.length ≤ c0_2) (hr0_3 : Kd.C (Kd.int .i64) w A0_3 l0_3.length l0_3) (hc0_3 : l0_3.length ≤ c0_3) (h : version_Encode.f l0_0 l0_1 l0_2 l0_3 a0_4 = some (r1, r2)) :
    Calls Try.prog 17 #[.agg #[.slice A0_0 l0_0.length c0_0, .slice A0_1 l0_1.length c0_1, .slice A0_2 l0_2.length c0_2, .slice A0_3 l0_3.length c0_3, .int .i64 a0_4]] w fun e w' => e = .returned (.tuple #[.string r1, errW r2]) ∧ Below w.heap.size w w' := by
  have HH := Aside0.mk (Option.some.inj h)
  have HR0 := Aside0.mk hr0_0
  have HR1 := Aside0.mk hr0_1
  have HR2 := Aside0.mk hr0_2
  have HR3 := Aside0.mk hr0_3
  have HC1 := Aside0.mk hc0_1
  have HC2 := Aside0.mk hc0_2
  have HC3 := Aside0.mk hc0_3
  have HC0 := Aside0.mk hc0_0
  clear h hr0_0 hr0_1 hr0_2 hr0_3 hc0_0 hc0_1 hc0_2 hc0_3
  go_enter Try.func17, Try.ntmps17
  go_upto_region 1 with ((with_reducible refine gate_dst (N := 1) rfl ?_); refine box_event ?hg (N := 1) ?hd (cs := #[.slice A0_0 l0_0.length c0_0, .slice A0_1 l0_1.length c0_1, .slice A0_2 l0_2.length c0_2, .slice A0_3 l0_3.length c0_3, .int .i64 a0_4]) (t := 32) ?hr ?_; (case hd => rfl); (case hg => rfl); (case hr => first | (go_simp; done) | (go_simp; rfl)); intro ge hg w1 hbox hb; have HB1 := Aside0.mk hb; have HK1 := Aside0.mk hbox; have HG := Aside0.mk (show w.heap.size ≤ ge by rw [hg]; exact Nat.le_refl _); clear hb hbox hg)
  go_cut [4] from 12 (fun v wc => v = .bool (version_Encode.fine l0_1 l0_2 l0_3 a0_4) ∧ Aside0 (wc.heap[ge]? = some (.cells #[.slice A0_0 l0_0.length c0_0, .slice A0_1 l0_1.length c0_1, .slice A0_2 l0_2.length c0_2, .slice A0_3 l0_3.length c0_3, .int .i64 a0_4] 32 (0, 0))) ∧ Aside0 (Below w.heap.size w wc))
  case first =>
    have e1 := (blk_cell HK1.out 1).trans rfl
    go_wp2_with fail
    refine (version_numbers.calls A0_1 c0_1 l0_1 200 _ _ (Kd.C_below HR1.out HB1.out) HC1.out (version_Encode.num_ok _ _)).mono ?_
    rintro e w2 ⟨rfl, hd⟩
    have HB2 := Aside0.mk (below_step HB1.out hd.below)
    have HK2 := Aside0.mk (blk_below HK1.out hd.below)
    clear hd e1
    cases hb1 : version_Encode.nOK l0_1 200 with
    | false =>
      go_wp2_with fail
      go_meet
      case rel => exact ⟨by simp [version_Encode.fine, hb1], HK2, HB2⟩
    | true =>
      have e2 := (blk_cell HK2.out 2).trans rfl
      go_wp2_with fail
      refine (version_numbers.calls A0_2 c0_2 l0_2 20 _ _ (Kd.C_below HR2.out HB2.out) HC2.out (version_Encode.num_ok _ _)).mono ?_
      rintro e w3 ⟨rfl, hd⟩
      have HB3 := Aside0.mk (below_step HB2.out hd.below)
      have HK3 := Aside0.mk (blk_below HK2.out hd.below)
      clear hd e2
      cases hb2 : version_Encode.nOK l0_2 20 with
      | false =>
        go_wp2_with fail
        go_meet
        case rel => exact ⟨by simp [version_Encode.fine, hb1, hb2], HK3, HB3⟩
      | true =>
        have e3 := (blk_cell HK3.out 3).trans rfl
        go_wp2_with fail
        refine (version_numbers.calls A0_3 c0_3 l0_3 20 _ _ (Kd.C_below HR3.out HB3.out) HC3.out (version_Encode.num_ok _ _)).mono ?_
        rintro e w4 ⟨rfl, hd⟩
        have HB4 := Aside0.mk (below_step HB3.out hd.below)
        have HK4 := Aside0.mk (blk_below HK3.out hd.below)
        clear hd e3
        cases hb3 : version_Encode.nOK l0_3 20 with
        | false =>
          go_wp2_with fail
          go_meet
          case rel => exact ⟨by simp [version_Encode.fine, hb1, hb2, hb3], HK4, HB4⟩
        | true =>
          have e4 := (blk_cell HK4.out 4).trans rfl
          go_wp2_with fail
          refine (version_numbers.calls _ _ [a0_4] 1 _ _ (version_Encode.list_C (L := [a0_4]) (blk_new w4 _) (by show (1 : Nat) ≤ 1000; decide)) (Nat.le_refl _) (version_Encode.num_ok _ _)).mono ?_
          rintro e w5 ⟨rfl, hd⟩
          have HB5 := Aside0.mk (below_step (below_alloc HB4.out _) hd.below)
          have HK5 := Aside0.mk (blk_below (blk_alloc HK4.out _) hd.below)
          clear hd e4
          go_wp2_with fail
          go_meet
          case rel => exact ⟨by simp [version_Encode.fine, hb1, hb2, hb3], HK5, HB5⟩
  case rest =>
    clear HB1 HK1
    obtain ⟨rfl, HK, HB⟩ := hcut
    have e0 := (blk_cell HK.out 0).trans rfl
    have hm0 := HR0.out.2.1
    cases hf : version_Encode.fine l0_1 l0_2 l0_3 a0_4 with
    | false =>
      have hq := HH.out
      rw [if_neg (by simp [version_Encode.good, hf])] at hq
      obtain ⟨rfl, rfl⟩ := Prod.mk.inj hq
      clear hq
      go_wp2_with fail
      go_ret2
      exact ⟨rfl, HB.out⟩
    | true =>
      by_cases hl : l0_0.length ≤ 200
      · have hl' : ¬ (l0_0.length : Int) > 200 := by omega
        go_wp2_with fail
        refine (api_Meta_39.calls A0_0 c0_0 l0_0 _ _ (Kd.C_below HR0.out HB.out) HC0.out (by unfold api_Meta_39.f; rw [if_pos (by omega)])).mono ?_
        rintro e w6 ⟨rfl, hb6⟩
        have HB6 := Aside0.mk (below_step HB.out hb6)
        have HK6 := Aside0.mk (blk_below HK.out hb6)
        clear hb6 e0 HB HK
        cases hbd : l0_0.any api_Meta_39.bad with
        | true =>
          have hq := HH.out
          rw [if_neg (by simp [version_Encode.good, hf, hbd])] at hq
          obtain ⟨rfl, rfl⟩ := Prod.mk.inj hq
          clear hq
          go_wp2_with fail
          go_ret2
          exact ⟨rfl, HB6.out⟩
        | false =>
          have hq := HH.out
          rw [if_pos (by simp [version_Encode.good, hf, hbd, hl])] at hq
          obtain ⟨hq1, rfl⟩ := Prod.mk.inj hq
          have HQ := Aside0.mk hq1
          have HBD := Aside0.mk (show ∀ m ∈ l0_0, m.f2.size ≤ 80 ∧ m.f3.size ≤ 80 from fun m hm => version_Encode.meta_sz m (by have := List.any_eq_false.1 hbd m hm; simpa using this))
          have HFL := Aside0.mk (version_Encode.fine_len hf)
          clear hq hq1 hf hbd HH
          go_upto_region 7 with fail
          have HBS0 : Aside0 (version_Encode.BS w (w6.alloc (.cells #[.slice none 0 0] 74)) w6.heap.size (.slice none 0 0) []) := ⟨⟨blk_new _ _, Kd.R_nil _ _ _ _ _, below_alloc HB6.out _, HB6.out.size⟩⟩
          have HK7 := Aside0.mk (blk_alloc HK6.out (.cells #[.slice none 0 0] 74))
          have hgne : ge < w6.heap.size := blk_lt HK6.out
          obtain ⟨g, hg⟩ : ∃ g, g = w6.heap.size := ⟨_, rfl⟩
          obtain ⟨w7, hw7⟩ : ∃ w7, w7 = w6.alloc (.cells #[.slice none 0 0] 74) := ⟨_, rfl⟩
          rw [← hw7, ← hg] at HBS0
          rw [← hw7] at HK7
          rw [← hg] at hgne
          rw [← hw7, ← hg]
          have HNE := Aside0.mk (show ge ≠ g by omega)
          clear hw7 hg HB6 HK6 hgne
          have e0 := (blk_cell HK7.out 0).trans rfl
          go_wp2_with fail
          refine (version_Encode.lit_ w w7 g _ [] [(l0_0.length : Int)] HBS0.out (by show (1 : Nat) ≤ 1000; decide) (by simp)).mono ?_
          rintro e w8 ⟨rfl, v8, hb8, hk8⟩
          have HBS8 := Aside0.mk hb8
          have HK8 := Aside0.mk (hk8 _ _ _ HNE.out (by decide) HK7.out)
          clear hb8 hk8 e0 HBS0 HK7
          have e0 := (blk_cell HK8.out 0).trans rfl
          go_wp2_with fail
          go_loopw [56] (fun i wr => ∃ (k : Nat) (v2 : Value), i = .int .i64 k ∧ k ≤ l0_0.length ∧ Aside0 (version_Encode.BS w wr g v2 (version_Encode.flat [(l0_0.length : Int)] ++ (l0_0.take k).flatMap version_Encode.metaF)) ∧ Aside0 (wr.heap[ge]? = some (.cells #[.slice A0_0 l0_0.length c0_0, .slice A0_1 l0_1.length c0_1, .slice A0_2 l0_2.length c0_2, .slice A0_3 l0_3.length c0_3, .int .i64 a0_4] 32 (0, 0)))) (fun i _ => l0_0.length - (intOf i).toNat)
          case atStart => exact ⟨0, v8, rfl, Nat.zero_le _, ⟨by simpa using HBS8.out⟩, HK8⟩
          case round =>
            clear HBS8 HK8
            obtain ⟨k, v2, rfl, hk, HB, HK⟩ := hrel
            by_cases hlt : k < l0_0.length
            · have hlt' : (k : Int) < (l0_0.length : Int) := by omega
              obtain ⟨ad, rfl, x0, x1, x2, x3, x4⟩ := at_T35 (Kd.C_below HR0.out HB.out.bel) (k : Int) (by omega) (by omega)
              obtain ⟨m, hm⟩ : ∃ m, m = rd_T35 l0_0 (k : Int) := ⟨_, rfl⟩
              rw [← hm, Int.toNat_natCast] at x0 x1 x2 x3 x4
              have hg2 : m = l0_0[k] := by rw [hm, rd_T35, Int.toNat_natCast]; simp [List.getD, hlt]
              have HMS := Aside0.mk (HBD.out m (by rw [hg2]; exact List.getElem_mem hlt))
              have htk : (l0_0.take (k + 1)).flatMap version_Encode.metaF = (l0_0.take k).flatMap version_Encode.metaF ++ version_Encode.metaF m := by rw [List.take_succ_eq_append_getElem hlt, List.flatMap_append, hg2]; simp
              have HTK := Aside0.mk htk
              have hln := version_Encode.metas_len (l0_0.take k) (fun x hx => HBD.out x (List.mem_of_mem_take hx))
              rw [List.length_take] at hln
              have hln2 : (version_Encode.flat [(l0_0.length : Int)] ++ (l0_0.take k).flatMap version_Encode.metaF).length ≤ 60000 := by
                have := version_Encode.flat_len [(l0_0.length : Int)]
                simp only [List.length_cons, List.length_nil] at this
                rw [List.length_append]; omega
              have HLN := Aside0.mk hln2
              clear hm hg2 htk hln hln2
              go_upto_region 11 with (first | ((with_reducible refine gate_dst (N := 9) rfl ?_); refine box_event ?hg (N := 9) ?hd (cs := #[.int .i64 0, .int .i64 0, .string (⟨#[]⟩ : ByteArray), .string (⟨#[]⟩ : ByteArray), .int .i64 0]) (t := 35) ?hr ?_; (case hd => rfl); (case hg => rfl); (case hr => first | (go_simp; done) | (go_simp; rfl)); intro gm hgm wm hbox hb; have HBm := Aside0.mk (HB.out.below hb); have HKm := Aside0.mk (blk_below HK.out hb); have HMm := Aside0.mk hbox; have HGM := Aside0.mk (show w.heap.size ≤ gm by rw [hgm]; exact HB.out.bel.size); have HGE := Aside0.mk (show ge ≠ gm from blk_ne HKm.out hbox (by decide)); clear hb hbox hgm HB HK) | ((with_reducible refine gate_store (t := 35) (p := 9) (v := .tmp 59) rfl ?_); refine agg_event rfl 35 (.tmp 9) (.tmp 59) rfl gm rfl #[.int .i64 m.f0, .int .i64 m.f1, .string m.f2, .string m.f3, .int .i64 m.f4] #[.int .i64 0, .int .i64 0, .string (⟨#[]⟩ : ByteArray), .string (⟨#[]⟩ : ByteArray), .int .i64 0] rfl HMm.out (by kernel_rfl) rfl (by simp [Value.oneCell']) ?_; intro wp hst hgr hszz; clear hszz; have HBp := Aside0.mk (HBm.out.store hgr HMm.out HGM.out); have HKp := Aside0.mk (blk_grown HKm.out hgr (fun e => HGE.out (Option.some.inj e))); have HMp := Aside0.mk hst; clear hst hgr x0 x1 x2 x3 x4 HBm HKm HMm))
              have HMG := Aside0.mk (show gm ≠ g from blk_ne HMp.out HBp.out.cell (by decide))
              have hs1 : (version_Encode.flat [m.f0, m.f1]).length ≤ 18 := version_Encode.flat_len [m.f0, m.f1]
              have hs2 : (bytesOf (version_Encode.textB m.f2)).length ≤ 89 := by rw [bytesOf_length]; have := version_Encode.text_size m.f2; have := HMS.out.1; omega
              have hs3 : (bytesOf (version_Encode.textB m.f3)).length ≤ 89 := by rw [bytesOf_length]; have := version_Encode.text_size m.f3; have := HMS.out.2; omega
              have m0 := (blk_cell HMp.out 0).trans rfl
              have m1 := (blk_cell HMp.out 1).trans rfl
              go_wp2_with fail
              refine (version_Encode.lit_ w wp g _ _ [m.f0, m.f1] HBp.out (by show (2 : Nat) ≤ 1000; decide) (by have := HLN.out; simp only [List.length_append] at *; omega)).mono ?_
              rintro e wa ⟨rfl, va, hb_, hk_⟩
              have HBa := Aside0.mk hb_
              have HKa := Aside0.mk (hk_ _ _ _ HNE.out (by decide) HKp.out)
              have HMa := Aside0.mk (hk_ _ _ _ HMG.out (by decide) HMp.out)
              clear hb_ hk_ m0 m1
              have m2 := (blk_cell HMa.out 2).trans rfl
              go_wp2_with fail
              refine (version_Encode.text_ w wa g va _ m.f2 HBa.out (by have := HMS.out.1; omega) (by have := HLN.out; simp only [List.length_append] at *; omega)).mono ?_
              rintro e wb ⟨rfl, vb, hb_, hk_⟩
              have HBb := Aside0.mk hb_
              have HKb := Aside0.mk (hk_ _ _ _ HNE.out (by decide) HKa.out)
              have HMb := Aside0.mk (hk_ _ _ _ HMG.out (by decide) HMa.out)
              clear hb_ hk_ m2
              have m3 := (blk_cell HMb.out 3).trans rfl
              go_wp2_with fail
              refine (version_Encode.text_ w wb g vb _ m.f3 HBb.out (by have := HMS.out.2; omega) (by have := HLN.out; simp only [List.length_append] at *; omega)).mono ?_
              rintro e wd ⟨rfl, vd, hb_, hk_⟩
              have HBd := Aside0.mk hb_
              have HKd := Aside0.mk (hk_ _ _ _ HNE.out (by decide) HKb.out)
              have HMd := Aside0.mk (hk_ _ _ _ HMG.out (by decide) HMb.out)
              clear hb_ hk_ m3
              have m4 := (blk_cell HMd.out 4).trans rfl
              go_wp2_with fail
              refine (version_Encode.lit_ w wd g vd _ [m.f4] HBd.out (by show (1 : Nat) ≤ 1000; decide) (by have := HLN.out; simp only [List.length_append] at *; omega)).mono ?_
              rintro e we ⟨rfl, ve, hb_, hk_⟩
              have HBe := Aside0.mk hb_
              have HKe := Aside0.mk (hk_ _ _ _ HNE.out (by decide) HKd.out)
              have HMe := Aside0.mk (hk_ _ _ _ HMG.out (by decide) HMd.out)
              clear hb_ hk_ m4
              go_wp2_with fail
              refine ⟨⟨k + 1, ve, by go_num, by omega, ⟨?_⟩, HKe⟩, by simp only [intOf]; omega⟩
              have h9 := HBe.out
              simp only [List.append_assoc] at h9
              rw [HTK.out]
              simp only [version_Encode.metaF, List.append_assoc]
              exact h9
            · obtain rfl : k = l0_0.length := by omega
              have hln := version_Encode.metas_len l0_0 HBD.out
              have hln2 : (version_Encode.flat [(l0_0.length : Int)] ++ l0_0.flatMap version_Encode.metaF).length ≤ 60000 := by
                have := version_Encode.flat_len [(l0_0.length : Int)]
                simp only [List.length_cons, List.length_nil] at this
                rw [List.length_append]; omega
              have HLN := Aside0.mk hln2
              have hbs := HB.out
              rw [List.take_length] at hbs
              have HBS := Aside0.mk hbs
              clear hln hln2 hbs HB
              have e1 := (blk_cell HK.out 1).trans rfl
              have e2 := (blk_cell HK.out 2).trans rfl
              have e3 := (blk_cell HK.out 3).trans rfl
              go_upto_region 17 with fail
              have HBS9 := Aside0.mk (HBS.out.below (below_alloc (Below.refl _ _) (.cells #[.slice A0_1 l0_1.length c0_1, .slice A0_2 l0_2.length c0_2, .slice A0_3 l0_3.length c0_3] 23)))
              have HK9 := Aside0.mk (blk_alloc HK.out (.cells #[.slice A0_1 l0_1.length c0_1, .slice A0_2 l0_2.length c0_2, .slice A0_3 l0_3.length c0_3] 23))
              have HK39 := Aside0.mk (blk_new wr (.cells #[.slice A0_1 l0_1.length c0_1, .slice A0_2 l0_2.length c0_2, .slice A0_3 l0_3.length c0_3] 23))
              have hb3 : g < wr.heap.size := blk_lt HBS.out.cell
              obtain ⟨b3, hb3e⟩ : ∃ b3, b3 = wr.heap.size := ⟨_, rfl⟩
              obtain ⟨w9, hw9⟩ : ∃ w9, w9 = wr.alloc (.cells #[.slice A0_1 l0_1.length c0_1, .slice A0_2 l0_2.length c0_2, .slice A0_3 l0_3.length c0_3] 23) := ⟨_, rfl⟩
              rw [← hb3e] at hb3
              rw [← hw9] at HBS9 HK9 HK39
              rw [← hb3e] at HK39
              rw [← hw9, ← hb3e]
              have HN3 := Aside0.mk (show b3 ≠ g by omega)
              have HSZ := Aside0.mk (show (version_Encode.flat [(l0_0.length : Int)] ++ l0_0.flatMap version_Encode.metaF).length + ((version_Encode.rowF l0_1).length + ((version_Encode.rowF l0_2).length + (version_Encode.rowF l0_3).length)) ≤ 100000 by
                have := HLN.out
                have := HFL.out
                have := version_Encode.rowF_len l0_1
                have := version_Encode.rowF_len l0_2
                have := version_Encode.rowF_len l0_3
                omega)
              clear hb3 hb3e hw9 HBS HK e1 e2 e3
              go_loopw [89] (fun i wq => ∃ (j : Nat) (v2 : Value), i = .int .i64 j ∧ j ≤ 3 ∧ Aside0 (version_Encode.BS w wq g v2 ((version_Encode.flat [(l0_0.length : Int)] ++ l0_0.flatMap version_Encode.metaF) ++ version_Encode.rowsF l0_1 l0_2 l0_3 j)) ∧ Aside0 (wq.heap[ge]? = some (.cells #[.slice A0_0 l0_0.length c0_0, .slice A0_1 l0_1.length c0_1, .slice A0_2 l0_2.length c0_2, .slice A0_3 l0_3.length c0_3, .int .i64 a0_4] 32 (0, 0))) ∧ Aside0 (wq.heap[b3]? = some (.cells #[.slice A0_1 l0_1.length c0_1, .slice A0_2 l0_2.length c0_2, .slice A0_3 l0_3.length c0_3] 23 (0, 0)))) (fun i _ => 3 - (intOf i).toNat)
              case atStart => exact ⟨0, _, rfl, by omega, ⟨by simpa [version_Encode.rowsF] using HBS9.out⟩, HK9, HK39⟩
              case round =>
                clear HBS9 HK9 HK39
                obtain ⟨j, v2, rfl, hj, HB, HK, HK3⟩ := hrel
                rcases (by omega : j = 0 ∨ j = 1 ∨ j = 2 ∨ j = 3) with rfl | rfl | rfl | rfl
                · have cj := (blk_cell HK3.out 0).trans rfl
                  go_wp2_with fail
                  refine (version_Encode.lit_ w _ g _ _ [(l0_1.length : Int)] HB.out (by show (1 : Nat) ≤ 1000; decide) (by have := HSZ.out; simp only [List.length_append, version_Encode.rowsF, List.length_nil] at *; omega)).mono ?_
                  rintro e wa ⟨rfl, va, hb_, hk_⟩
                  have HBa := Aside0.mk hb_
                  have HKa := Aside0.mk (hk_ _ _ _ HNE.out (by decide) HK.out)
                  have HKb := Aside0.mk (hk_ _ _ _ HN3.out (by decide) HK3.out)
                  clear hb_ hk_ cj
                  go_wp2_with fail
                  refine (version_Encode.nums_ w wa g va _ A0_1 l0_1.length c0_1 l0_1 HBa.out (fun W2 hk hb => Kd.C_below HR1.out hb) (by have := HSZ.out; have := HFL.out; have := version_Encode.flat_len [(l0_1.length : Int)]; simp only [List.length_append, version_Encode.rowsF, List.length_nil, List.length_cons] at *; omega)).mono ?_
                  rintro e wb ⟨rfl, vb, hb_, hk_⟩
                  have HBb := Aside0.mk hb_
                  have HKc := Aside0.mk (hk_ _ _ _ HNE.out (by decide) HKa.out)
                  have HKd := Aside0.mk (hk_ _ _ _ HN3.out (by decide) HKb.out)
                  clear hb_ hk_
                  go_wp2_with fail
                  refine ⟨⟨1, vb, by simp, by omega, ⟨?_⟩, HKc, HKd⟩, by simp [intOf]⟩
                  have h9 := HBb.out
                  simp only [List.append_assoc, version_Encode.rowsF, version_Encode.rowF, List.nil_append] at h9 ⊢
                  exact h9
                · have cj := (blk_cell HK3.out 1).trans rfl
                  go_wp2_with fail
                  refine (version_Encode.lit_ w _ g _ _ [(l0_2.length : Int)] HB.out (by show (1 : Nat) ≤ 1000; decide) (by have := HSZ.out; simp only [List.length_append, version_Encode.rowsF, List.length_nil] at *; omega)).mono ?_
                  rintro e wa ⟨rfl, va, hb_, hk_⟩
                  have HBa := Aside0.mk hb_
                  have HKa := Aside0.mk (hk_ _ _ _ HNE.out (by decide) HK.out)
                  have HKb := Aside0.mk (hk_ _ _ _ HN3.out (by decide) HK3.out)
                  clear hb_ hk_ cj
                  go_wp2_with fail
                  refine (version_Encode.nums_ w wa g va _ A0_2 l0_2.length c0_2 l0_2 HBa.out (fun W2 hk hb => Kd.C_below HR2.out hb) (by have := HSZ.out; have := HFL.out; have := version_Encode.flat_len [(l0_2.length : Int)]; simp only [List.length_append, version_Encode.rowsF, List.length_nil, List.length_cons] at *; omega)).mono ?_
                  rintro e wb ⟨rfl, vb, hb_, hk_⟩
                  have HBb := Aside0.mk hb_
                  have HKc := Aside0.mk (hk_ _ _ _ HNE.out (by decide) HKa.out)
                  have HKd := Aside0.mk (hk_ _ _ _ HN3.out (by decide) HKb.out)
                  clear hb_ hk_
                  go_wp2_with fail
                  refine ⟨⟨2, vb, by simp, by omega, ⟨?_⟩, HKc, HKd⟩, by simp [intOf]⟩
                  have h9 := HBb.out
                  simp only [List.append_assoc, version_Encode.rowsF, version_Encode.rowF, List.nil_append] at h9 ⊢
                  exact h9
                · have cj := (blk_cell HK3.out 2).trans rfl
                  go_wp2_with fail
                  refine (version_Encode.lit_ w _ g _ _ [(l0_3.length : Int)] HB.out (by show (1 : Nat) ≤ 1000; decide) (by have := HSZ.out; simp only [List.length_append, version_Encode.rowsF, List.length_nil] at *; omega)).mono ?_
                  rintro e wa ⟨rfl, va, hb_, hk_⟩
                  have HBa := Aside0.mk hb_
                  have HKa := Aside0.mk (hk_ _ _ _ HNE.out (by decide) HK.out)
                  have HKb := Aside0.mk (hk_ _ _ _ HN3.out (by decide) HK3.out)
                  clear hb_ hk_ cj
                  go_wp2_with fail
                  refine (version_Encode.nums_ w wa g va _ A0_3 l0_3.length c0_3 l0_3 HBa.out (fun W2 hk hb => Kd.C_below HR3.out hb) (by have := HSZ.out; have := HFL.out; have := version_Encode.flat_len [(l0_3.length : Int)]; simp only [List.length_append, version_Encode.rowsF, List.length_nil, List.length_cons] at *; omega)).mono ?_
                  rintro e wb ⟨rfl, vb, hb_, hk_⟩
                  have HBb := Aside0.mk hb_
                  have HKc := Aside0.mk (hk_ _ _ _ HNE.out (by decide) HKa.out)
                  have HKd := Aside0.mk (hk_ _ _ _ HN3.out (by decide) HKb.out)
                  clear hb_ hk_
                  go_wp2_with fail
                  refine ⟨⟨3, vb, by simp, by omega, ⟨?_⟩, HKc, HKd⟩, by simp [intOf]⟩
                  have h9 := HBb.out
                  simp only [List.append_assoc, version_Encode.rowsF, version_Encode.rowF, List.nil_append] at h9 ⊢
                  exact h9
                · have e4 := (blk_cell HK.out 4).trans rfl
                  go_wp2_with fail
                  refine (version_Encode.lit_ w _ g _ _ [a0_4] HB.out (by show (1 : Nat) ≤ 1000; decide) (by have := HSZ.out; simp only [List.length_append, version_Encode.rowsF] at *; omega)).mono ?_
                  rintro e wz ⟨rfl, vz, hbz, hkz⟩
                  have HBz := Aside0.mk hbz
                  clear hbz hkz e4
                  have c0 := (blk_cell HBz.out.cell 0).trans rfl
                  have hcv := own_string (P := Try.prog) Try.underlying74 Try.underlying5 Try.underlying9 (Kd.own_of_R HBz.out.row)
                  go_wp2_with fail
                  go_ret2
                  refine ⟨?_, HBz.out.bel⟩
                  rw [← HQ.out]
                  simp only [version_Encode.all, version_Encode.rowsF, List.append_assoc]
                  rfl
      · have hl' : (l0_0.length : Int) > 200 := by omega
        have hq := HH.out
        rw [if_neg (by simp [version_Encode.good, hl])] at hq
        obtain ⟨rfl, rfl⟩ := Prod.mk.inj hq
        clear hq
        go_wp2_with fail
        go_ret2
        exact ⟨rfl, HB.out⟩


end Go.Proofs.Ytokimlfagpddlaa.PD

-- printed by gprint.py (own tool) over the kit's print
namespace Go.Proofs.Ytokimlfagpddlaa.PD
open Go.RowKit Go.Proofs.Ytokimlfagpddlaa Go.Proofs.YtokimlfagpddlaaW.PrintWords Go.Proofs.YtokimlfagpddlaaW.PrintLast Go.Proofs.YtokimlfagpddlaaW.PrintMore
attribute [local go_sem] max2_int min2_int max_two min_two max_three min_three max_four min_four   -- for this text's walks alone
set_option linter.unnecessarySimpa false
attribute [local go_sem] min2_str max2_str leq_str gtr_str geq_str
set_option linter.unusedVariables false
set_option linter.unusedSimpArgs false

/-! ### version_Decode: function 19 -/
/-- But for two variables, all stays. -/
structure version_Decode.K2 (W W' : World) (gb gr : Nat) : Prop where
  size : W.heap.size ≤ W'.heap.size
  keep : ∀ k, k < W.heap.size → k ≠ gb → k ≠ gr → W'.heap[k]? = W.heap[k]?
  low : ∀ w0 : World, Below w0.heap.size w0 W → w0.heap.size ≤ gb → w0.heap.size ≤ gr → Below w0.heap.size w0 W'
theorem version_Decode.K2.refl (W : World) (gb gr : Nat) : version_Decode.K2 W W gb gr := ⟨Nat.le_refl _, fun _ _ _ _ => rfl, fun _ h _ _ => h⟩
theorem version_Decode.K2.trans {A B C : World} {gb gr : Nat} (h : version_Decode.K2 A B gb gr) (k : version_Decode.K2 B C gb gr) : version_Decode.K2 A C gb gr := ⟨Nat.le_trans h.size k.size, fun i h1 h2 h3 => (k.keep i (Nat.lt_of_lt_of_le h1 h.size) h2 h3).trans (h.keep i h1 h2 h3), fun w0 h1 h2 h3 => k.low w0 (h.low w0 h1 h2 h3) h2 h3⟩
theorem version_Decode.K2.below {A B : World} {gb gr : Nat} (h : Below A.heap.size A B) : version_Decode.K2 A B gb gr := ⟨h.size, fun i h1 _ _ => h.block i h1, fun w0 h1 _ _ => below_step h1 h⟩
theorem version_Decode.K2.setR {A : World} {gb gr : Nat} (v : Value) : version_Decode.K2 A (A.setCell ⟨gr, 0, none⟩ v) gb gr := ⟨by simp [World.setCell], fun i _ _ h3 => Below.heap_setCell A ⟨gr, 0, none⟩ v i h3, fun w0 h1 _ h3 => below_set h1 h3⟩
theorem version_Decode.K2.setB {A : World} {gb gr : Nat} (v : Value) : version_Decode.K2 A (A.setCell ⟨gb, 0, none⟩ v) gb gr := ⟨by simp [World.setCell], fun i _ h2 _ => Below.heap_setCell A ⟨gb, 0, none⟩ v i h2, fun w0 h1 h2 _ => below_set h1 h2⟩
theorem version_Decode.K2.blk {A B : World} {gb gr g : Nat} {o : Obj} (h : version_Decode.K2 A B gb gr) (hg : A.heap[g]? = some o) (h1 : g ≠ gb) (h2 : g ≠ gr) : B.heap[g]? = some o := (h.keep g (blk_lt hg) h1 h2).trans hg
/-- Rows of tables or numbers stay. -/
theorem version_Decode.K2.metas {A B : World} {gb gr base : Nat} {ok : Nat → Prop} {v : Value} {xs : List S35} {cb cr : Array Value} (h : version_Decode.K2 A B gb gr) (hb : A.heap[gb]? = some (.cells cb 4 (0, 0))) (hr : A.heap[gr]? = some (.cells cr 9 (0, 0))) (hR : Kd.R k35 35 A base ok v xs) : Kd.R k35 35 B base ok v xs :=
  Kd.R_mono (Kd.R_step (Kd.R_types (Kd.R_types hR hb (by decide)) hr (by decide)) (fun k hk hlt => h.keep k hlt hk.1.2 hk.2)) (fun _ hk => hk.1.1)
theorem version_Decode.K2.ints {A B : World} {gb gr base : Nat} {ok : Nat → Prop} {v : Value} {xs : List Int} {cb cr : Array Value} (h : version_Decode.K2 A B gb gr) (hb : A.heap[gb]? = some (.cells cb 4 (0, 0))) (hr : A.heap[gr]? = some (.cells cr 9 (0, 0))) (hR : Kd.R (Kd.int .i64) 3 A base ok v xs) : Kd.R (Kd.int .i64) 3 B base ok v xs :=
  Kd.R_mono (Kd.R_step (Kd.R_types (Kd.R_types hR hb (by decide)) hr (by decide)) (fun k hk hlt => h.keep k hlt hk.1.2 hk.2)) (fun _ hk => hk.1.1)
def version_Decode.rN (s : ByteArray) (b : Bool) : Int × ByteArray × Bool := if b = true then (0, s, true) else ((pack_ReadNum.tell s).1, (pack_ReadNum.tell s).2.1, (pack_ReadNum.tell s).2.2.isSome)
set_option maxHeartbeats 1000000 in
set_option maxRecDepth 100000 in
theorem version_Decode.rN_ (W : World) (gb gr : Nat) (s : ByteArray) (b : Bool) (hb : W.heap[gb]? = some (.cells #[.bool b] 4 (0, 0))) (hr : W.heap[gr]? = some (.cells #[.string s] 9 (0, 0))) :
    Calls Try.prog 50 #[.pointer (some ⟨gb, 0, none⟩), .pointer (some ⟨gr, 0, none⟩)] W fun e W' => e = .returned (.int .i64 (version_Decode.rN s b).1) ∧ W'.heap[gr]? = some (.cells #[.string (version_Decode.rN s b).2.1] 9 (0, 0)) ∧ W'.heap[gb]? = some (.cells #[.bool (version_Decode.rN s b).2.2] 4 (0, 0)) ∧ version_Decode.K2 W W' gb gr := by
  have HB := Aside0.mk hb
  have HR := Aside0.mk hr
  have hne : gb ≠ gr := blk_ne hb hr (by decide)
  have HNE := Aside0.mk hne
  have c0 := (blk_cell hb 0).trans rfl
  clear hb hr hne
  cases b with
  | true =>
    go_enter Try.func50, Try.ntmps50
    go_wp2
    go_ret
    exact ⟨rfl, HR.out, HB.out, version_Decode.K2.refl _ _ _⟩
  | false =>
    have c1 := (blk_cell HR.out 0).trans rfl
    go_enter Try.func50, Try.ntmps50
    go_wp2_with fail
    refine (pack_ReadNum.calls s _ _ _ W (show pack_ReadNum.f s = some ((pack_ReadNum.tell s).1, (pack_ReadNum.tell s).2.1, (pack_ReadNum.tell s).2.2) from rfl)).mono ?_
    rintro e w2 ⟨rfl, hb2⟩
    have HB2 := Aside0.mk (blk_below HB.out hb2)
    have HR2 := Aside0.mk (blk_below HR.out hb2)
    have HK2 := Aside0.mk (version_Decode.K2.below (gb := gb) (gr := gr) hb2)
    clear hb2 c0 c1
    obtain ⟨n, hn⟩ : ∃ n, n = (pack_ReadNum.tell s).1 := ⟨_, rfl⟩
    obtain ⟨y, hy⟩ : ∃ y, y = (pack_ReadNum.tell s).2.1 := ⟨_, rfl⟩
    obtain ⟨er, her⟩ : ∃ er, er = (pack_ReadNum.tell s).2.2 := ⟨_, rfl⟩
    have hres : version_Decode.rN s false = (n, y, er.isSome) := by unfold version_Decode.rN; rw [if_neg (by decide), hn, hy, her]
    rw [← hn, ← hy, ← her]
    have HRES := Aside0.mk hres
    have c2 := (blk_cell HR2.out 0).trans rfl
    have c3 := (blk_cell HB2.out 0).trans rfl
    have f2 := blk_frozen HR2.out 0
    have f3 := blk_frozen HB2.out 0
    have HR3 := Aside0.mk (blk_put HR2.out 0 (.string y) rfl)
    have HB3 := Aside0.mk (blk_far (p := ⟨gr, 0, none⟩) HB2.out HNE.out (.string y))
    have c4 := (blk_cell HB3.out 0).trans rfl
    have f4 := blk_frozen HB3.out 0
    clear hn hy her hres
    cases er with
    | none =>
      rw [errW_none]
      go_wp2_with fail
      go_ret
      rw [HRES.out]
      exact ⟨rfl, blk_far (p := ⟨gb, 0, none⟩) HR3.out HNE.out.symm _, blk_put HB3.out 0 _ rfl, HK2.out.trans ((version_Decode.K2.setR _).trans (version_Decode.K2.setB _))⟩
    | some c =>
      rw [errW_some]
      go_wp2_with fail
      go_ret
      rw [HRES.out]
      exact ⟨rfl, blk_far (p := ⟨gb, 0, none⟩) HR3.out HNE.out.symm _, blk_put HB3.out 0 _ rfl, HK2.out.trans ((version_Decode.K2.setR _).trans (version_Decode.K2.setB _))⟩
theorem version_Decode.num_nonneg (l : List Int) (h : ∀ x ∈ l, 0 ≤ x) : 0 ≤ pack_ReadNum.num l := by
  have : ∀ (l : List Int) (a : Int), 0 ≤ a → (∀ x ∈ l, 0 ≤ x) → 0 ≤ l.foldl (fun a c => a * 256 + c) a := by
    intro l
    induction l with
    | nil => intro a h _; exact h
    | cons x l ih =>
      intro a h0 h
      rw [List.foldl_cons]
      have := h x (by simp)
      exact ih _ (by omega) (fun y hy => h y (List.mem_cons_of_mem _ hy))
  exact this l 0 (Int.le_refl _) h
theorem version_Decode.tell_nonneg (s : ByteArray) : 0 ≤ (pack_ReadNum.tell s).1 := by
  unfold pack_ReadNum.tell
  repeat' split
  all_goals first | exact Int.le_refl 0 | skip
  refine version_Decode.num_nonneg _ (fun x hx => ?_)
  have hx2 := List.mem_of_mem_drop (List.mem_of_mem_take hx)
  unfold bytesOf at hx2
  obtain ⟨u, _, rfl⟩ := List.mem_map.1 hx2
  exact Int.natCast_nonneg _
def version_Decode.tellT (s : ByteArray) : ByteArray × ByteArray × Option Int := (pack_ReadText.f s).getD (⟨#[]⟩, ⟨#[]⟩, some 2)
theorem version_Decode.tellT_f (s : ByteArray) : pack_ReadText.f s = some (version_Decode.tellT s) := by
  have h : ∃ x, pack_ReadText.f s = some x := by
    unfold pack_ReadText.f pack_ReadNum.f
    rw [Option.bind_some]
    have h0 := version_Decode.tell_nonneg s
    repeat' split
    all_goals first | exact ⟨_, rfl⟩ | (exfalso; omega)
  obtain ⟨x, hx⟩ := h
  unfold version_Decode.tellT
  rw [hx]
  rfl
def version_Decode.rT (s : ByteArray) (b : Bool) : ByteArray × ByteArray × Bool := if b = true then ((⟨#[]⟩ : ByteArray), s, true) else ((version_Decode.tellT s).1, (version_Decode.tellT s).2.1, (version_Decode.tellT s).2.2.isSome)
set_option maxHeartbeats 1000000 in
set_option maxRecDepth 100000 in
theorem version_Decode.rT_ (W : World) (gb gr : Nat) (s : ByteArray) (b : Bool) (hb : W.heap[gb]? = some (.cells #[.bool b] 4 (0, 0))) (hr : W.heap[gr]? = some (.cells #[.string s] 9 (0, 0))) :
    Calls Try.prog 52 #[.pointer (some ⟨gb, 0, none⟩), .pointer (some ⟨gr, 0, none⟩)] W fun e W' => e = .returned (.string (version_Decode.rT s b).1) ∧ W'.heap[gr]? = some (.cells #[.string (version_Decode.rT s b).2.1] 9 (0, 0)) ∧ W'.heap[gb]? = some (.cells #[.bool (version_Decode.rT s b).2.2] 4 (0, 0)) ∧ version_Decode.K2 W W' gb gr := by
  have HB := Aside0.mk hb
  have HR := Aside0.mk hr
  have hne : gb ≠ gr := blk_ne hb hr (by decide)
  have HNE := Aside0.mk hne
  have c0 := (blk_cell hb 0).trans rfl
  clear hb hr hne
  cases b with
  | true =>
    go_enter Try.func52, Try.ntmps52
    go_wp2
    go_ret
    exact ⟨rfl, HR.out, HB.out, version_Decode.K2.refl _ _ _⟩
  | false =>
    have c1 := (blk_cell HR.out 0).trans rfl
    go_enter Try.func52, Try.ntmps52
    go_wp2_with fail
    refine (pack_ReadText.calls s _ _ _ W (show pack_ReadText.f s = some ((version_Decode.tellT s).1, (version_Decode.tellT s).2.1, (version_Decode.tellT s).2.2) from version_Decode.tellT_f s)).mono ?_
    rintro e w2 ⟨rfl, hb2⟩
    have HB2 := Aside0.mk (blk_below HB.out hb2)
    have HR2 := Aside0.mk (blk_below HR.out hb2)
    have HK2 := Aside0.mk (version_Decode.K2.below (gb := gb) (gr := gr) hb2)
    clear hb2 c0 c1
    obtain ⟨n, hn⟩ : ∃ n, n = (version_Decode.tellT s).1 := ⟨_, rfl⟩
    obtain ⟨y, hy⟩ : ∃ y, y = (version_Decode.tellT s).2.1 := ⟨_, rfl⟩
    obtain ⟨er, her⟩ : ∃ er, er = (version_Decode.tellT s).2.2 := ⟨_, rfl⟩
    have hres : version_Decode.rT s false = (n, y, er.isSome) := by unfold version_Decode.rT; rw [if_neg (by decide), hn, hy, her]
    rw [← hn, ← hy, ← her]
    have HRES := Aside0.mk hres
    have c2 := (blk_cell HR2.out 0).trans rfl
    have c3 := (blk_cell HB2.out 0).trans rfl
    have f2 := blk_frozen HR2.out 0
    have f3 := blk_frozen HB2.out 0
    have HR3 := Aside0.mk (blk_put HR2.out 0 (.string y) rfl)
    have HB3 := Aside0.mk (blk_far (p := ⟨gr, 0, none⟩) HB2.out HNE.out (.string y))
    have c4 := (blk_cell HB3.out 0).trans rfl
    have f4 := blk_frozen HB3.out 0
    clear hn hy her hres
    cases er with
    | none =>
      rw [errW_none]
      go_wp2_with fail
      go_ret
      rw [HRES.out]
      exact ⟨rfl, blk_far (p := ⟨gb, 0, none⟩) HR3.out HNE.out.symm _, blk_put HB3.out 0 _ rfl, HK2.out.trans ((version_Decode.K2.setR _).trans (version_Decode.K2.setB _))⟩
    | some c =>
      rw [errW_some]
      go_wp2_with fail
      go_ret
      rw [HRES.out]
      exact ⟨rfl, blk_far (p := ⟨gb, 0, none⟩) HR3.out HNE.out.symm _, blk_put HB3.out 0 _ rfl, HK2.out.trans ((version_Decode.K2.setR _).trans (version_Decode.K2.setB _))⟩
/-- What is left of the text, and whether it was none. -/
abbrev version_Decode.S := ByteArray × Bool
def version_Decode.gN (t : version_Decode.S) : Int × version_Decode.S := ((version_Decode.rN t.1 t.2).1, ((version_Decode.rN t.1 t.2).2.1, (version_Decode.rN t.1 t.2).2.2))
def version_Decode.gT (t : version_Decode.S) : ByteArray × version_Decode.S := ((version_Decode.rT t.1 t.2).1, ((version_Decode.rT t.1 t.2).2.1, (version_Decode.rT t.1 t.2).2.2))
def version_Decode.gM (t : version_Decode.S) : S35 × version_Decode.S :=
  let a := version_Decode.gN t; let b := version_Decode.gN a.2; let c := version_Decode.gT b.2; let d := version_Decode.gT c.2; let e := version_Decode.gN d.2
  (⟨a.1, b.1, c.1, d.1, e.1⟩, e.2)
def version_Decode.tabs : Nat → version_Decode.S → List S35 → List S35 × version_Decode.S
  | 0, t, l => (l, t)
  | k + 1, t, l => if t.2 = true then (l, t) else version_Decode.tabs k (version_Decode.gM t).2 (l ++ [(version_Decode.gM t).1])
def version_Decode.ints : Nat → version_Decode.S → List Int → List Int × version_Decode.S
  | 0, t, l => (l, t)
  | k + 1, t, l => if t.2 = true then (l, t) else version_Decode.ints k (version_Decode.gN t).2 (l ++ [(version_Decode.gN t).1])
def version_Decode.row (t : version_Decode.S) : List Int × version_Decode.S := version_Decode.ints (version_Decode.gN t).1.toNat (version_Decode.gN t).2 []
def version_Decode.tellE (s : ByteArray) : (List S35 × List Int × List Int × List Int × Int) × Bool :=
  let n := version_Decode.gN (s, false); let a := version_Decode.tabs n.1.toNat n.2 []; let d := version_Decode.row a.2; let g := version_Decode.row d.2; let h := version_Decode.row g.2; let q := version_Decode.gN h.2
  ((a.1, d.1, g.1, h.1, q.1), q.2.2)
theorem version_Decode.read_size (s : ByteArray) : (pack_ReadNum.tell s).2.1.size ≤ s.size := by
  unfold pack_ReadNum.tell
  repeat' split
  all_goals first | (show 0 ≤ _; omega) | (show (ByteArray.extract _ _ _).size ≤ _; rw [ByteArray.size_extract]; omega)
theorem version_Decode.gN_size (t : version_Decode.S) : (version_Decode.gN t).2.1.size ≤ t.1.size := by
  unfold version_Decode.gN version_Decode.rN
  split
  · exact Nat.le_refl _
  · exact version_Decode.read_size t.1
/-- Decode's variables: what is left, whether it was none, the edit so far, the result's place. -/
structure version_Decode.DS (w0 W : World) (g2 gr gb ge : Nat) (t : version_Decode.S) (v0 v1 v2 v3 : Value) (L : List S35) (D G H : List Int) (q : Int) : Prop where
  hr : W.heap[gr]? = some (.cells #[.string t.1] 9 (0, 0))
  hb : W.heap[gb]? = some (.cells #[.bool t.2] 4 (0, 0))
  he : W.heap[ge]? = some (.cells #[v0, v1, v2, v3, .int .i64 q] 32 (0, 0))
  h2 : W.heap[g2]? = some (.cells #[.slice none 0 0, .slice none 0 0, .slice none 0 0, .slice none 0 0, .int .i64 0] 32 (0, 0))
  ne : g2 ≠ ge
  r0 : Kd.R k35 35 W w0.heap.size (fun _ => True) v0 L
  r1 : Kd.R (Kd.int .i64) 3 W w0.heap.size (fun k => some k ≠ v2.ownBlock ∧ some k ≠ v3.ownBlock) v1 D
  r2 : Kd.R (Kd.int .i64) 3 W w0.heap.size (fun k => some k ≠ v1.ownBlock ∧ some k ≠ v3.ownBlock) v2 G
  r3 : Kd.R (Kd.int .i64) 3 W w0.heap.size (fun k => some k ≠ v1.ownBlock ∧ some k ≠ v2.ownBlock) v3 H
  low : Below w0.heap.size w0 W
  br : w0.heap.size ≤ gr
  bb : w0.heap.size ≤ gb
  be : w0.heap.size ≤ ge
  b2 : w0.heap.size ≤ g2
theorem version_Decode.DS.k2 {w0 W W' : World} {g2 gr gb ge : Nat} {t t' : version_Decode.S} {v0 v1 v2 v3 : Value} {L : List S35} {D G H : List Int} {q : Int} (h : version_Decode.DS w0 W g2 gr gb ge t v0 v1 v2 v3 L D G H q) (k : version_Decode.K2 W W' gb gr)
    (hr : W'.heap[gr]? = some (.cells #[.string t'.1] 9 (0, 0))) (hb : W'.heap[gb]? = some (.cells #[.bool t'.2] 4 (0, 0))) : version_Decode.DS w0 W' g2 gr gb ge t' v0 v1 v2 v3 L D G H q :=
  ⟨hr, hb, k.blk h.he (blk_ne h.he h.hb (by decide)) (blk_ne h.he h.hr (by decide)), k.blk h.h2 (blk_ne h.h2 h.hb (by decide)) (blk_ne h.h2 h.hr (by decide)), h.ne, k.metas h.hb h.hr h.r0, k.ints h.hb h.hr h.r1, k.ints h.hb h.hr h.r2, k.ints h.hb h.hr h.r3, k.low w0 h.low h.bb h.br, h.br, h.bb, h.be, h.b2⟩
theorem version_Decode.DS.below {w0 W W' : World} {g2 gr gb ge : Nat} {t : version_Decode.S} {v0 v1 v2 v3 : Value} {L : List S35} {D G H : List Int} {q : Int} (h : version_Decode.DS w0 W g2 gr gb ge t v0 v1 v2 v3 L D G H q) (k : Below W.heap.size W W') : version_Decode.DS w0 W' g2 gr gb ge t v0 v1 v2 v3 L D G H q :=
  h.k2 (version_Decode.K2.below k) (blk_below h.hr k) (blk_below h.hb k)
/-- A number read in that state. -/
theorem version_Decode.DS.num_ {w0 W : World} {g2 gr gb ge : Nat} {t : version_Decode.S} {v0 v1 v2 v3 : Value} {L : List S35} {D G H : List Int} {q : Int} (h : version_Decode.DS w0 W g2 gr gb ge t v0 v1 v2 v3 L D G H q) :
    Calls Try.prog 50 #[.pointer (some ⟨gb, 0, none⟩), .pointer (some ⟨gr, 0, none⟩)] W fun e W' => e = .returned (.int .i64 (version_Decode.gN t).1) ∧ version_Decode.DS w0 W' g2 gr gb ge (version_Decode.gN t).2 v0 v1 v2 v3 L D G H q ∧ version_Decode.K2 W W' gb gr :=
  (version_Decode.rN_ W gb gr t.1 t.2 h.hb h.hr).mono fun e W' ⟨he, h1, h2, h3⟩ => ⟨he, h.k2 h3 h1 h2, h3⟩
theorem version_Decode.DS.text_ {w0 W : World} {g2 gr gb ge : Nat} {t : version_Decode.S} {v0 v1 v2 v3 : Value} {L : List S35} {D G H : List Int} {q : Int} (h : version_Decode.DS w0 W g2 gr gb ge t v0 v1 v2 v3 L D G H q) :
    Calls Try.prog 52 #[.pointer (some ⟨gb, 0, none⟩), .pointer (some ⟨gr, 0, none⟩)] W fun e W' => e = .returned (.string (version_Decode.gT t).1) ∧ version_Decode.DS w0 W' g2 gr gb ge (version_Decode.gT t).2 v0 v1 v2 v3 L D G H q ∧ version_Decode.K2 W W' gb gr :=
  (version_Decode.rT_ W gb gr t.1 t.2 h.hb h.hr).mono fun e W' ⟨he, h1, h2, h3⟩ => ⟨he, h.k2 h3 h1 h2, h3⟩
/-- Decode's variables, just made. -/
theorem version_Decode.DS.begin (w : World) (s0 : ByteArray) : ∃ g2 gr gb ge, g2 = w.heap.size ∧ gr = w.heap.size + 1 ∧ gb = w.heap.size + 1 + 1 ∧ ge = w.heap.size + 1 + 1 + 1 ∧
    version_Decode.DS w ((((w.alloc (.cells #[.slice none 0 0, .slice none 0 0, .slice none 0 0, .slice none 0 0, .int .i64 0] 32)).alloc (.cells #[.string s0] 9)).alloc (.cells #[.bool false] 4)).alloc (.cells #[.slice none 0 0, .slice none 0 0, .slice none 0 0, .slice none 0 0, .int .i64 0] 32))
      g2 gr gb ge (s0, false) (.slice none 0 0) (.slice none 0 0) (.slice none 0 0) (.slice none 0 0) [] [] [] [] 0 := by
  obtain ⟨w1, h1⟩ : ∃ w1, w1 = w.alloc (.cells #[.slice none 0 0, .slice none 0 0, .slice none 0 0, .slice none 0 0, .int .i64 0] 32) := ⟨_, rfl⟩
  have s1 : w1.heap.size = w.heap.size + 1 := by rw [h1]; simp
  have b1 : w1.heap[w.heap.size]? = some (.cells #[.slice none 0 0, .slice none 0 0, .slice none 0 0, .slice none 0 0, .int .i64 0] 32 (0, 0)) := by rw [h1]; exact blk_new _ _
  have l1 : Below w.heap.size w w1 := by rw [h1]; exact below_alloc (Below.refl _ _) _
  rw [← h1]
  clear h1
  obtain ⟨w2, h2⟩ : ∃ w2, w2 = w1.alloc (.cells #[.string s0] 9) := ⟨_, rfl⟩
  have s2 : w2.heap.size = w.heap.size + 1 + 1 := by rw [h2]; simp [s1]
  have b2 : w2.heap[w.heap.size + 1]? = some (.cells #[.string s0] 9 (0, 0)) := by rw [h2, ← s1]; exact blk_new _ _
  have b1' := blk_alloc b1 (.cells #[.string s0] 9)
  have l2 := below_alloc l1 (.cells #[.string s0] 9)
  rw [← h2] at b1' l2 ⊢
  clear h2
  obtain ⟨w3, h3⟩ : ∃ w3, w3 = w2.alloc (.cells #[.bool false] 4) := ⟨_, rfl⟩
  have s3 : w3.heap.size = w.heap.size + 1 + 1 + 1 := by rw [h3]; simp [s2]
  have b3 : w3.heap[w.heap.size + 1 + 1]? = some (.cells #[.bool false] 4 (0, 0)) := by rw [h3, ← s2]; exact blk_new _ _
  have b1'' := blk_alloc b1' (.cells #[.bool false] 4)
  have b2' := blk_alloc b2 (.cells #[.bool false] 4)
  have l3 := below_alloc l2 (.cells #[.bool false] 4)
  rw [← h3] at b1'' b2' l3 ⊢
  clear h3
  refine ⟨_, _, _, _, rfl, rfl, rfl, rfl, blk_alloc b2' _, blk_alloc b3 _, by rw [← s3]; exact blk_new _ _, blk_alloc b1'' _, by omega, Kd.R_nil _ _ _ _ _, Kd.R_nil _ _ _ _ _, Kd.R_nil _ _ _ _ _, Kd.R_nil _ _ _ _ _, below_alloc l3 _, by omega, by omega, by omega, by omega⟩
theorem version_Decode.DS.app0_ {w0 W w3 : World} {g2 gr gb ge : Nat} {t : version_Decode.S} {v0 v1 v2 v3 u : Value} {L : List S35} {D G H : List Int} {q : Int} (h : version_Decode.DS w0 W g2 gr gb ge t v0 v1 v2 v3 L D G H q) {l' : List S35} (ho : Kd.R k35 35 w3 w0.heap.size (fun _ => True) u l') (hb : Below w0.heap.size w0 w3) (hg : W.grownBy w3 v0.ownBlock) (hat : u.ownBlock = v0.ownBlock ∨ ∃ b, u.ownBlock = some b ∧ W.heap.size ≤ b) :
    version_Decode.DS w0 (w3.setCell ⟨ge, 0, none⟩ u) g2 gr gb ge t u v1 v2 v3 l' D G H q := by
  have hne : ∀ {g T : Nat} {cs : Array Value}, W.heap[g]? = some (.cells cs T (0, 0)) → 35 ≠ T → w3.heap[g]? = some (.cells cs T (0, 0)) := fun hc ht => blk_grown hc hg (Kd.R_ne h.r0 hc ht)
  have e3 := hne h.he (by decide)
  have fresh : ∀ k, u.ownBlock = some k → v0.ownBlock = some k ∨ W.heap.size ≤ k := fun k hk => by rcases hat with e | ⟨b, e, hbb⟩; exact .inl (e ▸ hk); rw [e] at hk; injection hk with hk; exact .inr (hk ▸ hbb)
  refine ⟨blk_far (hne h.hr (by decide)) (blk_ne h.he h.hr (by decide)).symm _, blk_far (hne h.hb (by decide)) (blk_ne h.he h.hb (by decide)).symm _, blk_put e3 0 _ rfl, blk_far (hne h.h2 (by decide)) h.ne _, h.ne, ?_, ?_, ?_, ?_, below_set hb h.be, h.br, h.bb, h.be, h.b2⟩
  · exact Kd.R_mono (Kd.R_far (p := ⟨ge, 0, none⟩) (Kd.R_types ho e3 (by decide)) (fun _ hk => hk.2) u) (fun _ _ => trivial)
  · exact Kd.R_mono (Kd.R_far (p := ⟨ge, 0, none⟩) (Kd.R_types (Kd.R_grown (Kd.R_apartR h.r1 h.r0 (by decide)) hg (fun _ hk => hk.2)) e3 (by decide)) (fun _ hk => hk.2) u) (fun _ hk => hk.1.1)
  · exact Kd.R_mono (Kd.R_far (p := ⟨ge, 0, none⟩) (Kd.R_types (Kd.R_grown (Kd.R_apartR h.r2 h.r0 (by decide)) hg (fun _ hk => hk.2)) e3 (by decide)) (fun _ hk => hk.2) u) (fun _ hk => hk.1.1)
  · exact Kd.R_mono (Kd.R_far (p := ⟨ge, 0, none⟩) (Kd.R_types (Kd.R_grown (Kd.R_apartR h.r3 h.r0 (by decide)) hg (fun _ hk => hk.2)) e3 (by decide)) (fun _ hk => hk.2) u) (fun _ hk => hk.1.1)
theorem version_Decode.DS.app1_ {w0 W w3 : World} {g2 gr gb ge : Nat} {t : version_Decode.S} {v0 v1 v2 v3 u : Value} {L : List S35} {D G H : List Int} {q : Int} (h : version_Decode.DS w0 W g2 gr gb ge t v0 v1 v2 v3 L D G H q) {l' : List Int} (ho : Kd.R (Kd.int .i64) 3 w3 w0.heap.size (fun _ => True) u l') (hb : Below w0.heap.size w0 w3) (hg : W.grownBy w3 v1.ownBlock) (hat : u.ownBlock = v1.ownBlock ∨ ∃ b, u.ownBlock = some b ∧ W.heap.size ≤ b) :
    version_Decode.DS w0 (w3.setCell ⟨ge, 1, none⟩ u) g2 gr gb ge t v0 u v2 v3 L l' G H q := by
  have hne : ∀ {g T : Nat} {cs : Array Value}, W.heap[g]? = some (.cells cs T (0, 0)) → 3 ≠ T → w3.heap[g]? = some (.cells cs T (0, 0)) := fun hc ht => blk_grown hc hg (Kd.R_ne h.r1 hc ht)
  have e3 := hne h.he (by decide)
  have fresh : ∀ k, u.ownBlock = some k → v1.ownBlock = some k ∨ W.heap.size ≤ k := fun k hk => by rcases hat with e | ⟨b, e, hbb⟩; exact .inl (e ▸ hk); rw [e] at hk; injection hk with hk; exact .inr (hk ▸ hbb)
  refine ⟨blk_far (hne h.hr (by decide)) (blk_ne h.he h.hr (by decide)).symm _, blk_far (hne h.hb (by decide)) (blk_ne h.he h.hb (by decide)).symm _, blk_put e3 1 _ rfl, blk_far (hne h.h2 (by decide)) h.ne _, h.ne, ?_, ?_, ?_, ?_, below_set hb h.be, h.br, h.bb, h.be, h.b2⟩
  · exact Kd.R_mono (Kd.R_far (p := ⟨ge, 1, none⟩) (Kd.R_types (Kd.R_grown (Kd.R_apartR h.r0 h.r1 (by decide)) hg (fun _ hk => hk.2)) e3 (by decide)) (fun _ hk => hk.2) u) (fun _ hk => hk.1.1)
  · refine Kd.R_reok rfl (Kd.R_far (p := ⟨ge, 1, none⟩) (Kd.R_types ho e3 (by decide)) (fun _ hk => hk.2) u) (fun k hk => ?_)
    rcases fresh k hk with h1 | h1
    · exact h.r1.1 k h1
    · exact ⟨fun e => by have := Kd.R_lt h.r2 k e.symm; omega, fun e => by have := Kd.R_lt h.r3 k e.symm; omega⟩
  · have hg2 := Kd.R_grown2 h.r2 rfl hg (fun k hk => (h.r1.1 k hk).1)
    refine Kd.R_reok rfl (Kd.R_far (p := ⟨ge, 1, none⟩) (Kd.R_types hg2 e3 (by decide)) (fun _ hk => hk.2) u) (fun k hk => ?_)
    exact ⟨fun e => by rcases fresh k e.symm with h1 | h1; exact (h.r2.1 k hk).1 h1.symm; have := Kd.R_lt h.r2 k hk; omega, (h.r2.1 k hk).2⟩
  · have hg2 := Kd.R_grown2 h.r3 rfl hg (fun k hk => (h.r1.1 k hk).2)
    refine Kd.R_reok rfl (Kd.R_far (p := ⟨ge, 1, none⟩) (Kd.R_types hg2 e3 (by decide)) (fun _ hk => hk.2) u) (fun k hk => ?_)
    exact ⟨fun e => by rcases fresh k e.symm with h1 | h1; exact (h.r3.1 k hk).1 h1.symm; have := Kd.R_lt h.r3 k hk; omega, (h.r3.1 k hk).2⟩
theorem version_Decode.DS.app2_ {w0 W w3 : World} {g2 gr gb ge : Nat} {t : version_Decode.S} {v0 v1 v2 v3 u : Value} {L : List S35} {D G H : List Int} {q : Int} (h : version_Decode.DS w0 W g2 gr gb ge t v0 v1 v2 v3 L D G H q) {l' : List Int} (ho : Kd.R (Kd.int .i64) 3 w3 w0.heap.size (fun _ => True) u l') (hb : Below w0.heap.size w0 w3) (hg : W.grownBy w3 v2.ownBlock) (hat : u.ownBlock = v2.ownBlock ∨ ∃ b, u.ownBlock = some b ∧ W.heap.size ≤ b) :
    version_Decode.DS w0 (w3.setCell ⟨ge, 2, none⟩ u) g2 gr gb ge t v0 v1 u v3 L D l' H q := by
  have hne : ∀ {g T : Nat} {cs : Array Value}, W.heap[g]? = some (.cells cs T (0, 0)) → 3 ≠ T → w3.heap[g]? = some (.cells cs T (0, 0)) := fun hc ht => blk_grown hc hg (Kd.R_ne h.r2 hc ht)
  have e3 := hne h.he (by decide)
  have fresh : ∀ k, u.ownBlock = some k → v2.ownBlock = some k ∨ W.heap.size ≤ k := fun k hk => by rcases hat with e | ⟨b, e, hbb⟩; exact .inl (e ▸ hk); rw [e] at hk; injection hk with hk; exact .inr (hk ▸ hbb)
  refine ⟨blk_far (hne h.hr (by decide)) (blk_ne h.he h.hr (by decide)).symm _, blk_far (hne h.hb (by decide)) (blk_ne h.he h.hb (by decide)).symm _, blk_put e3 2 _ rfl, blk_far (hne h.h2 (by decide)) h.ne _, h.ne, ?_, ?_, ?_, ?_, below_set hb h.be, h.br, h.bb, h.be, h.b2⟩
  · exact Kd.R_mono (Kd.R_far (p := ⟨ge, 2, none⟩) (Kd.R_types (Kd.R_grown (Kd.R_apartR h.r0 h.r2 (by decide)) hg (fun _ hk => hk.2)) e3 (by decide)) (fun _ hk => hk.2) u) (fun _ hk => hk.1.1)
  · have hg2 := Kd.R_grown2 h.r1 rfl hg (fun k hk => (h.r2.1 k hk).1)
    refine Kd.R_reok rfl (Kd.R_far (p := ⟨ge, 2, none⟩) (Kd.R_types hg2 e3 (by decide)) (fun _ hk => hk.2) u) (fun k hk => ?_)
    exact ⟨fun e => by rcases fresh k e.symm with h1 | h1; exact (h.r1.1 k hk).1 h1.symm; have := Kd.R_lt h.r1 k hk; omega, (h.r1.1 k hk).2⟩
  · refine Kd.R_reok rfl (Kd.R_far (p := ⟨ge, 2, none⟩) (Kd.R_types ho e3 (by decide)) (fun _ hk => hk.2) u) (fun k hk => ?_)
    rcases fresh k hk with h1 | h1
    · exact h.r2.1 k h1
    · exact ⟨fun e => by have := Kd.R_lt h.r1 k e.symm; omega, fun e => by have := Kd.R_lt h.r3 k e.symm; omega⟩
  · have hg2 := Kd.R_grown2 h.r3 rfl hg (fun k hk => (h.r2.1 k hk).2)
    refine Kd.R_reok rfl (Kd.R_far (p := ⟨ge, 2, none⟩) (Kd.R_types hg2 e3 (by decide)) (fun _ hk => hk.2) u) (fun k hk => ?_)
    exact ⟨(h.r3.1 k hk).1, fun e => by rcases fresh k e.symm with h1 | h1; exact (h.r3.1 k hk).2 h1.symm; have := Kd.R_lt h.r3 k hk; omega⟩
theorem version_Decode.DS.app3_ {w0 W w3 : World} {g2 gr gb ge : Nat} {t : version_Decode.S} {v0 v1 v2 v3 u : Value} {L : List S35} {D G H : List Int} {q : Int} (h : version_Decode.DS w0 W g2 gr gb ge t v0 v1 v2 v3 L D G H q) {l' : List Int} (ho : Kd.R (Kd.int .i64) 3 w3 w0.heap.size (fun _ => True) u l') (hb : Below w0.heap.size w0 w3) (hg : W.grownBy w3 v3.ownBlock) (hat : u.ownBlock = v3.ownBlock ∨ ∃ b, u.ownBlock = some b ∧ W.heap.size ≤ b) :
    version_Decode.DS w0 (w3.setCell ⟨ge, 3, none⟩ u) g2 gr gb ge t v0 v1 v2 u L D G l' q := by
  have hne : ∀ {g T : Nat} {cs : Array Value}, W.heap[g]? = some (.cells cs T (0, 0)) → 3 ≠ T → w3.heap[g]? = some (.cells cs T (0, 0)) := fun hc ht => blk_grown hc hg (Kd.R_ne h.r3 hc ht)
  have e3 := hne h.he (by decide)
  have fresh : ∀ k, u.ownBlock = some k → v3.ownBlock = some k ∨ W.heap.size ≤ k := fun k hk => by rcases hat with e | ⟨b, e, hbb⟩; exact .inl (e ▸ hk); rw [e] at hk; injection hk with hk; exact .inr (hk ▸ hbb)
  refine ⟨blk_far (hne h.hr (by decide)) (blk_ne h.he h.hr (by decide)).symm _, blk_far (hne h.hb (by decide)) (blk_ne h.he h.hb (by decide)).symm _, blk_put e3 3 _ rfl, blk_far (hne h.h2 (by decide)) h.ne _, h.ne, ?_, ?_, ?_, ?_, below_set hb h.be, h.br, h.bb, h.be, h.b2⟩
  · exact Kd.R_mono (Kd.R_far (p := ⟨ge, 3, none⟩) (Kd.R_types (Kd.R_grown (Kd.R_apartR h.r0 h.r3 (by decide)) hg (fun _ hk => hk.2)) e3 (by decide)) (fun _ hk => hk.2) u) (fun _ hk => hk.1.1)
  · have hg2 := Kd.R_grown2 h.r1 rfl hg (fun k hk => (h.r3.1 k hk).1)
    refine Kd.R_reok rfl (Kd.R_far (p := ⟨ge, 3, none⟩) (Kd.R_types hg2 e3 (by decide)) (fun _ hk => hk.2) u) (fun k hk => ?_)
    exact ⟨(h.r1.1 k hk).1, fun e => by rcases fresh k e.symm with h1 | h1; exact (h.r1.1 k hk).2 h1.symm; have := Kd.R_lt h.r1 k hk; omega⟩
  · have hg2 := Kd.R_grown2 h.r2 rfl hg (fun k hk => (h.r3.1 k hk).2)
    refine Kd.R_reok rfl (Kd.R_far (p := ⟨ge, 3, none⟩) (Kd.R_types hg2 e3 (by decide)) (fun _ hk => hk.2) u) (fun k hk => ?_)
    exact ⟨(h.r2.1 k hk).1, fun e => by rcases fresh k e.symm with h1 | h1; exact (h.r2.1 k hk).2 h1.symm; have := Kd.R_lt h.r2 k hk; omega⟩
  · refine Kd.R_reok rfl (Kd.R_far (p := ⟨ge, 3, none⟩) (Kd.R_types ho e3 (by decide)) (fun _ hk => hk.2) u) (fun k hk => ?_)
    rcases fresh k hk with h1 | h1
    · exact h.r3.1 k h1
    · exact ⟨fun e => by have := Kd.R_lt h.r1 k e.symm; omega, fun e => by have := Kd.R_lt h.r2 k e.symm; omega⟩
theorem version_Decode.DS.seq_ {w0 W  : World} {g2 gr gb ge : Nat} {t : version_Decode.S} {v0 v1 v2 v3 : Value} {L : List S35} {D G H : List Int} {q : Int} (h : version_Decode.DS w0 W g2 gr gb ge t v0 v1 v2 v3 L D G H q) (x : Int) : version_Decode.DS w0 (W.setCell ⟨ge, 4, none⟩ (.int .i64 x)) g2 gr gb ge t v0 v1 v2 v3 L D G H x := by
  refine ⟨blk_far h.hr (blk_ne h.he h.hr (by decide)).symm _, blk_far h.hb (blk_ne h.he h.hb (by decide)).symm _, blk_put h.he 4 _ rfl, blk_far h.h2 h.ne _, h.ne, ?_, ?_, ?_, ?_, below_set h.low h.be, h.br, h.bb, h.be, h.b2⟩
  · exact Kd.R_mono (Kd.R_far (p := ⟨ge, 4, none⟩) (Kd.R_types h.r0 h.he (by decide)) (fun _ hk => hk.2) _) (fun _ hk => trivial)
  · exact Kd.R_mono (Kd.R_far (p := ⟨ge, 4, none⟩) (Kd.R_types h.r1 h.he (by decide)) (fun _ hk => hk.2) _) (fun _ hk => hk.1)
  · exact Kd.R_mono (Kd.R_far (p := ⟨ge, 4, none⟩) (Kd.R_types h.r2 h.he (by decide)) (fun _ hk => hk.2) _) (fun _ hk => hk.1)
  · exact Kd.R_mono (Kd.R_far (p := ⟨ge, 4, none⟩) (Kd.R_types h.r3 h.he (by decide)) (fun _ hk => hk.2) _) (fun _ hk => hk.1)
theorem version_Decode.gN_bad (t : version_Decode.S) (h : t.2 = true) : (version_Decode.gN t).2.2 = true := by
  unfold version_Decode.gN version_Decode.rN
  rw [if_pos h]
theorem version_Decode.gT_bad (t : version_Decode.S) (h : t.2 = true) : (version_Decode.gT t).2.2 = true := by
  unfold version_Decode.gT version_Decode.rT
  rw [if_pos h]
theorem version_Decode.read_less (s : ByteArray) (h : (pack_ReadNum.tell s).2.2.isSome = false) : (pack_ReadNum.tell s).2.1.size + 1 ≤ s.size := by
  revert h
  unfold pack_ReadNum.tell
  repeat' split
  all_goals intro h
  all_goals first
    | (exact absurd h (by decide))
    | (show (ByteArray.extract _ _ _).size + 1 ≤ _; rw [ByteArray.size_extract]; omega)
theorem version_Decode.gN_less (t : version_Decode.S) (h : (version_Decode.gN t).2.2 = false) : (version_Decode.gN t).2.1.size + 1 ≤ t.1.size := by
  revert h
  unfold version_Decode.gN version_Decode.rN
  split
  · intro h; simp at h
  · intro h; exact version_Decode.read_less t.1 h
theorem version_Decode.tellT_size (s : ByteArray) : (version_Decode.tellT s).2.1.size ≤ s.size := by
  have h := version_Decode.tellT_f s
  have h1 := version_Decode.read_size s
  unfold pack_ReadText.f pack_ReadNum.f at h
  rw [Option.bind_some] at h
  repeat' split at h
  all_goals first
    | (rw [← Option.some.inj h]; show 0 ≤ _; omega)
    | (rw [← Option.some.inj h]; show (ByteArray.extract _ _ _).size ≤ _; rw [ByteArray.size_extract]; omega)
    | (exact absurd h (by simp))
theorem version_Decode.gT_size (t : version_Decode.S) : (version_Decode.gT t).2.1.size ≤ t.1.size := by
  unfold version_Decode.gT version_Decode.rT
  split
  · exact Nat.le_refl _
  · exact version_Decode.tellT_size t.1
/-- How much has been read, and how much is left. -/
def version_Decode.bd (n : Nat) (t : version_Decode.S) : Prop := n + t.1.size ≤ 1048577 ∧ (t.2 = false → n + t.1.size ≤ 1048576) ∧ t.1.size ≤ 1048576
theorem version_Decode.bd.num {n : Nat} {t : version_Decode.S} (h : version_Decode.bd n t) (hb : t.2 = false) : version_Decode.bd (n + 1) (version_Decode.gN t).2 := by
  have h1 := version_Decode.gN_size t
  have h2 := version_Decode.gN_less t
  have h3 := h.2.1 hb
  exact ⟨by omega, fun h4 => by have := h2 h4; omega, by omega⟩
theorem version_Decode.gM_size (t : version_Decode.S) : (version_Decode.gM t).2.1.size ≤ (version_Decode.gN t).2.1.size ∧ ((version_Decode.gM t).2.2 = false → (version_Decode.gN t).2.2 = false) := by
  have a := version_Decode.gN_size (version_Decode.gN t).2
  have b := version_Decode.gT_size (version_Decode.gN (version_Decode.gN t).2).2
  have c := version_Decode.gT_size (version_Decode.gT (version_Decode.gN (version_Decode.gN t).2).2).2
  have d := version_Decode.gN_size (version_Decode.gT (version_Decode.gT (version_Decode.gN (version_Decode.gN t).2).2).2).2
  refine ⟨?_, fun h => ?_⟩
  · show (version_Decode.gN (version_Decode.gT (version_Decode.gT (version_Decode.gN (version_Decode.gN t).2).2).2).2).2.1.size ≤ _
    omega
  · cases hh : (version_Decode.gN t).2.2 with
    | false => rfl
    | true => exact absurd (version_Decode.gN_bad _ (version_Decode.gT_bad _ (version_Decode.gT_bad _ (version_Decode.gN_bad _ hh)))) (by show ¬ (version_Decode.gM t).2.2 = true; rw [h]; decide)
theorem version_Decode.bd.meta_ {n : Nat} {t : version_Decode.S} (h : version_Decode.bd n t) (hb : t.2 = false) : version_Decode.bd (n + 1) (version_Decode.gM t).2 := by
  have h1 := h.num hb
  have h2 := version_Decode.gM_size t
  exact ⟨by have := h1.1; omega, fun h4 => by have := h1.2.1 (h2.2 h4); omega, by have := h1.2.2; omega⟩
theorem version_Decode.bd.start {n : Nat} {t : version_Decode.S} (h : version_Decode.bd n t) : version_Decode.bd 0 t := ⟨by have := h.2.2; omega, fun _ => by have := h.2.2; omega, h.2.2⟩
theorem version_Decode.bd.next {t : version_Decode.S} (h : version_Decode.bd 0 t) : version_Decode.bd 0 (version_Decode.gN t).2 := by
  have h1 := version_Decode.gN_size t
  have := h.2.2
  exact ⟨by omega, fun _ => by omega, by omega⟩
theorem version_Decode.gN_range (t : version_Decode.S) : 0 ≤ (version_Decode.gN t).1 ∧ (version_Decode.gN t).1 ≤ 9007199254740991 := by
  unfold version_Decode.gN version_Decode.rN
  split
  · exact ⟨Int.le_refl 0, show (0 : Int) ≤ _ by decide⟩
  · refine ⟨version_Decode.tell_nonneg _, ?_⟩
    show (pack_ReadNum.tell t.1).1 ≤ _
    unfold pack_ReadNum.tell
    repeat' split
    all_goals first
      | decide
      | (next h => exact Int.not_lt.1 (fun h2 => h (Or.inr h2)))
theorem version_Decode.tabs_end (k : Nat) (t : version_Decode.S) (l : List S35) (h : t.2 = true) : version_Decode.tabs k t l = (l, t) := by
  cases k with
  | zero => rfl
  | succ k => unfold version_Decode.tabs; rw [if_pos h]
theorem version_Decode.tabs_zero (n : Int) (t : version_Decode.S) (l : List S35) (h : ¬ 0 < n) : version_Decode.tabs n.toNat t l = (l, t) := by
  rw [show n.toNat = 0 by omega]; rfl
theorem version_Decode.tabs_step (n : Int) (t : version_Decode.S) (l : List S35) (h : 0 < n) (hb : t.2 = false) : version_Decode.tabs n.toNat t l = version_Decode.tabs (n - 1).toNat (version_Decode.gM t).2 (l ++ [(version_Decode.gM t).1]) := by
  rw [show n.toNat = (n - 1).toNat + 1 by omega]
  conv => lhs; unfold version_Decode.tabs
  rw [if_neg (by rw [hb]; decide)]
theorem version_Decode.ints_end (k : Nat) (t : version_Decode.S) (l : List Int) (h : t.2 = true) : version_Decode.ints k t l = (l, t) := by
  cases k with
  | zero => rfl
  | succ k => unfold version_Decode.ints; rw [if_pos h]
theorem version_Decode.ints_zero (n : Int) (t : version_Decode.S) (l : List Int) (h : ¬ 0 < n) : version_Decode.ints n.toNat t l = (l, t) := by
  rw [show n.toNat = 0 by omega]; rfl
theorem version_Decode.ints_step (n : Int) (t : version_Decode.S) (l : List Int) (h : 0 < n) (hb : t.2 = false) : version_Decode.ints n.toNat t l = version_Decode.ints (n - 1).toNat (version_Decode.gN t).2 (l ++ [(version_Decode.gN t).1]) := by
  rw [show n.toNat = (n - 1).toNat + 1 by omega]
  conv => lhs; unfold version_Decode.ints
  rw [if_neg (by rw [hb]; decide)]
def version_Decode.pk {α : Type} (a b c d : α) : Nat → α
  | 0 => a
  | 1 => b
  | 2 => c
  | _ => d
/-- A call of a closure, in a region that draws. -/
theorem version_Decode.clos_ {P : Program} {Q : Exit → Act → World → Prop} {ops : Array Oper} {oi : Oper} {N : Option Tmp} {a : Act} {w : World} {K : Act → World → Prop} {f : FuncId} {fn : Func} (s : Tmp) (cs caps args : Array Value) (ts : Array TypeId) (hf : P.funcs[f]? = some fn) (hname : (fn.name == "runtime.NumGoroutine") = false) (hb : fn.body.isSome = true)
    (hw : Region.wanted oi (yielded ops a.tmps) = true) (hN : oi.dst = N) (hop : oi.op = .call { callee := .value (.tmp s), args := #[], argTypes := ts }) (hv : a.eval (.tmp s) = .func (.func f) cs caps) (hargs : cs ++ caps = args)
    (h : Calls P f args w fun e w' => ∃ v, e = .returned v ∧ K (a.put N v) w') : if Region.wanted oi (yielded ops a.tmps) = true then Oper.wp P oi a w K Q else K (a.put N undef) w := by
  refine call_ f args hw hN ?_ h
  have he := enters_ hf hname hb args w
  unfold execOp
  simp [hop, resolve, Deferred.ofValue, invoke, hv, hargs, he]
/-- What Decode tells. -/
def version_Decode.resE (s : ByteArray) : (List S35 × List Int × List Int × List Int × Int) × Option Int :=
  if (version_Decode.tellE s).2 = false ∧ version_Encode.good (version_Decode.tellE s).1.1 (version_Decode.tellE s).1.2.1 (version_Decode.tellE s).1.2.2.1 (version_Decode.tellE s).1.2.2.2.1 (version_Decode.tellE s).1.2.2.2.2 = true ∧ strOfNums (version_Encode.all (version_Decode.tellE s).1.1 (version_Decode.tellE s).1.2.1 (version_Decode.tellE s).1.2.2.1 (version_Decode.tellE s).1.2.2.2.1 (version_Decode.tellE s).1.2.2.2.2) = s then ((version_Decode.tellE s).1, none) else (([], [], [], [], 0), some 3)
set_option maxHeartbeats 4000000 in
set_option maxRecDepth 100000 in
theorem version_Decode.walk_ (s0 : ByteArray) (w : World) (hs : s0.size ≤ 1048576) : Calls Try.prog 19 #[.string s0] w fun e w' => ∃ v0_ v1_ v2_ v3_ : Value, e = .returned (.tuple #[.agg #[v0_, v1_, v2_, v3_, .int .i64 (version_Decode.resE s0).1.2.2.2.2], errW (version_Decode.resE s0).2]) ∧ Kd.R k35 35 w' w.heap.size (fun _ => True) v0_ (version_Decode.resE s0).1.1 ∧ Kd.R (Kd.int .i64) 3 w' w.heap.size (fun k_ => some k_ ≠ (v2_ : Value).ownBlock ∧ some k_ ≠ (v3_ : Value).ownBlock) v1_ (version_Decode.resE s0).1.2.1 ∧ Kd.R (Kd.int .i64) 3 w' w.heap.size (fun k_ => some k_ ≠ (v1_ : Value).ownBlock ∧ some k_ ≠ (v3_ : Value).ownBlock) v2_ (version_Decode.resE s0).1.2.2.1 ∧ Kd.R (Kd.int .i64) 3 w' w.heap.size (fun k_ => some k_ ≠ (v1_ : Value).ownBlock ∧ some k_ ≠ (v2_ : Value).ownBlock) v3_ (version_Decode.resE s0).1.2.2.2.1 ∧ Below w.heap.size w w' := by
  obtain ⟨r, hr_⟩ : ∃ r, r = version_Decode.resE s0 := ⟨_, rfl⟩
  rw [← hr_]
  have HRES := Aside0.mk hr_
  clear hr_
  have HSZ := Aside0.mk hs
  clear hs
  go_enter Try.func19, Try.ntmps19
  go_upto_region 5 with (fail)
  obtain ⟨g2, gr, gb, ge, h2, hr, hb, he, hDS⟩ := version_Decode.DS.begin w s0
  rw [← he, ← hb, ← hr, ← h2]
  generalize ((((w.alloc (.cells #[.slice none 0 0, .slice none 0 0, .slice none 0 0, .slice none 0 0, .int .i64 0] 32)).alloc (.cells #[.string s0] 9)).alloc (.cells #[.bool false] 4)).alloc (.cells #[.slice none 0 0, .slice none 0 0, .slice none 0 0, .slice none 0 0, .int .i64 0] 32)) = w1 at hDS ⊢
  have HD0 := Aside0.mk hDS
  clear h2 hr hb he hDS
  go_wp2_with fail
  refine (version_Decode.DS.num_ HD0.out).mono ?_
  rintro e w2 ⟨rfl, hd, hk⟩
  have HD1 := Aside0.mk hd
  obtain ⟨n0, hn0⟩ : ∃ n0, n0 = (version_Decode.gN (s0, false)).1 := ⟨_, rfl⟩
  obtain ⟨t1, ht1⟩ : ∃ t1, t1 = (version_Decode.gN (s0, false)).2 := ⟨_, rfl⟩
  rw [← ht1] at HD1
  rw [← hn0]
  have HN0 := Aside0.mk hn0
  have HT1 := Aside0.mk ht1
  clear hn0 ht1 hd hk HD0
  have HBD0 := Aside0.mk (show version_Decode.bd 0 t1 from by rw [HT1.out]; exact version_Decode.bd.next (show version_Decode.bd 0 (s0, false) from ⟨by have := HSZ.out; show 0 + s0.size ≤ _; omega, fun _ => by have := HSZ.out; show 0 + s0.size ≤ _; omega, HSZ.out⟩))
  have HN0R := Aside0.mk (show n0 ≤ 9007199254740991 by rw [HN0.out]; exact (version_Decode.gN_range _).2)
  obtain ⟨TL, TT, hT⟩ : ∃ a b, version_Decode.tabs n0.toNat t1 [] = (a, b) := ⟨_, _, rfl⟩
  obtain ⟨RD, T1, hD⟩ : ∃ a b, version_Decode.row TT = (a, b) := ⟨_, _, rfl⟩
  obtain ⟨RG, T2, hG⟩ : ∃ a b, version_Decode.row T1 = (a, b) := ⟨_, _, rfl⟩
  obtain ⟨RH, T3, hH⟩ : ∃ a b, version_Decode.row T2 = (a, b) := ⟨_, _, rfl⟩
  obtain ⟨q, T4, hQ⟩ : ∃ a b, version_Decode.gN T3 = (a, b) := ⟨_, _, rfl⟩
  have HTELL := Aside0.mk (show version_Decode.tellE s0 = ((TL, RD, RG, RH, q), T4.2) by unfold version_Decode.tellE; simp only [← HN0.out, ← HT1.out, hT, hD, hG, hH, hQ])
  have HTT := Aside0.mk hT
  have HDD := Aside0.mk hD
  have HGG := Aside0.mk hG
  have HHH := Aside0.mk hH
  have HQQ := Aside0.mk hQ
  clear hT hD hG hH hQ HN0 HT1
  go_upto_block 0 with (fail)
  go_cut [] (fun wc => ∃ v0, Aside0 (version_Decode.DS w wc g2 gr gb ge TT v0 (.slice none 0 0) (.slice none 0 0) (.slice none 0 0) TL [] [] [] 0) ∧ Aside0 (version_Decode.bd 0 TT))
  case first =>
    go_wp2_with fail
    go_loopw [9] (fun i wr => ∃ (n : Int) (t : version_Decode.S) (v0 : Value) (L : List S35), i = .int .i64 n ∧ n ≤ n0 ∧ Aside0 (version_Decode.tabs n.toNat t L = (TL, TT)) ∧ Aside0 (version_Decode.DS w wr g2 gr gb ge t v0 (.slice none 0 0) (.slice none 0 0) (.slice none 0 0) L [] [] [] 0) ∧ Aside0 (version_Decode.bd L.length t)) (fun i _ => (intOf i).toNat)
    case atStart => exact ⟨n0, t1, _, [], rfl, Int.le_refl _, HTT, ⟨HD1.out⟩, HBD0⟩
    case round =>
      clear HD1
      obtain ⟨n, t, v0, L, rfl, hn, HT, HD, HBD⟩ := hrel
      by_cases hpos : 0 < n
      · have c0 := (blk_cell HD.out.hb 0).trans rfl
        cases hbad : t.2 with
        | true =>
          rw [hbad] at c0
          go_wp2_with fail
          go_meet
          case rel =>
            obtain ⟨e1, e2⟩ := Prod.mk.inj ((version_Decode.tabs_end _ t L hbad).symm.trans HT.out)
            subst e1 e2
            exact ⟨v0, HD, ⟨HBD.out.start⟩⟩
        | false =>
          rw [hbad] at c0
          have HBAD := Aside0.mk hbad
          clear hbad
          go_wp2_with fail
          refine (version_Decode.DS.num_ HD.out).mono ?_
          rintro e w3 ⟨rfl, hd, hk⟩
          have HE3 := Aside0.mk (rfl : version_Decode.gN t = version_Decode.gN t)
          obtain ⟨x0, y0, hxy⟩ : ∃ x y, version_Decode.gN t = (x, y) := ⟨_, _, rfl⟩
          rw [hxy] at hd ⊢
          have HX0 := Aside0.mk hxy
          have HD3 := Aside0.mk hd
          clear hd hk hxy HE3
          clear c0
          go_wp2_with fail
          refine (version_Decode.DS.num_ HD3.out).mono ?_
          rintro e w4 ⟨rfl, hd, hk⟩
          obtain ⟨x1, y1, hxy⟩ : ∃ x y, version_Decode.gN y0 = (x, y) := ⟨_, _, rfl⟩
          rw [show version_Decode.gN (x0, y0).2 = (x1, y1) from hxy] at hd ⊢
          have HX1 := Aside0.mk hxy
          have HD4 := Aside0.mk hd
          clear hd hk hxy
          go_wp2_with fail
          refine (version_Decode.DS.text_ HD4.out).mono ?_
          rintro e w5 ⟨rfl, hd, hk⟩
          obtain ⟨x2, y2, hxy⟩ : ∃ x y, version_Decode.gT y1 = (x, y) := ⟨_, _, rfl⟩
          rw [show version_Decode.gT (x1, y1).2 = (x2, y2) from hxy] at hd ⊢
          have HX2 := Aside0.mk hxy
          have HD5 := Aside0.mk hd
          clear hd hk hxy
          go_wp2_with fail
          refine (version_Decode.DS.text_ HD5.out).mono ?_
          rintro e w6 ⟨rfl, hd, hk⟩
          obtain ⟨x3, y3, hxy⟩ : ∃ x y, version_Decode.gT y2 = (x, y) := ⟨_, _, rfl⟩
          rw [show version_Decode.gT (x2, y2).2 = (x3, y3) from hxy] at hd ⊢
          have HX3 := Aside0.mk hxy
          have HD6 := Aside0.mk hd
          clear hd hk hxy
          go_wp2_with fail
          refine (version_Decode.DS.num_ HD6.out).mono ?_
          rintro e w7 ⟨rfl, hd, hk⟩
          obtain ⟨x4, y4, hxy⟩ : ∃ x y, version_Decode.gN y3 = (x, y) := ⟨_, _, rfl⟩
          rw [show version_Decode.gN (x3, y3).2 = (x4, y4) from hxy] at hd ⊢
          have HX4 := Aside0.mk hxy
          have HD7 : Aside0 (version_Decode.DS w w7 g2 gr gb ge y4 v0 (.slice none 0 0) (.slice none 0 0) (.slice none 0 0) L [] [] [] 0) := ⟨hd⟩
          clear hd hk hxy HD HD3 HD4 HD5 HD6
          have HM := Aside0.mk (show version_Decode.gM t = (⟨x0, x1, x2, x3, x4⟩, y4) by unfold version_Decode.gM; rw [HX0.out]; show (_, _) = _; rw [HX1.out]; show (_, _) = _; rw [HX2.out]; show (_, _) = _; rw [HX3.out]; show (_, _) = _; rw [HX4.out])
          clear HX0 HX1 HX2 HX3 HX4
          have HN4 := Aside0.mk (show version_Decode.bd (L.length + 1) y4 from by have := HBD.out.meta_ HBAD.out; rw [HM.out] at this; exact this)
          go_upto_region 9 with (first | ((with_reducible refine gate_dst (N := 10) rfl ?_); refine box_event ?hg (N := 10) ?hd (cs := #[.int .i64 0, .int .i64 0, .string (⟨#[]⟩ : ByteArray), .string (⟨#[]⟩ : ByteArray), .int .i64 0]) (t := 35) ?hr ?_; (case hd => rfl); (case hg => rfl); (case hr => first | (go_simp; done) | (go_simp; rfl)); intro gm hgm wm hbox hb; have HBm := Aside0.mk hb; have HMm := Aside0.mk hbox; have HGM := Aside0.mk (show w7.heap.size ≤ gm by rw [hgm]; exact Nat.le_refl _); clear hb hbox hgm) | ((with_reducible refine gate_store (t := 35) (p := 10) (v := .tmp 39) rfl ?_); refine agg_event rfl 35 (.tmp 10) (.tmp 39) rfl gm rfl #[.int .i64 x0, .int .i64 x1, .string x2, .string x3, .int .i64 x4] #[.int .i64 0, .int .i64 0, .string (⟨#[]⟩ : ByteArray), .string (⟨#[]⟩ : ByteArray), .int .i64 0] rfl HMm.out (by kernel_rfl) rfl (by simp [Value.oneCell']) ?_; intro wp hst hgr hszz; clear hszz; have HDp := Aside0.mk (HD7.out.below (pw_below_grown HBm.out (some gm) HBm.out.size hgr (fun k_ e_ => by injection e_ with e_; have := HGM.out; omega))); have HMp := Aside0.mk hst; clear hst hgr HBm HMm HD7))
          have e0 := (blk_cell HDp.out.he 0).trans rfl
          have m0 := (blk_cell HMp.out 0).trans rfl
          have m1 := (blk_cell HMp.out 1).trans rfl
          have m2 := (blk_cell HMp.out 2).trans rfl
          have m3 := (blk_cell HMp.out 3).trans rfl
          have m4 := (blk_cell HMp.out 4).trans rfl
          go_wp2_with (first | ((with_reducible refine gate_builtin (b := .append) (xs := #[.tmp 41, .tmp 43]) rfl ?_); at_builtin; refine Kd.R_append k35 (w0 := w) w.heap.size rfl (.tmp 41) (.tmp 43) 22 35 (.agg #[.int .i64 0, .int .i64 0, .string (⟨#[]⟩ : ByteArray), .string (⟨#[]⟩ : ByteArray), .int .i64 0]) 56 rfl Try.underlying22 info35 rfl (by decide) (by omega) v0 L (⟨x0, x1, x2, x3, x4⟩ : S35) [.int .i64 x0, .int .i64 x1, .string x2, .string x3, .int .i64 x4] (fun _ => True) (fun _ => False) rfl (by first | (go_simp; done) | (go_simp; rfl)) ?aP (fun _ hk => hk.elim) (fun _ _ => trivial) ?aO ?aB ?aS ?aL ?_; (case aP => exact k35_mkM _ _ _ (⟨x0, x1, x2, x3, x4⟩ : S35)); (case aB => exact HDp.out.low); (case aO => exact HDp.out.r0); (case aS => exact HDp.out.low.size); (case aL => have := HBD.out.1; omega); intro u w8 ho hb hg hat; have HD8 := Aside0.mk (HDp.out.app0_ ho hb hg hat); have he8 := blk_grown HDp.out.he hg (Kd.R_ne HDp.out.r0 HDp.out.he (by decide)); obtain ⟨A9, c9, e9⟩ := Kd.R_slice ho; simp only [List.length_append, List.length_cons, List.length_nil] at e9; subst e9; have z4 := (blk_cell he8 0).trans rfl; have z5 := blk_frozen he8 0; clear ho hb hg hat he8))
          have hn0 := HN0R.out
          have hw1 : wrap64 (n - 1) = n - 1 := by unfold wrap64; omega
          rw [hw1]
          refine ⟨⟨n - 1, y4, _, _, rfl, by omega, ⟨?_⟩, HD8, ⟨?_⟩⟩, by simp only [intOf]; omega⟩
          · rw [version_Decode.tabs_step n t L hpos HBAD.out, HM.out] at HT; exact HT.out
          · have := HBD.out.meta_ HBAD.out; rw [HM.out] at this; rw [List.length_append]; exact this
      · go_wp2_with fail
        go_meet
        case rel =>
          obtain ⟨e1, e2⟩ := Prod.mk.inj ((version_Decode.tabs_zero n t L (by omega)).symm.trans HT.out)
          subst e1 e2
          exact ⟨v0, HD, ⟨HBD.out.start⟩⟩
  case rest =>
    clear HD1 HBD0 HTT
    obtain ⟨v0, HD, HBD⟩ := hcut
    go_upto_block 2 with (fail)
    obtain ⟨gp, hgp⟩ : ∃ gp, gp = wc.heap.size := ⟨_, rfl⟩
    rw [← hgp]
    have HP : Aside0 ((wc.alloc (.cells #[.pointer (some ⟨ge, 1, none⟩), .pointer (some ⟨ge, 2, none⟩), .pointer (some ⟨ge, 3, none⟩)] 89)).heap[gp]? = some (.cells #[.pointer (some ⟨ge, 1, none⟩), .pointer (some ⟨ge, 2, none⟩), .pointer (some ⟨ge, 3, none⟩)] 89 (0, 0))) := ⟨by rw [hgp]; exact blk_new _ _⟩
    have HDa := Aside0.mk (HD.out.below (below_alloc (Below.refl _ _) (.cells #[.pointer (some ⟨ge, 1, none⟩), .pointer (some ⟨ge, 2, none⟩), .pointer (some ⟨ge, 3, none⟩)] 89)))
    clear hgp HD
    go_wp2_with fail
    go_loopw [51] (fun i wq => ∃ (j : Nat) (v1 v2 v3 : Value), i = .int .i64 j ∧ j ≤ 3 ∧ Aside0 (version_Decode.DS w wq g2 gr gb ge (version_Decode.pk TT T1 T2 T3 j) v0 v1 v2 v3 TL (version_Decode.pk [] RD RD RD j) (version_Decode.pk [] [] RG RG j) (version_Decode.pk [] [] [] RH j) 0) ∧ Aside0 (wq.heap[gp]? = some (.cells #[.pointer (some ⟨ge, 1, none⟩), .pointer (some ⟨ge, 2, none⟩), .pointer (some ⟨ge, 3, none⟩)] 89 (0, 0))) ∧ Aside0 (version_Decode.bd 0 (version_Decode.pk TT T1 T2 T3 j))) (fun i _ => 3 - (intOf i).toNat)
    case atStart => exact ⟨0, _, _, _, rfl, by omega, HDa, HP, HBD⟩
    case round =>
      clear HDa HP HBD
      obtain ⟨j, v1, v2, v3, rfl, hj, HB, HP, HBD⟩ := hrel
      rcases (by omega : j = 0 ∨ j = 1 ∨ j = 2 ∨ j = 3) with rfl | rfl | rfl | rfl
      · skip
        have HD := Aside0.mk (show version_Decode.DS w _ g2 gr gb ge TT v0 v1 v2 v3 TL [] [] [] 0 from HB.out)
        have HBE := Aside0.mk (show version_Decode.bd 0 TT from HBD.out)
        clear HB HBD
        go_upto_block 3 with (fail)
        go_cut [] (fun wc2 => ∃ u, Aside0 (version_Decode.DS w wc2 g2 gr gb ge T1 v0 u v2 v3 TL RD [] [] 0) ∧ Aside0 (wc2.heap[gp]? = some (.cells #[.pointer (some ⟨ge, 1, none⟩), .pointer (some ⟨ge, 2, none⟩), .pointer (some ⟨ge, 3, none⟩)] 89 (0, 0))) ∧ Aside0 (version_Decode.bd 0 T1))
        case first =>
          have cj := (blk_cell HP.out 0).trans rfl
          go_wp2_with fail
          refine (version_Decode.DS.num_ HD.out).mono ?_
          rintro e wa ⟨rfl, hd, hk⟩
          obtain ⟨m, y, hxy⟩ : ∃ x y, version_Decode.gN TT = (x, y) := ⟨_, _, rfl⟩
          rw [hxy] at hd ⊢
          have HDa := Aside0.mk (show version_Decode.DS w wa g2 gr gb ge y v0 v1 v2 v3 TL [] [] [] 0 from hd)
          have HPa := Aside0.mk (hk.blk HP.out (blk_ne HP.out HD.out.hb (by decide)) (blk_ne HP.out HD.out.hr (by decide)))
          have HI := Aside0.mk (show version_Decode.ints m.toNat y [] = (RD, T1) by have := HDD.out; unfold version_Decode.row at this; rw [hxy] at this; exact this)
          have HBa := Aside0.mk (show version_Decode.bd 0 y by have := HBE.out.next; rw [hxy] at this; exact this)
          have HMR := Aside0.mk (show m ≤ 9007199254740991 by have := (version_Decode.gN_range TT).2; rw [hxy] at this; exact this)
          clear hxy hd hk HD HP HBE cj
          go_wp2_with fail
          go_loopw [13] (fun i wr => ∃ (n : Int) (t : version_Decode.S) (u : Value) (L' : List Int), i = .int .i64 n ∧ n ≤ m ∧ Aside0 (version_Decode.ints n.toNat t L' = (RD, T1)) ∧ Aside0 (version_Decode.DS w wr g2 gr gb ge t v0 u v2 v3 TL L' [] [] 0) ∧ Aside0 (wr.heap[gp]? = some (.cells #[.pointer (some ⟨ge, 1, none⟩), .pointer (some ⟨ge, 2, none⟩), .pointer (some ⟨ge, 3, none⟩)] 89 (0, 0))) ∧ Aside0 (version_Decode.bd L'.length t)) (fun i _ => (intOf i).toNat)
          case atStart => exact ⟨m, y, _, [], rfl, Int.le_refl _, HI, HDa, HPa, HBa⟩
          case round =>
            clear HDa HPa HBa HI
            obtain ⟨n, t, u, L', rfl, hn, HT, HD, HP, HBD⟩ := hrel
            have hmr := HMR.out
            by_cases hpos : 0 < n
            · have c0 := (blk_cell HD.out.hb 0).trans rfl
              cases hbad : t.2 with
              | true =>
                rw [hbad] at c0
                go_wp2_with fail
                go_meet
                case rel =>
                  obtain ⟨e1, e2⟩ := Prod.mk.inj ((version_Decode.ints_end _ t L' hbad).symm.trans HT.out)
                  subst e1 e2
                  exact ⟨u, HD, HP, ⟨HBD.out.start⟩⟩
              | false =>
                rw [hbad] at c0
                have HBAD := Aside0.mk hbad
                clear hbad
                go_upto_region 16 with (fail)
                clear c0
                have hce := blk_cell HD.out.he 1
                have HDd := Aside0.mk (HD.out.below (below_drew (Below.refl _ _)))
                refine start_ (n := 10) (S := fun w' => w'.cell? ⟨ge, 1, none⟩ = some u) (ds := [9]) #[false, false, false, false, false, false, false, false, false, false] (by kernel_rfl) rfl rfl (((blk_cell HDd.out.he 1).trans rfl)) (fun hHeld => ?_)
                refine pure_ (i := 0) (N := some 65) (v := ?_) (a' := ?_) #[true, false, false, false, false, false, false, false, false, false] rfl rfl (by kernel_rfl) (fun _ _ _ h => h) (Or.inl ⟨by rfl, ?_⟩) ?_ ?_
                rotate_left
                · intro w'
                  go_simp
                  with_reducible rfl
                rotate_left
                · simp only [Act.put, List.setIfInBounds_toArray, List.set_cons_zero, List.set_cons_succ, i64_w, i32_w]
                  rfl
                refine pure_ (i := 1) (N := some 66) (v := ?_) (a' := ?_) #[true, true, false, false, false, false, false, false, false, false] rfl rfl (by kernel_rfl) (fun _ _ _ h => h) (Or.inl ⟨by rfl, ?_⟩) ?_ ?_
                rotate_left
                · intro w'
                  go_simp
                  with_reducible rfl
                rotate_left
                · simp only [Act.put, List.setIfInBounds_toArray, List.set_cons_zero, List.set_cons_succ, i64_w, i32_w]
                  rfl
                refine pure_ (i := 2) (N := some 67) (v := ?_) (a' := ?_) #[true, true, true, false, false, false, false, false, false, false] rfl rfl (by kernel_rfl) (fun _ _ _ h => h) (Or.inl ⟨by rfl, ?_⟩) ?_ ?_
                rotate_left
                · intro w'
                  go_simp
                  with_reducible rfl
                rotate_left
                · simp only [Act.put, List.setIfInBounds_toArray, List.set_cons_zero, List.set_cons_succ, i64_w, i32_w]
                  rfl
                refine pure_ (i := 4) (N := some 69) (v := ?_) (a' := ?_) #[true, true, true, false, true, false, false, false, false, false] rfl rfl (by kernel_rfl) (fun _ _ _ h => h) (Or.inl ⟨by rfl, ?_⟩) ?_ ?_
                rotate_left
                · intro w'
                  go_simp
                  with_reducible rfl
                rotate_left
                · simp only [Act.put, List.setIfInBounds_toArray, List.set_cons_zero, List.set_cons_succ, i64_w, i32_w]
                  rfl
                refine take_ (i := 3) (N := some 68) (v := ?_) (a' := ?_) #[true, true, true, true, true, false, false, false, false, false] rfl rfl (by kernel_rfl) (fun _ _ _ h => h) (Or.inl ⟨by rfl, ?_⟩) hHeld ?_ ?_
                rotate_left
                · intro w' s0
                  go_simp
                  with_reducible rfl
                rotate_left
                · simp only [Act.put, List.setIfInBounds_toArray, List.set_cons_zero, List.set_cons_succ, i64_w, i32_w]
                  rfl
                refine one_ (i := 5) (N := some 70) #[true, true, true, true, true, true, false, false, false, false] rfl rfl (by kernel_rfl) (by decide) (fun K hK => ?_)
                refine version_Decode.clos_ 69 _ _ _ _ Try.func50 (by kernel_rfl) rfl (by rfl) rfl rfl (by rfl) rfl ?_
                refine (version_Decode.DS.num_ HDd.out).mono ?_
                rintro e wx ⟨rfl, hd, hk⟩
                obtain ⟨x, y5, hxy⟩ : ∃ x y, version_Decode.gN t = (x, y) := ⟨_, _, rfl⟩
                rw [hxy] at hd ⊢
                have HXY := Aside0.mk hxy
                have HDx := Aside0.mk (show version_Decode.DS w wx g2 gr gb ge y5 v0 u v2 v3 TL L' [] [] 0 from hd)
                have HPx := Aside0.mk (hk.blk (g := gp) HP.out (blk_ne HP.out HD.out.hb (by decide)) (blk_ne HP.out HD.out.hr (by decide)))
                clear hxy hd hk
                refine ⟨_, rfl, ?_⟩
                refine hK.out _ _ (((blk_cell HDx.out.he 1).trans rfl)) (fun hHeld => ?_)
                clear hK K
                refine norm_ (a' := ?_) ?_ ?_
                rotate_left
                · show Act.put _ (some 70) _ = _
                  simp only [Act.put, List.setIfInBounds_toArray, List.set_cons_zero, List.set_cons_succ, i64_w, i32_w]
                  rfl
                refine one_ (i := 6) (N := some 71) #[true, true, true, true, true, true, true, false, false, false] rfl rfl (by kernel_rfl) (by decide) (fun K hK => ?_)
                refine value_ (w1 := ?_) (v := ?_) (by rfl) rfl ?_ ?_
                rotate_left 2
                · go_simp
                  constructor
                  · rfl
                  · rfl
                refine hK.out _ _ (((blk_cell (blk_alloc HDx.out.he _) 1).trans rfl)) (fun hHeld => ?_)
                clear hK K
                refine norm_ (a' := ?_) ?_ ?_
                rotate_left
                · show Act.put _ (some 71) _ = _
                  simp only [Act.put, List.setIfInBounds_toArray, List.set_cons_zero, List.set_cons_succ, i64_w, i32_w]
                  rfl
                refine one_ (i := 7) (N := some 72) #[true, true, true, true, true, true, true, true, false, false] rfl rfl (by kernel_rfl) (by decide) (fun K hK => ?_)
                refine Kd.R_append_step (Kd.int .i64) (w0 := w) w.heap.size (by rfl) (.tmp 68) (.tmp 71) 23 3 (.int .i64 0) 8 rfl Try.underlying23 info3 rfl (by decide) (by omega) u L' x [.int .i64 x] (fun _ => True) (fun _ => False) rfl (by first | (go_simp; done) | (go_simp; rfl)) rfl (fun _ hk => hk.elim) (fun _ _ => trivial) (Kd.R_mono HDx.out.r1 (fun _ _ => trivial)) HDx.out.low HDx.out.low.size (by have := HBD.out.1; omega) ?_
                intro u2 w8 ho hb hg hat
                have HD8 := Aside0.mk (HDx.out.app1_ ho hb hg hat)
                have HP8 := Aside0.mk (blk_far (p := ⟨ge, 1, none⟩) (blk_grown HPx.out hg (Kd.R_ne HDx.out.r1 HPx.out (by decide))) (blk_ne HPx.out HDx.out.he (by decide)) u2)
                have he8 := blk_grown HDx.out.he hg (Kd.R_ne HDx.out.r1 HDx.out.he (by decide))
                obtain ⟨A9, c9, e9⟩ := Kd.R_slice ho
                simp only [List.length_append, List.length_cons, List.length_nil] at e9
                subst e9
                have z4 := (blk_cell he8 1).trans rfl
                have z5 := blk_frozen he8 1
                clear ho hb hg hat
                refine hK.out _ _ (((blk_cell he8 1).trans rfl)) (fun hHeld => ?_)
                clear hK K
                refine norm_ (a' := ?_) ?_ ?_
                rotate_left
                · show Act.put _ (some 72) _ = _
                  simp only [Act.put, List.setIfInBounds_toArray, List.set_cons_zero, List.set_cons_succ, i64_w, i32_w]
                  rfl
                refine pure_ (i := 8) (N := some 73) (v := ?_) (a' := ?_) #[true, true, true, true, true, true, true, true, true, false] rfl rfl (by kernel_rfl) (fun _ _ _ h => h) (Or.inl ⟨by rfl, ?_⟩) ?_ ?_
                rotate_left
                · intro w'
                  go_simp
                  with_reducible rfl
                rotate_left
                · simp only [Act.put, List.setIfInBounds_toArray, List.set_cons_zero, List.set_cons_succ, i64_w, i32_w]
                  rfl
                refine last_ (i := 9) (N := none) #[true, true, true, true, true, true, true, true, true, true] rfl rfl (by kernel_rfl) (by decide) (fun K hK => ?_)
                refine skip_ (w1 := ?_) (by rfl) rfl ?_ ?_
                rotate_left
                · go_simp
                  rfl
                refine hK.out _ _ ?_
                clear hK K
                refine done_ (by kernel_rfl) ?_
                clear hce z4 z5 he8
                go_wp2_with fail
                refine ⟨⟨n - 1, y5, _, _, rfl, by omega, ⟨?_⟩, HD8, HP8, ⟨?_⟩⟩, by simp only [intOf]; omega⟩
                · have := HT.out; rw [version_Decode.ints_step n t L' hpos HBAD.out, HXY.out] at this; exact this
                · have := HBD.out.num HBAD.out; rw [HXY.out] at this; rw [List.length_append]; exact this
            · go_wp2_with fail
              go_meet
              case rel =>
                obtain ⟨e1, e2⟩ := Prod.mk.inj ((version_Decode.ints_zero n t L' (by omega)).symm.trans HT.out)
                subst e1 e2
                exact ⟨u, HD, HP, ⟨HBD.out.start⟩⟩
        case rest =>
          clear HD HP HBE
          obtain ⟨u, HDz, HPz, HBz⟩ := hcut
          go_wp2_with fail
          exact ⟨⟨1, u, v2, v3, by simp, by omega, HDz, HPz, HBz⟩, by simp [intOf]⟩
      · skip
        have HD := Aside0.mk (show version_Decode.DS w _ g2 gr gb ge T1 v0 v1 v2 v3 TL RD [] [] 0 from HB.out)
        have HBE := Aside0.mk (show version_Decode.bd 0 T1 from HBD.out)
        clear HB HBD
        go_upto_block 3 with (fail)
        go_cut [] (fun wc2 => ∃ u, Aside0 (version_Decode.DS w wc2 g2 gr gb ge T2 v0 v1 u v3 TL RD RG [] 0) ∧ Aside0 (wc2.heap[gp]? = some (.cells #[.pointer (some ⟨ge, 1, none⟩), .pointer (some ⟨ge, 2, none⟩), .pointer (some ⟨ge, 3, none⟩)] 89 (0, 0))) ∧ Aside0 (version_Decode.bd 0 T2))
        case first =>
          have cj := (blk_cell HP.out 1).trans rfl
          go_wp2_with fail
          refine (version_Decode.DS.num_ HD.out).mono ?_
          rintro e wa ⟨rfl, hd, hk⟩
          obtain ⟨m, y, hxy⟩ : ∃ x y, version_Decode.gN T1 = (x, y) := ⟨_, _, rfl⟩
          rw [hxy] at hd ⊢
          have HDa := Aside0.mk (show version_Decode.DS w wa g2 gr gb ge y v0 v1 v2 v3 TL RD [] [] 0 from hd)
          have HPa := Aside0.mk (hk.blk HP.out (blk_ne HP.out HD.out.hb (by decide)) (blk_ne HP.out HD.out.hr (by decide)))
          have HI := Aside0.mk (show version_Decode.ints m.toNat y [] = (RG, T2) by have := HGG.out; unfold version_Decode.row at this; rw [hxy] at this; exact this)
          have HBa := Aside0.mk (show version_Decode.bd 0 y by have := HBE.out.next; rw [hxy] at this; exact this)
          have HMR := Aside0.mk (show m ≤ 9007199254740991 by have := (version_Decode.gN_range T1).2; rw [hxy] at this; exact this)
          clear hxy hd hk HD HP HBE cj
          go_wp2_with fail
          go_loopw [13] (fun i wr => ∃ (n : Int) (t : version_Decode.S) (u : Value) (L' : List Int), i = .int .i64 n ∧ n ≤ m ∧ Aside0 (version_Decode.ints n.toNat t L' = (RG, T2)) ∧ Aside0 (version_Decode.DS w wr g2 gr gb ge t v0 v1 u v3 TL RD L' [] 0) ∧ Aside0 (wr.heap[gp]? = some (.cells #[.pointer (some ⟨ge, 1, none⟩), .pointer (some ⟨ge, 2, none⟩), .pointer (some ⟨ge, 3, none⟩)] 89 (0, 0))) ∧ Aside0 (version_Decode.bd L'.length t)) (fun i _ => (intOf i).toNat)
          case atStart => exact ⟨m, y, _, [], rfl, Int.le_refl _, HI, HDa, HPa, HBa⟩
          case round =>
            clear HDa HPa HBa HI
            obtain ⟨n, t, u, L', rfl, hn, HT, HD, HP, HBD⟩ := hrel
            have hmr := HMR.out
            by_cases hpos : 0 < n
            · have c0 := (blk_cell HD.out.hb 0).trans rfl
              cases hbad : t.2 with
              | true =>
                rw [hbad] at c0
                go_wp2_with fail
                go_meet
                case rel =>
                  obtain ⟨e1, e2⟩ := Prod.mk.inj ((version_Decode.ints_end _ t L' hbad).symm.trans HT.out)
                  subst e1 e2
                  exact ⟨u, HD, HP, ⟨HBD.out.start⟩⟩
              | false =>
                rw [hbad] at c0
                have HBAD := Aside0.mk hbad
                clear hbad
                go_upto_region 16 with (fail)
                clear c0
                have hce := blk_cell HD.out.he 2
                have HDd := Aside0.mk (HD.out.below (below_drew (Below.refl _ _)))
                refine start_ (n := 10) (S := fun w' => w'.cell? ⟨ge, 2, none⟩ = some u) (ds := [9]) #[false, false, false, false, false, false, false, false, false, false] (by kernel_rfl) rfl rfl (((blk_cell HDd.out.he 2).trans rfl)) (fun hHeld => ?_)
                refine pure_ (i := 0) (N := some 65) (v := ?_) (a' := ?_) #[true, false, false, false, false, false, false, false, false, false] rfl rfl (by kernel_rfl) (fun _ _ _ h => h) (Or.inl ⟨by rfl, ?_⟩) ?_ ?_
                rotate_left
                · intro w'
                  go_simp
                  with_reducible rfl
                rotate_left
                · simp only [Act.put, List.setIfInBounds_toArray, List.set_cons_zero, List.set_cons_succ, i64_w, i32_w]
                  rfl
                refine pure_ (i := 1) (N := some 66) (v := ?_) (a' := ?_) #[true, true, false, false, false, false, false, false, false, false] rfl rfl (by kernel_rfl) (fun _ _ _ h => h) (Or.inl ⟨by rfl, ?_⟩) ?_ ?_
                rotate_left
                · intro w'
                  go_simp
                  with_reducible rfl
                rotate_left
                · simp only [Act.put, List.setIfInBounds_toArray, List.set_cons_zero, List.set_cons_succ, i64_w, i32_w]
                  rfl
                refine pure_ (i := 2) (N := some 67) (v := ?_) (a' := ?_) #[true, true, true, false, false, false, false, false, false, false] rfl rfl (by kernel_rfl) (fun _ _ _ h => h) (Or.inl ⟨by rfl, ?_⟩) ?_ ?_
                rotate_left
                · intro w'
                  go_simp
                  with_reducible rfl
                rotate_left
                · simp only [Act.put, List.setIfInBounds_toArray, List.set_cons_zero, List.set_cons_succ, i64_w, i32_w]
                  rfl
                refine pure_ (i := 4) (N := some 69) (v := ?_) (a' := ?_) #[true, true, true, false, true, false, false, false, false, false] rfl rfl (by kernel_rfl) (fun _ _ _ h => h) (Or.inl ⟨by rfl, ?_⟩) ?_ ?_
                rotate_left
                · intro w'
                  go_simp
                  with_reducible rfl
                rotate_left
                · simp only [Act.put, List.setIfInBounds_toArray, List.set_cons_zero, List.set_cons_succ, i64_w, i32_w]
                  rfl
                refine take_ (i := 3) (N := some 68) (v := ?_) (a' := ?_) #[true, true, true, true, true, false, false, false, false, false] rfl rfl (by kernel_rfl) (fun _ _ _ h => h) (Or.inl ⟨by rfl, ?_⟩) hHeld ?_ ?_
                rotate_left
                · intro w' s0
                  go_simp
                  with_reducible rfl
                rotate_left
                · simp only [Act.put, List.setIfInBounds_toArray, List.set_cons_zero, List.set_cons_succ, i64_w, i32_w]
                  rfl
                refine one_ (i := 5) (N := some 70) #[true, true, true, true, true, true, false, false, false, false] rfl rfl (by kernel_rfl) (by decide) (fun K hK => ?_)
                refine version_Decode.clos_ 69 _ _ _ _ Try.func50 (by kernel_rfl) rfl (by rfl) rfl rfl (by rfl) rfl ?_
                refine (version_Decode.DS.num_ HDd.out).mono ?_
                rintro e wx ⟨rfl, hd, hk⟩
                obtain ⟨x, y5, hxy⟩ : ∃ x y, version_Decode.gN t = (x, y) := ⟨_, _, rfl⟩
                rw [hxy] at hd ⊢
                have HXY := Aside0.mk hxy
                have HDx := Aside0.mk (show version_Decode.DS w wx g2 gr gb ge y5 v0 v1 u v3 TL RD L' [] 0 from hd)
                have HPx := Aside0.mk (hk.blk (g := gp) HP.out (blk_ne HP.out HD.out.hb (by decide)) (blk_ne HP.out HD.out.hr (by decide)))
                clear hxy hd hk
                refine ⟨_, rfl, ?_⟩
                refine hK.out _ _ (((blk_cell HDx.out.he 2).trans rfl)) (fun hHeld => ?_)
                clear hK K
                refine norm_ (a' := ?_) ?_ ?_
                rotate_left
                · show Act.put _ (some 70) _ = _
                  simp only [Act.put, List.setIfInBounds_toArray, List.set_cons_zero, List.set_cons_succ, i64_w, i32_w]
                  rfl
                refine one_ (i := 6) (N := some 71) #[true, true, true, true, true, true, true, false, false, false] rfl rfl (by kernel_rfl) (by decide) (fun K hK => ?_)
                refine value_ (w1 := ?_) (v := ?_) (by rfl) rfl ?_ ?_
                rotate_left 2
                · go_simp
                  constructor
                  · rfl
                  · rfl
                refine hK.out _ _ (((blk_cell (blk_alloc HDx.out.he _) 2).trans rfl)) (fun hHeld => ?_)
                clear hK K
                refine norm_ (a' := ?_) ?_ ?_
                rotate_left
                · show Act.put _ (some 71) _ = _
                  simp only [Act.put, List.setIfInBounds_toArray, List.set_cons_zero, List.set_cons_succ, i64_w, i32_w]
                  rfl
                refine one_ (i := 7) (N := some 72) #[true, true, true, true, true, true, true, true, false, false] rfl rfl (by kernel_rfl) (by decide) (fun K hK => ?_)
                refine Kd.R_append_step (Kd.int .i64) (w0 := w) w.heap.size (by rfl) (.tmp 68) (.tmp 71) 23 3 (.int .i64 0) 8 rfl Try.underlying23 info3 rfl (by decide) (by omega) u L' x [.int .i64 x] (fun _ => True) (fun _ => False) rfl (by first | (go_simp; done) | (go_simp; rfl)) rfl (fun _ hk => hk.elim) (fun _ _ => trivial) (Kd.R_mono HDx.out.r2 (fun _ _ => trivial)) HDx.out.low HDx.out.low.size (by have := HBD.out.1; omega) ?_
                intro u2 w8 ho hb hg hat
                have HD8 := Aside0.mk (HDx.out.app2_ ho hb hg hat)
                have HP8 := Aside0.mk (blk_far (p := ⟨ge, 2, none⟩) (blk_grown HPx.out hg (Kd.R_ne HDx.out.r2 HPx.out (by decide))) (blk_ne HPx.out HDx.out.he (by decide)) u2)
                have he8 := blk_grown HDx.out.he hg (Kd.R_ne HDx.out.r2 HDx.out.he (by decide))
                obtain ⟨A9, c9, e9⟩ := Kd.R_slice ho
                simp only [List.length_append, List.length_cons, List.length_nil] at e9
                subst e9
                have z4 := (blk_cell he8 2).trans rfl
                have z5 := blk_frozen he8 2
                clear ho hb hg hat
                refine hK.out _ _ (((blk_cell he8 2).trans rfl)) (fun hHeld => ?_)
                clear hK K
                refine norm_ (a' := ?_) ?_ ?_
                rotate_left
                · show Act.put _ (some 72) _ = _
                  simp only [Act.put, List.setIfInBounds_toArray, List.set_cons_zero, List.set_cons_succ, i64_w, i32_w]
                  rfl
                refine pure_ (i := 8) (N := some 73) (v := ?_) (a' := ?_) #[true, true, true, true, true, true, true, true, true, false] rfl rfl (by kernel_rfl) (fun _ _ _ h => h) (Or.inl ⟨by rfl, ?_⟩) ?_ ?_
                rotate_left
                · intro w'
                  go_simp
                  with_reducible rfl
                rotate_left
                · simp only [Act.put, List.setIfInBounds_toArray, List.set_cons_zero, List.set_cons_succ, i64_w, i32_w]
                  rfl
                refine last_ (i := 9) (N := none) #[true, true, true, true, true, true, true, true, true, true] rfl rfl (by kernel_rfl) (by decide) (fun K hK => ?_)
                refine skip_ (w1 := ?_) (by rfl) rfl ?_ ?_
                rotate_left
                · go_simp
                  rfl
                refine hK.out _ _ ?_
                clear hK K
                refine done_ (by kernel_rfl) ?_
                clear hce z4 z5 he8
                go_wp2_with fail
                refine ⟨⟨n - 1, y5, _, _, rfl, by omega, ⟨?_⟩, HD8, HP8, ⟨?_⟩⟩, by simp only [intOf]; omega⟩
                · have := HT.out; rw [version_Decode.ints_step n t L' hpos HBAD.out, HXY.out] at this; exact this
                · have := HBD.out.num HBAD.out; rw [HXY.out] at this; rw [List.length_append]; exact this
            · go_wp2_with fail
              go_meet
              case rel =>
                obtain ⟨e1, e2⟩ := Prod.mk.inj ((version_Decode.ints_zero n t L' (by omega)).symm.trans HT.out)
                subst e1 e2
                exact ⟨u, HD, HP, ⟨HBD.out.start⟩⟩
        case rest =>
          clear HD HP HBE
          obtain ⟨u, HDz, HPz, HBz⟩ := hcut
          go_wp2_with fail
          exact ⟨⟨2, v1, u, v3, by simp, by omega, HDz, HPz, HBz⟩, by simp [intOf]⟩
      · skip
        have HD := Aside0.mk (show version_Decode.DS w _ g2 gr gb ge T2 v0 v1 v2 v3 TL RD RG [] 0 from HB.out)
        have HBE := Aside0.mk (show version_Decode.bd 0 T2 from HBD.out)
        clear HB HBD
        go_upto_block 3 with (fail)
        go_cut [] (fun wc2 => ∃ u, Aside0 (version_Decode.DS w wc2 g2 gr gb ge T3 v0 v1 v2 u TL RD RG RH 0) ∧ Aside0 (wc2.heap[gp]? = some (.cells #[.pointer (some ⟨ge, 1, none⟩), .pointer (some ⟨ge, 2, none⟩), .pointer (some ⟨ge, 3, none⟩)] 89 (0, 0))) ∧ Aside0 (version_Decode.bd 0 T3))
        case first =>
          have cj := (blk_cell HP.out 2).trans rfl
          go_wp2_with fail
          refine (version_Decode.DS.num_ HD.out).mono ?_
          rintro e wa ⟨rfl, hd, hk⟩
          obtain ⟨m, y, hxy⟩ : ∃ x y, version_Decode.gN T2 = (x, y) := ⟨_, _, rfl⟩
          rw [hxy] at hd ⊢
          have HDa := Aside0.mk (show version_Decode.DS w wa g2 gr gb ge y v0 v1 v2 v3 TL RD RG [] 0 from hd)
          have HPa := Aside0.mk (hk.blk HP.out (blk_ne HP.out HD.out.hb (by decide)) (blk_ne HP.out HD.out.hr (by decide)))
          have HI := Aside0.mk (show version_Decode.ints m.toNat y [] = (RH, T3) by have := HHH.out; unfold version_Decode.row at this; rw [hxy] at this; exact this)
          have HBa := Aside0.mk (show version_Decode.bd 0 y by have := HBE.out.next; rw [hxy] at this; exact this)
          have HMR := Aside0.mk (show m ≤ 9007199254740991 by have := (version_Decode.gN_range T2).2; rw [hxy] at this; exact this)
          clear hxy hd hk HD HP HBE cj
          go_wp2_with fail
          go_loopw [13] (fun i wr => ∃ (n : Int) (t : version_Decode.S) (u : Value) (L' : List Int), i = .int .i64 n ∧ n ≤ m ∧ Aside0 (version_Decode.ints n.toNat t L' = (RH, T3)) ∧ Aside0 (version_Decode.DS w wr g2 gr gb ge t v0 v1 v2 u TL RD RG L' 0) ∧ Aside0 (wr.heap[gp]? = some (.cells #[.pointer (some ⟨ge, 1, none⟩), .pointer (some ⟨ge, 2, none⟩), .pointer (some ⟨ge, 3, none⟩)] 89 (0, 0))) ∧ Aside0 (version_Decode.bd L'.length t)) (fun i _ => (intOf i).toNat)
          case atStart => exact ⟨m, y, _, [], rfl, Int.le_refl _, HI, HDa, HPa, HBa⟩
          case round =>
            clear HDa HPa HBa HI
            obtain ⟨n, t, u, L', rfl, hn, HT, HD, HP, HBD⟩ := hrel
            have hmr := HMR.out
            by_cases hpos : 0 < n
            · have c0 := (blk_cell HD.out.hb 0).trans rfl
              cases hbad : t.2 with
              | true =>
                rw [hbad] at c0
                go_wp2_with fail
                go_meet
                case rel =>
                  obtain ⟨e1, e2⟩ := Prod.mk.inj ((version_Decode.ints_end _ t L' hbad).symm.trans HT.out)
                  subst e1 e2
                  exact ⟨u, HD, HP, ⟨HBD.out.start⟩⟩
              | false =>
                rw [hbad] at c0
                have HBAD := Aside0.mk hbad
                clear hbad
                go_upto_region 16 with (fail)
                clear c0
                have hce := blk_cell HD.out.he 3
                have HDd := Aside0.mk (HD.out.below (below_drew (Below.refl _ _)))
                refine start_ (n := 10) (S := fun w' => w'.cell? ⟨ge, 3, none⟩ = some u) (ds := [9]) #[false, false, false, false, false, false, false, false, false, false] (by kernel_rfl) rfl rfl (((blk_cell HDd.out.he 3).trans rfl)) (fun hHeld => ?_)
                refine pure_ (i := 0) (N := some 65) (v := ?_) (a' := ?_) #[true, false, false, false, false, false, false, false, false, false] rfl rfl (by kernel_rfl) (fun _ _ _ h => h) (Or.inl ⟨by rfl, ?_⟩) ?_ ?_
                rotate_left
                · intro w'
                  go_simp
                  with_reducible rfl
                rotate_left
                · simp only [Act.put, List.setIfInBounds_toArray, List.set_cons_zero, List.set_cons_succ, i64_w, i32_w]
                  rfl
                refine pure_ (i := 1) (N := some 66) (v := ?_) (a' := ?_) #[true, true, false, false, false, false, false, false, false, false] rfl rfl (by kernel_rfl) (fun _ _ _ h => h) (Or.inl ⟨by rfl, ?_⟩) ?_ ?_
                rotate_left
                · intro w'
                  go_simp
                  with_reducible rfl
                rotate_left
                · simp only [Act.put, List.setIfInBounds_toArray, List.set_cons_zero, List.set_cons_succ, i64_w, i32_w]
                  rfl
                refine pure_ (i := 2) (N := some 67) (v := ?_) (a' := ?_) #[true, true, true, false, false, false, false, false, false, false] rfl rfl (by kernel_rfl) (fun _ _ _ h => h) (Or.inl ⟨by rfl, ?_⟩) ?_ ?_
                rotate_left
                · intro w'
                  go_simp
                  with_reducible rfl
                rotate_left
                · simp only [Act.put, List.setIfInBounds_toArray, List.set_cons_zero, List.set_cons_succ, i64_w, i32_w]
                  rfl
                refine pure_ (i := 4) (N := some 69) (v := ?_) (a' := ?_) #[true, true, true, false, true, false, false, false, false, false] rfl rfl (by kernel_rfl) (fun _ _ _ h => h) (Or.inl ⟨by rfl, ?_⟩) ?_ ?_
                rotate_left
                · intro w'
                  go_simp
                  with_reducible rfl
                rotate_left
                · simp only [Act.put, List.setIfInBounds_toArray, List.set_cons_zero, List.set_cons_succ, i64_w, i32_w]
                  rfl
                refine take_ (i := 3) (N := some 68) (v := ?_) (a' := ?_) #[true, true, true, true, true, false, false, false, false, false] rfl rfl (by kernel_rfl) (fun _ _ _ h => h) (Or.inl ⟨by rfl, ?_⟩) hHeld ?_ ?_
                rotate_left
                · intro w' s0
                  go_simp
                  with_reducible rfl
                rotate_left
                · simp only [Act.put, List.setIfInBounds_toArray, List.set_cons_zero, List.set_cons_succ, i64_w, i32_w]
                  rfl
                refine one_ (i := 5) (N := some 70) #[true, true, true, true, true, true, false, false, false, false] rfl rfl (by kernel_rfl) (by decide) (fun K hK => ?_)
                refine version_Decode.clos_ 69 _ _ _ _ Try.func50 (by kernel_rfl) rfl (by rfl) rfl rfl (by rfl) rfl ?_
                refine (version_Decode.DS.num_ HDd.out).mono ?_
                rintro e wx ⟨rfl, hd, hk⟩
                obtain ⟨x, y5, hxy⟩ : ∃ x y, version_Decode.gN t = (x, y) := ⟨_, _, rfl⟩
                rw [hxy] at hd ⊢
                have HXY := Aside0.mk hxy
                have HDx := Aside0.mk (show version_Decode.DS w wx g2 gr gb ge y5 v0 v1 v2 u TL RD RG L' 0 from hd)
                have HPx := Aside0.mk (hk.blk (g := gp) HP.out (blk_ne HP.out HD.out.hb (by decide)) (blk_ne HP.out HD.out.hr (by decide)))
                clear hxy hd hk
                refine ⟨_, rfl, ?_⟩
                refine hK.out _ _ (((blk_cell HDx.out.he 3).trans rfl)) (fun hHeld => ?_)
                clear hK K
                refine norm_ (a' := ?_) ?_ ?_
                rotate_left
                · show Act.put _ (some 70) _ = _
                  simp only [Act.put, List.setIfInBounds_toArray, List.set_cons_zero, List.set_cons_succ, i64_w, i32_w]
                  rfl
                refine one_ (i := 6) (N := some 71) #[true, true, true, true, true, true, true, false, false, false] rfl rfl (by kernel_rfl) (by decide) (fun K hK => ?_)
                refine value_ (w1 := ?_) (v := ?_) (by rfl) rfl ?_ ?_
                rotate_left 2
                · go_simp
                  constructor
                  · rfl
                  · rfl
                refine hK.out _ _ (((blk_cell (blk_alloc HDx.out.he _) 3).trans rfl)) (fun hHeld => ?_)
                clear hK K
                refine norm_ (a' := ?_) ?_ ?_
                rotate_left
                · show Act.put _ (some 71) _ = _
                  simp only [Act.put, List.setIfInBounds_toArray, List.set_cons_zero, List.set_cons_succ, i64_w, i32_w]
                  rfl
                refine one_ (i := 7) (N := some 72) #[true, true, true, true, true, true, true, true, false, false] rfl rfl (by kernel_rfl) (by decide) (fun K hK => ?_)
                refine Kd.R_append_step (Kd.int .i64) (w0 := w) w.heap.size (by rfl) (.tmp 68) (.tmp 71) 23 3 (.int .i64 0) 8 rfl Try.underlying23 info3 rfl (by decide) (by omega) u L' x [.int .i64 x] (fun _ => True) (fun _ => False) rfl (by first | (go_simp; done) | (go_simp; rfl)) rfl (fun _ hk => hk.elim) (fun _ _ => trivial) (Kd.R_mono HDx.out.r3 (fun _ _ => trivial)) HDx.out.low HDx.out.low.size (by have := HBD.out.1; omega) ?_
                intro u2 w8 ho hb hg hat
                have HD8 := Aside0.mk (HDx.out.app3_ ho hb hg hat)
                have HP8 := Aside0.mk (blk_far (p := ⟨ge, 3, none⟩) (blk_grown HPx.out hg (Kd.R_ne HDx.out.r3 HPx.out (by decide))) (blk_ne HPx.out HDx.out.he (by decide)) u2)
                have he8 := blk_grown HDx.out.he hg (Kd.R_ne HDx.out.r3 HDx.out.he (by decide))
                obtain ⟨A9, c9, e9⟩ := Kd.R_slice ho
                simp only [List.length_append, List.length_cons, List.length_nil] at e9
                subst e9
                have z4 := (blk_cell he8 3).trans rfl
                have z5 := blk_frozen he8 3
                clear ho hb hg hat
                refine hK.out _ _ (((blk_cell he8 3).trans rfl)) (fun hHeld => ?_)
                clear hK K
                refine norm_ (a' := ?_) ?_ ?_
                rotate_left
                · show Act.put _ (some 72) _ = _
                  simp only [Act.put, List.setIfInBounds_toArray, List.set_cons_zero, List.set_cons_succ, i64_w, i32_w]
                  rfl
                refine pure_ (i := 8) (N := some 73) (v := ?_) (a' := ?_) #[true, true, true, true, true, true, true, true, true, false] rfl rfl (by kernel_rfl) (fun _ _ _ h => h) (Or.inl ⟨by rfl, ?_⟩) ?_ ?_
                rotate_left
                · intro w'
                  go_simp
                  with_reducible rfl
                rotate_left
                · simp only [Act.put, List.setIfInBounds_toArray, List.set_cons_zero, List.set_cons_succ, i64_w, i32_w]
                  rfl
                refine last_ (i := 9) (N := none) #[true, true, true, true, true, true, true, true, true, true] rfl rfl (by kernel_rfl) (by decide) (fun K hK => ?_)
                refine skip_ (w1 := ?_) (by rfl) rfl ?_ ?_
                rotate_left
                · go_simp
                  rfl
                refine hK.out _ _ ?_
                clear hK K
                refine done_ (by kernel_rfl) ?_
                clear hce z4 z5 he8
                go_wp2_with fail
                refine ⟨⟨n - 1, y5, _, _, rfl, by omega, ⟨?_⟩, HD8, HP8, ⟨?_⟩⟩, by simp only [intOf]; omega⟩
                · have := HT.out; rw [version_Decode.ints_step n t L' hpos HBAD.out, HXY.out] at this; exact this
                · have := HBD.out.num HBAD.out; rw [HXY.out] at this; rw [List.length_append]; exact this
            · go_wp2_with fail
              go_meet
              case rel =>
                obtain ⟨e1, e2⟩ := Prod.mk.inj ((version_Decode.ints_zero n t L' (by omega)).symm.trans HT.out)
                subst e1 e2
                exact ⟨u, HD, HP, ⟨HBD.out.start⟩⟩
        case rest =>
          clear HD HP HBE
          obtain ⟨u, HDz, HPz, HBz⟩ := hcut
          go_wp2_with fail
          exact ⟨⟨3, v1, v2, u, by simp, by omega, HDz, HPz, HBz⟩, by simp [intOf]⟩
      · skip
        have HD := Aside0.mk (show version_Decode.DS w _ g2 gr gb ge T3 v0 v1 v2 v3 TL RD RG RH 0 from HB.out)
        clear HB HBD HP
        go_wp2_with fail
        refine (version_Decode.DS.num_ HD.out).mono ?_
        rintro e wa ⟨rfl, hd, hk⟩
        rw [HQQ.out] at hd ⊢
        have HDa := Aside0.mk (show version_Decode.DS w wa g2 gr gb ge T4 v0 v1 v2 v3 TL RD RG RH 0 from hd)
        clear hd hk HD
        have e4 := (blk_cell HDa.out.he 4).trans rfl
        have f4 := blk_frozen HDa.out.he 4
        go_upto_region 19 with (fail)
        have HDb := Aside0.mk (HDa.out.seq_ q)
        generalize wa.setCell ⟨ge, 4, none⟩ (.int .i64 q) = wb at HDb ⊢
        clear e4 f4 HDa
        obtain ⟨A0, c0, e0, hl0, hc0⟩ := Kd.R_reads HDb.out.r0
        subst e0
        obtain ⟨A1, c1, e1, hl1, hc1⟩ := Kd.R_reads HDb.out.r1
        subst e1
        obtain ⟨A2, c2, e2, hl2, hc2⟩ := Kd.R_reads HDb.out.r2
        subst e2
        obtain ⟨A3, c3, e3, hl3, hc3⟩ := Kd.R_reads HDb.out.r3
        subst e3
        have e0 := (blk_cell HDb.out.he 0).trans rfl
        have e1 := (blk_cell HDb.out.he 1).trans rfl
        have e2 := (blk_cell HDb.out.he 2).trans rfl
        have e3 := (blk_cell HDb.out.he 3).trans rfl
        have e4 := (blk_cell HDb.out.he 4).trans rfl
        have HC0 := Aside0.mk hc0
        have HL0 := Aside0.mk hl0
        have HC1 := Aside0.mk hc1
        have HL1 := Aside0.mk hl1
        have HC2 := Aside0.mk hc2
        have HL2 := Aside0.mk hl2
        have HC3 := Aside0.mk hc3
        have HL3 := Aside0.mk hl3
        clear hl0 hc0 hl1 hc1 hl2 hc2 hl3 hc3
        obtain ⟨gd, hgd⟩ : ∃ b, b = version_Encode.good TL RD RG RH q := ⟨_, rfl⟩
        have HGD := Aside0.mk hgd
        clear hgd
        go_wp2_with fail
        refine (version_Encode.calls A0 c0 TL A1 c1 RD A2 c2 RG A3 c3 RH q (if gd = true then (strOfNums (version_Encode.all TL RD RG RH q), (none : Option Int)) else (⟨#[]⟩, some 1)).1 (if gd = true then (strOfNums (version_Encode.all TL RD RG RH q), (none : Option Int)) else (⟨#[]⟩, some 1)).2 wb HC0.out HL0.out HC1.out HL1.out HC2.out HL2.out HC3.out HL3.out (by unfold version_Encode.f; rw [← HGD.out])).mono ?_
        rintro e wz ⟨rfl, hbz⟩
        have HDz := Aside0.mk (HDb.out.below hbz)
        clear hbz HDb HC0 HC1 HC2 HC3 HL0 HL1 HL2 HL3 e0 e1 e2 e3 e4
        have c5 := (blk_cell HDz.out.hb 0).trans rfl
        obtain ⟨bd4, hbd4⟩ : ∃ b, b = T4.2 := ⟨_, rfl⟩
        rw [← hbd4] at c5
        have HB4 := Aside0.mk hbd4
        clear hbd4
        cases bd4 with
        | true =>
          cases gd with
          | true =>
            rw [if_pos rfl, errW_none]
            go_wp2_with (first | ((with_reducible refine gate_store (t := 32) (p := 2) (v := .tmp 93) rfl ?_); refine agg_event rfl 32 (.tmp 2) (.tmp 93) rfl g2 rfl #[.slice none 0 0, .slice none 0 0, .slice none 0 0, .slice none 0 0, .int .i64 0] #[.slice none 0 0, .slice none 0 0, .slice none 0 0, .slice none 0 0, .int .i64 0] rfl HDz.out.h2 (by kernel_rfl) rfl (by simp [Value.oneCell']) ?_; intro wp hst hgr hszz; clear hszz; have HST := Aside0.mk hst; have HGR := Aside0.mk hgr; clear hst hgr))
            refine bodyPost_ret (results_ct rfl _ _ g2 32 #[.slice none 0 0, .slice none 0 0, .slice none 0 0, .slice none 0 0, .int .i64 0] (0, 0) _ rfl HST.out Try.underlying32 rfl (by kernel_rfl)) rfl ?_
            have hres : r = (([], [], [], [], 0), some 3) := by
              rw [HRES.out]; unfold version_Decode.resE; rw [HTELL.out, if_neg]
              rintro ⟨k1, k2, k3⟩
              exact absurd (HB4.out.trans k1) (by decide)
            rw [hres]
            exact ⟨_, _, _, _, rfl, Kd.R_nil _ _ _ _ _, Kd.R_nil _ _ _ _ _, Kd.R_nil _ _ _ _ _, Kd.R_nil _ _ _ _ _, pw_below_grown HDz.out.low (some g2) HDz.out.low.size HGR.out (fun k_ e_ => by injection e_ with e_; have := HDz.out.b2; omega)⟩
          | false =>
            rw [if_neg (by decide), errW_some]
            go_wp2_with (first | ((with_reducible refine gate_store (t := 32) (p := 2) (v := .tmp 93) rfl ?_); refine agg_event rfl 32 (.tmp 2) (.tmp 93) rfl g2 rfl #[.slice none 0 0, .slice none 0 0, .slice none 0 0, .slice none 0 0, .int .i64 0] #[.slice none 0 0, .slice none 0 0, .slice none 0 0, .slice none 0 0, .int .i64 0] rfl HDz.out.h2 (by kernel_rfl) rfl (by simp [Value.oneCell']) ?_; intro wp hst hgr hszz; clear hszz; have HST := Aside0.mk hst; have HGR := Aside0.mk hgr; clear hst hgr))
            refine bodyPost_ret (results_ct rfl _ _ g2 32 #[.slice none 0 0, .slice none 0 0, .slice none 0 0, .slice none 0 0, .int .i64 0] (0, 0) _ rfl HST.out Try.underlying32 rfl (by kernel_rfl)) rfl ?_
            have hres : r = (([], [], [], [], 0), some 3) := by
              rw [HRES.out]; unfold version_Decode.resE; rw [HTELL.out, if_neg]
              rintro ⟨k1, k2, k3⟩
              exact absurd (HGD.out.trans k2) (by decide)
            rw [hres]
            exact ⟨_, _, _, _, rfl, Kd.R_nil _ _ _ _ _, Kd.R_nil _ _ _ _ _, Kd.R_nil _ _ _ _ _, Kd.R_nil _ _ _ _ _, pw_below_grown HDz.out.low (some g2) HDz.out.low.size HGR.out (fun k_ e_ => by injection e_ with e_; have := HDz.out.b2; omega)⟩
        | false =>
          cases gd with
          | false =>
            rw [if_neg (by decide), errW_some]
            go_wp2_with (first | ((with_reducible refine gate_store (t := 32) (p := 2) (v := .tmp 93) rfl ?_); refine agg_event rfl 32 (.tmp 2) (.tmp 93) rfl g2 rfl #[.slice none 0 0, .slice none 0 0, .slice none 0 0, .slice none 0 0, .int .i64 0] #[.slice none 0 0, .slice none 0 0, .slice none 0 0, .slice none 0 0, .int .i64 0] rfl HDz.out.h2 (by kernel_rfl) rfl (by simp [Value.oneCell']) ?_; intro wp hst hgr hszz; clear hszz; have HST := Aside0.mk hst; have HGR := Aside0.mk hgr; clear hst hgr))
            refine bodyPost_ret (results_ct rfl _ _ g2 32 #[.slice none 0 0, .slice none 0 0, .slice none 0 0, .slice none 0 0, .int .i64 0] (0, 0) _ rfl HST.out Try.underlying32 rfl (by kernel_rfl)) rfl ?_
            have hres : r = (([], [], [], [], 0), some 3) := by
              rw [HRES.out]; unfold version_Decode.resE; rw [HTELL.out, if_neg]
              rintro ⟨k1, k2, k3⟩
              exact absurd (HGD.out.trans k2) (by decide)
            rw [hres]
            exact ⟨_, _, _, _, rfl, Kd.R_nil _ _ _ _ _, Kd.R_nil _ _ _ _ _, Kd.R_nil _ _ _ _ _, Kd.R_nil _ _ _ _ _, pw_below_grown HDz.out.low (some g2) HDz.out.low.size HGR.out (fun k_ e_ => by injection e_ with e_; have := HDz.out.b2; omega)⟩
          | true =>
            rw [if_pos rfl, errW_none]
            obtain ⟨s1, hs1⟩ : ∃ s1, s1 = strOfNums (version_Encode.all TL RD RG RH q) := ⟨_, rfl⟩
            rw [← hs1]
            have HS1 := Aside0.mk hs1
            clear hs1
            by_cases heq : s1 = s0
            · have heqb : (s1.toList == s0.toList) = true := by rw [heq]; exact beq_self_eq_true _
              have HEQ := Aside0.mk heq
              clear heq
              have e0 := (blk_cell HDz.out.he 0).trans rfl
              have e1 := (blk_cell HDz.out.he 1).trans rfl
              have e2 := (blk_cell HDz.out.he 2).trans rfl
              have e3 := (blk_cell HDz.out.he 3).trans rfl
              have e4 := (blk_cell HDz.out.he 4).trans rfl
              go_wp2_with (first | ((with_reducible refine gate_store (t := 32) (p := 2) (v := .tmp 95) rfl ?_); refine agg_event rfl 32 (.tmp 2) (.tmp 95) rfl g2 rfl #[.slice A0 TL.length c0, .slice A1 RD.length c1, .slice A2 RG.length c2, .slice A3 RH.length c3, .int .i64 q] #[.slice none 0 0, .slice none 0 0, .slice none 0 0, .slice none 0 0, .int .i64 0] rfl HDz.out.h2 (by kernel_rfl) rfl (by simp [Value.oneCell']) ?_; intro wp hst hgr hszz; clear hszz; have HST := Aside0.mk hst; have HGR := Aside0.mk hgr; clear hst hgr))
              refine bodyPost_ret (results_ct rfl _ _ g2 32 #[.slice A0 TL.length c0, .slice A1 RD.length c1, .slice A2 RG.length c2, .slice A3 RH.length c3, .int .i64 q] (0, 0) _ rfl HST.out Try.underlying32 rfl (by kernel_rfl)) rfl ?_
              have hres : r = ((TL, RD, RG, RH, q), none) := by
                rw [HRES.out]; unfold version_Decode.resE; rw [HTELL.out, if_pos]
                exact ⟨HB4.out.symm, HGD.out.symm, HS1.out.symm.trans HEQ.out⟩
              rw [hres]
              exact ⟨_, _, _, _, rfl, Kd.R_mono (Kd.R_grown (Kd.R_types HDz.out.r0 HDz.out.h2 (by decide)) HGR.out (fun k_ hk e_ => hk.2 (by injection e_))) (fun _ _ => trivial), Kd.R_mono (Kd.R_grown (Kd.R_types HDz.out.r1 HDz.out.h2 (by decide)) HGR.out (fun k_ hk e_ => hk.2 (by injection e_))) (fun _ hk => hk.1), Kd.R_mono (Kd.R_grown (Kd.R_types HDz.out.r2 HDz.out.h2 (by decide)) HGR.out (fun k_ hk e_ => hk.2 (by injection e_))) (fun _ hk => hk.1), Kd.R_mono (Kd.R_grown (Kd.R_types HDz.out.r3 HDz.out.h2 (by decide)) HGR.out (fun k_ hk e_ => hk.2 (by injection e_))) (fun _ hk => hk.1), pw_below_grown HDz.out.low (some g2) HDz.out.low.size HGR.out (fun k_ e_ => by injection e_ with e_; have := HDz.out.b2; omega)⟩
            · have heqb : (s1.toList == s0.toList) = false := beq_eq_false_iff_ne.2 (fun e => heq (by rw [ByteArray.toList_eq, ByteArray.toList_eq] at e; exact ByteArray.ext (Array.toList_inj.1 e)))
              have HNE := Aside0.mk heq
              clear heq
              go_wp2_with (first | ((with_reducible refine gate_store (t := 32) (p := 2) (v := .tmp 93) rfl ?_); refine agg_event rfl 32 (.tmp 2) (.tmp 93) rfl g2 rfl #[.slice none 0 0, .slice none 0 0, .slice none 0 0, .slice none 0 0, .int .i64 0] #[.slice none 0 0, .slice none 0 0, .slice none 0 0, .slice none 0 0, .int .i64 0] rfl HDz.out.h2 (by kernel_rfl) rfl (by simp [Value.oneCell']) ?_; intro wp hst hgr hszz; clear hszz; have HST := Aside0.mk hst; have HGR := Aside0.mk hgr; clear hst hgr))
              refine bodyPost_ret (results_ct rfl _ _ g2 32 #[.slice none 0 0, .slice none 0 0, .slice none 0 0, .slice none 0 0, .int .i64 0] (0, 0) _ rfl HST.out Try.underlying32 rfl (by kernel_rfl)) rfl ?_
              have hres : r = (([], [], [], [], 0), some 3) := by
                rw [HRES.out]; unfold version_Decode.resE; rw [HTELL.out, if_neg]
                rintro ⟨k1, k2, k3⟩
                exact HNE.out (HS1.out.trans k3)
              rw [hres]
              exact ⟨_, _, _, _, rfl, Kd.R_nil _ _ _ _ _, Kd.R_nil _ _ _ _ _, Kd.R_nil _ _ _ _ _, Kd.R_nil _ _ _ _ _, pw_below_grown HDz.out.low (some g2) HDz.out.low.size HGR.out (fun k_ e_ => by injection e_ with e_; have := HDz.out.b2; omega)⟩
def version_Decode.f (a0 : ByteArray) : Option (List S35 × List Int × List Int × List Int × Int × Option Int) := if a0.size ≤ 1048576 then some ((version_Decode.resE a0).1.1, (version_Decode.resE a0).1.2.1, (version_Decode.resE a0).1.2.2.1, (version_Decode.resE a0).1.2.2.2.1, (version_Decode.resE a0).1.2.2.2.2, (version_Decode.resE a0).2) else none
theorem version_Decode.calls (a0 : ByteArray) (r1 : List S35) (r2 r3 r4 : List Int) (r5 : Int) (r6 : Option Int) (w : World) (h : version_Decode.f a0 = some (r1, r2, r3, r4, r5, r6)) :
    Calls Try.prog 19 #[.string a0] w fun e w' => ∃ v0_ v1_ v2_ v3_ : Value, e = .returned (.tuple #[.agg #[v0_, v1_, v2_, v3_, .int .i64 r5], errW r6]) ∧ Kd.R k35 35 w' w.heap.size (fun _ => True) v0_ r1 ∧ Kd.R (Kd.int .i64) 3 w' w.heap.size (fun k_ => some k_ ≠ (v2_ : Value).ownBlock ∧ some k_ ≠ (v3_ : Value).ownBlock) v1_ r2 ∧ Kd.R (Kd.int .i64) 3 w' w.heap.size (fun k_ => some k_ ≠ (v1_ : Value).ownBlock ∧ some k_ ≠ (v3_ : Value).ownBlock) v2_ r3 ∧ Kd.R (Kd.int .i64) 3 w' w.heap.size (fun k_ => some k_ ≠ (v1_ : Value).ownBlock ∧ some k_ ≠ (v2_ : Value).ownBlock) v3_ r4 ∧ Below w.heap.size w w' := by
  unfold version_Decode.f at h
  split at h
  · next hs =>
    have := version_Decode.walk_ a0 w hs
    simp only [Option.some.injEq, Prod.mk.injEq] at h
    obtain ⟨rfl, rfl, rfl, rfl, rfl, rfl⟩ := h
    exact this
  · exact absurd h (by simp)


end Go.Proofs.Ytokimlfagpddlaa.PD

-- printed by gprint.py (own tool) over the kit's print
namespace Go.Proofs.Ytokimlfagpddlaa.PD
open Go.RowKit Go.Proofs.Ytokimlfagpddlaa Go.Proofs.YtokimlfagpddlaaW.PrintWords Go.Proofs.YtokimlfagpddlaaW.PrintLast Go.Proofs.YtokimlfagpddlaaW.PrintMore
attribute [local go_sem] max2_int min2_int max_two min_two max_three min_three max_four min_four   -- for this text's walks alone
set_option linter.unnecessarySimpa false
attribute [local go_sem] min2_str max2_str leq_str gtr_str geq_str
set_option linter.unusedVariables false
set_option linter.unusedSimpArgs false

/-! ### palinoderef01_ReadNum: function 74 -/
mutual
def palinoderef01_ReadNum.j0 : Nat → ByteArray → Int → Bool → Option (Int × ByteArray × Int)
  | 0, _, _, _ => none
  | k + 1, x0, x5, x26 => if x26 = true then (some (0, (⟨#[]⟩ : ByteArray), 3)) else (palinoderef01_ReadNum.l0 k x0 x5 0 0)
def palinoderef01_ReadNum.l0 : Nat → ByteArray → Int → Int → Int → Option (Int × ByteArray × Int)
  | 0, _, _, _, _ => none
  | k + 1, x0, x5, x6, x7 => if x7 < x5 then (if 0 ≤ (wrap64 (1 + x7)) then (if (wrap64 (1 + x7)) < (x0.size : Int) then (palinoderef01_ReadNum.l0 k x0 x5 (wrap64 ((wrap64 (256 * x6)) + (wrap64 (bt x0 (wrap64 (1 + x7)))))) (wrap64 (x7 + 1))) else (none)) else (none)) else (if x6 > 9007199254740991 then (some (0, (⟨#[]⟩ : ByteArray), 3)) else (if 0 ≤ (wrap64 (1 + x5)) then (if (wrap64 (1 + x5)) ≤ (x0.size : Int) then (some (x6, x0.extract ((wrap64 (1 + x5)) : Int).toNat x0.size, 0)) else (none)) else (none)))
end
def palinoderef01_ReadNum.f (k : Nat) (a0 : ByteArray) : Option (Int × ByteArray × Int) := if a0.toList = ([] : List UInt8) then (some (0, (⟨#[]⟩ : ByteArray), 2)) else (if 0 < (a0.size : Int) then (if (wrap64 (bt a0 0)) > 7 then (some (0, (⟨#[]⟩ : ByteArray), 3)) else (if (a0.size : Int) < (wrap64 (1 + (wrap64 (bt a0 0)))) then (some (0, (⟨#[]⟩ : ByteArray), 2)) else (if (wrap64 (bt a0 0)) > 0 then (if 1 < (a0.size : Int) then (palinoderef01_ReadNum.j0 k a0 (wrap64 (bt a0 0)) ((bt a0 1) == 0)) else (none)) else (palinoderef01_ReadNum.j0 k a0 (wrap64 (bt a0 0)) false)))) else (none))
theorem palinoderef01_ReadNum.mono_l : ∀ k, (∀ y0 y1 y2, LeO (palinoderef01_ReadNum.j0 k y0 y1 y2) (palinoderef01_ReadNum.j0 (k + 1) y0 y1 y2)) ∧ (∀ y0 y1 y2 y3, LeO (palinoderef01_ReadNum.l0 k y0 y1 y2 y3) (palinoderef01_ReadNum.l0 (k + 1) y0 y1 y2 y3))
  | 0 => ⟨fun _ _ _ r h => by simp [palinoderef01_ReadNum.j0] at h, fun _ _ _ _ r h => by simp [palinoderef01_ReadNum.l0] at h⟩
  | k + 1 => by
    obtain ⟨ih0, ih1⟩ := palinoderef01_ReadNum.mono_l k
    refine ⟨?_, ?_⟩
    · intro y0 y1 y2
      unfold palinoderef01_ReadNum.j0
      repeat' first
      | (with_reducible exact ih0 _ _ _)
      | (with_reducible exact ih1 _ _ _ _)
      | (with_reducible exact LeO.refl _)
      | (with_reducible exact LeO.none _)
      | (with_reducible refine LeO.ite ?_ ?_)
      | (with_reducible refine LeO.bind ?_ (fun _ => ?_))
      | exact ih0 _ _ _
      | exact ih1 _ _ _ _
      | exact LeO.none _
      | refine LeO.ite ?_ ?_
      | refine LeO.bind ?_ (fun _ => ?_)
    · intro y0 y1 y2 y3
      unfold palinoderef01_ReadNum.l0
      repeat' first
      | (with_reducible exact ih0 _ _ _)
      | (with_reducible exact ih1 _ _ _ _)
      | (with_reducible exact LeO.refl _)
      | (with_reducible exact LeO.none _)
      | (with_reducible refine LeO.ite ?_ ?_)
      | (with_reducible refine LeO.bind ?_ (fun _ => ?_))
      | exact ih0 _ _ _
      | exact ih1 _ _ _ _
      | exact LeO.none _
      | refine LeO.ite ?_ ?_
      | refine LeO.bind ?_ (fun _ => ?_)
theorem palinoderef01_ReadNum.mono : ∀ a0 k, LeO (palinoderef01_ReadNum.f k a0) (palinoderef01_ReadNum.f (k + 1) a0) := by
  intro a0 k
  obtain ⟨ih0, ih1⟩ := palinoderef01_ReadNum.mono_l k
  unfold palinoderef01_ReadNum.f
  repeat' first
      | (with_reducible exact ih0 _ _ _)
      | (with_reducible exact ih1 _ _ _ _)
      | (with_reducible exact LeO.refl _)
      | (with_reducible exact LeO.none _)
      | (with_reducible refine LeO.ite ?_ ?_)
      | (with_reducible refine LeO.bind ?_ (fun _ => ?_))
      | exact ih0 _ _ _
      | exact ih1 _ _ _ _
      | exact LeO.none _
      | refine LeO.ite ?_ ?_
      | refine LeO.bind ?_ (fun _ => ?_)
set_option maxHeartbeats 8000000 in
set_option maxRecDepth 100000 in
theorem palinoderef01_ReadNum.calls (k : Nat) (a0 : ByteArray) (r1 : Int) (r2 : ByteArray) (r3 : Int) (w : World) (h : palinoderef01_ReadNum.f k a0 = some (r1, r2, r3)) :
    Calls Try.prog 74 #[.string a0] w fun e w' => e = .returned (.tuple #[.int .i64 r1, .string r2, .int .i64 r3]) ∧ Drawn0 w w' := by
  have H : (if a0.toList = ([] : List UInt8) then (some (0, (⟨#[]⟩ : ByteArray), 2)) else (if 0 < (a0.size : Int) then (if (wrap64 (bt a0 0)) > 7 then (some (0, (⟨#[]⟩ : ByteArray), 3)) else (if (a0.size : Int) < (wrap64 (1 + (wrap64 (bt a0 0)))) then (some (0, (⟨#[]⟩ : ByteArray), 2)) else (if (wrap64 (bt a0 0)) > 0 then (if 1 < (a0.size : Int) then (palinoderef01_ReadNum.j0 k a0 (wrap64 (bt a0 0)) ((bt a0 1) == 0)) else (none)) else (palinoderef01_ReadNum.j0 k a0 (wrap64 (bt a0 0)) false)))) else (none))) = some (r1, r2, r3) := h
  clear h
  by_cases c2 : a0.toList = ([] : List UInt8)
  · rw [if_pos c2] at H
    have c2b0 : (a0.toList == ([] : List UInt8)) = true := beq_iff_eq.mpr c2
    have c2b1 : (a0.toList != ([] : List UInt8)) = false := bne_eq_false_iff_eq.mpr c2
    clear c2
    simp only [Option.some.injEq, Prod.mk.injEq] at H
    obtain ⟨rfl, rfl, rfl⟩ := H
    go_enter Try.func74, Try.ntmps74
    go_wp2
    repeat (go_quiet (fail); try go_wp2)
    go_ret3
    exact ⟨by first | rfl | (simp; done) | (simp [*]; done), by repeat (first | exact Drawn0.refl _ | apply Drawn0.step)⟩
  · rw [if_neg c2] at H
    have c2b0 : (a0.toList == ([] : List UInt8)) = false := beq_eq_false_iff_ne.mpr c2
    have c2b1 : (a0.toList != ([] : List UInt8)) = true := bne_iff_ne.mpr c2
    by_cases c3 : 0 < (a0.size : Int)
    · rw [if_pos c3] at H
      have c3b0 : decide (0 < (a0.size : Int)) = true := decide_eq_true c3
      have c3b1 : decide (0 < a0.size) = true := decide_eq_true (by omega)
      clear c3
      by_cases c5 : (wrap64 (bt a0 0)) > 7
      · rw [if_pos c5] at H
        have c5b0 : decide (7 < (wrap64 (bt a0 0))) = true := decide_eq_true c5
        clear c5
        simp only [Option.some.injEq, Prod.mk.injEq] at H
        obtain ⟨rfl, rfl, rfl⟩ := H
        have p4 : 0 ≤ (0 : Int) := (by omega)
        have q4 : 0 < a0.size := (by have : (0 : Int) < (a0.size : Int) := of_decide_eq_true (by first | (with_reducible assumption) | assumption); omega)
        have hx4 : ∀ h : 0 < a0.size, ((a0[0]'h).toNat : Int) = bt a0 0 := bt_at a0 0
        clear p4
        have qi4 : (0 < (a0.size : Int)) = True := eq_true (of_decide_eq_true (by first | (with_reducible assumption) | assumption))
        replace q4 := eq_true q4
        go_enter Try.func74, Try.ntmps74
        go_wp2
        repeat (go_quiet (fail); try go_wp2)
        go_ret3
        exact ⟨by first | rfl | (simp; done) | (simp [*]; done), by repeat (first | exact Drawn0.refl _ | apply Drawn0.step)⟩
      · rw [if_neg c5] at H
        have c5b0 : decide (7 < (wrap64 (bt a0 0))) = false := decide_eq_false c5
        clear c5
        by_cases c6 : (a0.size : Int) < (wrap64 (1 + (wrap64 (bt a0 0))))
        · rw [if_pos c6] at H
          have c6b0 : decide ((a0.size : Int) < (wrap64 (1 + (wrap64 (bt a0 0))))) = true := decide_eq_true c6
          clear c6
          simp only [Option.some.injEq, Prod.mk.injEq] at H
          obtain ⟨rfl, rfl, rfl⟩ := H
          have p4 : 0 ≤ (0 : Int) := (by omega)
          have q4 : 0 < a0.size := (by have : (0 : Int) < (a0.size : Int) := of_decide_eq_true (by first | (with_reducible assumption) | assumption); omega)
          have hx4 : ∀ h : 0 < a0.size, ((a0[0]'h).toNat : Int) = bt a0 0 := bt_at a0 0
          clear p4
          have qi4 : (0 < (a0.size : Int)) = True := eq_true (of_decide_eq_true (by first | (with_reducible assumption) | assumption))
          replace q4 := eq_true q4
          go_enter Try.func74, Try.ntmps74
          go_wp2
          repeat (go_quiet (fail); try go_wp2)
          go_ret3
          exact ⟨by first | rfl | (simp; done) | (simp [*]; done), by repeat (first | exact Drawn0.refl _ | apply Drawn0.step)⟩
        · rw [if_neg c6] at H
          have c6b0 : decide ((a0.size : Int) < (wrap64 (1 + (wrap64 (bt a0 0))))) = false := decide_eq_false c6
          clear c6
          have HC7 := Aside0.mk H
          clear H
          have p4 : 0 ≤ (0 : Int) := (by omega)
          have q4 : 0 < a0.size := (by have : (0 : Int) < (a0.size : Int) := of_decide_eq_true (by first | (with_reducible assumption) | assumption); omega)
          have hx4 : ∀ h : 0 < a0.size, ((a0[0]'h).toNat : Int) = bt a0 0 := bt_at a0 0
          clear p4
          have qi4 : (0 < (a0.size : Int)) = True := eq_true (of_decide_eq_true (by first | (with_reducible assumption) | assumption))
          replace q4 := eq_true q4
          go_enter Try.func74, Try.ntmps74
          go_upto_region 8 with (fail)
          repeat (go_quiet (fail); go_upto_region 8 with (fail))
          go_cut [26] (fun v26 wc => ∃ (kq : Nat) (x26_6 : Bool), v26 = .bool x26_6 ∧ Aside0 (palinoderef01_ReadNum.j0 kq a0 (wrap64 (bt a0 0)) x26_6 = some (r1, r2, r3)) ∧ Aside0 (kq ≤ k) ∧ Drawn0 w wc)
          case first =>
            have H := HC7.out
            clear HC7
            by_cases c8 : (wrap64 (bt a0 0)) > 0
            · rw [if_pos c8] at H
              have c8b0 : decide (0 < (wrap64 (bt a0 0))) = true := decide_eq_true c8
              clear c8
              (first | rw [c8b0] | (simp only [i64_w, i32_w]; rw [c8b0]) | skip)
              by_cases c9 : 1 < (a0.size : Int)
              · rw [if_pos c9] at H
                have c9b0 : decide (1 < (a0.size : Int)) = true := decide_eq_true c9
                have c9b1 : decide (1 < a0.size) = true := decide_eq_true (by omega)
                clear c9
                have H' := Aside0.mk H
                clear H
                have p10 : 0 ≤ (1 : Int) := (by omega)
                have q10 : 1 < a0.size := (by have : (1 : Int) < (a0.size : Int) := of_decide_eq_true (by first | (with_reducible assumption) | assumption); omega)
                have hx10 : ∀ h : 1 < a0.size, ((a0[1]'h).toNat : Int) = bt a0 1 := bt_at a0 1
                clear p10
                have qi10 : (1 < (a0.size : Int)) = True := eq_true (of_decide_eq_true (by first | (with_reducible assumption) | assumption))
                replace q10 := eq_true q10
                go_wp2
                repeat (go_quiet (fail); try go_wp2)
                go_meet
                case rel => exact ⟨_, (((bt a0 1) == 0)), (by first | rfl | (simp; done) | (simp [*]; done)), H', ⟨by first | omega | exact Nat.le_refl _⟩, by repeat (first | exact Drawn0.refl _ | apply Drawn0.step)⟩
              · rw [if_neg c9] at H
                exact absurd H (by simp)
            · rw [if_neg c8] at H
              have c8b0 : decide (0 < (wrap64 (bt a0 0))) = false := decide_eq_false c8
              clear c8
              (first | rw [c8b0] | (simp only [i64_w, i32_w]; rw [c8b0]) | skip)
              have H' := Aside0.mk H
              clear H
              go_wp2
              repeat (go_quiet (fail); try go_wp2)
              go_meet
              case rel => exact ⟨_, (false), (by first | rfl | (simp; done) | (simp [*]; done)), H', ⟨by first | omega | exact Nat.le_refl _⟩, by repeat (first | exact Drawn0.refl _ | apply Drawn0.step)⟩
          case rest =>
            clear HC7
            try clear p1
            try clear q1
            try clear hx1
            try clear qi1
            try clear c2
            try clear c2b0
            try clear c2b1
            try clear p2
            try clear c3
            try clear c3b0
            try clear c3b1
            try clear p4
            try clear q4
            try clear hx4
            try clear qi4
            try clear c5
            try clear c5b0
            try clear c6
            try clear c6b0
            try clear p6
            try clear c7
            try clear c8
            try clear c8b0
            try clear c9
            try clear c9b0
            try clear c9b1
            try clear p10
            try clear q10
            try clear hx10
            try clear qi10
            try clear p10
            try clear p4
            try clear q10
            try clear q4
            obtain ⟨kq, x26_6, rfl, HA, HJ6, ⟨mc6, rfl⟩⟩ := hcut
            cases kq with
            | zero => exact absurd HA.out (by simp [palinoderef01_ReadNum.j0])
            | succ kj6 =>
              have H := HA.out
              clear HA
              simp only [palinoderef01_ReadNum.j0] at H
              by_cases c11 : x26_6 = true
              · subst c11
                have H1 : (some (0, (⟨#[]⟩ : ByteArray), 3)) = some (r1, r2, r3) := by rw [if_pos rfl] at H; exact H
                clear H
                have H := H1
                clear H1
                simp only [Option.some.injEq, Prod.mk.injEq] at H
                obtain ⟨rfl, rfl, rfl⟩ := H
                go_wp2
                repeat (go_quiet (fail); try go_wp2)
                go_ret3
                exact ⟨by first | rfl | (simp; done) | (simp [*]; done), by repeat (first | exact Drawn0.refl _ | apply Drawn0.step)⟩
              · replace c11 := Bool.eq_false_iff.mpr c11
                subst c11
                have H1 : (palinoderef01_ReadNum.l0 kj6 a0 (wrap64 (bt a0 0)) 0 0) = some (r1, r2, r3) := by rw [if_neg (show ¬ (false = true) by decide)] at H; exact H
                clear H
                have H := H1
                clear H1
                have H' := Aside0.mk H
                clear H
                go_wp2
                repeat (go_quiet (fail); try go_wp2)
                go_loopg [6, 7] kj6 (fun kq v6 v7 w' => ∃ (x6_2 : Int) (x7_2 : Int), v6 = .int .i64 x6_2 ∧ v7 = .int .i64 x7_2 ∧ Aside0 (palinoderef01_ReadNum.l0 kq a0 (wrap64 (bt a0 0)) x6_2 x7_2 = some (r1, r2, r3)) ∧ Aside0 (kq ≤ kj6) ∧ Drawn0 w w')
                case atStart => exact ⟨(0), (0), (by first | rfl | (simp; done) | (simp [*]; done)), (by first | rfl | (simp; done) | (simp [*]; done)), H', ⟨Nat.le_refl _⟩, by repeat (first | exact Drawn0.refl _ | apply Drawn0.step)⟩
                case round =>
                  clear H'
                  try clear c1
                  try clear p1
                  try clear q1
                  try clear hx1
                  try clear qi1
                  try clear c2
                  try clear c2b0
                  try clear c2b1
                  try clear p2
                  try clear c3
                  try clear c3b0
                  try clear c3b1
                  try clear p4
                  try clear q4
                  try clear hx4
                  try clear qi4
                  try clear c5
                  try clear c5b0
                  try clear c6
                  try clear c6b0
                  try clear p6
                  try clear c7
                  try clear c8
                  try clear c8b0
                  try clear c9
                  try clear c9b0
                  try clear c9b1
                  try clear p10
                  try clear q10
                  try clear hx10
                  try clear qi10
                  try clear c11
                  try clear p1
                  try clear p10
                  try clear p2
                  try clear p4
                  try clear p6
                  try clear q1
                  try clear q10
                  try clear q4
                  obtain ⟨x6_2, x7_2, rfl, rfl, HA, HK2, ⟨m2, rfl⟩⟩ := hrel
                  cases gk with
                  | zero => exact absurd HA.out (by simp [palinoderef01_ReadNum.l0])
                  | succ k2 =>
                    have H := HA.out
                    clear HA
                    simp only [palinoderef01_ReadNum.l0] at H
                    by_cases c12 : x7_2 < (wrap64 (bt a0 0))
                    · rw [if_pos c12] at H
                      have c12b0 : decide (x7_2 < (wrap64 (bt a0 0))) = true := decide_eq_true c12
                      clear c12
                      obtain ⟨ji13, hji13⟩ : ∃ j_ : Int, (wrap64 (1 + x7_2)) = j_ := ⟨_, rfl⟩
                      replace H : (if 0 ≤ (ji13) then (if (ji13) < (a0.size : Int) then (palinoderef01_ReadNum.l0 k2 a0 (wrap64 (bt a0 0)) (wrap64 ((wrap64 (256 * x6_2)) + (wrap64 (bt a0 (ji13))))) (wrap64 (x7_2 + 1))) else (none)) else (none)) = some (r1, r2, r3) := by first | (rw [hji13] at H; exact H) | (simp only [hji13] at H ⊢; exact H)
                      have hji13w : (IntKind.i64.wrap (1 + x7_2)) = ji13 := (i64_w _).trans hji13
                      by_cases c14 : 0 ≤ (ji13)
                      · rw [if_pos c14] at H
                        have c14b0 : decide (0 ≤ (ji13)) = true := decide_eq_true c14
                        clear c14
                        by_cases c15 : (ji13) < (a0.size : Int)
                        · rw [if_pos c15] at H
                          have c15b0 : decide ((ji13) < (a0.size : Int)) = true := decide_eq_true c15
                          clear c15
                          have H' := Aside0.mk H
                          clear H
                          have p16 : 0 ≤ ((ji13) : Int) := of_decide_eq_true (by first | (with_reducible assumption) | assumption)
                          have q16 : (ji13) < (a0.size : Int) := of_decide_eq_true (by first | (with_reducible assumption) | assumption)
                          have hx16 := bt_at a0 (ji13)
                          replace p16 := eq_true p16
                          replace q16 := eq_true q16
                          go_wp2
                          repeat (go_quiet (fail); try go_wp2)
                          go_roundg k2
                          case measure => have := HJ6.out; have := HK2.out; omega
                          case rel => exact ⟨(wrap64 ((wrap64 (256 * x6_2)) + (wrap64 (bt a0 (ji13))))), (wrap64 (x7_2 + 1)), (by first | rfl | (simp; done) | (simp only [← hji13] <;> (first | rfl | simp)) | (simp [*]; done)), (by first | rfl | (simp; done) | (simp [*]; done)), H', ⟨by have := HJ6.out; have := HK2.out; omega⟩, by repeat (first | exact Drawn0.refl _ | apply Drawn0.step)⟩
                        · rw [if_neg c15] at H
                          exact absurd H (by simp)
                      · rw [if_neg c14] at H
                        exact absurd H (by simp)
                    · rw [if_neg c12] at H
                      have c12b0 : decide (x7_2 < (wrap64 (bt a0 0))) = false := decide_eq_false c12
                      clear c12
                      by_cases c17 : x6_2 > 9007199254740991
                      · rw [if_pos c17] at H
                        have c17b0 : decide (9007199254740991 < x6_2) = true := decide_eq_true c17
                        clear c17
                        simp only [Option.some.injEq, Prod.mk.injEq] at H
                        obtain ⟨rfl, rfl, rfl⟩ := H
                        go_wp2
                        repeat (go_quiet (fail); try go_wp2)
                        go_ret3
                        exact ⟨by first | rfl | (simp; done) | (simp [*]; done), by repeat (first | exact Drawn0.refl _ | apply Drawn0.step)⟩
                      · rw [if_neg c17] at H
                        have c17b0 : decide (9007199254740991 < x6_2) = false := decide_eq_false c17
                        clear c17
                        obtain ⟨ji18, hji18⟩ : ∃ j_ : Int, (wrap64 (1 + (wrap64 (bt a0 0)))) = j_ := ⟨_, rfl⟩
                        replace H : (if 0 ≤ (ji18) then (if (ji18) ≤ (a0.size : Int) then (some (x6_2, a0.extract ((ji18) : Int).toNat a0.size, 0)) else (none)) else (none)) = some (r1, r2, r3) := by first | (rw [hji18] at H; exact H) | (simp only [hji18] at H ⊢; exact H)
                        (try rw [hji18] at c6b0)
                        have hji18w : (IntKind.i64.wrap (1 + (wrap64 (bt a0 0)))) = ji18 := (i64_w _).trans hji18
                        by_cases c19 : 0 ≤ (ji18)
                        · rw [if_pos c19] at H
                          have c19b0 := eq_true c19
                          have c19b1 : decide (0 ≤ (ji18)) = true := decide_eq_true c19
                          clear c19
                          by_cases c20 : (ji18) ≤ (a0.size : Int)
                          · rw [if_pos c20] at H
                            have c20b0 := eq_true c20
                            have c20b1 : decide ((ji18) ≤ (a0.size : Int)) = true := decide_eq_true c20
                            clear c20
                            simp only [Option.some.injEq, Prod.mk.injEq] at H
                            obtain ⟨rfl, rfl, rfl⟩ := H
                            go_wp2
                            repeat (go_quiet (fail); try go_wp2)
                            go_ret3
                            exact ⟨by first | rfl | (simp; done) | (simp only [← hji18] <;> (first | rfl | simp)) | (simp [*]; done), by repeat (first | exact Drawn0.refl _ | apply Drawn0.step)⟩
                          · rw [if_neg c20] at H
                            exact absurd H (by simp)
                        · rw [if_neg c19] at H
                          exact absurd H (by simp)
    · rw [if_neg c3] at H
      exact absurd H (by simp)

end Go.Proofs.Ytokimlfagpddlaa.PD

-- printed by gprint.py (own tool) over the kit's print
namespace Go.Proofs.Ytokimlfagpddlaa.PD
open Go.RowKit Go.Proofs.Ytokimlfagpddlaa Go.Proofs.YtokimlfagpddlaaW.PrintWords Go.Proofs.YtokimlfagpddlaaW.PrintLast Go.Proofs.YtokimlfagpddlaaW.PrintMore
attribute [local go_sem] max2_int min2_int max_two min_two max_three min_three max_four min_four   -- for this text's walks alone
set_option linter.unnecessarySimpa false
attribute [local go_sem] min2_str max2_str leq_str gtr_str geq_str
set_option linter.unusedVariables false
set_option linter.unusedSimpArgs false

/-- A state of type 93 at block g of W; what its slices lead to came in by w0. -/
def IsS93 (w0 W : World) (g : Nat) (f0 : ByteArray) (f1 : Bool) : Prop := W.heap[g]? = some (.cells #[.string f0, .bool f1] 93 (0, 0)) ∧ w0.heap.size ≤ g
theorem IsS93.grown {w0 W : World} {g : Nat} {f0 : ByteArray} {f1 : Bool} {W1 : World} {row : Option Nat} (h : IsS93 w0 W g f0 f1) (hw : W.grownBy W1 row) (hne : some g ≠ row) : IsS93 w0 W1 g f0 f1 := by
  obtain ⟨hb, hg⟩ := h
  exact ⟨blk_grown hb hw hne, hg⟩
theorem IsS93.fresh {w0 W : World} {g : Nat} {f0 : ByteArray} {f1 : Bool} (h : IsS93 w0 W g f0 f1) : ∀ k, W.heap.size ≤ k → k ≠ g := by
  obtain ⟨hb, hg⟩ := h
  exact Kd.freshB hb
theorem IsS93.kept {w0 W : World} {g : Nat} {f0 : ByteArray} {f1 : Bool} {W1 : World} {S : Nat → Prop} (h : IsS93 w0 W g f0 f1) (hk : Kept W W1 S) (hne : ¬ S g) : IsS93 w0 W1 g f0 f1 := by
  obtain ⟨hb, hg⟩ := h
  exact ⟨blk_kept hb hk hne, hg⟩
theorem IsS93.below {w0 W : World} {g : Nat} {f0 : ByteArray} {f1 : Bool} {W1 : World} (h : IsS93 w0 W g f0 f1) (hw : Below W.heap.size W W1) : IsS93 w0 W1 g f0 f1 := h.grown (grown_of_below hw none) (by simp)
theorem IsS93.alloc {w0 W : World} {g : Nat} {f0 : ByteArray} {f1 : Bool} (h : IsS93 w0 W g f0 f1) (o : Obj) : IsS93 w0 (W.alloc o) g f0 f1 := h.below (below_alloc (Below.refl _ _) o)
theorem IsS93.drewN {w0 W : World} {g : Nat} {f0 : ByteArray} {f1 : Bool} (h : IsS93 w0 W g f0 f1) (m : Nat) : IsS93 w0 (W.drewN m) g f0 f1 := h
theorem IsS93.drew {w0 W : World} {g : Nat} {f0 : ByteArray} {f1 : Bool} (h : IsS93 w0 W g f0 f1) : IsS93 w0 W.drew g f0 f1 := h
theorem IsS93.at_ {w0 W : World} {g : Nat} {f0 : ByteArray} {f1 : Bool} {w' : World} {m : Nat} (hq : W.drewN m = w') (h : IsS93 w0 W g f0 f1) : IsS93 w0 w' g f0 f1 := by subst hq; exact IsS93.drewN h m
theorem IsS93.apart {w0 W : World} {g : Nat} {f0 : ByteArray} {f1 : Bool} {α : Type} {d : Kd α} {e : Nat} {base : Nat} {ok : Nat → Prop} {v : Value} {xs : List α} (h : IsS93 w0 W g f0 f1) (ho : d.R e W base ok v xs) (ht : ∀ q, q ∈ e :: d.E → q ≠ 93) : d.R e W base (fun k => ok k ∧ k ≠ g) v xs := by
  obtain ⟨hb, hg⟩ := h
  exact Kd.R_types ho hb ht
theorem IsS93.own_ne {w0 W : World} {g : Nat} {f0 : ByteArray} {f1 : Bool} {α : Type} {d : Kd α} {e : Nat} {base : Nat} {ok : Nat → Prop} {v : Value} {xs : List α} (h : IsS93 w0 W g f0 f1) (ho : d.R e W base ok v xs) (ht : e ≠ 93) : some g ≠ v.ownBlock := by
  obtain ⟨hb, hg⟩ := h
  exact Kd.R_ne ho hb ht
theorem IsS93.ge {w0 W : World} {g : Nat} {f0 : ByteArray} {f1 : Bool} (h : IsS93 w0 W g f0 f1) : w0.heap.size ≤ g := by
  obtain ⟨hb, hg⟩ := h
  exact hg
theorem IsS93.far {w0 W : World} {g : Nat} {f0 : ByteArray} {f1 : Bool} {p : Addr} (h : IsS93 w0 W g f0 f1) (hne : g ≠ p.block) (u : Value) : IsS93 w0 (W.setCell p u) g f0 f1 := by
  obtain ⟨hb, hg⟩ := h
  exact ⟨blk_far hb hne u, hg⟩
theorem cellS93_0 {W : World} {g : Nat} {f0 : ByteArray} {f1 : Bool} (h : W.heap[g]? = some (.cells #[.string f0, .bool f1] 93 (0, 0))) : W.cell? ⟨g, 0, none⟩ = some (.string f0) := (blk_cell h 0).trans rfl
theorem IsS93.set_0 {w0 W : World} {g : Nat} {f0 : ByteArray} {f1 : Bool} (h : IsS93 w0 W g f0 f1) (x : ByteArray) : IsS93 w0 (W.setCell ⟨g, 0, none⟩ (.string x)) g x f1 := by
  obtain ⟨hb, hg⟩ := h
  exact ⟨by simpa using blk_set hb 0 (.string x), hg⟩
theorem cellS93_1 {W : World} {g : Nat} {f0 : ByteArray} {f1 : Bool} (h : W.heap[g]? = some (.cells #[.string f0, .bool f1] 93 (0, 0))) : W.cell? ⟨g, 1, none⟩ = some (.bool f1) := (blk_cell h 1).trans rfl
theorem IsS93.set_1 {w0 W : World} {g : Nat} {f0 : ByteArray} {f1 : Bool} (h : IsS93 w0 W g f0 f1) (x : Bool) : IsS93 w0 (W.setCell ⟨g, 1, none⟩ (.bool x)) g f0 x := by
  obtain ⟨hb, hg⟩ := h
  exact ⟨by simpa using blk_set hb 1 (.bool x), hg⟩
theorem IsS93.new (w0 W : World) (f0 : ByteArray) (f1 : Bool) (hB : Below w0.heap.size w0 W) : IsS93 w0 (W.alloc (.cells #[.string f0, .bool f1] 93)) W.heap.size f0 f1 := ⟨by simpa using heap_alloc_new W _, hB.size⟩

/-! ### palinoderef14_reader_num: function 54 -/
def palinoderef14_reader_num.f (k : Nat) (s0_0 : ByteArray) (s0_1 : Bool) : Option (Int × ByteArray × Bool) := (palinoderef01_ReadNum.f k s0_0).bind fun bt476 => (if bt476.2.2 = 0 then (some (bt476.1, bt476.2.1, s0_1)) else (some (bt476.1, bt476.2.1, true)))
theorem palinoderef14_reader_num.mono : ∀ a0 a1 k, LeO (palinoderef14_reader_num.f k a0 a1) (palinoderef14_reader_num.f (k + 1) a0 a1) := by
  intro a0 a1 k
  unfold palinoderef14_reader_num.f
  repeat' first
      | (with_reducible exact palinoderef01_ReadNum.mono _ _)
      | (with_reducible exact LeO.refl _)
      | (with_reducible exact LeO.none _)
      | (with_reducible refine LeO.ite ?_ ?_)
      | (with_reducible refine LeO.bind ?_ (fun _ => ?_))
      | exact palinoderef01_ReadNum.mono _ _
      | exact LeO.none _
      | refine LeO.ite ?_ ?_
      | refine LeO.bind ?_ (fun _ => ?_)
set_option maxHeartbeats 8000000 in
set_option maxRecDepth 100000 in
theorem palinoderef14_reader_num.calls (k : Nat) (g : Nat) (s0_0 : ByteArray) (s0_1 : Bool) (r1 : Int) (r2 : ByteArray) (r3 : Bool) (w0 w : World) (hI : IsS93 w0 w g s0_0 s0_1) (hB : Below w0.heap.size w0 w) (h : palinoderef14_reader_num.f k s0_0 s0_1 = some (r1, r2, r3)) :
    Calls Try.prog 54 #[.pointer (some ⟨g, 0, none⟩)] w fun e w' => e = .returned (.int .i64 r1) ∧ IsS93 w0 w' g r2 r3 ∧ Below w0.heap.size w0 w' ∧ KeepBut w w' g none := by
  have HI0 := Aside0.mk hI
  have HK := Aside0.mk (KeepBut.refl w g none)
  have HL := Aside0.mk hB.size
  clear hI
  have HW0 := Aside0.mk hB.size
  have HB := Aside0.mk hB
  clear hB
  have H : ((palinoderef01_ReadNum.f k s0_0).bind fun bt476 => (if bt476.2.2 = 0 then (some (bt476.1, bt476.2.1, s0_1)) else (some (bt476.1, bt476.2.1, true)))) = some (r1, r2, r3) := h
  clear h
  replace H := Option.bind_eq_some_iff.mp H
  obtain ⟨⟨t476, t477, t478⟩, A20, H⟩ := H
  replace H : (if t478 = 0 then (some (t476, t477, s0_1)) else (some (t476, t477, true))) = some (r1, r2, r3) := H
  have A2 := Aside0.mk A20
  clear A20
  by_cases c3 : t478 = 0
  · rw [if_pos c3] at H
    have c3b0 : (t478 == 0) = true := beq_iff_eq.mpr c3
    have c3b1 : (t478 != 0) = false := bne_eq_false_iff_eq.mpr c3
    clear c3
    simp only [Option.some.injEq, Prod.mk.injEq] at H
    obtain ⟨rfl, rfl, rfl⟩ := H
    obtain ⟨HGz4, hgz4⟩ := HI0.out
    have hcz4_0 := cellS93_0 HGz4
    have hcz4_1 := cellS93_1 HGz4
    have hfz4_0 := blk_frozen HGz4 0
    have hfz4_1 := blk_frozen HGz4 1
    clear HGz4 hgz4
    go_enter Try.func54, Try.ntmps54
    go_wp2_with (first | ((with_reducible refine gate_callee (f := 74) rfl ?_); refine goesL_ (some 11) rfl rfl Try.func74 (by kernel_rfl) rfl #[.string s0_0] rfl (by (try simp only [List.map_toArray, List.map_cons, List.map_nil]); first | done | rfl | (simp only [List.length_drop, List.length_take]; rfl)) ?_; (with_reducible refine (palinoderef01_ReadNum.calls k s0_0 t476 t477 t478 _ A2.out).mono ?_); rintro e w' ⟨rfl, ⟨nd, rfl⟩⟩; refine ⟨_, rfl, ?_⟩))
    go_ret
    exact ⟨by first | rfl | (simp [errW_none, errW_some] <;> rfl) | (simp [*, errW_none, errW_some] <;> rfl), by repeat (first | (with_reducible first | exact HI0.out | apply IsS93.alloc | apply IsS93.drewN | apply IsS93.drew | apply IsS93.set_0 | apply IsS93.set_1) | exact HI0.out), by repeat (first | (with_reducible first | exact HB.out | apply below_alloc | apply pw_below_drewN | apply below_drew1 | refine below_set ?_ (IsS93.ge HI0.out)) | exact HB.out), by repeat (first | (with_reducible first | exact HK.out | apply KeepBut.set_ | apply keep_drewN | apply keep_drew | apply keep_alloc) | exact HK.out)⟩
  · rw [if_neg c3] at H
    have c3b0 : (t478 == 0) = false := beq_eq_false_iff_ne.mpr c3
    have c3b1 : (t478 != 0) = true := bne_iff_ne.mpr c3
    simp only [Option.some.injEq, Prod.mk.injEq] at H
    obtain ⟨rfl, rfl, rfl⟩ := H
    obtain ⟨HGz5, hgz5⟩ := HI0.out
    have hcz5_0 := cellS93_0 HGz5
    have hcz5_1 := cellS93_1 HGz5
    have hfz5_0 := blk_frozen HGz5 0
    have hfz5_1 := blk_frozen HGz5 1
    clear HGz5 hgz5
    go_enter Try.func54, Try.ntmps54
    go_wp2_with (first | ((with_reducible refine gate_callee (f := 74) rfl ?_); refine goesL_ (some 11) rfl rfl Try.func74 (by kernel_rfl) rfl #[.string s0_0] rfl (by (try simp only [List.map_toArray, List.map_cons, List.map_nil]); first | done | rfl | (simp only [List.length_drop, List.length_take]; rfl)) ?_; (with_reducible refine (palinoderef01_ReadNum.calls k s0_0 t476 t477 t478 _ A2.out).mono ?_); rintro e w' ⟨rfl, ⟨nd, rfl⟩⟩; refine ⟨_, rfl, ?_⟩))
    go_ret
    exact ⟨by first | rfl | (simp [errW_none, errW_some] <;> rfl) | (simp [*, errW_none, errW_some] <;> rfl), by repeat (first | (with_reducible first | exact HI0.out | apply IsS93.alloc | apply IsS93.drewN | apply IsS93.drew | apply IsS93.set_0 | apply IsS93.set_1) | exact HI0.out), by repeat (first | (with_reducible first | exact HB.out | apply below_alloc | apply pw_below_drewN | apply below_drew1 | refine below_set ?_ (IsS93.ge HI0.out)) | exact HB.out), by repeat (first | (with_reducible first | exact HK.out | apply KeepBut.set_ | apply keep_drewN | apply keep_drew | apply keep_alloc) | exact HK.out)⟩

end Go.Proofs.Ytokimlfagpddlaa.PD

-- printed by gprint.py (own tool) over the kit's print
namespace Go.Proofs.Ytokimlfagpddlaa.PD
open Go.RowKit Go.Proofs.Ytokimlfagpddlaa Go.Proofs.YtokimlfagpddlaaW.PrintWords Go.Proofs.YtokimlfagpddlaaW.PrintLast Go.Proofs.YtokimlfagpddlaaW.PrintMore
attribute [local go_sem] max2_int min2_int max_two min_two max_three min_three max_four min_four   -- for this text's walks alone
set_option linter.unnecessarySimpa false
attribute [local go_sem] min2_str max2_str leq_str gtr_str geq_str
set_option linter.unusedVariables false
set_option linter.unusedSimpArgs false

/-! ### palinoderef01_ReadText: function 75 -/
def palinoderef01_ReadText.f (k : Nat) (a0 : ByteArray) : Option (ByteArray × ByteArray × Int) := (palinoderef01_ReadNum.f k a0).bind fun bt479 => (if bt479.2.2 = 0 then (if bt479.1 > 1048576 then (some ((⟨#[]⟩ : ByteArray), (⟨#[]⟩ : ByteArray), 5)) else (if (bt479.2.1.size : Int) < bt479.1 then (some ((⟨#[]⟩ : ByteArray), (⟨#[]⟩ : ByteArray), 2)) else (if 0 ≤ bt479.1 then (if bt479.1 ≤ (bt479.2.1.size : Int) then (some (bt479.2.1.extract 0 (bt479.1 : Int).toNat, bt479.2.1.extract (bt479.1 : Int).toNat bt479.2.1.size, 0)) else (none)) else (none)))) else (some ((⟨#[]⟩ : ByteArray), (⟨#[]⟩ : ByteArray), bt479.2.2)))
theorem palinoderef01_ReadText.mono : ∀ a0 k, LeO (palinoderef01_ReadText.f k a0) (palinoderef01_ReadText.f (k + 1) a0) := by
  intro a0 k
  unfold palinoderef01_ReadText.f
  repeat' first
      | (with_reducible exact palinoderef01_ReadNum.mono _ _)
      | (with_reducible exact LeO.refl _)
      | (with_reducible exact LeO.none _)
      | (with_reducible refine LeO.ite ?_ ?_)
      | (with_reducible refine LeO.bind ?_ (fun _ => ?_))
      | exact palinoderef01_ReadNum.mono _ _
      | exact LeO.none _
      | refine LeO.ite ?_ ?_
      | refine LeO.bind ?_ (fun _ => ?_)
set_option maxHeartbeats 8000000 in
set_option maxRecDepth 100000 in
theorem palinoderef01_ReadText.calls (k : Nat) (a0 : ByteArray) (r1 : ByteArray) (r2 : ByteArray) (r3 : Int) (w : World) (h : palinoderef01_ReadText.f k a0 = some (r1, r2, r3)) :
    Calls Try.prog 75 #[.string a0] w fun e w' => e = .returned (.tuple #[.string r1, .string r2, .int .i64 r3]) ∧ Drawn0 w w' := by
  have H : ((palinoderef01_ReadNum.f k a0).bind fun bt479 => (if bt479.2.2 = 0 then (if bt479.1 > 1048576 then (some ((⟨#[]⟩ : ByteArray), (⟨#[]⟩ : ByteArray), 5)) else (if (bt479.2.1.size : Int) < bt479.1 then (some ((⟨#[]⟩ : ByteArray), (⟨#[]⟩ : ByteArray), 2)) else (if 0 ≤ bt479.1 then (if bt479.1 ≤ (bt479.2.1.size : Int) then (some (bt479.2.1.extract 0 (bt479.1 : Int).toNat, bt479.2.1.extract (bt479.1 : Int).toNat bt479.2.1.size, 0)) else (none)) else (none)))) else (some ((⟨#[]⟩ : ByteArray), (⟨#[]⟩ : ByteArray), bt479.2.2)))) = some (r1, r2, r3) := h
  clear h
  replace H := Option.bind_eq_some_iff.mp H
  obtain ⟨⟨t479, t480, t481⟩, A20, H⟩ := H
  replace H : (if t481 = 0 then (if t479 > 1048576 then (some ((⟨#[]⟩ : ByteArray), (⟨#[]⟩ : ByteArray), 5)) else (if (t480.size : Int) < t479 then (some ((⟨#[]⟩ : ByteArray), (⟨#[]⟩ : ByteArray), 2)) else (if 0 ≤ t479 then (if t479 ≤ (t480.size : Int) then (some (t480.extract 0 (t479 : Int).toNat, t480.extract (t479 : Int).toNat t480.size, 0)) else (none)) else (none)))) else (some ((⟨#[]⟩ : ByteArray), (⟨#[]⟩ : ByteArray), t481))) = some (r1, r2, r3) := H
  have A2 := Aside0.mk A20
  clear A20
  by_cases c3 : t481 = 0
  · rw [if_pos c3] at H
    have c3b0 : (t481 == 0) = true := beq_iff_eq.mpr c3
    have c3b1 : (t481 != 0) = false := bne_eq_false_iff_eq.mpr c3
    clear c3
    by_cases c4 : t479 > 1048576
    · rw [if_pos c4] at H
      have c4b0 : decide (1048576 < t479) = true := decide_eq_true c4
      clear c4
      simp only [Option.some.injEq, Prod.mk.injEq] at H
      obtain ⟨rfl, rfl, rfl⟩ := H
      go_enter Try.func75, Try.ntmps75
      go_wp2_with (first | (go_at_call 74; (with_reducible refine (palinoderef01_ReadNum.calls k a0 t479 t480 t481 _ A2.out).mono ?_); rintro e w' ⟨rfl, ⟨nd, rfl⟩⟩; (try first | exact ⟨rfl, _, World.drewN_drewN _ _ _⟩ | exact ⟨rfl, _, Eq.trans (World.drewN_drewN _ _ _) (congrArg (World.drewN _) (Nat.add_assoc _ _ _))⟩)))
      repeat (go_quiet (first | (go_at_call 74; (with_reducible refine (palinoderef01_ReadNum.calls k a0 t479 t480 t481 _ A2.out).mono ?_); rintro e w' ⟨rfl, ⟨nd, rfl⟩⟩; (try first | exact ⟨rfl, _, World.drewN_drewN _ _ _⟩ | exact ⟨rfl, _, Eq.trans (World.drewN_drewN _ _ _) (congrArg (World.drewN _) (Nat.add_assoc _ _ _))⟩))); try go_wp2_with (first | (go_at_call 74; (with_reducible refine (palinoderef01_ReadNum.calls k a0 t479 t480 t481 _ A2.out).mono ?_); rintro e w' ⟨rfl, ⟨nd, rfl⟩⟩; (try first | exact ⟨rfl, _, World.drewN_drewN _ _ _⟩ | exact ⟨rfl, _, Eq.trans (World.drewN_drewN _ _ _) (congrArg (World.drewN _) (Nat.add_assoc _ _ _))⟩))))
      go_ret3
      exact ⟨by first | rfl | (simp; done) | (simp [*]; done), by repeat (first | exact Drawn0.refl _ | apply Drawn0.step)⟩
    · rw [if_neg c4] at H
      have c4b0 : decide (1048576 < t479) = false := decide_eq_false c4
      clear c4
      by_cases c5 : (t480.size : Int) < t479
      · rw [if_pos c5] at H
        have c5b0 : decide ((t480.size : Int) < t479) = true := decide_eq_true c5
        clear c5
        simp only [Option.some.injEq, Prod.mk.injEq] at H
        obtain ⟨rfl, rfl, rfl⟩ := H
        go_enter Try.func75, Try.ntmps75
        go_wp2_with (first | (go_at_call 74; (with_reducible refine (palinoderef01_ReadNum.calls k a0 t479 t480 t481 _ A2.out).mono ?_); rintro e w' ⟨rfl, ⟨nd, rfl⟩⟩; (try first | exact ⟨rfl, _, World.drewN_drewN _ _ _⟩ | exact ⟨rfl, _, Eq.trans (World.drewN_drewN _ _ _) (congrArg (World.drewN _) (Nat.add_assoc _ _ _))⟩)))
        repeat (go_quiet (first | (go_at_call 74; (with_reducible refine (palinoderef01_ReadNum.calls k a0 t479 t480 t481 _ A2.out).mono ?_); rintro e w' ⟨rfl, ⟨nd, rfl⟩⟩; (try first | exact ⟨rfl, _, World.drewN_drewN _ _ _⟩ | exact ⟨rfl, _, Eq.trans (World.drewN_drewN _ _ _) (congrArg (World.drewN _) (Nat.add_assoc _ _ _))⟩))); try go_wp2_with (first | (go_at_call 74; (with_reducible refine (palinoderef01_ReadNum.calls k a0 t479 t480 t481 _ A2.out).mono ?_); rintro e w' ⟨rfl, ⟨nd, rfl⟩⟩; (try first | exact ⟨rfl, _, World.drewN_drewN _ _ _⟩ | exact ⟨rfl, _, Eq.trans (World.drewN_drewN _ _ _) (congrArg (World.drewN _) (Nat.add_assoc _ _ _))⟩))))
        go_ret3
        exact ⟨by first | rfl | (simp; done) | (simp [*]; done), by repeat (first | exact Drawn0.refl _ | apply Drawn0.step)⟩
      · rw [if_neg c5] at H
        have c5b0 : decide ((t480.size : Int) < t479) = false := decide_eq_false c5
        clear c5
        by_cases c6 : 0 ≤ t479
        · rw [if_pos c6] at H
          have c6b0 := eq_true c6
          have c6b1 : decide (0 ≤ t479) = true := decide_eq_true c6
          clear c6
          by_cases c7 : t479 ≤ (t480.size : Int)
          · rw [if_pos c7] at H
            have c7b0 := eq_true c7
            have c7b1 : decide (t479 ≤ (t480.size : Int)) = true := decide_eq_true c7
            clear c7
            have c8b0 := eq_true (of_decide_eq_true (by first | (with_reducible assumption) | assumption) : 0 ≤ t479)
            have c9b0 := eq_true (of_decide_eq_true (by first | (with_reducible assumption) | assumption) : t479 ≤ (t480.size : Int))
            simp only [Option.some.injEq, Prod.mk.injEq] at H
            obtain ⟨rfl, rfl, rfl⟩ := H
            go_enter Try.func75, Try.ntmps75
            go_wp2_with (first | (go_at_call 74; (with_reducible refine (palinoderef01_ReadNum.calls k a0 t479 t480 t481 _ A2.out).mono ?_); rintro e w' ⟨rfl, ⟨nd, rfl⟩⟩; (try first | exact ⟨rfl, _, World.drewN_drewN _ _ _⟩ | exact ⟨rfl, _, Eq.trans (World.drewN_drewN _ _ _) (congrArg (World.drewN _) (Nat.add_assoc _ _ _))⟩)))
            repeat (go_quiet (first | (go_at_call 74; (with_reducible refine (palinoderef01_ReadNum.calls k a0 t479 t480 t481 _ A2.out).mono ?_); rintro e w' ⟨rfl, ⟨nd, rfl⟩⟩; (try first | exact ⟨rfl, _, World.drewN_drewN _ _ _⟩ | exact ⟨rfl, _, Eq.trans (World.drewN_drewN _ _ _) (congrArg (World.drewN _) (Nat.add_assoc _ _ _))⟩))); try go_wp2_with (first | (go_at_call 74; (with_reducible refine (palinoderef01_ReadNum.calls k a0 t479 t480 t481 _ A2.out).mono ?_); rintro e w' ⟨rfl, ⟨nd, rfl⟩⟩; (try first | exact ⟨rfl, _, World.drewN_drewN _ _ _⟩ | exact ⟨rfl, _, Eq.trans (World.drewN_drewN _ _ _) (congrArg (World.drewN _) (Nat.add_assoc _ _ _))⟩))))
            go_ret3
            exact ⟨by first | rfl | (simp; done) | (simp [*]; done), by repeat (first | exact Drawn0.refl _ | apply Drawn0.step)⟩
          · rw [if_neg c7] at H
            exact absurd H (by simp)
        · rw [if_neg c6] at H
          exact absurd H (by simp)
  · rw [if_neg c3] at H
    have c3b0 : (t481 == 0) = false := beq_eq_false_iff_ne.mpr c3
    have c3b1 : (t481 != 0) = true := bne_iff_ne.mpr c3
    simp only [Option.some.injEq, Prod.mk.injEq] at H
    obtain ⟨rfl, rfl, rfl⟩ := H
    go_enter Try.func75, Try.ntmps75
    go_wp2_with (first | (go_at_call 74; (with_reducible refine (palinoderef01_ReadNum.calls k a0 t479 t480 t481 _ A2.out).mono ?_); rintro e w' ⟨rfl, ⟨nd, rfl⟩⟩; (try first | exact ⟨rfl, _, World.drewN_drewN _ _ _⟩ | exact ⟨rfl, _, Eq.trans (World.drewN_drewN _ _ _) (congrArg (World.drewN _) (Nat.add_assoc _ _ _))⟩)))
    repeat (go_quiet (first | (go_at_call 74; (with_reducible refine (palinoderef01_ReadNum.calls k a0 t479 t480 t481 _ A2.out).mono ?_); rintro e w' ⟨rfl, ⟨nd, rfl⟩⟩; (try first | exact ⟨rfl, _, World.drewN_drewN _ _ _⟩ | exact ⟨rfl, _, Eq.trans (World.drewN_drewN _ _ _) (congrArg (World.drewN _) (Nat.add_assoc _ _ _))⟩))); try go_wp2_with (first | (go_at_call 74; (with_reducible refine (palinoderef01_ReadNum.calls k a0 t479 t480 t481 _ A2.out).mono ?_); rintro e w' ⟨rfl, ⟨nd, rfl⟩⟩; (try first | exact ⟨rfl, _, World.drewN_drewN _ _ _⟩ | exact ⟨rfl, _, Eq.trans (World.drewN_drewN _ _ _) (congrArg (World.drewN _) (Nat.add_assoc _ _ _))⟩))))
    go_ret3
    exact ⟨by first | rfl | (simp; done) | (simp [*]; done), by repeat (first | exact Drawn0.refl _ | apply Drawn0.step)⟩

end Go.Proofs.Ytokimlfagpddlaa.PD

-- printed by gprint.py (own tool) over the kit's print
namespace Go.Proofs.Ytokimlfagpddlaa.PD
open Go.RowKit Go.Proofs.Ytokimlfagpddlaa Go.Proofs.YtokimlfagpddlaaW.PrintWords Go.Proofs.YtokimlfagpddlaaW.PrintLast Go.Proofs.YtokimlfagpddlaaW.PrintMore
attribute [local go_sem] max2_int min2_int max_two min_two max_three min_three max_four min_four   -- for this text's walks alone
set_option linter.unnecessarySimpa false
attribute [local go_sem] min2_str max2_str leq_str gtr_str geq_str
set_option linter.unusedVariables false
set_option linter.unusedSimpArgs false

/-! ### palinoderef14_reader_text: function 55 -/
def palinoderef14_reader_text.f (k : Nat) (s0_0 : ByteArray) (s0_1 : Bool) : Option (ByteArray × ByteArray × Bool) := (palinoderef01_ReadText.f k s0_0).bind fun bt482 => (if bt482.2.2 = 0 then (some (bt482.1, bt482.2.1, s0_1)) else (some (bt482.1, bt482.2.1, true)))
theorem palinoderef14_reader_text.mono : ∀ a0 a1 k, LeO (palinoderef14_reader_text.f k a0 a1) (palinoderef14_reader_text.f (k + 1) a0 a1) := by
  intro a0 a1 k
  unfold palinoderef14_reader_text.f
  repeat' first
      | (with_reducible exact palinoderef01_ReadText.mono _ _)
      | (with_reducible exact LeO.refl _)
      | (with_reducible exact LeO.none _)
      | (with_reducible refine LeO.ite ?_ ?_)
      | (with_reducible refine LeO.bind ?_ (fun _ => ?_))
      | exact palinoderef01_ReadText.mono _ _
      | exact LeO.none _
      | refine LeO.ite ?_ ?_
      | refine LeO.bind ?_ (fun _ => ?_)
set_option maxHeartbeats 8000000 in
set_option maxRecDepth 100000 in
theorem palinoderef14_reader_text.calls (k : Nat) (g : Nat) (s0_0 : ByteArray) (s0_1 : Bool) (r1 : ByteArray) (r2 : ByteArray) (r3 : Bool) (w0 w : World) (hI : IsS93 w0 w g s0_0 s0_1) (hB : Below w0.heap.size w0 w) (h : palinoderef14_reader_text.f k s0_0 s0_1 = some (r1, r2, r3)) :
    Calls Try.prog 55 #[.pointer (some ⟨g, 0, none⟩)] w fun e w' => e = .returned (.string r1) ∧ IsS93 w0 w' g r2 r3 ∧ Below w0.heap.size w0 w' ∧ KeepBut w w' g none := by
  have HI0 := Aside0.mk hI
  have HK := Aside0.mk (KeepBut.refl w g none)
  have HL := Aside0.mk hB.size
  clear hI
  have HW0 := Aside0.mk hB.size
  have HB := Aside0.mk hB
  clear hB
  have H : ((palinoderef01_ReadText.f k s0_0).bind fun bt482 => (if bt482.2.2 = 0 then (some (bt482.1, bt482.2.1, s0_1)) else (some (bt482.1, bt482.2.1, true)))) = some (r1, r2, r3) := h
  clear h
  replace H := Option.bind_eq_some_iff.mp H
  obtain ⟨⟨t482, t483, t484⟩, A20, H⟩ := H
  replace H : (if t484 = 0 then (some (t482, t483, s0_1)) else (some (t482, t483, true))) = some (r1, r2, r3) := H
  have A2 := Aside0.mk A20
  clear A20
  by_cases c3 : t484 = 0
  · rw [if_pos c3] at H
    have c3b0 : (t484 == 0) = true := beq_iff_eq.mpr c3
    have c3b1 : (t484 != 0) = false := bne_eq_false_iff_eq.mpr c3
    clear c3
    simp only [Option.some.injEq, Prod.mk.injEq] at H
    obtain ⟨rfl, rfl, rfl⟩ := H
    obtain ⟨HGz4, hgz4⟩ := HI0.out
    have hcz4_0 := cellS93_0 HGz4
    have hcz4_1 := cellS93_1 HGz4
    have hfz4_0 := blk_frozen HGz4 0
    have hfz4_1 := blk_frozen HGz4 1
    clear HGz4 hgz4
    go_enter Try.func55, Try.ntmps55
    go_wp2_with (first | ((with_reducible refine gate_callee (f := 75) rfl ?_); refine goesL_ (some 11) rfl rfl Try.func75 (by kernel_rfl) rfl #[.string s0_0] rfl (by (try simp only [List.map_toArray, List.map_cons, List.map_nil]); first | done | rfl | (simp only [List.length_drop, List.length_take]; rfl)) ?_; (with_reducible refine (palinoderef01_ReadText.calls k s0_0 t482 t483 t484 _ A2.out).mono ?_); rintro e w' ⟨rfl, ⟨nd, rfl⟩⟩; refine ⟨_, rfl, ?_⟩))
    go_ret
    exact ⟨by first | rfl | (simp [errW_none, errW_some] <;> rfl) | (simp [*, errW_none, errW_some] <;> rfl), by repeat (first | (with_reducible first | exact HI0.out | apply IsS93.alloc | apply IsS93.drewN | apply IsS93.drew | apply IsS93.set_0 | apply IsS93.set_1) | exact HI0.out), by repeat (first | (with_reducible first | exact HB.out | apply below_alloc | apply pw_below_drewN | apply below_drew1 | refine below_set ?_ (IsS93.ge HI0.out)) | exact HB.out), by repeat (first | (with_reducible first | exact HK.out | apply KeepBut.set_ | apply keep_drewN | apply keep_drew | apply keep_alloc) | exact HK.out)⟩
  · rw [if_neg c3] at H
    have c3b0 : (t484 == 0) = false := beq_eq_false_iff_ne.mpr c3
    have c3b1 : (t484 != 0) = true := bne_iff_ne.mpr c3
    simp only [Option.some.injEq, Prod.mk.injEq] at H
    obtain ⟨rfl, rfl, rfl⟩ := H
    obtain ⟨HGz5, hgz5⟩ := HI0.out
    have hcz5_0 := cellS93_0 HGz5
    have hcz5_1 := cellS93_1 HGz5
    have hfz5_0 := blk_frozen HGz5 0
    have hfz5_1 := blk_frozen HGz5 1
    clear HGz5 hgz5
    go_enter Try.func55, Try.ntmps55
    go_wp2_with (first | ((with_reducible refine gate_callee (f := 75) rfl ?_); refine goesL_ (some 11) rfl rfl Try.func75 (by kernel_rfl) rfl #[.string s0_0] rfl (by (try simp only [List.map_toArray, List.map_cons, List.map_nil]); first | done | rfl | (simp only [List.length_drop, List.length_take]; rfl)) ?_; (with_reducible refine (palinoderef01_ReadText.calls k s0_0 t482 t483 t484 _ A2.out).mono ?_); rintro e w' ⟨rfl, ⟨nd, rfl⟩⟩; refine ⟨_, rfl, ?_⟩))
    go_ret
    exact ⟨by first | rfl | (simp [errW_none, errW_some] <;> rfl) | (simp [*, errW_none, errW_some] <;> rfl), by repeat (first | (with_reducible first | exact HI0.out | apply IsS93.alloc | apply IsS93.drewN | apply IsS93.drew | apply IsS93.set_0 | apply IsS93.set_1) | exact HI0.out), by repeat (first | (with_reducible first | exact HB.out | apply below_alloc | apply pw_below_drewN | apply below_drew1 | refine below_set ?_ (IsS93.ge HI0.out)) | exact HB.out), by repeat (first | (with_reducible first | exact HK.out | apply KeepBut.set_ | apply keep_drewN | apply keep_drew | apply keep_alloc) | exact HK.out)⟩

end Go.Proofs.Ytokimlfagpddlaa.PD
