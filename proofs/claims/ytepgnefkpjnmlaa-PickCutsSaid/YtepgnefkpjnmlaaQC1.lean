-- packed: PDx12 PDx13 PDx14 PDx16 PDx17 PDx18 PDx20 PDx21 PDx22 PDx23
import Derived.Test.YtepgnefkpjnmlaaQC0
-- printed by gprint.py (own tool) over the kit's print
namespace Go.Proofs.Ytepgnefkpjnmlaa.PD
open Go.RowKit Go.Proofs.Ytepgnefkpjnmlaa Go.Proofs.YtepgnefkpjnmlaaW.PrintWords Go.Proofs.YtepgnefkpjnmlaaW.PrintLast Go.Proofs.YtepgnefkpjnmlaaW.PrintMore
attribute [local go_sem] max2_int min2_int max_two min_two max_three min_three max_four min_four   -- for this text's walks alone
set_option linter.unnecessarySimpa false
attribute [local go_sem] min2_str max2_str leq_str gtr_str geq_str
set_option linter.unusedVariables false
set_option linter.unusedSimpArgs false

/-! ### version_compare: function 35 -/
def version_compare.f (k : Nat) (a0_0 : Int) (a0_1 : Int) (a0_2 : ByteArray) (a0_3 : ByteArray) (a0_4 : Int) (a1_0 : Int) (a1_1 : Int) (a1_2 : ByteArray) (a1_3 : ByteArray) (a1_4 : Int) : Option (Int) := (cmp_Compare_int.f a0_1 a1_1).bind fun t118 => (if a0_1 > 0 then ((cmp_Compare_string.f a0_2 a1_2).bind fun t119 => ((cmp_Or_int.f k (([t118, t119] : List Int))).bind fun t123 => ((cmp_Compare_int.f a0_0 a1_0).bind fun t124 => ((cmp_Or_int.f k (([t123, t124] : List Int))).bind fun t128 => (some t128))))) else ((cmp_Compare_int.f a0_0 a1_0).bind fun t129 => ((cmp_Or_int.f k (([t118, t129] : List Int))).bind fun t133 => (some t133))))
theorem version_compare.mono : ∀ a0 a1 a2 a3 a4 a5 a6 a7 a8 a9 k, LeO (version_compare.f k a0 a1 a2 a3 a4 a5 a6 a7 a8 a9) (version_compare.f (k + 1) a0 a1 a2 a3 a4 a5 a6 a7 a8 a9) := by
  intro a0 a1 a2 a3 a4 a5 a6 a7 a8 a9 k
  unfold version_compare.f
  repeat' first
      | (with_reducible exact cmp_Or_int.mono _ _)
      | (with_reducible exact LeO.refl _)
      | (with_reducible exact LeO.none _)
      | (with_reducible refine LeO.ite ?_ ?_)
      | (with_reducible refine LeO.bind ?_ (fun _ => ?_))
      | exact cmp_Or_int.mono _ _
      | exact LeO.none _
      | refine LeO.ite ?_ ?_
      | refine LeO.bind ?_ (fun _ => ?_)
set_option maxHeartbeats 8000000 in
set_option maxRecDepth 100000 in
theorem version_compare.calls (k : Nat) (a0_0 : Int) (a0_1 : Int) (a0_2 : ByteArray) (a0_3 : ByteArray) (a0_4 : Int) (a1_0 : Int) (a1_1 : Int) (a1_2 : ByteArray) (a1_3 : ByteArray) (a1_4 : Int) (r : Int) (w : World) (h : version_compare.f k a0_0 a0_1 a0_2 a0_3 a0_4 a1_0 a1_1 a1_2 a1_3 a1_4 = some r) :
    Calls Try.prog 35 #[.agg #[.int .i64 a0_0, .int .i64 a0_1, .string a0_2, .string a0_3, .int .i64 a0_4], .agg #[.int .i64 a1_0, .int .i64 a1_1, .string a1_2, .string a1_3, .int .i64 a1_4]] w fun e w' => e = .returned (.int .i64 r) ∧ Below w.heap.size w w' := by
  have hu49 := Try.underlying49
  have HB := Aside0.mk (Below.refl w.heap.size w)
  have H : ((cmp_Compare_int.f a0_1 a1_1).bind fun t118 => (if a0_1 > 0 then ((cmp_Compare_string.f a0_2 a1_2).bind fun t119 => ((cmp_Or_int.f k (([t118, t119] : List Int))).bind fun t123 => ((cmp_Compare_int.f a0_0 a1_0).bind fun t124 => ((cmp_Or_int.f k (([t123, t124] : List Int))).bind fun t128 => (some t128))))) else ((cmp_Compare_int.f a0_0 a1_0).bind fun t129 => ((cmp_Or_int.f k (([t118, t129] : List Int))).bind fun t133 => (some t133))))) = some r := h
  clear h
  replace H := Option.bind_eq_some_iff.mp H
  obtain ⟨t118, A30, H⟩ := H
  replace H : (if a0_1 > 0 then ((cmp_Compare_string.f a0_2 a1_2).bind fun t119 => ((cmp_Or_int.f k (([t118, t119] : List Int))).bind fun t123 => ((cmp_Compare_int.f a0_0 a1_0).bind fun t124 => ((cmp_Or_int.f k (([t123, t124] : List Int))).bind fun t128 => (some t128))))) else ((cmp_Compare_int.f a0_0 a1_0).bind fun t129 => ((cmp_Or_int.f k (([t118, t129] : List Int))).bind fun t133 => (some t133)))) = some r := H
  have A3 := Aside0.mk A30
  clear A30
  by_cases c4 : a0_1 > 0
  · rw [if_pos c4] at H
    have c4b0 : decide (0 < a0_1) = true := decide_eq_true c4
    clear c4
    replace H := Option.bind_eq_some_iff.mp H
    obtain ⟨t119, A50, H⟩ := H
    replace H : ((cmp_Or_int.f k (([t118, t119] : List Int))).bind fun t123 => ((cmp_Compare_int.f a0_0 a1_0).bind fun t124 => ((cmp_Or_int.f k (([t123, t124] : List Int))).bind fun t128 => (some t128)))) = some r := H
    have A5 := Aside0.mk A50
    clear A50
    obtain ⟨y120, hy120⟩ : ∃ y_ : List Int, y_ = (([t118, t119] : List Int)) := ⟨_, rfl⟩
    replace H : ((cmp_Or_int.f k y120).bind fun t123 => ((cmp_Compare_int.f a0_0 a1_0).bind fun t124 => ((cmp_Or_int.f k (([t123, t124] : List Int))).bind fun t128 => (some t128)))) = some r := by first | (rw [hy120]; with_reducible exact H) | (have H2_ := (Option.bind_some _ _).symm.trans H; rw [hy120]; with_reducible exact H2_) | (have H2_ := (Option.bind_some _ _).symm.trans H; with_reducible exact H2_) | with_reducible exact H | (rw [hy120]; exact H) | exact H
    have Ny120 := Aside0.mk hy120
    clear hy120
    replace H := Option.bind_eq_some_iff.mp H
    obtain ⟨t123, A60, H⟩ := H
    replace H : ((cmp_Compare_int.f a0_0 a1_0).bind fun t124 => ((cmp_Or_int.f k (([t123, t124] : List Int))).bind fun t128 => (some t128))) = some r := H
    have A6 := Aside0.mk A60
    clear A60
    replace H := Option.bind_eq_some_iff.mp H
    obtain ⟨t124, A70, H⟩ := H
    replace H : ((cmp_Or_int.f k (([t123, t124] : List Int))).bind fun t128 => (some t128)) = some r := H
    have A7 := Aside0.mk A70
    clear A70
    obtain ⟨y125, hy125⟩ : ∃ y_ : List Int, y_ = (([t123, t124] : List Int)) := ⟨_, rfl⟩
    replace H : ((cmp_Or_int.f k y125).bind fun t128 => (some t128)) = some r := by first | (rw [hy125]; with_reducible exact H) | (have H2_ := (Option.bind_some _ _).symm.trans H; rw [hy125]; with_reducible exact H2_) | (have H2_ := (Option.bind_some _ _).symm.trans H; with_reducible exact H2_) | with_reducible exact H | (rw [hy125]; exact H) | exact H
    have Ny125 := Aside0.mk hy125
    clear hy125
    replace H := Option.bind_eq_some_iff.mp H
    obtain ⟨t128, A80, H⟩ := H
    replace H : (some t128) = some r := H
    have A8 := Aside0.mk A80
    clear A80
    obtain rfl := Option.some.inj H
    go_enter Try.func35, Try.ntmps35
    go_wp2_with (first | ((with_reducible refine gate_dst (N := 2) rfl ?_); refine box_event ?hg (N := 2) ?hd (cs := #[.int .i64 a0_0, .int .i64 a0_1, .string a0_2, .string a0_3, .int .i64 a0_4]) (t := 49) ?hr ?_; (case hd => rfl); (case hg => rfl); (case hr => first | (go_simp; done) | (go_simp; rfl)); intro gb116 hg w9 hbox hb; have n0_ := Aside0.mk (below_step (by repeat (first | (with_reducible first | exact HB.out | apply below_alloc | apply pw_below_drewN | apply below_drew1) | exact HB.out)) hb); have n1_ := Aside0.mk (hbox); have n2_ := Aside0.mk ((by rw [hg]; exact (below_size (by repeat (first | (with_reducible first | exact HB.out | apply below_alloc | apply pw_below_drewN | apply below_drew1) | exact HB.out))) : w.heap.size ≤ gb116)); have n3_ := Aside0.mk ((by rw [hg]; exact (below_size (by repeat (first | (with_reducible first | exact HB.out | apply below_alloc | apply pw_below_drewN | apply below_drew1) | exact HB.out))) : w.heap.size ≤ gb116)); clear HB; have HB := n0_; have BK116 := n1_; have GW116 := n2_; have GE116 := n3_; clear n0_ n1_ n2_ n3_; clear hb hbox hg) | ((with_reducible refine gate_dst (N := 3) rfl ?_); refine box_event ?hg (N := 3) ?hd (cs := #[.int .i64 a1_0, .int .i64 a1_1, .string a1_2, .string a1_3, .int .i64 a1_4]) (t := 49) ?hr ?_; (case hd => rfl); (case hg => rfl); (case hr => first | (go_simp; done) | (go_simp; rfl)); intro gb117 hg w10 hbox hb; have n0_ := Aside0.mk (blk_below (g := gb116) (o := .cells #[.int .i64 a0_0, .int .i64 a0_1, .string a0_2, .string a0_3, .int .i64 a0_4] 49 (0, 0)) (by (with_reducible repeat (first | refine blk_drewN ?_ _ | refine blk_drew ?_ | refine blk_alloc ?_ _)); exact BK116.out) hb); have n1_ := Aside0.mk (below_step (by repeat (first | (with_reducible first | exact HB.out | apply below_alloc | apply pw_below_drewN | apply below_drew1 | refine below_set ?_ GE116.out) | exact HB.out)) hb); have n2_ := Aside0.mk (hbox); have n3_ := Aside0.mk ((by rw [hg]; exact (below_size (by repeat (first | (with_reducible first | exact HB.out | apply below_alloc | apply pw_below_drewN | apply below_drew1 | refine below_set ?_ GE116.out) | exact HB.out))) : w.heap.size ≤ gb117)); have n4_ := Aside0.mk ((by rw [hg]; exact (below_size (by repeat (first | (with_reducible first | exact HB.out | apply below_alloc | apply pw_below_drewN | apply below_drew1 | refine below_set ?_ GE116.out) | exact HB.out))) : w.heap.size ≤ gb117)); have n5_ := Aside0.mk ((by rw [hg]; exact Nat.ne_of_lt (blk_lt (g := gb116) (o := .cells #[.int .i64 a0_0, .int .i64 a0_1, .string a0_2, .string a0_3, .int .i64 a0_4] 49 (0, 0)) (by (with_reducible repeat (first | refine blk_drewN ?_ _ | refine blk_drew ?_ | refine blk_alloc ?_ _)); exact BK116.out)) : gb116 ≠ gb117)); have n6_ := Aside0.mk ((by rw [hg]; exact Nat.ne_of_gt (blk_lt (g := gb116) (o := .cells #[.int .i64 a0_0, .int .i64 a0_1, .string a0_2, .string a0_3, .int .i64 a0_4] 49 (0, 0)) (by (with_reducible repeat (first | refine blk_drewN ?_ _ | refine blk_drew ?_ | refine blk_alloc ?_ _)); exact BK116.out)) : gb117 ≠ gb116)); clear BK116; clear HB; have BK116 := n0_; have HB := n1_; have BK117 := n2_; have GW117 := n3_; have GE117 := n4_; have NB116_117 := n5_; have NB117_116 := n6_; clear n0_ n1_ n2_ n3_ n4_ n5_ n6_; clear hb hbox hg; have hnb11 := NB116_117.out; have hnc11 := NB117_116.out; have hcz12_0 : w10.cell? ⟨gb116, 0, none⟩ = some (.int .i64 a0_0) := (blk_cell BK116.out 0).trans rfl; have hcz12_1 : w10.cell? ⟨gb116, 1, none⟩ = some (.int .i64 a0_1) := (blk_cell BK116.out 1).trans rfl; have hcz12_2 : w10.cell? ⟨gb116, 2, none⟩ = some (.string a0_2) := (blk_cell BK116.out 2).trans rfl; have hcz12_3 : w10.cell? ⟨gb116, 3, none⟩ = some (.string a0_3) := (blk_cell BK116.out 3).trans rfl; have hcz12_4 : w10.cell? ⟨gb116, 4, none⟩ = some (.int .i64 a0_4) := (blk_cell BK116.out 4).trans rfl; have hfz12_0 := blk_frozen BK116.out 0; have hfz12_1 := blk_frozen BK116.out 1; have hfz12_2 := blk_frozen BK116.out 2; have hfz12_3 := blk_frozen BK116.out 3; have hfz12_4 := blk_frozen BK116.out 4; have hcz13_0 : w10.cell? ⟨gb117, 0, none⟩ = some (.int .i64 a1_0) := (blk_cell BK117.out 0).trans rfl; have hcz13_1 : w10.cell? ⟨gb117, 1, none⟩ = some (.int .i64 a1_1) := (blk_cell BK117.out 1).trans rfl; have hcz13_2 : w10.cell? ⟨gb117, 2, none⟩ = some (.string a1_2) := (blk_cell BK117.out 2).trans rfl; have hcz13_3 : w10.cell? ⟨gb117, 3, none⟩ = some (.string a1_3) := (blk_cell BK117.out 3).trans rfl; have hcz13_4 : w10.cell? ⟨gb117, 4, none⟩ = some (.int .i64 a1_4) := (blk_cell BK117.out 4).trans rfl; have hfz13_0 := blk_frozen BK117.out 0; have hfz13_1 := blk_frozen BK117.out 1; have hfz13_2 := blk_frozen BK117.out 2; have hfz13_3 := blk_frozen BK117.out 3; have hfz13_4 := blk_frozen BK117.out 4) | ((with_reducible refine gate_callee (f := 41) rfl ?_); refine goesL_ (some 10) rfl rfl Try.func41 (by kernel_rfl) rfl #[.int .i64 a0_1, .int .i64 a1_1] rfl (by (try simp only [List.map_toArray, List.map_cons, List.map_nil]); first | done | rfl | (simp only [List.length_drop, List.length_take]; rfl)) ?_; (with_reducible refine (cmp_Compare_int.calls a0_1 a1_1 t118 _ A3.out).mono ?_); rintro e w' ⟨rfl, ⟨nd, rfl⟩⟩; refine ⟨_, rfl, ?_⟩) | ((with_reducible refine gate_callee (f := 43) rfl ?_); refine goesL_ (some 19) rfl rfl Try.func43 (by kernel_rfl) rfl #[.string a0_2, .string a1_2] rfl (by (try simp only [List.map_toArray, List.map_cons, List.map_nil]); first | done | rfl | (simp only [List.length_drop, List.length_take]; rfl)) ?_; (with_reducible refine (cmp_Compare_string.calls a0_2 a1_2 t119 _ A5.out).mono ?_); rintro e w' ⟨rfl, ⟨nd, rfl⟩⟩; refine ⟨_, rfl, ?_⟩) | ((with_reducible refine gate_dst (N := 20) rfl ?_); refine Kd.R_lit (Kd.int .i64) _ 3 ?hg (N := 20) ?hd (xs := ([t118, t119] : List Int)) (inner := [.int .i64 t118, .int .i64 t119]) (ok := fun _ => True) (okp := fun _ => True) ?hr ?hp (fun _ hk => hk) trivial (Below.refl _ _) (Nat.le_refl _) (by simp) ?_; (case hd => rfl); (case hg => rfl); (case hr => first | (go_simp; done) | (go_simp; rfl)); (case hp => exact (Reps.one (show Kd.M (Kd.int .i64) _ _ _ t118 [.int .i64 t118] from rfl) (Reps.one (show Kd.M (Kd.int .i64) _ _ _ t119 [.int .i64 t119] from rfl) (Reps.none _ _)))); intro v121 w14 ho15 hb hg_ hnew_; clear hg_ hnew_; (first | rw [← Ny120.out] at ho15 | (simp only [Int.reduceToNat] at ho15; rw [← Ny120.out] at ho15)); have n0_ := Aside0.mk (Kd.R_lower ho15 (below_size (by repeat (first | (with_reducible first | exact HB.out | apply below_alloc | apply pw_below_drewN | apply below_drew1 | refine below_set ?_ GE116.out | refine below_set ?_ GE117.out) | exact HB.out)))); have n1_ := Aside0.mk (blk_below (g := gb116) (o := .cells #[.int .i64 a0_0, .int .i64 a0_1, .string a0_2, .string a0_3, .int .i64 a0_4] 49 (0, 0)) (by (with_reducible repeat (first | refine blk_drewN ?_ _ | refine blk_drew ?_ | refine blk_alloc ?_ _)); exact BK116.out) hb); have n2_ := Aside0.mk (blk_below (g := gb117) (o := .cells #[.int .i64 a1_0, .int .i64 a1_1, .string a1_2, .string a1_3, .int .i64 a1_4] 49 (0, 0)) (by (with_reducible repeat (first | refine blk_drewN ?_ _ | refine blk_drew ?_ | refine blk_alloc ?_ _)); exact BK117.out) hb); have n3_ := Aside0.mk (below_step (by repeat (first | (with_reducible first | exact HB.out | apply below_alloc | apply pw_below_drewN | apply below_drew1 | refine below_set ?_ GE116.out | refine below_set ?_ GE117.out) | exact HB.out)) hb); clear BK116; clear BK117; clear HB; have HO122 := n0_; have BK116 := n1_; have BK117 := n2_; have HB := n3_; clear n0_ n1_ n2_ n3_; clear hb ho15; obtain ⟨Ao16, co16, eo16⟩ := Kd.R_slice HO122.out; subst eo16) | ((with_reducible refine gate_callee (f := 42) rfl ?_); refine goesL_ (some 21) rfl rfl Try.func42 (by kernel_rfl) rfl #[.slice Ao16 y120.length co16] rfl (by (try simp only [List.map_toArray, List.map_cons, List.map_nil]); first | done | rfl | (simp only [List.length_drop, List.length_take]; rfl)) ?_; (with_reducible refine (cmp_Or_int.calls k _ _ y120 t123 _ ?side1 ?side2 A6.out).mono ?_); (case side1 => repeat (first | exact (Kd.R_reads' HO122.out).2.2 | (with_reducible refine Kd.C_alloc ?_ _) | (with_reducible refine Kd.C_drewN ?_ _) | (with_reducible refine Kd.C_drew ?_))); (case side2 => exact (Kd.R_reads' HO122.out).2.1); rintro e w' ⟨rfl, ⟨nd, rfl⟩⟩; refine ⟨_, rfl, ?_⟩; have hcz17_0 : w14.cell? ⟨gb116, 0, none⟩ = some (.int .i64 a0_0) := (blk_cell BK116.out 0).trans rfl; have hcz17_1 : w14.cell? ⟨gb116, 1, none⟩ = some (.int .i64 a0_1) := (blk_cell BK116.out 1).trans rfl; have hcz17_2 : w14.cell? ⟨gb116, 2, none⟩ = some (.string a0_2) := (blk_cell BK116.out 2).trans rfl; have hcz17_3 : w14.cell? ⟨gb116, 3, none⟩ = some (.string a0_3) := (blk_cell BK116.out 3).trans rfl; have hcz17_4 : w14.cell? ⟨gb116, 4, none⟩ = some (.int .i64 a0_4) := (blk_cell BK116.out 4).trans rfl; have hfz17_0 := blk_frozen BK116.out 0; have hfz17_1 := blk_frozen BK116.out 1; have hfz17_2 := blk_frozen BK116.out 2; have hfz17_3 := blk_frozen BK116.out 3; have hfz17_4 := blk_frozen BK116.out 4; have hcz18_0 : w14.cell? ⟨gb117, 0, none⟩ = some (.int .i64 a1_0) := (blk_cell BK117.out 0).trans rfl; have hcz18_1 : w14.cell? ⟨gb117, 1, none⟩ = some (.int .i64 a1_1) := (blk_cell BK117.out 1).trans rfl; have hcz18_2 : w14.cell? ⟨gb117, 2, none⟩ = some (.string a1_2) := (blk_cell BK117.out 2).trans rfl; have hcz18_3 : w14.cell? ⟨gb117, 3, none⟩ = some (.string a1_3) := (blk_cell BK117.out 3).trans rfl; have hcz18_4 : w14.cell? ⟨gb117, 4, none⟩ = some (.int .i64 a1_4) := (blk_cell BK117.out 4).trans rfl; have hfz18_0 := blk_frozen BK117.out 0; have hfz18_1 := blk_frozen BK117.out 1; have hfz18_2 := blk_frozen BK117.out 2; have hfz18_3 := blk_frozen BK117.out 3; have hfz18_4 := blk_frozen BK117.out 4) | ((with_reducible refine gate_callee (f := 41) rfl ?_); refine goesL_ (some 27) rfl rfl Try.func41 (by kernel_rfl) rfl #[.int .i64 a0_0, .int .i64 a1_0] rfl (by (try simp only [List.map_toArray, List.map_cons, List.map_nil]); first | done | rfl | (simp only [List.length_drop, List.length_take]; rfl)) ?_; (with_reducible refine (cmp_Compare_int.calls a0_0 a1_0 t124 _ A7.out).mono ?_); rintro e w' ⟨rfl, ⟨nd, rfl⟩⟩; refine ⟨_, rfl, ?_⟩) | ((with_reducible refine gate_dst (N := 28) rfl ?_); refine Kd.R_lit (Kd.int .i64) _ 3 ?hg (N := 28) ?hd (xs := ([t123, t124] : List Int)) (inner := [.int .i64 t123, .int .i64 t124]) (ok := fun _ => True) (okp := fun _ => True) ?hr ?hp (fun _ hk => hk) trivial (Below.refl _ _) (Nat.le_refl _) (by simp) ?_; (case hd => rfl); (case hg => rfl); (case hr => first | (go_simp; done) | (go_simp; rfl)); (case hp => exact (Reps.one (show Kd.M (Kd.int .i64) _ _ _ t123 [.int .i64 t123] from rfl) (Reps.one (show Kd.M (Kd.int .i64) _ _ _ t124 [.int .i64 t124] from rfl) (Reps.none _ _)))); intro v126 w19 ho20 hb hg_ hnew_; clear hg_ hnew_; (first | rw [← Ny125.out] at ho20 | (simp only [Int.reduceToNat] at ho20; rw [← Ny125.out] at ho20)); have n0_ := Aside0.mk (Kd.R_elder' (by (with_reducible repeat (first | apply Kd.R_alloc | apply Kd.R_drewN | apply Kd.R_drew)); exact HO122.out) (Kd.R_base ho20) hb); have n1_ := Aside0.mk (Kd.R_lower (Kd.R_new' ho20 (Kd.R_lt (by (with_reducible repeat (first | apply Kd.R_alloc | apply Kd.R_drewN | apply Kd.R_drew)); exact HO122.out))) (below_size (by repeat (first | (with_reducible first | exact HB.out | apply below_alloc | apply pw_below_drewN | apply below_drew1 | refine below_set ?_ GE116.out | refine below_set ?_ GE117.out) | exact HB.out)))); have n2_ := Aside0.mk (blk_below (g := gb116) (o := .cells #[.int .i64 a0_0, .int .i64 a0_1, .string a0_2, .string a0_3, .int .i64 a0_4] 49 (0, 0)) (by (with_reducible repeat (first | refine blk_drewN ?_ _ | refine blk_drew ?_ | refine blk_alloc ?_ _)); exact BK116.out) hb); have n3_ := Aside0.mk (blk_below (g := gb117) (o := .cells #[.int .i64 a1_0, .int .i64 a1_1, .string a1_2, .string a1_3, .int .i64 a1_4] 49 (0, 0)) (by (with_reducible repeat (first | refine blk_drewN ?_ _ | refine blk_drew ?_ | refine blk_alloc ?_ _)); exact BK117.out) hb); have n4_ := Aside0.mk (below_step (by repeat (first | (with_reducible first | exact HB.out | apply below_alloc | apply pw_below_drewN | apply below_drew1 | refine below_set ?_ GE116.out | refine below_set ?_ GE117.out) | exact HB.out)) hb); clear HO122; clear BK116; clear BK117; clear HB; have HO122 := n0_; have HO127 := n1_; have BK116 := n2_; have BK117 := n3_; have HB := n4_; clear n0_ n1_ n2_ n3_ n4_; clear hb ho20; obtain ⟨Ao21, co21, eo21⟩ := Kd.R_slice HO127.out; subst eo21) | ((with_reducible refine gate_callee (f := 42) rfl ?_); refine goesL_ (some 29) rfl rfl Try.func42 (by kernel_rfl) rfl #[.slice Ao21 y125.length co21] rfl (by (try simp only [List.map_toArray, List.map_cons, List.map_nil]); first | done | rfl | (simp only [List.length_drop, List.length_take]; rfl)) ?_; (with_reducible refine (cmp_Or_int.calls k _ _ y125 t128 _ ?side1 ?side2 A8.out).mono ?_); (case side1 => repeat (first | exact (Kd.R_reads' HO127.out).2.2 | (with_reducible refine Kd.C_alloc ?_ _) | (with_reducible refine Kd.C_drewN ?_ _) | (with_reducible refine Kd.C_drew ?_))); (case side2 => exact (Kd.R_reads' HO127.out).2.1); rintro e w' ⟨rfl, ⟨nd, rfl⟩⟩; refine ⟨_, rfl, ?_⟩))
    go_ret
    exact ⟨by first | rfl | (simp [errW_none, errW_some] <;> rfl) | (simp [*, errW_none, errW_some] <;> rfl), by repeat (first | (with_reducible first | exact HB.out | apply below_alloc | apply pw_below_drewN | apply below_drew1 | refine below_set ?_ GE116.out | refine below_set ?_ GE117.out) | exact HB.out)⟩
  · rw [if_neg c4] at H
    have c4b0 : decide (0 < a0_1) = false := decide_eq_false c4
    clear c4
    replace H := Option.bind_eq_some_iff.mp H
    obtain ⟨t129, A220, H⟩ := H
    replace H : ((cmp_Or_int.f k (([t118, t129] : List Int))).bind fun t133 => (some t133)) = some r := H
    have A22 := Aside0.mk A220
    clear A220
    obtain ⟨y130, hy130⟩ : ∃ y_ : List Int, y_ = (([t118, t129] : List Int)) := ⟨_, rfl⟩
    replace H : ((cmp_Or_int.f k y130).bind fun t133 => (some t133)) = some r := by first | (rw [hy130]; with_reducible exact H) | (have H2_ := (Option.bind_some _ _).symm.trans H; rw [hy130]; with_reducible exact H2_) | (have H2_ := (Option.bind_some _ _).symm.trans H; with_reducible exact H2_) | with_reducible exact H | (rw [hy130]; exact H) | exact H
    have Ny130 := Aside0.mk hy130
    clear hy130
    replace H := Option.bind_eq_some_iff.mp H
    obtain ⟨t133, A230, H⟩ := H
    replace H : (some t133) = some r := H
    have A23 := Aside0.mk A230
    clear A230
    obtain rfl := Option.some.inj H
    go_enter Try.func35, Try.ntmps35
    go_wp2_with (first | ((with_reducible refine gate_dst (N := 2) rfl ?_); refine box_event ?hg (N := 2) ?hd (cs := #[.int .i64 a0_0, .int .i64 a0_1, .string a0_2, .string a0_3, .int .i64 a0_4]) (t := 49) ?hr ?_; (case hd => rfl); (case hg => rfl); (case hr => first | (go_simp; done) | (go_simp; rfl)); intro gb116 hg w24 hbox hb; have n0_ := Aside0.mk (below_step (by repeat (first | (with_reducible first | exact HB.out | apply below_alloc | apply pw_below_drewN | apply below_drew1) | exact HB.out)) hb); have n1_ := Aside0.mk (hbox); have n2_ := Aside0.mk ((by rw [hg]; exact (below_size (by repeat (first | (with_reducible first | exact HB.out | apply below_alloc | apply pw_below_drewN | apply below_drew1) | exact HB.out))) : w.heap.size ≤ gb116)); have n3_ := Aside0.mk ((by rw [hg]; exact (below_size (by repeat (first | (with_reducible first | exact HB.out | apply below_alloc | apply pw_below_drewN | apply below_drew1) | exact HB.out))) : w.heap.size ≤ gb116)); clear HB; have HB := n0_; have BK116 := n1_; have GW116 := n2_; have GE116 := n3_; clear n0_ n1_ n2_ n3_; clear hb hbox hg) | ((with_reducible refine gate_dst (N := 3) rfl ?_); refine box_event ?hg (N := 3) ?hd (cs := #[.int .i64 a1_0, .int .i64 a1_1, .string a1_2, .string a1_3, .int .i64 a1_4]) (t := 49) ?hr ?_; (case hd => rfl); (case hg => rfl); (case hr => first | (go_simp; done) | (go_simp; rfl)); intro gb117 hg w25 hbox hb; have n0_ := Aside0.mk (blk_below (g := gb116) (o := .cells #[.int .i64 a0_0, .int .i64 a0_1, .string a0_2, .string a0_3, .int .i64 a0_4] 49 (0, 0)) (by (with_reducible repeat (first | refine blk_drewN ?_ _ | refine blk_drew ?_ | refine blk_alloc ?_ _)); exact BK116.out) hb); have n1_ := Aside0.mk (below_step (by repeat (first | (with_reducible first | exact HB.out | apply below_alloc | apply pw_below_drewN | apply below_drew1 | refine below_set ?_ GE116.out) | exact HB.out)) hb); have n2_ := Aside0.mk (hbox); have n3_ := Aside0.mk ((by rw [hg]; exact (below_size (by repeat (first | (with_reducible first | exact HB.out | apply below_alloc | apply pw_below_drewN | apply below_drew1 | refine below_set ?_ GE116.out) | exact HB.out))) : w.heap.size ≤ gb117)); have n4_ := Aside0.mk ((by rw [hg]; exact (below_size (by repeat (first | (with_reducible first | exact HB.out | apply below_alloc | apply pw_below_drewN | apply below_drew1 | refine below_set ?_ GE116.out) | exact HB.out))) : w.heap.size ≤ gb117)); have n5_ := Aside0.mk ((by rw [hg]; exact Nat.ne_of_lt (blk_lt (g := gb116) (o := .cells #[.int .i64 a0_0, .int .i64 a0_1, .string a0_2, .string a0_3, .int .i64 a0_4] 49 (0, 0)) (by (with_reducible repeat (first | refine blk_drewN ?_ _ | refine blk_drew ?_ | refine blk_alloc ?_ _)); exact BK116.out)) : gb116 ≠ gb117)); have n6_ := Aside0.mk ((by rw [hg]; exact Nat.ne_of_gt (blk_lt (g := gb116) (o := .cells #[.int .i64 a0_0, .int .i64 a0_1, .string a0_2, .string a0_3, .int .i64 a0_4] 49 (0, 0)) (by (with_reducible repeat (first | refine blk_drewN ?_ _ | refine blk_drew ?_ | refine blk_alloc ?_ _)); exact BK116.out)) : gb117 ≠ gb116)); clear BK116; clear HB; have BK116 := n0_; have HB := n1_; have BK117 := n2_; have GW117 := n3_; have GE117 := n4_; have NB116_117 := n5_; have NB117_116 := n6_; clear n0_ n1_ n2_ n3_ n4_ n5_ n6_; clear hb hbox hg; have hnb26 := NB116_117.out; have hnc26 := NB117_116.out; have hcz27_0 : w25.cell? ⟨gb116, 0, none⟩ = some (.int .i64 a0_0) := (blk_cell BK116.out 0).trans rfl; have hcz27_1 : w25.cell? ⟨gb116, 1, none⟩ = some (.int .i64 a0_1) := (blk_cell BK116.out 1).trans rfl; have hcz27_2 : w25.cell? ⟨gb116, 2, none⟩ = some (.string a0_2) := (blk_cell BK116.out 2).trans rfl; have hcz27_3 : w25.cell? ⟨gb116, 3, none⟩ = some (.string a0_3) := (blk_cell BK116.out 3).trans rfl; have hcz27_4 : w25.cell? ⟨gb116, 4, none⟩ = some (.int .i64 a0_4) := (blk_cell BK116.out 4).trans rfl; have hfz27_0 := blk_frozen BK116.out 0; have hfz27_1 := blk_frozen BK116.out 1; have hfz27_2 := blk_frozen BK116.out 2; have hfz27_3 := blk_frozen BK116.out 3; have hfz27_4 := blk_frozen BK116.out 4; have hcz28_0 : w25.cell? ⟨gb117, 0, none⟩ = some (.int .i64 a1_0) := (blk_cell BK117.out 0).trans rfl; have hcz28_1 : w25.cell? ⟨gb117, 1, none⟩ = some (.int .i64 a1_1) := (blk_cell BK117.out 1).trans rfl; have hcz28_2 : w25.cell? ⟨gb117, 2, none⟩ = some (.string a1_2) := (blk_cell BK117.out 2).trans rfl; have hcz28_3 : w25.cell? ⟨gb117, 3, none⟩ = some (.string a1_3) := (blk_cell BK117.out 3).trans rfl; have hcz28_4 : w25.cell? ⟨gb117, 4, none⟩ = some (.int .i64 a1_4) := (blk_cell BK117.out 4).trans rfl; have hfz28_0 := blk_frozen BK117.out 0; have hfz28_1 := blk_frozen BK117.out 1; have hfz28_2 := blk_frozen BK117.out 2; have hfz28_3 := blk_frozen BK117.out 3; have hfz28_4 := blk_frozen BK117.out 4) | ((with_reducible refine gate_callee (f := 41) rfl ?_); refine goesL_ (some 10) rfl rfl Try.func41 (by kernel_rfl) rfl #[.int .i64 a0_1, .int .i64 a1_1] rfl (by (try simp only [List.map_toArray, List.map_cons, List.map_nil]); first | done | rfl | (simp only [List.length_drop, List.length_take]; rfl)) ?_; (with_reducible refine (cmp_Compare_int.calls a0_1 a1_1 t118 _ A3.out).mono ?_); rintro e w' ⟨rfl, ⟨nd, rfl⟩⟩; refine ⟨_, rfl, ?_⟩) | ((with_reducible refine gate_callee (f := 41) rfl ?_); refine goesL_ (some 27) rfl rfl Try.func41 (by kernel_rfl) rfl #[.int .i64 a0_0, .int .i64 a1_0] rfl (by (try simp only [List.map_toArray, List.map_cons, List.map_nil]); first | done | rfl | (simp only [List.length_drop, List.length_take]; rfl)) ?_; (with_reducible refine (cmp_Compare_int.calls a0_0 a1_0 t129 _ A22.out).mono ?_); rintro e w' ⟨rfl, ⟨nd, rfl⟩⟩; refine ⟨_, rfl, ?_⟩) | ((with_reducible refine gate_dst (N := 28) rfl ?_); refine Kd.R_lit (Kd.int .i64) _ 3 ?hg (N := 28) ?hd (xs := ([t118, t129] : List Int)) (inner := [.int .i64 t118, .int .i64 t129]) (ok := fun _ => True) (okp := fun _ => True) ?hr ?hp (fun _ hk => hk) trivial (Below.refl _ _) (Nat.le_refl _) (by simp) ?_; (case hd => rfl); (case hg => rfl); (case hr => first | (go_simp; done) | (go_simp; rfl)); (case hp => exact (Reps.one (show Kd.M (Kd.int .i64) _ _ _ t118 [.int .i64 t118] from rfl) (Reps.one (show Kd.M (Kd.int .i64) _ _ _ t129 [.int .i64 t129] from rfl) (Reps.none _ _)))); intro v131 w29 ho30 hb hg_ hnew_; clear hg_ hnew_; (first | rw [← Ny130.out] at ho30 | (simp only [Int.reduceToNat] at ho30; rw [← Ny130.out] at ho30)); have n0_ := Aside0.mk (Kd.R_lower ho30 (below_size (by repeat (first | (with_reducible first | exact HB.out | apply below_alloc | apply pw_below_drewN | apply below_drew1 | refine below_set ?_ GE116.out | refine below_set ?_ GE117.out) | exact HB.out)))); have n1_ := Aside0.mk (blk_below (g := gb116) (o := .cells #[.int .i64 a0_0, .int .i64 a0_1, .string a0_2, .string a0_3, .int .i64 a0_4] 49 (0, 0)) (by (with_reducible repeat (first | refine blk_drewN ?_ _ | refine blk_drew ?_ | refine blk_alloc ?_ _)); exact BK116.out) hb); have n2_ := Aside0.mk (blk_below (g := gb117) (o := .cells #[.int .i64 a1_0, .int .i64 a1_1, .string a1_2, .string a1_3, .int .i64 a1_4] 49 (0, 0)) (by (with_reducible repeat (first | refine blk_drewN ?_ _ | refine blk_drew ?_ | refine blk_alloc ?_ _)); exact BK117.out) hb); have n3_ := Aside0.mk (below_step (by repeat (first | (with_reducible first | exact HB.out | apply below_alloc | apply pw_below_drewN | apply below_drew1 | refine below_set ?_ GE116.out | refine below_set ?_ GE117.out) | exact HB.out)) hb); clear BK116; clear BK117; clear HB; have HO132 := n0_; have BK116 := n1_; have BK117 := n2_; have HB := n3_; clear n0_ n1_ n2_ n3_; clear hb ho30; obtain ⟨Ao31, co31, eo31⟩ := Kd.R_slice HO132.out; subst eo31) | ((with_reducible refine gate_callee (f := 42) rfl ?_); refine goesL_ (some 29) rfl rfl Try.func42 (by kernel_rfl) rfl #[.slice Ao31 y130.length co31] rfl (by (try simp only [List.map_toArray, List.map_cons, List.map_nil]); first | done | rfl | (simp only [List.length_drop, List.length_take]; rfl)) ?_; (with_reducible refine (cmp_Or_int.calls k _ _ y130 t133 _ ?side1 ?side2 A23.out).mono ?_); (case side1 => repeat (first | exact (Kd.R_reads' HO132.out).2.2 | (with_reducible refine Kd.C_alloc ?_ _) | (with_reducible refine Kd.C_drewN ?_ _) | (with_reducible refine Kd.C_drew ?_))); (case side2 => exact (Kd.R_reads' HO132.out).2.1); rintro e w' ⟨rfl, ⟨nd, rfl⟩⟩; refine ⟨_, rfl, ?_⟩))
    go_ret
    exact ⟨by first | rfl | (simp [errW_none, errW_some] <;> rfl) | (simp [*, errW_none, errW_some] <;> rfl), by repeat (first | (with_reducible first | exact HB.out | apply below_alloc | apply pw_below_drewN | apply below_drew1 | refine below_set ?_ GE116.out | refine below_set ?_ GE117.out) | exact HB.out)⟩

end Go.Proofs.Ytepgnefkpjnmlaa.PD

-- printed by gprint.py (own tool) over the kit's print
namespace Go.Proofs.Ytepgnefkpjnmlaa.PD
open Go.RowKit Go.Proofs.Ytepgnefkpjnmlaa Go.Proofs.YtepgnefkpjnmlaaW.PrintWords Go.Proofs.YtepgnefkpjnmlaaW.PrintLast Go.Proofs.YtepgnefkpjnmlaaW.PrintMore
attribute [local go_sem] max2_int min2_int max_two min_two max_three min_three max_four min_four   -- for this text's walks alone
set_option linter.unnecessarySimpa false
attribute [local go_sem] min2_str max2_str leq_str gtr_str geq_str
set_option linter.unusedVariables false
set_option linter.unusedSimpArgs false

/-! ### version_Right: function 18 -/
def version_Right.litB (n : Int) : Bool := decide (n < 1 ∨ 9007199254740991 < n)
theorem version_Right.lit_ (n : Int) (w : World) : Calls Try.prog 33 #[.int .i64 n] w fun e w' => e = .returned (.bool (decide (n < 1 ∨ 9007199254740991 < n))) ∧ w' = w := by
  by_cases h1 : n < 1
  · have h : decide (n < 1 ∨ 9007199254740991 < n) = true := by simp [h1]
    rw [h]
    go_enter Try.func33, Try.ntmps33
    go_wp2
    go_ret
    exact ⟨rfl, rfl⟩
  · have h : decide (n < 1 ∨ 9007199254740991 < n) = decide (9007199254740991 < n) := by simp [h1]
    rw [h]
    clear h
    by_cases h2 : 9007199254740991 < n
    all_goals
      go_enter Try.func33, Try.ntmps33
      go_wp2
      go_ret
      exact ⟨by simp [h2], rfl⟩
theorem version_Right.lit2_ (n : Int) (w : World) : Calls Try.prog 33 #[.int .i64 n] w fun e w' => e = .returned (.bool (version_Right.litB n)) ∧ w' = w := version_Right.lit_ n w
theorem version_Right.index_ (A0 : Option Addr) (c0 : Nat) (l0 : List Int) (w : World) (hr0 : Kd.C (Kd.int .i64) w A0 l0.length l0) :
    Calls Try.prog 40 #[.slice A0 l0.length c0, .func (.func 33) #[] #[]] w fun e w' => (∃ n : Int, e = .returned (.int .i64 n) ∧ (0 ≤ n ↔ ∃ x ∈ l0, version_Right.litB x = true)) ∧ w' = w := by
  have hm := hr0.2.1
  have HR := Aside0.mk hr0
  clear hr0
  go_enter Try.func40, Try.ntmps40
  go_wp2
  go_loop [8] (fun i => ∃ k : Nat, k ≤ l0.length ∧ i = .int .i64 k ∧ Aside0 (∀ j, j < k → version_Right.litB (l0.getD j 0) = false)) (fun i => l0.length - (intOf i).toNat)
  case atStart => exact ⟨0, Nat.zero_le _, rfl, ⟨fun j h => absurd h (by omega)⟩⟩
  case round =>
    obtain ⟨k, hk, rfl, HN⟩ := hrel
    by_cases hlt : k < l0.length
    · obtain ⟨ad, rfl, hcell⟩ := Kd.at_int HR.out (k : Int) (by omega) (by omega)
      obtain ⟨n, hn⟩ : ∃ n : Int, n = rd l0 (k : Int) := ⟨_, rfl⟩
      rw [← hn] at hcell
      have hg : n = l0.getD k 0 := by rw [hn, rd, Int.toNat_natCast]
      have HG := Aside0.mk hg
      rw [Int.toNat_natCast] at hcell
      clear hn hg
      cases hb : version_Right.litB n with
      | true =>
        have HB := Aside0.mk hb
        clear hb
        have hc := version_Right.lit2_ n w
        rw [HB.out] at hc
        have HC := Lib.hid hc
        clear hc
        go_wp2_with (go_at_call 33; refine HC.out.mono ?_; rintro e w' ⟨rfl, rfl⟩)
        go_ret
        exact ⟨⟨k, rfl, by simp; exact ⟨n, by rw [HG.out]; simp [List.getD, hlt], HB.out⟩⟩, rfl⟩
      | false =>
        have HB := Aside0.mk hb
        clear hb
        have hc := version_Right.lit2_ n w
        rw [HB.out] at hc
        have HC := Lib.hid hc
        clear hc
        go_wp2_with (go_at_call 33; refine HC.out.mono ?_; rintro e w' ⟨rfl, rfl⟩)
        refine ⟨⟨k + 1, by omega, by go_num, ⟨fun j hj => ?_⟩⟩, by simp [intOf]; omega⟩
        by_cases e : j = k
        · subst e; rw [← HG.out]; exact HB.out
        · exact HN.out j (by omega)
    · obtain rfl : k = l0.length := by omega
      go_wp2
      go_ret
      refine ⟨⟨-1, rfl, by simp; intro x hx; obtain ⟨j, hj, rfl⟩ := List.mem_iff_getElem.1 hx; have := HN.out j hj; simpa [List.getD, hj] using this⟩, rfl⟩
theorem version_Right.contains_ (A0 : Option Addr) (c0 : Nat) (l0 : List Int) (w : World) (hr0 : Kd.C (Kd.int .i64) w A0 l0.length l0) :
    Calls Try.prog 32 #[.slice A0 l0.length c0, .func (.func 33) #[] #[]] w fun e w' => e = .returned (.bool (l0.any version_Right.litB)) ∧ w' = w := by
  have HC := Lib.hid (version_Right.index_ A0 c0 l0 w hr0)
  have hm := hr0.2.1
  clear hr0
  go_enter Try.func32, Try.ntmps32
  go_wp2_with (go_at_call 40; refine HC.out.mono ?_; rintro e w' ⟨⟨n, rfl, hn⟩, rfl⟩; have HN := Aside0.mk hn; clear hn)
  go_ret
  refine ⟨?_, rfl⟩
  have e : l0.any version_Right.litB = decide (0 ≤ n) := by rw [Bool.eq_iff_iff, List.any_eq_true, decide_eq_true_iff]; exact HN.out.symm
  rw [e]
  rfl
/-- Right, by the plain facts. -/
def version_Right.meta_ (m : S49) : Bool := (version_meta.f m.f0 m.f1 m.f2 m.f3 m.f4).getD false
theorem version_Right.meta_some (m : S49) : version_meta.f m.f0 m.f1 m.f2 m.f3 m.f4 = some (version_Right.meta_ m) := by
  unfold version_Right.meta_ version_meta.f
  repeat' split
  all_goals rfl
theorem version_Right.isnan_int (a : Int) : cmp_isNaN_int.f a = some false := by simp [cmp_isNaN_int.f]
theorem version_Right.isnan_str (a : ByteArray) : cmp_isNaN_string.f a = some false := by simp [cmp_isNaN_string.f]
theorem version_Right.cmp_int (a b : Int) : cmp_Compare_int.f a b = some (if a < b then -1 else if a > b then 1 else 0) := by
  simp only [cmp_Compare_int.f, version_Right.isnan_int, Option.bind_some]
  simp
  repeat' split
  all_goals rfl
theorem version_Right.cmp_str (a b : ByteArray) : cmp_Compare_string.f a b = some (if Op.bytesLess a.toList b.toList = true then -1 else if Op.bytesLess b.toList a.toList = true then 1 else 0) := by
  simp only [cmp_Compare_string.f, version_Right.isnan_str, Option.bind_some]
  simp
  repeat' split
  all_goals rfl
theorem version_Right.or2 (k : Nat) (a b : Int) : cmp_Or_int.f (k + 3) [a, b] = some (if a = 0 then b else a) := by
  have w0 : wrap64 (0 + 1) = 1 := by unfold wrap64; omega
  have w1 : wrap64 (1 + 1) = 2 := by unfold wrap64; omega
  simp only [cmp_Or_int.f, cmp_Or_int.l0, List.length_cons, List.length_nil, w0, w1]
  by_cases h : a = 0
  · by_cases h2 : b = 0 <;> simp [h, h2, rd]
  · simp [h, rd]
/-- The order of two tables. -/
def version_Right.ord (a b : S49) : Int :=
  let c := if a.f1 < b.f1 then -1 else if a.f1 > b.f1 then 1 else 0
  let c := if a.f1 > 0 then (if c = 0 then (if Op.bytesLess a.f2.toList b.f2.toList = true then -1 else if Op.bytesLess b.f2.toList a.f2.toList = true then 1 else 0) else c) else c
  if c = 0 then (if a.f0 < b.f0 then -1 else if a.f0 > b.f0 then 1 else 0) else c
theorem version_Right.compare_some (k : Nat) (a b : S49) : version_compare.f (k + 3) a.f0 a.f1 a.f2 a.f3 a.f4 b.f0 b.f1 b.f2 b.f3 b.f4 = some (version_Right.ord a b) := by
  unfold version_compare.f version_Right.ord
  simp only [version_Right.cmp_int, version_Right.cmp_str, version_Right.or2, Option.bind_some]
  by_cases h : a.f1 > 0 <;> simp [h]
theorem version_Right.ids_loop (L : List S49) (G : List Int) (a : Int) (hL : L.length + G.length < 17592186044416) (d : Nat) : ∀ (k i : Nat) (acc : List Int), d = L.length - i → i ≤ L.length → acc.length = i → d < k →
    version_ids.l0 k acc L (L.length : Int) i L G a = some (acc ++ (L.drop i).map (·.f0) ++ G) := by
  induction d with
  | zero =>
    intro k i acc hd hi ha hk
    obtain ⟨k, rfl⟩ : ∃ m, k = m + 1 := ⟨k - 1, by omega⟩
    obtain rfl : i = L.length := by omega
    simp only [version_ids.l0]
    rw [if_neg (by omega), if_pos (by omega)]
    simp
  | succ d ih =>
    intro k i acc hd hi ha hk
    obtain ⟨k, rfl⟩ : ∃ m, k = m + 1 := ⟨k - 1, by omega⟩
    have hlt : i < L.length := by omega
    simp only [version_ids.l0]
    rw [if_pos (by omega), if_pos (by omega), if_pos (by omega), if_pos (by omega)]
    have hw : wrap64 ((i : Int) + 1) = ((i + 1 : Nat) : Int) := by unfold wrap64; omega
    rw [hw, ih k (i + 1) _ (by omega) (by omega) (by simp [ha]) (by omega)]
    have e : acc ++ [(rd_T49 L (i : Int)).f0] ++ (L.drop (i + 1)).map (·.f0) ++ G = acc ++ (L.drop i).map (·.f0) ++ G := by
      rw [List.drop_eq_getElem_cons hlt, List.map_cons]
      simp only [rd_T49, Int.toNat_natCast, List.getD, List.getElem?_eq_getElem hlt, Option.getD_some, List.append_assoc, List.cons_append, List.nil_append]
    rw [e]
theorem version_Right.ids_some (L : List S49) (G : List Int) (a : Int) (hL : L.length + G.length < 17592186044416) : version_ids.f (L.length + 1) L G a = some (L.map (·.f0) ++ G) := by
  unfold version_ids.f
  have := version_Right.ids_loop L G a hL L.length (L.length + 1) 0 [] (by omega) (by omega) rfl (by omega)
  simpa using this
def version_Right.step_ (a b : S49) : Bool := decide (version_Right.ord a b < 0) && !(decide (a.f1 = b.f1) && decide (0 < b.f1) && !(Op.bytesLess a.f3.toList b.f2.toList))
def version_Right.good_ (l : List S49) (i : Nat) : Bool := version_Right.meta_ (l.getD i z49) && (i == 0 || version_Right.step_ (l.getD (i - 1) z49) (l.getD i z49))
def version_Right.tell (l0_0 : List S49) (l0_1 : List Int) (a0_2 : Int) : Bool :=
  decide (l0_0.length ≤ 200) && (decide (l0_1.length ≤ 20) && (decide (0 ≤ a0_2) && (decide (a0_2 ≤ 9007199254740991) && (decide (l0_0.map (·.f0) ++ l0_1).Nodup && (!(l0_1.any version_Right.litB) && (List.range l0_0.length).all (version_Right.good_ l0_0))))))
def version_Right.f (l0_0 : List S49) (l0_1 : List Int) (a0_2 : Int) : Option Bool := if (∀ m ∈ l0_0, -9223372036854775808 ≤ m.f0 ∧ m.f0 ≤ 9223372036854775807) ∧ (∀ n ∈ l0_1, -9223372036854775808 ≤ n ∧ n ≤ 9223372036854775807) then some (version_Right.tell l0_0 l0_1 a0_2) else none
set_option maxHeartbeats 4000000 in
set_option maxRecDepth 100000 in
theorem version_Right.calls (A0_0 : Option Addr) (c0_0 : Nat) (l0_0 : List (S49)) (A0_1 : Option Addr) (c0_1 : Nat) (l0_1 : List Int) (a0_2 : Int) (r : Bool) (w : World) (hr0_0 : Kd.C k49 w A0_0 l0_0.length l0_0) (hc0_0 : l0_0.length ≤ c0_0) (hr0_1 : Kd.C (Kd.int .i64) w A0_1 l0_1.length l0_1) (hc0_1 : l0_1.length ≤ c0_1) (h : version_Right.f l0_0 l0_1 a0_2 = some r) :
    Calls Try.prog 18 #[.agg #[.slice A0_0 l0_0.length c0_0, .slice A0_1 l0_1.length c0_1, .int .i64 a0_2]] w fun e w' => e = .returned (.bool r) ∧ Below w.heap.size w w' := by
  obtain ⟨⟨hw0, hw1⟩, hR⟩ : ((∀ m ∈ l0_0, -9223372036854775808 ≤ m.f0 ∧ m.f0 ≤ 9223372036854775807) ∧ (∀ n ∈ l0_1, -9223372036854775808 ≤ n ∧ n ≤ 9223372036854775807)) ∧ version_Right.tell l0_0 l0_1 a0_2 = r := by
    unfold version_Right.f at h
    split at h
    · rename_i hl; exact ⟨hl, Option.some.inj h⟩
    · cases h
  clear h
  have HR0 := Aside0.mk hr0_0
  have HR1 := Aside0.mk hr0_1
  have HW0 := Aside0.mk hw0
  have HW1 := Aside0.mk hw1
  have HC0 := Aside0.mk hc0_0
  have HC1 := Aside0.mk hc0_1
  have HRR := Aside0.mk hR
  have hm0 := hr0_0.2.1
  have hm1 := hr0_1.2.1
  clear hr0_0 hr0_1 hw0 hw1 hc0_0 hc0_1 hR
  by_cases c1 : l0_0.length ≤ 200
  · by_cases c2 : l0_1.length ≤ 20
    · by_cases c3 : 0 ≤ a0_2
      · by_cases c4 : a0_2 ≤ 9007199254740991
        · go_enter Try.func18, Try.ntmps18
          go_wp2_with ((with_reducible refine gate_dst (N := 1) rfl ?_); refine box_event ?hg (N := 1) ?hd (cs := #[.slice A0_0 l0_0.length c0_0, .slice A0_1 l0_1.length c0_1, .int .i64 a0_2]) (t := 25) ?hr ?_; (case hd => rfl); (case hg => rfl); (case hr => first | (go_simp; done) | (go_simp; rfl)); intro gb hg w1 hbox hb; have HB := Aside0.mk hb; have HK := Aside0.mk hbox; have HG := Aside0.mk (Nat.le_of_eq hg.symm); clear hb hbox hg; have e0 : w1.cell? ⟨gb, 0, none⟩ = some (.slice A0_0 l0_0.length c0_0) := (blk_cell HK.out 0).trans rfl; have e1 : w1.cell? ⟨gb, 1, none⟩ = some (.slice A0_1 l0_1.length c0_1) := (blk_cell HK.out 1).trans rfl; have e2 : w1.cell? ⟨gb, 2, none⟩ = some (.int .i64 a0_2) := (blk_cell HK.out 2).trans rfl)
          refine (version_ids.calls (l0_0.length + 1) A0_0 c0_0 l0_0 A0_1 c0_1 l0_1 a0_2 _ w1 (Kd.C_below HR0.out HB.out) HC0.out (Kd.C_below HR1.out HB.out) HC1.out (version_Right.ids_some l0_0 l0_1 a0_2 (by omega))).mono ?_
          rintro e w2 ⟨v, rfl, hv, hb2⟩
          obtain ⟨Ai, ci, rfl, hci, hri⟩ := Kd.R_reads hv
          have HB2 := Aside0.mk (below_step HB.out hb2)
          have HK2 := Aside0.mk (blk_below HK.out hb2)
          have HRI := Aside0.mk hri
          have HCI := Aside0.mk hci
          clear hv hb2 HB HK e0 e1 e2 hri hci
          have htw : version_twice.f (l0_0.map (·.f0) ++ l0_1) = some (decide (¬ (l0_0.map (·.f0) ++ l0_1).Nodup)) := by
            unfold version_twice.f
            rw [if_pos]
            refine ⟨by simp; omega, fun x hx => ?_⟩
            rcases List.mem_append.1 hx with hx | hx
            · obtain ⟨m, hm, rfl⟩ := List.mem_map.1 hx; exact HW0.out m hm
            · exact HW1.out x hx
          have HTW := Aside0.mk htw
          clear htw
          generalize hids : l0_0.map (·.f0) ++ l0_1 = ids at HRI HCI HTW ⊢
          have HIDS := Aside0.mk hids
          clear hids
          go_wp2_with fail
          refine (version_twice.calls Ai ci ids _ w2 HRI.out HCI.out HTW.out).mono ?_
          rintro e w3 ⟨rfl, hb3⟩
          have HB3 := Aside0.mk (below_step HB2.out hb3)
          have HK3 := Aside0.mk (blk_below HK2.out hb3)
          clear hb3 HB2 HK2 HRI HCI HTW
          by_cases c5 : ids.Nodup
          · have HC5 := Aside0.mk c5
            rw [show decide (¬ ids.Nodup) = false by simp [c5]]
            clear c5
            have e0 : w3.cell? ⟨gb, 0, none⟩ = some (.slice A0_0 l0_0.length c0_0) := (blk_cell HK3.out 0).trans rfl
            have e1 : w3.cell? ⟨gb, 1, none⟩ = some (.slice A0_1 l0_1.length c0_1) := (blk_cell HK3.out 1).trans rfl
            go_wp2_with fail
            refine (version_Right.contains_ A0_1 c0_1 l0_1 _ (Kd.C_below HR1.out HB3.out)).mono ?_
            rintro e w3 ⟨rfl, rfl⟩
            cases c6 : l0_1.any version_Right.litB with
            | true =>
              have hR := HRR.out
              simp only [version_Right.tell, c1, c2, c3, c4, c6, HIDS.out, HC5.out, decide_true, Bool.true_and, Bool.false_and, Bool.not_true] at hR
              have HRF := Aside0.mk hR
              clear hR c6
              go_wp2_with fail
              go_ret
              exact ⟨by rw [← HRF.out]; rfl, HB3.out⟩
            | false =>
              have hR := HRR.out
              simp only [version_Right.tell, c1, c2, c3, c4, c6, HIDS.out, HC5.out, decide_true, Bool.true_and, Bool.not_false] at hR
              have HRT := Aside0.mk hR
              clear hR c6 HC5 HIDS HRR
              go_wp2_with fail
              clear e0 e1
              generalize w3 = ws at HB3 HK3 ⊢
              go_loopw [37] (fun i wr => ∃ k : Nat, k ≤ l0_0.length ∧ i = .int .i64 k ∧ Aside0 (∀ j, j < k → version_Right.good_ l0_0 j = true) ∧ Aside0 (wr.heap[gb]? = some (.cells #[.slice A0_0 l0_0.length c0_0, .slice A0_1 l0_1.length c0_1, .int .i64 a0_2] 25 (0, 0))) ∧ Aside0 (Below w.heap.size w wr)) (fun i _ => l0_0.length - (intOf i).toNat)
              case atStart => exact ⟨0, Nat.zero_le _, rfl, ⟨fun j h => absurd h (by omega)⟩, HK3, HB3⟩
              case round =>
                clear HB3 HK3
                obtain ⟨k, hk, rfl, HN, HK, HB⟩ := hrel
                by_cases hlt : k < l0_0.length
                · obtain ⟨ad, rfl, x0, x1, x2, x3, x4⟩ := at_T49 (Kd.C_below HR0.out HB.out) (k : Int) (by omega) (by omega)
                  obtain ⟨m, hm⟩ : ∃ m : S49, m = rd_T49 l0_0 (k : Int) := ⟨_, rfl⟩
                  rw [← hm, Int.toNat_natCast] at x0 x1 x2 x3 x4
                  have hmg : m = l0_0.getD k z49 := by rw [hm, rd_T49, Int.toNat_natCast]
                  have HM := Aside0.mk hmg
                  clear hm hmg
                  have HGB := Aside0.mk (blk_lt HK.out)
                  go_wp2_with (first | ((with_reducible refine gate_dst (N := 4) rfl ?_); refine box_event ?hg (N := 4) ?hd (cs := #[.int .i64 0, .int .i64 0, .string (⟨#[]⟩ : ByteArray), .string (⟨#[]⟩ : ByteArray), .int .i64 0]) (t := 49) ?hr ?_; (case hd => rfl); (case hg => rfl); (case hr => first | (go_simp; done) | (go_simp; rfl)); intro g4 hg w4 hbox hb; have HB4 := Aside0.mk (below_step HB.out hb); have Hg4 := Aside0.mk hbox; have HGg4 := Aside0.mk (Nat.le_of_eq hg.symm); have HK4 := Aside0.mk (blk_below HK.out hb); have HN4 := Aside0.mk (by rw [hg]; have := HGB.out; omega : gb < g4); have HS4 := Aside0.mk (by rw [hg]; exact HB.out.size : w.heap.size ≤ g4); clear hb hbox hg) | ((with_reducible refine gate_store (t := 49) (p := 4) (v := .tmp 41) rfl ?_); refine agg_event rfl 49 (.tmp 4) (.tmp 41) rfl g4 rfl #[.int .i64 m.f0, .int .i64 m.f1, .string m.f2, .string m.f3, .int .i64 m.f4] #[.int .i64 0, .int .i64 0, .string (⟨#[]⟩ : ByteArray), .string (⟨#[]⟩ : ByteArray), .int .i64 0] rfl Hg4.out (by kernel_rfl) rfl (by simp [Value.oneCell']) ?_; intro w5 hst hgr hszz; clear hszz; have HM4 := Aside0.mk hst; have HB5 := Aside0.mk (pw_below_grown HB4.out (some g4) HB4.out.size hgr (fun k_ e_ => by injection e_ with e_; have := HS4.out; omega)); have HK5 := Aside0.mk (blk_grown HK4.out hgr (by intro e_; injection e_ with e_; have := HN4.out; omega)); clear hst hgr x0 x1 x2 x3 x4; have c4_0 : w5.cell? ⟨g4, 0, none⟩ = some (.int .i64 m.f0) := (blk_cell HM4.out 0).trans rfl; have c4_1 : w5.cell? ⟨g4, 1, none⟩ = some (.int .i64 m.f1) := (blk_cell HM4.out 1).trans rfl; have c4_2 : w5.cell? ⟨g4, 2, none⟩ = some (.string m.f2) := (blk_cell HM4.out 2).trans rfl; have c4_3 : w5.cell? ⟨g4, 3, none⟩ = some (.string m.f3) := (blk_cell HM4.out 3).trans rfl; have c4_4 : w5.cell? ⟨g4, 4, none⟩ = some (.int .i64 m.f4) := (blk_cell HM4.out 4).trans rfl))
                  clear HB HK HB4 HK4 Hg4 HGg4
                  go_wp2_with fail
                  refine (version_meta.calls m.f0 m.f1 m.f2 m.f3 m.f4 (version_Right.meta_ m) w5 (version_Right.meta_some m)).mono ?_
                  rintro e w6 ⟨rfl, hb6⟩
                  have HB6 := Aside0.mk (below_step HB5.out hb6)
                  have HK6 := Aside0.mk (blk_below HK5.out hb6)
                  have HM6 := Aside0.mk (blk_below HM4.out hb6)
                  clear hb6 HB5 HK5 HM4 c4_0 c4_1 c4_2 c4_3 c4_4
                  cases hme : version_Right.meta_ m with
                  | false =>
                    have hR : r = false := by
                      rw [← HRT.out, List.all_eq_false]
                      exact ⟨k, List.mem_range.2 hlt, by rw [version_Right.good_, ← HM.out, hme]; simp⟩
                    have HRF := Aside0.mk hR
                    clear hR hme
                    go_wp2_with fail
                    go_ret
                    exact ⟨by rw [HRF.out]; rfl, HB6.out⟩
                  | true =>
                    have HME := Aside0.mk hme
                    clear hme
                    by_cases hk0 : k = 0
                    · subst hk0
                      have hn1 : ∀ j, j < 1 → version_Right.good_ l0_0 j = true := by
                        intro j hj
                        obtain rfl : j = 0 := by omega
                        rw [version_Right.good_, ← HM.out, HME.out]; rfl
                      have HN1 := Aside0.mk hn1
                      clear hn1 HN HME HM
                      go_wp2_with fail
                      refine ⟨⟨1, by omega, rfl, HN1, HK6, HB6⟩, by simp [intOf]; omega⟩
                    · have hkp : 1 ≤ (k : Int) := by omega
                      have hk0b : ((k : Int) == 0) = false := beq_eq_false_iff_ne.2 (by omega)
                      have e0 : w6.cell? ⟨gb, 0, none⟩ = some (.slice (some ad) l0_0.length c0_0) := (blk_cell HK6.out 0).trans rfl
                      obtain ⟨ad', ead, x0, x1, x2, x3, x4⟩ := at_T49 (Kd.C_below HR0.out HB6.out) ((k : Int) - 1) (by omega) (by omega)
                      injection ead with ead
                      subst ead
                      obtain ⟨p, hp⟩ : ∃ p : S49, p = rd_T49 l0_0 ((k : Int) - 1) := ⟨_, rfl⟩
                      rw [← hp, show ((k : Int) - 1).toNat = k - 1 by omega] at x0 x1 x2 x3 x4
                      have hpg : p = l0_0.getD (k - 1) z49 := by rw [hp, rd_T49, show ((k : Int) - 1).toNat = k - 1 by omega]
                      have HP := Aside0.mk hpg
                      clear hp hpg
                      have HGB6 := Aside0.mk (blk_lt HK6.out)
                      have HGM6 := Aside0.mk (blk_lt HM6.out)
                      go_wp2_with (first | ((with_reducible refine gate_dst (N := 5) rfl ?_); refine box_event ?hg (N := 5) ?hd (cs := #[.int .i64 0, .int .i64 0, .string (⟨#[]⟩ : ByteArray), .string (⟨#[]⟩ : ByteArray), .int .i64 0]) (t := 49) ?hr ?_; (case hd => rfl); (case hg => rfl); (case hr => first | (go_simp; done) | (go_simp; rfl)); intro g5 hg w7 hbox hb; have HB7 := Aside0.mk (below_step HB6.out hb); have Hg5 := Aside0.mk hbox; have HGg5 := Aside0.mk (Nat.le_of_eq hg.symm); have HK7 := Aside0.mk (blk_below HK6.out hb); have HM7 := Aside0.mk (blk_below HM6.out hb); have HN7 := Aside0.mk (by rw [hg]; have := HGB6.out; omega : gb < g5); have HN7m := Aside0.mk (by rw [hg]; have := HGM6.out; omega : g4 < g5); have HS7 := Aside0.mk (by rw [hg]; exact HB6.out.size : w.heap.size ≤ g5); clear hb hbox hg) | ((with_reducible refine gate_store (t := 49) (p := 5) (v := .tmp 52) rfl ?_); refine agg_event rfl 49 (.tmp 5) (.tmp 52) rfl g5 rfl #[.int .i64 p.f0, .int .i64 p.f1, .string p.f2, .string p.f3, .int .i64 p.f4] #[.int .i64 0, .int .i64 0, .string (⟨#[]⟩ : ByteArray), .string (⟨#[]⟩ : ByteArray), .int .i64 0] rfl Hg5.out (by kernel_rfl) rfl (by simp [Value.oneCell']) ?_; intro w8 hst hgr hszz; clear hszz; have HP8 := Aside0.mk hst; have HB8 := Aside0.mk (pw_below_grown HB7.out (some g5) HB7.out.size hgr (fun k_ e_ => by injection e_ with e_; have := HS7.out; omega)); have HK8 := Aside0.mk (blk_grown HK7.out hgr (by intro e_; injection e_ with e_; have := HN7.out; omega)); have HM8 := Aside0.mk (blk_grown HM7.out hgr (by intro e_; injection e_ with e_; have := HN7m.out; omega)); clear hst hgr x0 x1 x2 x3 x4 e0; have c4_0 : w8.cell? ⟨g4, 0, none⟩ = some (.int .i64 m.f0) := (blk_cell HM8.out 0).trans rfl; have c4_1 : w8.cell? ⟨g4, 1, none⟩ = some (.int .i64 m.f1) := (blk_cell HM8.out 1).trans rfl; have c4_2 : w8.cell? ⟨g4, 2, none⟩ = some (.string m.f2) := (blk_cell HM8.out 2).trans rfl; have c4_3 : w8.cell? ⟨g4, 3, none⟩ = some (.string m.f3) := (blk_cell HM8.out 3).trans rfl; have c4_4 : w8.cell? ⟨g4, 4, none⟩ = some (.int .i64 m.f4) := (blk_cell HM8.out 4).trans rfl; have c5_0 : w8.cell? ⟨g5, 0, none⟩ = some (.int .i64 p.f0) := (blk_cell HP8.out 0).trans rfl; have c5_1 : w8.cell? ⟨g5, 1, none⟩ = some (.int .i64 p.f1) := (blk_cell HP8.out 1).trans rfl; have c5_2 : w8.cell? ⟨g5, 2, none⟩ = some (.string p.f2) := (blk_cell HP8.out 2).trans rfl; have c5_3 : w8.cell? ⟨g5, 3, none⟩ = some (.string p.f3) := (blk_cell HP8.out 3).trans rfl; have c5_4 : w8.cell? ⟨g5, 4, none⟩ = some (.int .i64 p.f4) := (blk_cell HP8.out 4).trans rfl))
                      clear HB6 HK6 HM6 HB7 HK7 HM7 Hg5 HGg5
                      go_wp2_with fail
                      refine (version_compare.calls 5 p.f0 p.f1 p.f2 p.f3 p.f4 m.f0 m.f1 m.f2 m.f3 m.f4 _ w8 (version_Right.compare_some 2 p m)).mono ?_
                      rintro e w9 ⟨rfl, hb9⟩
                      have HB9 := Aside0.mk (below_step HB8.out hb9)
                      have HK9 := Aside0.mk (blk_below HK8.out hb9)
                      have HM9 := Aside0.mk (blk_below HM8.out hb9)
                      have HP9 := Aside0.mk (blk_below HP8.out hb9)
                      clear hb9 HB8 HK8 HM8 HP8 c4_0 c4_1 c4_2 c4_3 c4_4 c5_0 c5_1 c5_2 c5_3 c5_4
                      obtain ⟨od, hod⟩ : ∃ od : Int, od = version_Right.ord p m := ⟨_, rfl⟩
                      rw [← hod]
                      have HOD := Aside0.mk hod
                      clear hod
                      have c4_0 : w9.cell? ⟨g4, 0, none⟩ = some (.int .i64 m.f0) := (blk_cell HM9.out 0).trans rfl
                      have c4_1 : w9.cell? ⟨g4, 1, none⟩ = some (.int .i64 m.f1) := (blk_cell HM9.out 1).trans rfl
                      have c4_2 : w9.cell? ⟨g4, 2, none⟩ = some (.string m.f2) := (blk_cell HM9.out 2).trans rfl
                      have c4_3 : w9.cell? ⟨g4, 3, none⟩ = some (.string m.f3) := (blk_cell HM9.out 3).trans rfl
                      have c4_4 : w9.cell? ⟨g4, 4, none⟩ = some (.int .i64 m.f4) := (blk_cell HM9.out 4).trans rfl
                      have c5_0 : w9.cell? ⟨g5, 0, none⟩ = some (.int .i64 p.f0) := (blk_cell HP9.out 0).trans rfl
                      have c5_1 : w9.cell? ⟨g5, 1, none⟩ = some (.int .i64 p.f1) := (blk_cell HP9.out 1).trans rfl
                      have c5_2 : w9.cell? ⟨g5, 2, none⟩ = some (.string p.f2) := (blk_cell HP9.out 2).trans rfl
                      have c5_3 : w9.cell? ⟨g5, 3, none⟩ = some (.string p.f3) := (blk_cell HP9.out 3).trans rfl
                      have c5_4 : w9.cell? ⟨g5, 4, none⟩ = some (.int .i64 p.f4) := (blk_cell HP9.out 4).trans rfl
                      have hgood : version_Right.good_ l0_0 k = version_Right.step_ p m := by rw [version_Right.good_, ← HM.out, ← HP.out, HME.out]; simp [hk0]
                      have HGD := Aside0.mk hgood
                      clear hgood
                      have bad : version_Right.step_ p m = false → r = false := fun hs => by
                        rw [← HRT.out, List.all_eq_false]
                        exact ⟨k, List.mem_range.2 hlt, by rw [HGD.out, hs]; simp⟩
                      have next : version_Right.step_ p m = true → ∀ j, j < k + 1 → version_Right.good_ l0_0 j = true := fun hs j hj => by
                        by_cases e : j = k
                        · rw [e, HGD.out, hs]
                        · exact HN.out j (by omega)
                      have BAD := Aside0.mk bad
                      have NEXT := Aside0.mk next
                      clear bad next HGD HN HM HP HME
                      by_cases d1 : od < 0
                      · by_cases d2 : p.f1 = m.f1
                        · have d2b : (p.f1 == m.f1) = true := beq_iff_eq.2 d2
                          by_cases d3 : 0 < m.f1
                          · cases d4 : Op.bytesLess p.f3.toList m.f2.toList with
                            | true =>
                              have hst : version_Right.step_ p m = true := by rw [version_Right.step_, ← HOD.out]; simp [d1, d2, d3, d4]
                              have HNX := Aside0.mk (NEXT.out hst)
                              clear hst
                              clear d2
                              go_wp2_with fail
                              refine ⟨⟨k + 1, by omega, by go_num, HNX, HK9, HB9⟩, by simp [intOf]; omega⟩
                            | false =>
                              have hst : version_Right.step_ p m = false := by rw [version_Right.step_, ← HOD.out]; simp [d1, d2, d3, d4]
                              have HRF := Aside0.mk (BAD.out hst)
                              clear hst
                              clear d2
                              go_wp2_with fail
                              go_ret
                              exact ⟨by rw [HRF.out]; rfl, HB9.out⟩
                          · have d3b : decide (0 < m.f1) = false := decide_eq_false d3
                            have hst : version_Right.step_ p m = true := by rw [version_Right.step_, ← HOD.out]; simp [d1, d2, d3]
                            have HNX := Aside0.mk (NEXT.out hst)
                            clear hst
                            clear d2
                            go_wp2_with fail
                            refine ⟨⟨k + 1, by omega, by go_num, HNX, HK9, HB9⟩, by simp [intOf]; omega⟩
                        · have d2b : (p.f1 == m.f1) = false := beq_eq_false_iff_ne.2 d2
                          have hst : version_Right.step_ p m = true := by rw [version_Right.step_, ← HOD.out]; simp [d1, d2]
                          have HNX := Aside0.mk (NEXT.out hst)
                          clear hst
                          clear d2
                          go_wp2_with fail
                          refine ⟨⟨k + 1, by omega, by go_num, HNX, HK9, HB9⟩, by simp [intOf]; omega⟩
                      · have d1b : decide (0 ≤ od) = true := decide_eq_true (by omega)
                        have hst : version_Right.step_ p m = false := by rw [version_Right.step_, ← HOD.out]; simp [d1]
                        have HRF := Aside0.mk (BAD.out hst)
                        clear hst
                        go_wp2_with fail
                        go_ret
                        exact ⟨by rw [HRF.out]; rfl, HB9.out⟩
                · obtain rfl : k = l0_0.length := by omega
                  have hR : r = true := by rw [← HRT.out, List.all_eq_true]; intro j hj; exact HN.out j (List.mem_range.1 hj)
                  have HRF := Aside0.mk hR
                  clear hR
                  go_wp2_with fail
                  go_ret
                  exact ⟨by rw [HRF.out]; rfl, HB.out⟩
          · have hR := HRR.out
            simp only [version_Right.tell, c1, c2, c3, c4, HIDS.out, c5, decide_true, decide_false, Bool.true_and, Bool.false_and] at hR
            have HRF := Aside0.mk hR
            rw [show decide (¬ ids.Nodup) = true by simp [c5]]
            clear hR c5
            go_wp2_with fail
            go_ret
            exact ⟨by rw [← HRF.out]; rfl, HB3.out⟩
        · have hR := HRR.out
          simp only [version_Right.tell, c1, c2, c3, c4, decide_true, decide_false, Bool.true_and, Bool.false_and] at hR
          have HRF := Aside0.mk hR
          clear hR
          go_enter Try.func18, Try.ntmps18
          go_wp2
          go_ret
          exact ⟨by rw [← HRF.out]; rfl, below_alloc (Below.refl _ _) _⟩
      · have hR := HRR.out
        simp only [version_Right.tell, c1, c2, c3, decide_true, decide_false, Bool.true_and, Bool.false_and] at hR
        have HRF := Aside0.mk hR
        clear hR
        go_enter Try.func18, Try.ntmps18
        go_wp2
        go_ret
        exact ⟨by rw [← HRF.out]; rfl, below_alloc (Below.refl _ _) _⟩
    · have hR := HRR.out
      simp only [version_Right.tell, c1, c2, decide_true, decide_false, Bool.true_and, Bool.false_and] at hR
      have HRF := Aside0.mk hR
      clear hR
      go_enter Try.func18, Try.ntmps18
      go_wp2
      go_ret
      exact ⟨by rw [← HRF.out]; rfl, below_alloc (Below.refl _ _) _⟩
  · have hR := HRR.out
    simp only [version_Right.tell, c1, decide_true, decide_false, Bool.true_and, Bool.false_and] at hR
    have HRF := Aside0.mk hR
    clear hR
    go_enter Try.func18, Try.ntmps18
    go_wp2
    go_ret
    exact ⟨by rw [← HRF.out]; rfl, below_alloc (Below.refl _ _) _⟩


end Go.Proofs.Ytepgnefkpjnmlaa.PD

-- printed by gprint.py (own tool) over the kit's print
namespace Go.Proofs.Ytepgnefkpjnmlaa.PD
open Go.RowKit Go.Proofs.Ytepgnefkpjnmlaa Go.Proofs.YtepgnefkpjnmlaaW.PrintWords Go.Proofs.YtepgnefkpjnmlaaW.PrintLast Go.Proofs.YtepgnefkpjnmlaaW.PrintMore
attribute [local go_sem] max2_int min2_int max_two min_two max_three min_three max_four min_four   -- for this text's walks alone
set_option linter.unnecessarySimpa false
attribute [local go_sem] min2_str max2_str leq_str gtr_str geq_str
set_option linter.unusedVariables false
set_option linter.unusedSimpArgs false

/-! ### version_Level: function 21 -/
def version_Level.l0 : Nat → Int → List (S49) → List (S49) → Int → Int → Option ((List (S49)))
  | 0, _, _, _, _, _ => none
  | k + 1, x1, x5, x9, x10, x11 => if x11 < x10 then (if 0 ≤ x11 then (if x11 < (x9.length : Int) then (if ((rd_T49 x9 x11).f1) = x1 then (if x5.length < 2513169434916 then (version_Level.l0 k x1 (x5 ++ [(⟨(rd_T49 x9 x11).f0, (rd_T49 x9 x11).f1, (rd_T49 x9 x11).f2, (rd_T49 x9 x11).f3, (rd_T49 x9 x11).f4⟩ : S49)]) x9 x10 (wrap64 (x11 + 1))) else (none)) else (version_Level.l0 k x1 x5 x9 x10 (wrap64 (x11 + 1)))) else (none)) else (none)) else (some x5)
def version_Level.f (k : Nat) (l0_0 : List (S49)) (l0_1 : List Int) (a0_2 : Int) (a1 : Int) : Option ((List (S49))) := version_Level.l0 k a1 ([] : List (S49)) l0_0 (l0_0.length : Int) 0
theorem version_Level.mono_l : ∀ k, (∀ y0 y1 y2 y3 y4, LeO (version_Level.l0 k y0 y1 y2 y3 y4) (version_Level.l0 (k + 1) y0 y1 y2 y3 y4))
  | 0 => fun _ _ _ _ _ r h => by simp [version_Level.l0] at h
  | k + 1 => by
    have ih0 := version_Level.mono_l k
    · intro y0 y1 y2 y3 y4
      unfold version_Level.l0
      repeat' first
      | (with_reducible exact ih0 _ _ _ _ _)
      | (with_reducible exact LeO.refl _)
      | (with_reducible exact LeO.none _)
      | (with_reducible refine LeO.ite ?_ ?_)
      | (with_reducible refine LeO.bind ?_ (fun _ => ?_))
      | exact ih0 _ _ _ _ _
      | exact LeO.none _
      | refine LeO.ite ?_ ?_
      | refine LeO.bind ?_ (fun _ => ?_)
theorem version_Level.mono : ∀ a0 a1 a2 a3 k, LeO (version_Level.f k a0 a1 a2 a3) (version_Level.f (k + 1) a0 a1 a2 a3) := by
  intro a0 a1 a2 a3 k
  have ih0 := version_Level.mono_l k
  unfold version_Level.f
  repeat' first
      | (with_reducible exact ih0 _ _ _ _ _)
      | (with_reducible exact LeO.refl _)
      | (with_reducible exact LeO.none _)
      | (with_reducible refine LeO.ite ?_ ?_)
      | (with_reducible refine LeO.bind ?_ (fun _ => ?_))
      | exact ih0 _ _ _ _ _
      | exact LeO.none _
      | refine LeO.ite ?_ ?_
      | refine LeO.bind ?_ (fun _ => ?_)
set_option maxHeartbeats 8000000 in
set_option maxRecDepth 100000 in
theorem version_Level.calls (k : Nat) (A0_0 : Option Addr) (c0_0 : Nat) (l0_0 : List (S49)) (A0_1 : Option Addr) (c0_1 : Nat) (l0_1 : List Int) (a0_2 : Int) (a1 : Int) (r : List (S49)) (w : World) (hr0_0 : Kd.C k49 w A0_0 l0_0.length l0_0) (hc0_0 : l0_0.length ≤ c0_0) (hr0_1 : Kd.C (Kd.int .i64) w A0_1 l0_1.length l0_1) (hc0_1 : l0_1.length ≤ c0_1) (h : version_Level.f k l0_0 l0_1 a0_2 a1 = some r) :
    Calls Try.prog 21 #[.agg #[.slice A0_0 l0_0.length c0_0, .slice A0_1 l0_1.length c0_1, .int .i64 a0_2], .int .i64 a1] w fun e w' => ∃ v0_ : Value, e = .returned (v0_) ∧ Kd.R k49 49 w' w.heap.size (fun _ => True) v0_ r ∧ Below w.heap.size w w' := by
  have hu25 := Try.underlying25
  have hu49 := Try.underlying49
  have HR0_0 := Aside0.mk hr0_0
  have HC0_0 := Aside0.mk hc0_0
  clear hr0_0 hc0_0
  have HR0_1 := Aside0.mk hr0_1
  have HC0_1 := Aside0.mk hc0_1
  clear hr0_1 hc0_1
  have HB := Aside0.mk (Below.refl w.heap.size w)
  have H : (version_Level.l0 k a1 ([] : List (S49)) l0_0 (l0_0.length : Int) 0) = some r := h
  clear h
  have H' := Aside0.mk H
  clear H
  go_enter Try.func21, Try.ntmps21
  go_wp2_with (first | ((with_reducible refine gate_dst (N := 2) rfl ?_); refine box_event ?hg (N := 2) ?hd (cs := #[.slice A0_0 l0_0.length c0_0, .slice A0_1 l0_1.length c0_1, .int .i64 a0_2]) (t := 25) ?hr ?_; (case hd => rfl); (case hg => rfl); (case hr => first | (go_simp; done) | (go_simp; rfl)); intro gb134 hg w3 hbox hb; have n0_ := Aside0.mk (below_step (by repeat (first | (with_reducible first | exact HB.out | apply below_alloc | apply pw_below_drewN | apply below_drew1) | exact HB.out)) hb); have n1_ := Aside0.mk (hbox); have n2_ := Aside0.mk ((by rw [hg]; exact (below_size (by repeat (first | (with_reducible first | exact HB.out | apply below_alloc | apply pw_below_drewN | apply below_drew1) | exact HB.out))) : w.heap.size ≤ gb134)); have n3_ := Aside0.mk ((by rw [hg]; exact (below_size (by repeat (first | (with_reducible first | exact HB.out | apply below_alloc | apply pw_below_drewN | apply below_drew1) | exact HB.out))) : w.heap.size ≤ gb134)); clear HB; have HB := n0_; have BK134 := n1_; have GW134 := n2_; have GE134 := n3_; clear n0_ n1_ n2_ n3_; clear hb hbox hg; have hcz4_0 : w3.cell? ⟨gb134, 0, none⟩ = some (.slice A0_0 l0_0.length c0_0) := (blk_cell BK134.out 0).trans rfl; have hcz4_1 : w3.cell? ⟨gb134, 1, none⟩ = some (.slice A0_1 l0_1.length c0_1) := (blk_cell BK134.out 1).trans rfl; have hcz4_2 : w3.cell? ⟨gb134, 2, none⟩ = some (.int .i64 a0_2) := (blk_cell BK134.out 2).trans rfl; have hfz4_0 := blk_frozen BK134.out 0; have hfz4_1 := blk_frozen BK134.out 1; have hfz4_2 := blk_frozen BK134.out 2))
  go_loopg [5, 11] k (fun kq v5 v11 w' => ∃ (x5_1 : List (S49)) (x11_1 : Int), v11 = .int .i64 x11_1 ∧ Aside0 (version_Level.l0 kq a1 x5_1 l0_0 (l0_0.length : Int) x11_1 = some r) ∧ Aside0 (kq ≤ k) ∧ Aside0 (Kd.R k49 49 w' w.heap.size (fun _ => True) v5 x5_1) ∧ Aside0 (w'.heap[gb134]? = some (.cells #[(.slice A0_0 l0_0.length c0_0), (.slice A0_1 l0_1.length c0_1), .int .i64 a0_2] 25 (0, 0))) ∧ Aside0 (Below w.heap.size w w'))
  case atStart => exact ⟨(([] : List (S49))), (0), (by first | rfl | (simp; done) | (simp [*]; done)), H', ⟨Nat.le_refl _⟩, ⟨by first | exact Kd.R_nil _ _ _ _ _ | exact Kd.N_nil _ _ _ _ _ | exact Kd.V_nil _ _ _ _ _ | exact Kd.Q_nil _ _ _ _ _ | exact Kd.S_nil _ _ _ _ _⟩, ⟨by (with_reducible repeat (first | refine blk_drewN ?_ _ | refine blk_drew ?_ | refine blk_alloc ?_ _)); exact BK134.out⟩, ⟨by repeat (first | (with_reducible first | exact HB.out | apply below_alloc | apply pw_below_drewN | apply below_drew1 | refine below_set ?_ GE134.out) | exact HB.out)⟩⟩
  case round =>
    clear H'
    try clear c2
    try clear p2
    try clear hcz4_0
    try clear hcz4_1
    try clear hcz4_2
    try clear hfz4_0
    try clear hfz4_1
    try clear hfz4_2
    obtain ⟨x5_1, x11_1, rfl, HA, HK1, HO_5, BK134, HB⟩ := hrel
    cases gk with
    | zero => exact absurd HA.out (by simp [version_Level.l0])
    | succ k1 =>
      have H := HA.out
      clear HA
      simp only [version_Level.l0] at H
      by_cases c5 : x11_1 < (l0_0.length : Int)
      · rw [if_pos c5] at H
        have c5b0 : decide (x11_1 < (l0_0.length : Int)) = true := decide_eq_true c5
        clear c5
        by_cases c6 : 0 ≤ x11_1
        · rw [if_pos c6] at H
          have c6b0 : decide (0 ≤ x11_1) = true := decide_eq_true c6
          clear c6
          by_cases c7 : x11_1 < (l0_0.length : Int)
          · rw [if_pos c7] at H
            have c7b0 : decide (x11_1 < (l0_0.length : Int)) = true := decide_eq_true c7
            clear c7
            by_cases c8 : ((rd_T49 l0_0 x11_1).f1) = a1
            · rw [if_pos c8] at H
              have c8b0 : (((rd_T49 l0_0 x11_1).f1) == a1) = true := beq_iff_eq.mpr c8
              have c8b1 : (((rd_T49 l0_0 x11_1).f1) != a1) = false := bne_eq_false_iff_eq.mpr c8
              clear c8
              by_cases c9 : x5_1.length < 2513169434916
              · rw [if_pos c9] at H
                have LMc9 := Aside0.mk c9
                clear c9
                obtain ⟨y137, hy137⟩ : ∃ y_ : List (S49), y_ = (x5_1 ++ [(⟨(rd_T49 l0_0 x11_1).f0, (rd_T49 l0_0 x11_1).f1, (rd_T49 l0_0 x11_1).f2, (rd_T49 l0_0 x11_1).f3, (rd_T49 l0_0 x11_1).f4⟩ : S49)]) := ⟨_, rfl⟩
                replace H : (version_Level.l0 k1 a1 y137 l0_0 (l0_0.length : Int) (wrap64 (x11_1 + 1))) = some r := by first | (rw [hy137]; with_reducible exact H) | (have H2_ := (Option.bind_some _ _).symm.trans H; rw [hy137]; with_reducible exact H2_) | (have H2_ := (Option.bind_some _ _).symm.trans H; with_reducible exact H2_) | with_reducible exact H | (rw [hy137]; exact H) | exact H
                have Ny137 := Aside0.mk hy137
                clear hy137
                have H' := Aside0.mk H
                clear H
                have p135 : 0 ≤ (x11_1 : Int) := of_decide_eq_true (by first | (with_reducible assumption) | assumption)
                have q135 : x11_1 < (l0_0.length : Int) := of_decide_eq_true (by first | (with_reducible assumption) | assumption)
                obtain ⟨ad135, e135, hx135_0, hx135_1, hx135_2, hx135_3, hx135_4⟩ := at_T49 HR0_0.out x11_1 p135 q135
                cases e135
                replace hx135_0 := (HB.out.cell (World.block_lt_of_cell? w _ hx135_0)).trans hx135_0
                replace hx135_1 := (HB.out.cell (World.block_lt_of_cell? w _ hx135_1)).trans hx135_1
                replace hx135_2 := (HB.out.cell (World.block_lt_of_cell? w _ hx135_2)).trans hx135_2
                replace hx135_3 := (HB.out.cell (World.block_lt_of_cell? w _ hx135_3)).trans hx135_3
                replace hx135_4 := (HB.out.cell (World.block_lt_of_cell? w _ hx135_4)).trans hx135_4
                replace p135 := eq_true p135
                replace q135 := eq_true q135
                go_wp2_with (first | ((with_reducible refine gate_dst (N := 7) rfl ?_); refine box_event ?hg (N := 7) ?hd (cs := #[.int .i64 0, .int .i64 0, .string (⟨#[]⟩ : ByteArray), .string (⟨#[]⟩ : ByteArray), .int .i64 0]) (t := 49) ?hr ?_; (case hd => rfl); (case hg => rfl); (case hr => first | (go_simp; done) | (go_simp; rfl)); intro gb136 hg w10 hbox hb; have n0_ := Aside0.mk (Kd.R_below (Kd.R_elderB (by (with_reducible repeat (first | apply Kd.R_alloc | apply Kd.R_drewN | apply Kd.R_drew)); exact HO_5.out) gb136 (Nat.le_of_eq hg.symm)) hb); have n1_ := Aside0.mk (blk_below (g := gb134) (o := .cells #[.slice (some ad135) l0_0.length c0_0, .slice A0_1 l0_1.length c0_1, .int .i64 a0_2] 25 (0, 0)) (by (with_reducible repeat (first | refine blk_drewN ?_ _ | refine blk_drew ?_ | refine blk_alloc ?_ _)); exact BK134.out) hb); have n2_ := Aside0.mk (below_step (by repeat (first | (with_reducible first | exact HB.out | apply below_alloc | apply pw_below_drewN | apply below_drew1 | refine below_set ?_ GE134.out) | exact HB.out)) hb); have n3_ := Aside0.mk (hbox); have n4_ := Aside0.mk ((by rw [hg]; exact (below_size (by repeat (first | (with_reducible first | exact HB.out | apply below_alloc | apply pw_below_drewN | apply below_drew1 | refine below_set ?_ GE134.out) | exact HB.out))) : w.heap.size ≤ gb136)); have n5_ := Aside0.mk ((by rw [hg]; exact (below_size (by repeat (first | (with_reducible first | exact HB.out | apply below_alloc | apply pw_below_drewN | apply below_drew1 | refine below_set ?_ GE134.out) | exact HB.out))) : w.heap.size ≤ gb136)); have n6_ := Aside0.mk ((by rw [hg]; exact Nat.ne_of_lt (blk_lt (g := gb134) (o := .cells #[.slice (some ad135) l0_0.length c0_0, .slice A0_1 l0_1.length c0_1, .int .i64 a0_2] 25 (0, 0)) (by (with_reducible repeat (first | refine blk_drewN ?_ _ | refine blk_drew ?_ | refine blk_alloc ?_ _)); exact BK134.out)) : gb134 ≠ gb136)); have n7_ := Aside0.mk ((by rw [hg]; exact Nat.ne_of_gt (blk_lt (g := gb134) (o := .cells #[.slice (some ad135) l0_0.length c0_0, .slice A0_1 l0_1.length c0_1, .int .i64 a0_2] 25 (0, 0)) (by (with_reducible repeat (first | refine blk_drewN ?_ _ | refine blk_drew ?_ | refine blk_alloc ?_ _)); exact BK134.out)) : gb136 ≠ gb134)); clear HO_5; clear BK134; clear HB; have HO_5 := n0_; have BK134 := n1_; have HB := n2_; have BK136 := n3_; have GW136 := n4_; have GE136 := n5_; have NB134_136 := n6_; have NB136_134 := n7_; clear n0_ n1_ n2_ n3_ n4_ n5_ n6_ n7_; clear hb hbox hg; have hnb11 := NB136_134.out; have hnc11 := NB134_136.out; have hcz12_0 : w10.cell? ⟨gb136, 0, none⟩ = some (.int .i64 0) := (blk_cell BK136.out 0).trans rfl; have hcz12_1 : w10.cell? ⟨gb136, 1, none⟩ = some (.int .i64 0) := (blk_cell BK136.out 1).trans rfl; have hcz12_2 : w10.cell? ⟨gb136, 2, none⟩ = some (.string (⟨#[]⟩ : ByteArray)) := (blk_cell BK136.out 2).trans rfl; have hcz12_3 : w10.cell? ⟨gb136, 3, none⟩ = some (.string (⟨#[]⟩ : ByteArray)) := (blk_cell BK136.out 3).trans rfl; have hcz12_4 : w10.cell? ⟨gb136, 4, none⟩ = some (.int .i64 0) := (blk_cell BK136.out 4).trans rfl; have hfz12_0 := blk_frozen BK136.out 0; have hfz12_1 := blk_frozen BK136.out 1; have hfz12_2 := blk_frozen BK136.out 2; have hfz12_3 := blk_frozen BK136.out 3; have hfz12_4 := blk_frozen BK136.out 4) | ((with_reducible refine gate_builtin (b := .append) (xs := #[.tmp 19, .tmp 21]) rfl ?_); at_builtin; refine Kd.R_append k49 (w0 := w) w.heap.size rfl (.tmp 19) (.tmp 21) 22 49 (.agg #[(.int .i64 0), (.int .i64 0), (.string ⟨#[]⟩), (.string ⟨#[]⟩), (.int .i64 0)]) 56 rfl Try.underlying22 info49 rfl (by decide) (by omega) u5 x5_1 (⟨(rd_T49 l0_0 x11_1).f0, (rd_T49 l0_0 x11_1).f1, (rd_T49 l0_0 x11_1).f2, (rd_T49 l0_0 x11_1).f3, (rd_T49 l0_0 x11_1).f4⟩ : S49) [.int .i64 ((rd_T49 l0_0 x11_1).f0), .int .i64 ((rd_T49 l0_0 x11_1).f1), .string ((rd_T49 l0_0 x11_1).f2), .string ((rd_T49 l0_0 x11_1).f3), .int .i64 ((rd_T49 l0_0 x11_1).f4)] (fun k_ => k_ ≠ gb136) (fun _ => False) rfl (by first | (go_simp; done) | (go_simp; rfl)) ?aP (fun _ hk => hk.elim) ?aF ?aO ?aB ?aS ?aL ?_; (case aP => exact k49_mkM _ _ _ (⟨(rd_T49 l0_0 x11_1).f0, (rd_T49 l0_0 x11_1).f1, (rd_T49 l0_0 x11_1).f2, (rd_T49 l0_0 x11_1).f3, (rd_T49 l0_0 x11_1).f4⟩ : S49)); (case aB => exact (by repeat (first | (with_reducible first | exact HB.out | apply below_alloc | apply pw_below_drewN | apply below_drew1 | refine below_set ?_ GE134.out | refine below_set ?_ GE136.out) | exact HB.out))); (case aF => exact (fun k_ hk => Kd.freshB (g := gb136) (o := .cells #[.int .i64 ((rd_T49 l0_0 x11_1).f0), .int .i64 ((rd_T49 l0_0 x11_1).f1), .string ((rd_T49 l0_0 x11_1).f2), .string ((rd_T49 l0_0 x11_1).f3), .int .i64 ((rd_T49 l0_0 x11_1).f4)] 49 (0, 0)) (by (with_reducible repeat (first | refine blk_drewN ?_ _ | refine blk_drew ?_ | refine blk_alloc ?_ _)); refine blk_put (cs := #[.int .i64 ((rd_T49 l0_0 x11_1).f0), .int .i64 ((rd_T49 l0_0 x11_1).f1), .string ((rd_T49 l0_0 x11_1).f2), .string ((rd_T49 l0_0 x11_1).f3), .int .i64 0]) ?_ 4 _ rfl; (with_reducible repeat (first | refine blk_drewN ?_ _ | refine blk_drew ?_ | refine blk_alloc ?_ _)); refine blk_put (cs := #[.int .i64 ((rd_T49 l0_0 x11_1).f0), .int .i64 ((rd_T49 l0_0 x11_1).f1), .string ((rd_T49 l0_0 x11_1).f2), .string (⟨#[]⟩ : ByteArray), .int .i64 0]) ?_ 3 _ rfl; (with_reducible repeat (first | refine blk_drewN ?_ _ | refine blk_drew ?_ | refine blk_alloc ?_ _)); refine blk_put (cs := #[.int .i64 ((rd_T49 l0_0 x11_1).f0), .int .i64 ((rd_T49 l0_0 x11_1).f1), .string (⟨#[]⟩ : ByteArray), .string (⟨#[]⟩ : ByteArray), .int .i64 0]) ?_ 2 _ rfl; (with_reducible repeat (first | refine blk_drewN ?_ _ | refine blk_drew ?_ | refine blk_alloc ?_ _)); refine blk_put (cs := #[.int .i64 ((rd_T49 l0_0 x11_1).f0), .int .i64 0, .string (⟨#[]⟩ : ByteArray), .string (⟨#[]⟩ : ByteArray), .int .i64 0]) ?_ 1 _ rfl; (with_reducible repeat (first | refine blk_drewN ?_ _ | refine blk_drew ?_ | refine blk_alloc ?_ _)); refine blk_put (cs := #[.int .i64 0, .int .i64 0, .string (⟨#[]⟩ : ByteArray), .string (⟨#[]⟩ : ByteArray), .int .i64 0]) ?_ 0 _ rfl; (with_reducible repeat (first | refine blk_drewN ?_ _ | refine blk_drew ?_ | refine blk_alloc ?_ _)); exact BK136.out) k_ hk)); (case aO => exact (by (with_reducible repeat (first | apply Kd.R_alloc | apply Kd.R_drewN | apply Kd.R_drew)); exact Kd.R_mono (Kd.R_far (p := ⟨gb136, 4, none⟩) (Kd.R_far (p := ⟨gb136, 3, none⟩) (Kd.R_far (p := ⟨gb136, 2, none⟩) (Kd.R_far (p := ⟨gb136, 1, none⟩) (Kd.R_far (p := ⟨gb136, 0, none⟩) (Kd.R_mono HO_5.out (fun k_ hk => (⟨hk, hk.2⟩ : _ ∧ k_ ≠ gb136))) (fun _ hk => hk.2) (.int .i64 ((rd_T49 l0_0 x11_1).f0))) (fun _ hk => hk.2) (.int .i64 ((rd_T49 l0_0 x11_1).f1))) (fun _ hk => hk.2) (.string ((rd_T49 l0_0 x11_1).f2))) (fun _ hk => hk.2) (.string ((rd_T49 l0_0 x11_1).f3))) (fun _ hk => hk.2) (.int .i64 ((rd_T49 l0_0 x11_1).f4))) (fun _ hk => hk.1.2))); (case aS => exact (below_size (by repeat (first | (with_reducible first | exact HB.out | apply below_alloc | apply pw_below_drewN | apply below_drew1 | refine below_set ?_ GE134.out | refine below_set ?_ GE136.out) | exact HB.out)))); (case aL => have := LMc9.out; omega); intro v138 w13 ho hb hg hat; rw [← Ny137.out] at ho; have n0_ := Aside0.mk (blk_grown (g := gb134) (o := .cells #[.slice (some ad135) l0_0.length c0_0, .slice A0_1 l0_1.length c0_1, .int .i64 a0_2] 25 (0, 0)) (by (with_reducible repeat (first | refine blk_drewN ?_ _ | refine blk_drew ?_ | refine blk_alloc ?_ _)); refine blk_far ?_ NB134_136.out _; (with_reducible repeat (first | refine blk_drewN ?_ _ | refine blk_drew ?_ | refine blk_alloc ?_ _)); refine blk_far ?_ NB134_136.out _; (with_reducible repeat (first | refine blk_drewN ?_ _ | refine blk_drew ?_ | refine blk_alloc ?_ _)); refine blk_far ?_ NB134_136.out _; (with_reducible repeat (first | refine blk_drewN ?_ _ | refine blk_drew ?_ | refine blk_alloc ?_ _)); refine blk_far ?_ NB134_136.out _; (with_reducible repeat (first | refine blk_drewN ?_ _ | refine blk_drew ?_ | refine blk_alloc ?_ _)); refine blk_far ?_ NB134_136.out _; (with_reducible repeat (first | refine blk_drewN ?_ _ | refine blk_drew ?_ | refine blk_alloc ?_ _)); exact BK134.out) hg (Kd.R_ne HO_5.out BK134.out (by decide))); have n1_ := Aside0.mk (blk_grown (g := gb136) (o := .cells #[.int .i64 ((rd_T49 l0_0 x11_1).f0), .int .i64 ((rd_T49 l0_0 x11_1).f1), .string ((rd_T49 l0_0 x11_1).f2), .string ((rd_T49 l0_0 x11_1).f3), .int .i64 ((rd_T49 l0_0 x11_1).f4)] 49 (0, 0)) (by (with_reducible repeat (first | refine blk_drewN ?_ _ | refine blk_drew ?_ | refine blk_alloc ?_ _)); refine blk_put (cs := #[.int .i64 ((rd_T49 l0_0 x11_1).f0), .int .i64 ((rd_T49 l0_0 x11_1).f1), .string ((rd_T49 l0_0 x11_1).f2), .string ((rd_T49 l0_0 x11_1).f3), .int .i64 0]) ?_ 4 _ rfl; (with_reducible repeat (first | refine blk_drewN ?_ _ | refine blk_drew ?_ | refine blk_alloc ?_ _)); refine blk_put (cs := #[.int .i64 ((rd_T49 l0_0 x11_1).f0), .int .i64 ((rd_T49 l0_0 x11_1).f1), .string ((rd_T49 l0_0 x11_1).f2), .string (⟨#[]⟩ : ByteArray), .int .i64 0]) ?_ 3 _ rfl; (with_reducible repeat (first | refine blk_drewN ?_ _ | refine blk_drew ?_ | refine blk_alloc ?_ _)); refine blk_put (cs := #[.int .i64 ((rd_T49 l0_0 x11_1).f0), .int .i64 ((rd_T49 l0_0 x11_1).f1), .string (⟨#[]⟩ : ByteArray), .string (⟨#[]⟩ : ByteArray), .int .i64 0]) ?_ 2 _ rfl; (with_reducible repeat (first | refine blk_drewN ?_ _ | refine blk_drew ?_ | refine blk_alloc ?_ _)); refine blk_put (cs := #[.int .i64 ((rd_T49 l0_0 x11_1).f0), .int .i64 0, .string (⟨#[]⟩ : ByteArray), .string (⟨#[]⟩ : ByteArray), .int .i64 0]) ?_ 1 _ rfl; (with_reducible repeat (first | refine blk_drewN ?_ _ | refine blk_drew ?_ | refine blk_alloc ?_ _)); refine blk_put (cs := #[.int .i64 0, .int .i64 0, .string (⟨#[]⟩ : ByteArray), .string (⟨#[]⟩ : ByteArray), .int .i64 0]) ?_ 0 _ rfl; (with_reducible repeat (first | refine blk_drewN ?_ _ | refine blk_drew ?_ | refine blk_alloc ?_ _)); exact BK136.out) hg (Kd.R_away HO_5.out (fun _ hk => hk.2))); have n2_ := Aside0.mk (hb); have n3_ := Aside0.mk (ho); clear BK134; clear BK136; clear HB; clear HO_5; have BK134 := n0_; have BK136 := n1_; have HB := n2_; have HO139 := n3_; clear n0_ n1_ n2_ n3_; clear ho hb hg hat))
                go_roundg k1
                case measure => have := HK1.out; omega
                case rel => exact ⟨(y137), (wrap64 (x11_1 + 1)), (by first | rfl | (simp; done) | (simp [*]; done)), H', ⟨by have := HK1.out; omega⟩, ⟨by (with_reducible repeat (first | apply Kd.R_alloc | apply Kd.R_drewN | apply Kd.R_drew)); exact Kd.R_mono HO139.out (fun _ hk => trivial)⟩, ⟨by (with_reducible repeat (first | refine blk_drewN ?_ _ | refine blk_drew ?_ | refine blk_alloc ?_ _)); exact BK134.out⟩, ⟨by repeat (first | (with_reducible first | exact HB.out | apply below_alloc | apply pw_below_drewN | apply below_drew1 | refine below_set ?_ GE134.out | refine below_set ?_ GE136.out) | exact HB.out)⟩⟩
              · rw [if_neg c9] at H
                exact absurd H (by simp)
            · rw [if_neg c8] at H
              have c8b0 : (((rd_T49 l0_0 x11_1).f1) == a1) = false := beq_eq_false_iff_ne.mpr c8
              have c8b1 : (((rd_T49 l0_0 x11_1).f1) != a1) = true := bne_iff_ne.mpr c8
              have H' := Aside0.mk H
              clear H
              have p135 : 0 ≤ (x11_1 : Int) := of_decide_eq_true (by first | (with_reducible assumption) | assumption)
              have q135 : x11_1 < (l0_0.length : Int) := of_decide_eq_true (by first | (with_reducible assumption) | assumption)
              obtain ⟨ad135, e135, hx135_0, hx135_1, hx135_2, hx135_3, hx135_4⟩ := at_T49 HR0_0.out x11_1 p135 q135
              cases e135
              replace hx135_0 := (HB.out.cell (World.block_lt_of_cell? w _ hx135_0)).trans hx135_0
              replace hx135_1 := (HB.out.cell (World.block_lt_of_cell? w _ hx135_1)).trans hx135_1
              replace hx135_2 := (HB.out.cell (World.block_lt_of_cell? w _ hx135_2)).trans hx135_2
              replace hx135_3 := (HB.out.cell (World.block_lt_of_cell? w _ hx135_3)).trans hx135_3
              replace hx135_4 := (HB.out.cell (World.block_lt_of_cell? w _ hx135_4)).trans hx135_4
              replace p135 := eq_true p135
              replace q135 := eq_true q135
              go_wp2_with (first | ((with_reducible refine gate_dst (N := 7) rfl ?_); refine box_event ?hg (N := 7) ?hd (cs := #[.int .i64 0, .int .i64 0, .string (⟨#[]⟩ : ByteArray), .string (⟨#[]⟩ : ByteArray), .int .i64 0]) (t := 49) ?hr ?_; (case hd => rfl); (case hg => rfl); (case hr => first | (go_simp; done) | (go_simp; rfl)); intro gb136 hg w14 hbox hb; have n0_ := Aside0.mk (Kd.R_below (Kd.R_elderB (by (with_reducible repeat (first | apply Kd.R_alloc | apply Kd.R_drewN | apply Kd.R_drew)); exact HO_5.out) gb136 (Nat.le_of_eq hg.symm)) hb); have n1_ := Aside0.mk (blk_below (g := gb134) (o := .cells #[.slice (some ad135) l0_0.length c0_0, .slice A0_1 l0_1.length c0_1, .int .i64 a0_2] 25 (0, 0)) (by (with_reducible repeat (first | refine blk_drewN ?_ _ | refine blk_drew ?_ | refine blk_alloc ?_ _)); exact BK134.out) hb); have n2_ := Aside0.mk (below_step (by repeat (first | (with_reducible first | exact HB.out | apply below_alloc | apply pw_below_drewN | apply below_drew1 | refine below_set ?_ GE134.out) | exact HB.out)) hb); have n3_ := Aside0.mk (hbox); have n4_ := Aside0.mk ((by rw [hg]; exact (below_size (by repeat (first | (with_reducible first | exact HB.out | apply below_alloc | apply pw_below_drewN | apply below_drew1 | refine below_set ?_ GE134.out) | exact HB.out))) : w.heap.size ≤ gb136)); have n5_ := Aside0.mk ((by rw [hg]; exact (below_size (by repeat (first | (with_reducible first | exact HB.out | apply below_alloc | apply pw_below_drewN | apply below_drew1 | refine below_set ?_ GE134.out) | exact HB.out))) : w.heap.size ≤ gb136)); have n6_ := Aside0.mk ((by rw [hg]; exact Nat.ne_of_lt (blk_lt (g := gb134) (o := .cells #[.slice (some ad135) l0_0.length c0_0, .slice A0_1 l0_1.length c0_1, .int .i64 a0_2] 25 (0, 0)) (by (with_reducible repeat (first | refine blk_drewN ?_ _ | refine blk_drew ?_ | refine blk_alloc ?_ _)); exact BK134.out)) : gb134 ≠ gb136)); have n7_ := Aside0.mk ((by rw [hg]; exact Nat.ne_of_gt (blk_lt (g := gb134) (o := .cells #[.slice (some ad135) l0_0.length c0_0, .slice A0_1 l0_1.length c0_1, .int .i64 a0_2] 25 (0, 0)) (by (with_reducible repeat (first | refine blk_drewN ?_ _ | refine blk_drew ?_ | refine blk_alloc ?_ _)); exact BK134.out)) : gb136 ≠ gb134)); clear HO_5; clear BK134; clear HB; have HO_5 := n0_; have BK134 := n1_; have HB := n2_; have BK136 := n3_; have GW136 := n4_; have GE136 := n5_; have NB134_136 := n6_; have NB136_134 := n7_; clear n0_ n1_ n2_ n3_ n4_ n5_ n6_ n7_; clear hb hbox hg; have hnb15 := NB136_134.out; have hnc15 := NB134_136.out; have hcz16_0 : w14.cell? ⟨gb136, 0, none⟩ = some (.int .i64 0) := (blk_cell BK136.out 0).trans rfl; have hcz16_1 : w14.cell? ⟨gb136, 1, none⟩ = some (.int .i64 0) := (blk_cell BK136.out 1).trans rfl; have hcz16_2 : w14.cell? ⟨gb136, 2, none⟩ = some (.string (⟨#[]⟩ : ByteArray)) := (blk_cell BK136.out 2).trans rfl; have hcz16_3 : w14.cell? ⟨gb136, 3, none⟩ = some (.string (⟨#[]⟩ : ByteArray)) := (blk_cell BK136.out 3).trans rfl; have hcz16_4 : w14.cell? ⟨gb136, 4, none⟩ = some (.int .i64 0) := (blk_cell BK136.out 4).trans rfl; have hfz16_0 := blk_frozen BK136.out 0; have hfz16_1 := blk_frozen BK136.out 1; have hfz16_2 := blk_frozen BK136.out 2; have hfz16_3 := blk_frozen BK136.out 3; have hfz16_4 := blk_frozen BK136.out 4))
              go_roundg k1
              case measure => have := HK1.out; omega
              case rel => exact ⟨(x5_1), (wrap64 (x11_1 + 1)), (by first | rfl | (simp; done) | (simp [*]; done)), H', ⟨by have := HK1.out; omega⟩, ⟨by (with_reducible repeat (first | apply Kd.R_alloc | apply Kd.R_drewN | apply Kd.R_drew)); exact Kd.R_mono (Kd.R_far (p := ⟨gb136, 4, none⟩) (Kd.R_far (p := ⟨gb136, 3, none⟩) (Kd.R_far (p := ⟨gb136, 2, none⟩) (Kd.R_far (p := ⟨gb136, 1, none⟩) (Kd.R_far (p := ⟨gb136, 0, none⟩) (Kd.R_mono HO_5.out (fun k_ hk => (⟨hk, hk.2⟩ : _ ∧ k_ ≠ gb136))) (fun _ hk => hk.2) (.int .i64 ((rd_T49 l0_0 x11_1).f0))) (fun _ hk => hk.2) (.int .i64 ((rd_T49 l0_0 x11_1).f1))) (fun _ hk => hk.2) (.string ((rd_T49 l0_0 x11_1).f2))) (fun _ hk => hk.2) (.string ((rd_T49 l0_0 x11_1).f3))) (fun _ hk => hk.2) (.int .i64 ((rd_T49 l0_0 x11_1).f4))) (fun _ hk => trivial)⟩, ⟨by (with_reducible repeat (first | refine blk_drewN ?_ _ | refine blk_drew ?_ | refine blk_alloc ?_ _)); refine blk_far ?_ NB134_136.out _; (with_reducible repeat (first | refine blk_drewN ?_ _ | refine blk_drew ?_ | refine blk_alloc ?_ _)); refine blk_far ?_ NB134_136.out _; (with_reducible repeat (first | refine blk_drewN ?_ _ | refine blk_drew ?_ | refine blk_alloc ?_ _)); refine blk_far ?_ NB134_136.out _; (with_reducible repeat (first | refine blk_drewN ?_ _ | refine blk_drew ?_ | refine blk_alloc ?_ _)); refine blk_far ?_ NB134_136.out _; (with_reducible repeat (first | refine blk_drewN ?_ _ | refine blk_drew ?_ | refine blk_alloc ?_ _)); refine blk_far ?_ NB134_136.out _; (with_reducible repeat (first | refine blk_drewN ?_ _ | refine blk_drew ?_ | refine blk_alloc ?_ _)); exact BK134.out⟩, ⟨by repeat (first | (with_reducible first | exact HB.out | apply below_alloc | apply pw_below_drewN | apply below_drew1 | refine below_set ?_ GE134.out | refine below_set ?_ GE136.out) | exact HB.out)⟩⟩
          · rw [if_neg c7] at H
            exact absurd H (by simp)
        · rw [if_neg c6] at H
          exact absurd H (by simp)
      · rw [if_neg c5] at H
        have c5b0 : decide (x11_1 < (l0_0.length : Int)) = false := decide_eq_false c5
        clear c5
        obtain rfl := Option.some.inj H
        go_wp2
        go_ret
        exact ⟨_, by first | rfl | (simp [errW_none, errW_some] <;> rfl) | (simp [*, errW_none, errW_some] <;> rfl), by (with_reducible repeat (first | apply Kd.R_alloc | apply Kd.R_drewN | apply Kd.R_drew)); exact HO_5.out, by repeat (first | (with_reducible first | exact HB.out | apply below_alloc | apply pw_below_drewN | apply below_drew1 | refine below_set ?_ GE134.out) | exact HB.out)⟩

end Go.Proofs.Ytepgnefkpjnmlaa.PD

-- printed by gprint.py (own tool) over the kit's print
namespace Go.Proofs.Ytepgnefkpjnmlaa.PD
open Go.RowKit Go.Proofs.Ytepgnefkpjnmlaa Go.Proofs.YtepgnefkpjnmlaaW.PrintWords Go.Proofs.YtepgnefkpjnmlaaW.PrintLast Go.Proofs.YtepgnefkpjnmlaaW.PrintMore
attribute [local go_sem] max2_int min2_int max_two min_two max_three min_three max_four min_four   -- for this text's walks alone
set_option linter.unnecessarySimpa false
attribute [local go_sem] min2_str max2_str leq_str gtr_str geq_str
set_option linter.unusedVariables false
set_option linter.unusedSimpArgs false

/-! ### pick_first: function 22 -/
def pick_first.lev (l : List S49) (n : Int) : List S49 := l.filter fun m => m.f1 == n
def pick_first.sum (l : List S49) : Int := (l.map (·.f4)).sum
def pick_first.tell (l : List S49) : Int × List S49 :=
  if 3 ≤ (pick_first.lev l 0).length then (0, pick_first.lev l 0) else if 4000 < pick_first.sum (pick_first.lev l 1) then (1, (pick_first.lev l 1).take 1) else if 16000 < pick_first.sum (pick_first.lev l 2) then (2, (pick_first.lev l 2).take 1) else (-1, [])
theorem pick_first.level_loop (L : List S49) (n : Int) (hL : L.length < 2513169434916) (d : Nat) : ∀ (k i : Nat) (acc : List S49), d = L.length - i → i ≤ L.length → acc.length ≤ i → d < k →
    version_Level.l0 k n acc L (L.length : Int) i = some (acc ++ (L.drop i).filter fun m => m.f1 == n) := by
  induction d with
  | zero =>
    intro k i acc hd hi ha hk
    obtain ⟨k, rfl⟩ : ∃ m, k = m + 1 := ⟨k - 1, by omega⟩
    obtain rfl : i = L.length := by omega
    simp only [version_Level.l0]
    rw [if_neg (by omega)]
    simp
  | succ d ih =>
    intro k i acc hd hi ha hk
    obtain ⟨k, rfl⟩ : ∃ m, k = m + 1 := ⟨k - 1, by omega⟩
    have hlt : i < L.length := by omega
    have hw : wrap64 ((i : Int) + 1) = ((i + 1 : Nat) : Int) := by unfold wrap64; omega
    have hm : rd_T49 L (i : Int) = L[i] := by simp [rd_T49, List.getD, hlt]
    simp only [version_Level.l0]
    rw [if_pos (by omega), if_pos (by omega), if_pos (by omega), hw, hm, List.drop_eq_getElem_cons hlt, List.filter_cons]
    by_cases h : L[i].f1 = n
    · subst h
      rw [if_pos rfl, if_pos (by omega), ih k (i + 1) _ (by omega) (by omega) (by simp; omega) (by omega)]
      simp
    · rw [if_neg h, ih k (i + 1) _ (by omega) (by omega) (by omega) (by omega)]
      simp [h]
theorem pick_first.level_some (L : List S49) (G : List Int) (a n : Int) (hL : L.length < 2513169434916) : version_Level.f (L.length + 1) L G a n = some (pick_first.lev L n) := by
  unfold version_Level.f
  have := pick_first.level_loop L n hL L.length (L.length + 1) 0 [] (by omega) (by omega) (by simp) (by omega)
  simpa [pick_first.lev] using this
theorem pick_first.sum_take (l : List S49) (h : ∀ m ∈ l, 1 ≤ m.f4 ∧ m.f4 ≤ 1048576) (k : Nat) : 0 ≤ pick_first.sum (l.take k) ∧ pick_first.sum (l.take k) ≤ pick_first.sum l ∧ pick_first.sum (l.take k) ≤ 1048576 * (l.length : Int) := by
  induction l generalizing k with
  | nil => simp [pick_first.sum]
  | cons x l ih =>
    have hx := h x (by simp)
    have ih2 := fun j => ih (fun m hm => h m (by simp [hm])) j
    cases k with
    | zero =>
      have h0 := ih2 0
      simp only [pick_first.sum, List.take_zero, List.map_nil, List.sum_nil, List.map_cons, List.sum_cons, List.length_cons] at h0 ⊢
      omega
    | succ k =>
      have hk := ih2 k
      simp only [pick_first.sum, List.take_succ_cons, List.map_cons, List.sum_cons, List.length_cons] at hk ⊢
      omega
theorem pick_first.sum_snoc (l : List S49) (k : Nat) (hk : k < l.length) : pick_first.sum (l.take (k + 1)) = pick_first.sum (l.take k) + (l.getD k z49).f4 := by
  rw [List.take_succ_eq_append_getElem hk]
  simp only [pick_first.sum, List.map_append, List.sum_append, List.map_cons, List.map_nil, List.sum_cons, List.sum_nil, Int.add_zero, List.getD, List.getElem?_eq_getElem hk, Option.getD_some]
def pick_first.f (l0_0 : List S49) (l0_1 : List Int) (a0_2 : Int) : Option (Int × List S49) := if l0_0.length ≤ 200 ∧ ∀ m ∈ l0_0, 1 ≤ m.f4 ∧ m.f4 ≤ 1048576 then some (pick_first.tell l0_0) else none
set_option maxHeartbeats 4000000 in
set_option maxRecDepth 100000 in
theorem pick_first.calls (A0_0 : Option Addr) (c0_0 : Nat) (l0_0 : List (S49)) (A0_1 : Option Addr) (c0_1 : Nat) (l0_1 : List Int) (a0_2 : Int) (r1 : Int) (r2 : List S49) (w : World) (hr0_0 : Kd.C k49 w A0_0 l0_0.length l0_0) (hc0_0 : l0_0.length ≤ c0_0) (hr0_1 : Kd.C (Kd.int .i64) w A0_1 l0_1.length l0_1) (hc0_1 : l0_1.length ≤ c0_1) (h : pick_first.f l0_0 l0_1 a0_2 = some (r1, r2)) :
    Calls Try.prog 22 #[.agg #[.slice A0_0 l0_0.length c0_0, .slice A0_1 l0_1.length c0_1, .int .i64 a0_2]] w fun e w' => ∃ v1_ : Value, e = .returned (.tuple #[.int .i64 r1, v1_]) ∧ Kd.R k49 49 w' w.heap.size (fun _ => True) v1_ r2 ∧ Below w.heap.size w w' := by
  obtain ⟨⟨hlen, hby⟩, hR⟩ : (l0_0.length ≤ 200 ∧ ∀ m ∈ l0_0, 1 ≤ m.f4 ∧ m.f4 ≤ 1048576) ∧ pick_first.tell l0_0 = (r1, r2) := by
    unfold pick_first.f at h
    split at h
    · rename_i hl; exact ⟨hl, Option.some.inj h⟩
    · cases h
  clear h
  have HR0 := Aside0.mk hr0_0
  have HR1 := Aside0.mk hr0_1
  have HC0 := Aside0.mk hc0_0
  have HC1 := Aside0.mk hc0_1
  have HRR := Aside0.mk hR
  have hlev : ∀ n, ∀ m ∈ pick_first.lev l0_0 n, 1 ≤ m.f4 ∧ m.f4 ≤ 1048576 := fun n m hm => hby m (List.mem_filter.1 hm).1
  have hll : ∀ n, (pick_first.lev l0_0 n).length ≤ 200 := fun n => Nat.le_trans (List.length_filter_le _ _) hlen
  have HLV := Aside0.mk hlev
  have HLL := Aside0.mk hll
  have hlv : ∀ n, version_Level.f (l0_0.length + 1) l0_0 l0_1 a0_2 n = some (pick_first.lev l0_0 n) := fun n => pick_first.level_some l0_0 l0_1 a0_2 n (by omega)
  have HLF := Aside0.mk hlv
  clear hr0_0 hr0_1 hc0_0 hc0_1 hR hby hlev hll hlv
  go_enter Try.func22, Try.ntmps22
  go_wp2_with ((with_reducible refine gate_dst (N := 1) rfl ?_); refine box_event ?hg (N := 1) ?hd (cs := #[.slice A0_0 l0_0.length c0_0, .slice A0_1 l0_1.length c0_1, .int .i64 a0_2]) (t := 25) ?hr ?_; (case hd => rfl); (case hg => rfl); (case hr => first | (go_simp; done) | (go_simp; rfl)); intro gb hg w1 hbox hb; have HB := Aside0.mk hb; have HK := Aside0.mk hbox; have HG := Aside0.mk (Nat.le_of_eq hg.symm); clear hb hbox hg; have e0 : w1.cell? ⟨gb, 0, none⟩ = some (.slice A0_0 l0_0.length c0_0) := (blk_cell HK.out 0).trans rfl; have e1 : w1.cell? ⟨gb, 1, none⟩ = some (.slice A0_1 l0_1.length c0_1) := (blk_cell HK.out 1).trans rfl; have e2 : w1.cell? ⟨gb, 2, none⟩ = some (.int .i64 a0_2) := (blk_cell HK.out 2).trans rfl)
  go_step3
  go_wp2_with fail
  refine (version_Level.calls (l0_0.length + 1) A0_0 c0_0 l0_0 A0_1 c0_1 l0_1 a0_2 0 _ w1 (Kd.C_below HR0.out HB.out) HC0.out (Kd.C_below HR1.out HB.out) HC1.out (HLF.out 0)).mono ?_
  rintro e w2 ⟨v, rfl, hv, hb2⟩
  obtain ⟨Ai, ci, rfl, hci, -⟩ := Kd.R_reads hv
  have hl0 := HLL.out 0
  have HB2 := Aside0.mk (below_step HB.out hb2)
  have HK2 := Aside0.mk (blk_below HK.out hb2)
  have HV := Aside0.mk (Kd.R_lower hv HB.out.size)
  clear hv hb2 HB HK e0 e1 e2 hci
  by_cases c1 : 3 ≤ (pick_first.lev l0_0 0).length
  · have hR := HRR.out
    rw [pick_first.tell, if_pos c1] at hR
    obtain ⟨rfl, rfl⟩ := Prod.mk.inj hR
    clear hR HRR
    go_wp2_with fail
    rw [Exit.noGoto_ret]
    go_ret2
    exact ⟨_, rfl, HV.out, HB2.out⟩
  · have hR := HRR.out
    rw [pick_first.tell, if_neg c1] at hR
    have HRT := Aside0.mk hR
    clear hR HRR HV
    go_wp2_with fail
    go_step3
    go_wp2_with fail
    have hlim1 : pick_Limit.f 1 = some 4000 := by unfold pick_Limit.f; rw [if_neg (by omega), if_neg (by omega), show wrap64 (2 * 1) = 2 by unfold wrap64; omega, if_pos (by omega)]; rfl
    have hlim2 : pick_Limit.f 2 = some 16000 := by unfold pick_Limit.f; rw [if_neg (by omega), if_neg (by omega), show wrap64 (2 * 2) = 4 by unfold wrap64; omega, if_pos (by omega)]; rfl
    have HLM : Aside0 (∀ n : Nat, 1 ≤ n → n < 3 → pick_Limit.f (n : Int) = some (if n = 1 then 4000 else 16000)) := ⟨fun n h1 h2 => by
      rcases (by omega : n = 1 ∨ n = 2) with rfl | rfl
      · exact hlim1
      · exact hlim2⟩
    clear hlim1 hlim2
    go_loopw [5] (fun i wr => ∃ n : Nat, 1 ≤ n ∧ n ≤ 3 ∧ i = .int .i64 n ∧ Aside0 (∀ j : Nat, 1 ≤ j → j < n → pick_first.sum (pick_first.lev l0_0 j) ≤ (if j = 1 then 4000 else 16000)) ∧ Aside0 (wr.heap[gb]? = some (.cells #[.slice A0_0 l0_0.length c0_0, .slice A0_1 l0_1.length c0_1, .int .i64 a0_2] 25 (0, 0))) ∧ Aside0 (Below w.heap.size w wr)) (fun i _ => 3 - (intOf i).toNat)
    case atStart => exact ⟨1, by omega, by omega, rfl, ⟨fun j h1 h2 => absurd h1 (by omega)⟩, HK2, HB2⟩
    case round =>
      clear HB2 HK2
      obtain ⟨n, hn1, hn3, rfl, HN, HK, HB⟩ := hrel
      by_cases hlt : n < 3
      · have e0 : wr.cell? ⟨gb, 0, none⟩ = some (.slice A0_0 l0_0.length c0_0) := (blk_cell HK.out 0).trans rfl
        have e1 : wr.cell? ⟨gb, 1, none⟩ = some (.slice A0_1 l0_1.length c0_1) := (blk_cell HK.out 1).trans rfl
        have e2 : wr.cell? ⟨gb, 2, none⟩ = some (.int .i64 a0_2) := (blk_cell HK.out 2).trans rfl
        go_wp2_with fail
        refine (version_Level.calls (l0_0.length + 1) A0_0 c0_0 l0_0 A0_1 c0_1 l0_1 a0_2 n _ wr (Kd.C_below HR0.out HB.out) HC0.out (Kd.C_below HR1.out HB.out) HC1.out (HLF.out n)).mono ?_
        rintro e w3 ⟨v3, rfl, hv, hb3⟩
        obtain ⟨Al, cl, rfl, hcl, hrl⟩ := Kd.R_reads hv
        have HB3 := Aside0.mk (below_step HB.out hb3)
        have HK3 := Aside0.mk (blk_below HK.out hb3)
        have HV := Aside0.mk (Kd.R_lower hv HB.out.size)
        have HRL := Aside0.mk hrl
        obtain ⟨L, hL⟩ : ∃ L : List S49, L = pick_first.lev l0_0 n := ⟨_, rfl⟩
        have HLb := Aside0.mk (HLV.out n)
        have hLl := HLL.out n
        rw [← hL] at HV HRL HLb hLl hcl ⊢
        have HL := Aside0.mk hL
        clear hv hb3 HB HK e0 e1 e2 hrl hL
        go_wp2_with fail
        obtain ⟨lm, hlm⟩ : ∃ lm : Int, lm = (if n = 1 then 4000 else 16000) := ⟨_, rfl⟩
        have HLF2 := HLM.out n hn1 hlt
        rw [← hlm] at HLF2
        have HLP := Aside0.mk HLF2
        have HLE := Aside0.mk hlm
        have hlmb : 4000 ≤ lm ∧ lm ≤ 16000 := by rw [hlm]; split <;> omega
        clear HLF2 hlm
        have HCL := Aside0.mk hcl
        clear HRL hcl
        go_loopw [7, 25] (fun s i wr => ∃ k : Nat, k ≤ L.length ∧ i = .int .i64 k ∧ s = .int .i64 (pick_first.sum (L.take k)) ∧ Aside0 (pick_first.sum (L.take k) ≤ lm) ∧ Aside0 (wr.heap[gb]? = some (.cells #[.slice A0_0 l0_0.length c0_0, .slice A0_1 l0_1.length c0_1, .int .i64 a0_2] 25 (0, 0))) ∧ Aside0 (Kd.R k49 49 wr w.heap.size (fun _ => True) (.slice Al L.length cl) L) ∧ Aside0 (Below w.heap.size w wr)) (fun _ i _ => L.length - (intOf i).toNat)
        case atStart => exact ⟨0, Nat.zero_le _, rfl, rfl, ⟨by simp [pick_first.sum]; omega⟩, HK3, HV, HB3⟩
        case round =>
          clear HK3 HV HB3
          obtain ⟨k, hk, rfl, rfl, HSL, HK4, HV4, HB4⟩ := hrel
          by_cases hkl : k < L.length
          · obtain ⟨A', c', he, hcc, hrd⟩ := Kd.R_reads HV4.out
            obtain ⟨ad, hAl, x0, x1, x2, x3, x4⟩ := at_T49 hrd (k : Int) (by omega) (by omega)
            injection he with he1 _ he3
            rw [← he1] at hAl
            subst hAl
            clear he1 he3 hrd hcc A' c'
            obtain ⟨m, hm⟩ : ∃ m : S49, m = rd_T49 L (k : Int) := ⟨_, rfl⟩
            rw [← hm, Int.toNat_natCast] at x0 x1 x2 x3 x4
            have hmg : m = L.getD k z49 := by rw [hm, rd_T49, Int.toNat_natCast]
            have hmb := HLb.out m (by rw [hmg]; simp [List.getD, hkl])
            have hsn := pick_first.sum_snoc L k hkl
            rw [← hmg] at hsn
            have hs1 := pick_first.sum_take L HLb.out k
            have hs2 := pick_first.sum_take L HLb.out (k + 1)
            have HS2 := Aside0.mk hs2
            have HSN := Aside0.mk hsn
            clear hm hmg hs2 hsn
            obtain ⟨s, hs⟩ : ∃ s : Int, s = pick_first.sum (L.take k) := ⟨_, rfl⟩
            rw [← hs] at hs1 HSL HSN ⊢
            have hs0 : 0 ≤ s ∧ s ≤ 209715200 := ⟨hs1.1, by have := hs1.2.2; omega⟩
            have HSS := Aside0.mk hs
            have hms := hmb.1
            have hmt := hmb.2
            have hsa := hs0.1
            have hsb := hs0.2
            clear hs hs1 hmb hs0
            go_wp2_with (first | ((with_reducible refine gate_dst (N := 9) rfl ?_); refine box_event ?hg (N := 9) ?hd (cs := #[.int .i64 0, .int .i64 0, .string (⟨#[]⟩ : ByteArray), .string (⟨#[]⟩ : ByteArray), .int .i64 0]) (t := 49) ?hr ?_; (case hd => rfl); (case hg => rfl); (case hr => first | (go_simp; done) | (go_simp; rfl)); intro g9 hg w5 hbox hb; have HB5 := Aside0.mk (below_step HB4.out hb); have H9 := Aside0.mk hbox; have HK5 := Aside0.mk (blk_below HK4.out hb); have HV5 := Aside0.mk (Kd.R_elderB HV4.out g9 (Nat.le_of_eq hg.symm)); have HV5 := Aside0.mk (Kd.R_below HV5.out hb); have HN5 := Aside0.mk (by rw [hg]; have := blk_lt HK4.out; omega : gb < g9); have HS5 := Aside0.mk (by rw [hg]; exact HB4.out.size : w.heap.size ≤ g9); clear hb hbox hg) | ((with_reducible refine gate_store (t := 49) (p := 9) (v := .tmp 28) rfl ?_); refine agg_event rfl 49 (.tmp 9) (.tmp 28) rfl g9 rfl #[.int .i64 m.f0, .int .i64 m.f1, .string m.f2, .string m.f3, .int .i64 m.f4] #[.int .i64 0, .int .i64 0, .string (⟨#[]⟩ : ByteArray), .string (⟨#[]⟩ : ByteArray), .int .i64 0] rfl H9.out (by kernel_rfl) rfl (by simp [Value.oneCell']) ?_; intro w6 hst hgr hszz; clear hszz; have H96 := Aside0.mk hst; have HB6 := Aside0.mk (pw_below_grown HB5.out (some g9) HB5.out.size hgr (fun k_ e_ => by injection e_ with e_; have := HS5.out; omega)); have HK6 := Aside0.mk (blk_grown HK5.out hgr (by intro e_; injection e_ with e_; have := HN5.out; omega)); have HV6 := Aside0.mk (Kd.R_mono (Kd.R_grown HV5.out hgr (fun k_ hk => by intro e_; injection e_ with e_; exact hk.2 e_)) (fun _ hk => hk.1)); clear hst hgr x0 x1 x2 x3 x4; have c4 : w6.cell? ⟨g9, 4, none⟩ = some (.int .i64 m.f4) := (blk_cell H96.out 4).trans rfl))
            refine (pick_Limit.calls n lm w6 HLP.out).mono ?_
            rintro e w7 ⟨rfl, ⟨nq, rfl⟩⟩
            have HB7 := Aside0.mk (pw_below_drewN HB6.out nq)
            have HK7 := Aside0.mk (blk_drewN HK6.out nq)
            have HV7 := Aside0.mk (Kd.R_drewN HV6.out nq)
            generalize w6.drewN nq = w7 at HB7 HK7 HV7 ⊢
            clear HB4 HK4 HV4 HB5 HK5 HV5 HB6 HK6 HV6 H9 H96 c4 HSL
            by_cases hgt : lm < s + m.f4
            · have hR := HRT.out
              have hbig : lm < pick_first.sum L := by have := HS2.out; rw [HSN.out] at this; omega
              have hRR : ((n : Int), L.take 1) = (r1, r2) := by
                rw [← hR]
                rw [HL.out] at hbig ⊢
                rcases (by omega : n = 1 ∨ n = 2) with rfl | rfl
                · have e1 := HLE.out
                  simp at e1
                  subst e1
                  simp at hbig
                  simp [hbig]
                · have e1 := HLE.out
                  simp at e1
                  subst e1
                  have h1 := HN.out 1 (by omega) (by omega)
                  simp at hbig h1
                  rw [if_neg (by omega), if_pos hbig]
                  simp
              obtain ⟨rfl, rfl⟩ := Prod.mk.inj hRR
              have HL1 : Aside0 (1 ≤ L.length) := ⟨by omega⟩
              have hL1 : (1 : Int) ≤ L.length := by omega
              have hcl' : (L.length : Int) ≤ cl := by have := HCL.out; omega
              have hgtb : decide (lm < s + m.f4) = true := decide_eq_true hgt
              clear hR hbig hRR HRT
              go_wp2_with fail
              go_quiet (fail)
              go_wp2_with fail
              rw [Exit.noGoto_ret]
              go_ret2
              exact ⟨_, rfl, Kd.R_drewN (Kd.R_take (m := 1) HV7.out HL1.out) _, pw_below_drewN HB7.out _⟩
            · have hgtb : decide (lm < s + m.f4) = false := decide_eq_false hgt
              have HSL2 : Aside0 (pick_first.sum (L.take (k + 1)) ≤ lm) := ⟨by rw [HSN.out]; omega⟩
              have HSE : Aside0 (s + m.f4 = pick_first.sum (L.take (k + 1))) := ⟨HSN.out.symm⟩
              go_wp2_with fail
              refine ⟨⟨k + 1, by omega, by go_num, by rw [← HSE.out], HSL2, HK7, HV7, HB7⟩, by simp [intOf]; omega⟩
          · obtain rfl : k = L.length := by omega
            have hfin := HSL.out
            rw [List.take_length] at hfin
            have HFN : Aside0 (∀ j : Nat, 1 ≤ j → j < n + 1 → pick_first.sum (pick_first.lev l0_0 j) ≤ (if j = 1 then 4000 else 16000)) := ⟨fun j h1 h2 => by
              by_cases e : j = n
              · rw [e, ← HL.out, ← HLE.out]; exact hfin
              · exact HN.out j h1 (by omega)⟩
            clear hfin
            go_wp2_with fail
            refine ⟨⟨n + 1, by omega, by omega, by go_num, HFN, HK4, HB4⟩, by simp [intOf]; omega⟩
      · obtain rfl : n = 3 := by omega
        have h1 := HN.out 1 (by omega) (by omega)
        have h2 := HN.out 2 (by omega) (by omega)
        have hR := HRT.out
        rw [if_neg (by simpa using h1), if_neg (by simpa using h2)] at hR
        obtain ⟨rfl, rfl⟩ := Prod.mk.inj hR
        clear h1 h2 hR HRT
        go_wp2_with fail
        rw [Exit.noGoto_ret]
        go_ret2
        exact ⟨_, rfl, Kd.R_nil _ _ _ _ _, HB.out⟩


end Go.Proofs.Ytepgnefkpjnmlaa.PD

-- printed by gprint.py (own tool) over the kit's print
namespace Go.Proofs.Ytepgnefkpjnmlaa.PD
open Go.RowKit Go.Proofs.Ytepgnefkpjnmlaa Go.Proofs.YtepgnefkpjnmlaaW.PrintWords Go.Proofs.YtepgnefkpjnmlaaW.PrintLast Go.Proofs.YtepgnefkpjnmlaaW.PrintMore
attribute [local go_sem] max2_int min2_int max_two min_two max_three min_three max_four min_four   -- for this text's walks alone
set_option linter.unnecessarySimpa false
attribute [local go_sem] min2_str max2_str leq_str gtr_str geq_str
set_option linter.unusedVariables false
set_option linter.unusedSimpArgs false

/-! ### pick_meet: function 23 -/
def pick_meet.l0 : Nat → ByteArray → ByteArray → List (S49) → Int → Int → Int → Int → ByteArray → ByteArray → Int → Option (Bool)
  | 0, _, _, _, _, _, _, _, _, _, _ => none
  | k + 1, x5, x6, x20, x21, x22, x141000, x141001, x141002, x141003, x141004 => if x22 < x21 then (if 0 ≤ x22 then (if x22 < (x20.length : Int) then (pick_meet.l0 k (minB x5 ((rd_T49 x20 x22).f2)) (maxB x6 ((rd_T49 x20 x22).f3)) x20 x21 (wrap64 (x22 + 1)) x141000 x141001 x141002 x141003 x141004) else (none)) else (none)) else (if ((Op.bytesLess x6.toList x141002.toList) = true) then (some false) else (some (!(Op.bytesLess x141003.toList x5.toList))))
def pick_meet.f (k : Nat) (a0_0 : Int) (a0_1 : Int) (a0_2 : ByteArray) (a0_3 : ByteArray) (a0_4 : Int) (l1 : List (S49)) : Option (Bool) := if (l1.length : Int) = 0 then (some false) else (if 0 < (l1.length : Int) then (pick_meet.l0 k ((rd_T49 l1 0).f2) ((rd_T49 l1 0).f3) l1 (l1.length : Int) 0 a0_0 a0_1 a0_2 a0_3 a0_4) else (none))
theorem pick_meet.mono_l : ∀ k, (∀ y0 y1 y2 y3 y4 y5 y6 y7 y8 y9, LeO (pick_meet.l0 k y0 y1 y2 y3 y4 y5 y6 y7 y8 y9) (pick_meet.l0 (k + 1) y0 y1 y2 y3 y4 y5 y6 y7 y8 y9))
  | 0 => fun _ _ _ _ _ _ _ _ _ _ r h => by simp [pick_meet.l0] at h
  | k + 1 => by
    have ih0 := pick_meet.mono_l k
    · intro y0 y1 y2 y3 y4 y5 y6 y7 y8 y9
      unfold pick_meet.l0
      repeat' first
      | (with_reducible exact ih0 _ _ _ _ _ _ _ _ _ _)
      | (with_reducible exact LeO.refl _)
      | (with_reducible exact LeO.none _)
      | (with_reducible refine LeO.ite ?_ ?_)
      | (with_reducible refine LeO.bind ?_ (fun _ => ?_))
      | exact ih0 _ _ _ _ _ _ _ _ _ _
      | exact LeO.none _
      | refine LeO.ite ?_ ?_
      | refine LeO.bind ?_ (fun _ => ?_)
theorem pick_meet.mono : ∀ a0 a1 a2 a3 a4 a5 k, LeO (pick_meet.f k a0 a1 a2 a3 a4 a5) (pick_meet.f (k + 1) a0 a1 a2 a3 a4 a5) := by
  intro a0 a1 a2 a3 a4 a5 k
  have ih0 := pick_meet.mono_l k
  unfold pick_meet.f
  repeat' first
      | (with_reducible exact ih0 _ _ _ _ _ _ _ _ _ _)
      | (with_reducible exact LeO.refl _)
      | (with_reducible exact LeO.none _)
      | (with_reducible refine LeO.ite ?_ ?_)
      | (with_reducible refine LeO.bind ?_ (fun _ => ?_))
      | exact ih0 _ _ _ _ _ _ _ _ _ _
      | exact LeO.none _
      | refine LeO.ite ?_ ?_
      | refine LeO.bind ?_ (fun _ => ?_)
set_option maxHeartbeats 8000000 in
set_option maxRecDepth 100000 in
theorem pick_meet.calls (k : Nat) (a0_0 : Int) (a0_1 : Int) (a0_2 : ByteArray) (a0_3 : ByteArray) (a0_4 : Int) (A1 : Option Addr) (c1 : Nat) (l1 : List (S49)) (r : Bool) (w : World) (hr1 : Kd.C k49 w A1 l1.length l1) (hc1 : l1.length ≤ c1) (h : pick_meet.f k a0_0 a0_1 a0_2 a0_3 a0_4 l1 = some r) :
    Calls Try.prog 23 #[.agg #[.int .i64 a0_0, .int .i64 a0_1, .string a0_2, .string a0_3, .int .i64 a0_4], .slice A1 l1.length c1] w fun e w' => e = .returned (.bool r) ∧ Below w.heap.size w w' := by
  have hu49 := Try.underlying49
  have HR1 := Aside0.mk hr1
  have HC1 := Aside0.mk hc1
  clear hr1 hc1
  have HB := Aside0.mk (Below.refl w.heap.size w)
  have H : (if (l1.length : Int) = 0 then (some false) else (if 0 < (l1.length : Int) then (pick_meet.l0 k ((rd_T49 l1 0).f2) ((rd_T49 l1 0).f3) l1 (l1.length : Int) 0 a0_0 a0_1 a0_2 a0_3 a0_4) else (none))) = some r := h
  clear h
  by_cases c3 : (l1.length : Int) = 0
  · rw [if_pos c3] at H
    have c3b0 : ((l1.length : Int) == 0) = true := beq_iff_eq.mpr c3
    have c3b1 : ((l1.length : Int) != 0) = false := bne_eq_false_iff_eq.mpr c3
    clear c3
    obtain rfl := Option.some.inj H
    go_enter Try.func23, Try.ntmps23
    go_wp2_with (first | ((with_reducible refine gate_dst (N := 2) rfl ?_); refine box_event ?hg (N := 2) ?hd (cs := #[.int .i64 a0_0, .int .i64 a0_1, .string a0_2, .string a0_3, .int .i64 a0_4]) (t := 49) ?hr ?_; (case hd => rfl); (case hg => rfl); (case hr => first | (go_simp; done) | (go_simp; rfl)); intro gb140 hg w4 hbox hb; have n0_ := Aside0.mk (below_step (by repeat (first | (with_reducible first | exact HB.out | apply below_alloc | apply pw_below_drewN | apply below_drew1) | exact HB.out)) hb); have n1_ := Aside0.mk (hbox); have n2_ := Aside0.mk ((by rw [hg]; exact (below_size (by repeat (first | (with_reducible first | exact HB.out | apply below_alloc | apply pw_below_drewN | apply below_drew1) | exact HB.out))) : w.heap.size ≤ gb140)); have n3_ := Aside0.mk ((by rw [hg]; exact (below_size (by repeat (first | (with_reducible first | exact HB.out | apply below_alloc | apply pw_below_drewN | apply below_drew1) | exact HB.out))) : w.heap.size ≤ gb140)); clear HB; have HB := n0_; have BK140 := n1_; have GW140 := n2_; have GE140 := n3_; clear n0_ n1_ n2_ n3_; clear hb hbox hg))
    repeat (go_quiet (first | ((with_reducible refine gate_dst (N := 2) rfl ?_); refine box_event ?hg (N := 2) ?hd (cs := #[.int .i64 a0_0, .int .i64 a0_1, .string a0_2, .string a0_3, .int .i64 a0_4]) (t := 49) ?hr ?_; (case hd => rfl); (case hg => rfl); (case hr => first | (go_simp; done) | (go_simp; rfl)); intro gb140 hg w4 hbox hb; have n0_ := Aside0.mk (below_step (by repeat (first | (with_reducible first | exact HB.out | apply below_alloc | apply pw_below_drewN | apply below_drew1) | exact HB.out)) hb); have n1_ := Aside0.mk (hbox); have n2_ := Aside0.mk ((by rw [hg]; exact (below_size (by repeat (first | (with_reducible first | exact HB.out | apply below_alloc | apply pw_below_drewN | apply below_drew1) | exact HB.out))) : w.heap.size ≤ gb140)); have n3_ := Aside0.mk ((by rw [hg]; exact (below_size (by repeat (first | (with_reducible first | exact HB.out | apply below_alloc | apply pw_below_drewN | apply below_drew1) | exact HB.out))) : w.heap.size ≤ gb140)); clear HB; have HB := n0_; have BK140 := n1_; have GW140 := n2_; have GE140 := n3_; clear n0_ n1_ n2_ n3_; clear hb hbox hg)); try go_wp2_with (first | ((with_reducible refine gate_dst (N := 2) rfl ?_); refine box_event ?hg (N := 2) ?hd (cs := #[.int .i64 a0_0, .int .i64 a0_1, .string a0_2, .string a0_3, .int .i64 a0_4]) (t := 49) ?hr ?_; (case hd => rfl); (case hg => rfl); (case hr => first | (go_simp; done) | (go_simp; rfl)); intro gb140 hg w4 hbox hb; have n0_ := Aside0.mk (below_step (by repeat (first | (with_reducible first | exact HB.out | apply below_alloc | apply pw_below_drewN | apply below_drew1) | exact HB.out)) hb); have n1_ := Aside0.mk (hbox); have n2_ := Aside0.mk ((by rw [hg]; exact (below_size (by repeat (first | (with_reducible first | exact HB.out | apply below_alloc | apply pw_below_drewN | apply below_drew1) | exact HB.out))) : w.heap.size ≤ gb140)); have n3_ := Aside0.mk ((by rw [hg]; exact (below_size (by repeat (first | (with_reducible first | exact HB.out | apply below_alloc | apply pw_below_drewN | apply below_drew1) | exact HB.out))) : w.heap.size ≤ gb140)); clear HB; have HB := n0_; have BK140 := n1_; have GW140 := n2_; have GE140 := n3_; clear n0_ n1_ n2_ n3_; clear hb hbox hg)))
    go_ret
    exact ⟨by first | rfl | (simp [errW_none, errW_some] <;> rfl) | (simp [*, errW_none, errW_some] <;> rfl), by repeat (first | (with_reducible first | exact HB.out | apply below_alloc | apply pw_below_drewN | apply below_drew1 | refine below_set ?_ GE140.out) | exact HB.out)⟩
  · rw [if_neg c3] at H
    have c3b0 : ((l1.length : Int) == 0) = false := beq_eq_false_iff_ne.mpr c3
    have c3b1 : ((l1.length : Int) != 0) = true := bne_iff_ne.mpr c3
    have c3b2 : ¬ (l1 = []) := fun h_ => c3 (by rw [h_]; rfl)
    by_cases c5 : 0 < (l1.length : Int)
    · rw [if_pos c5] at H
      have c5b0 : decide (0 < (l1.length : Int)) = true := decide_eq_true c5
      have c5b1 : decide (0 < l1.length) = true := decide_eq_true (by omega)
      clear c5
      have H' := Aside0.mk H
      clear H
      go_enter Try.func23, Try.ntmps23
      go_wp2_with (first | ((with_reducible refine gate_dst (N := 2) rfl ?_); refine box_event ?hg (N := 2) ?hd (cs := #[.int .i64 a0_0, .int .i64 a0_1, .string a0_2, .string a0_3, .int .i64 a0_4]) (t := 49) ?hr ?_; (case hd => rfl); (case hg => rfl); (case hr => first | (go_simp; done) | (go_simp; rfl)); intro gb140 hg w6 hbox hb; have n0_ := Aside0.mk (below_step (by repeat (first | (with_reducible first | exact HB.out | apply below_alloc | apply pw_below_drewN | apply below_drew1) | exact HB.out)) hb); have n1_ := Aside0.mk (hbox); have n2_ := Aside0.mk ((by rw [hg]; exact (below_size (by repeat (first | (with_reducible first | exact HB.out | apply below_alloc | apply pw_below_drewN | apply below_drew1) | exact HB.out))) : w.heap.size ≤ gb140)); have n3_ := Aside0.mk ((by rw [hg]; exact (below_size (by repeat (first | (with_reducible first | exact HB.out | apply below_alloc | apply pw_below_drewN | apply below_drew1) | exact HB.out))) : w.heap.size ≤ gb140)); clear HB; have HB := n0_; have BK140 := n1_; have GW140 := n2_; have GE140 := n3_; clear n0_ n1_ n2_ n3_; clear hb hbox hg; have p141 : 0 ≤ (0 : Int) := (by omega); have q141 : 0 < (l1.length : Int) := of_decide_eq_true (by first | (with_reducible assumption) | assumption); obtain ⟨ad141, e141, hx141_0, hx141_1, hx141_2, hx141_3, hx141_4⟩ := at_T49 HR1.out 0 p141 q141; cases e141; have qi141 : (0 < l1.length) = True := eq_true (by omega); (try rw [show ((0 : Int)).toNat = 0 from rfl] at hx141_0); (try rw [show 0 * 5 = 0 from rfl] at hx141_0); (try rw [Addr.add_zero'] at hx141_0); (try rw [show ((0 : Int)).toNat = 0 from rfl] at hx141_1); (try rw [show 0 * 5 = 0 from rfl] at hx141_1); (try rw [Addr.add_zero'] at hx141_1); (try rw [show ((0 : Int)).toNat = 0 from rfl] at hx141_2); (try rw [show 0 * 5 = 0 from rfl] at hx141_2); (try rw [Addr.add_zero'] at hx141_2); (try rw [show ((0 : Int)).toNat = 0 from rfl] at hx141_3); (try rw [show 0 * 5 = 0 from rfl] at hx141_3); (try rw [Addr.add_zero'] at hx141_3); (try rw [show ((0 : Int)).toNat = 0 from rfl] at hx141_4); (try rw [show 0 * 5 = 0 from rfl] at hx141_4); (try rw [Addr.add_zero'] at hx141_4); replace hx141_0 := (HB.out.cell (World.block_lt_of_cell? w _ hx141_0)).trans hx141_0; replace hx141_1 := (HB.out.cell (World.block_lt_of_cell? w _ hx141_1)).trans hx141_1; replace hx141_2 := (HB.out.cell (World.block_lt_of_cell? w _ hx141_2)).trans hx141_2; replace hx141_3 := (HB.out.cell (World.block_lt_of_cell? w _ hx141_3)).trans hx141_3; replace hx141_4 := (HB.out.cell (World.block_lt_of_cell? w _ hx141_4)).trans hx141_4; replace p141 := eq_true p141; replace q141 := eq_true q141; have p142 : 0 ≤ (0 : Int) := (by omega); have q142 : 0 < (l1.length : Int) := of_decide_eq_true (by first | (with_reducible assumption) | assumption); obtain ⟨ad142, e142, hx142_0, hx142_1, hx142_2, hx142_3, hx142_4⟩ := at_T49 HR1.out 0 p142 q142; obtain rfl : ad141 = ad142 := (by injection e142); have qi142 : (0 < l1.length) = True := eq_true (by omega); (try rw [show ((0 : Int)).toNat = 0 from rfl] at hx142_0); (try rw [show 0 * 5 = 0 from rfl] at hx142_0); (try rw [Addr.add_zero'] at hx142_0); (try rw [show ((0 : Int)).toNat = 0 from rfl] at hx142_1); (try rw [show 0 * 5 = 0 from rfl] at hx142_1); (try rw [Addr.add_zero'] at hx142_1); (try rw [show ((0 : Int)).toNat = 0 from rfl] at hx142_2); (try rw [show 0 * 5 = 0 from rfl] at hx142_2); (try rw [Addr.add_zero'] at hx142_2); (try rw [show ((0 : Int)).toNat = 0 from rfl] at hx142_3); (try rw [show 0 * 5 = 0 from rfl] at hx142_3); (try rw [Addr.add_zero'] at hx142_3); (try rw [show ((0 : Int)).toNat = 0 from rfl] at hx142_4); (try rw [show 0 * 5 = 0 from rfl] at hx142_4); (try rw [Addr.add_zero'] at hx142_4); replace hx142_0 := (HB.out.cell (World.block_lt_of_cell? w _ hx142_0)).trans hx142_0; replace hx142_1 := (HB.out.cell (World.block_lt_of_cell? w _ hx142_1)).trans hx142_1; replace hx142_2 := (HB.out.cell (World.block_lt_of_cell? w _ hx142_2)).trans hx142_2; replace hx142_3 := (HB.out.cell (World.block_lt_of_cell? w _ hx142_3)).trans hx142_3; replace hx142_4 := (HB.out.cell (World.block_lt_of_cell? w _ hx142_4)).trans hx142_4; replace p142 := eq_true p142; replace q142 := eq_true q142))
      repeat (go_quiet (first | ((with_reducible refine gate_dst (N := 2) rfl ?_); refine box_event ?hg (N := 2) ?hd (cs := #[.int .i64 a0_0, .int .i64 a0_1, .string a0_2, .string a0_3, .int .i64 a0_4]) (t := 49) ?hr ?_; (case hd => rfl); (case hg => rfl); (case hr => first | (go_simp; done) | (go_simp; rfl)); intro gb140 hg w6 hbox hb; have n0_ := Aside0.mk (below_step (by repeat (first | (with_reducible first | exact HB.out | apply below_alloc | apply pw_below_drewN | apply below_drew1) | exact HB.out)) hb); have n1_ := Aside0.mk (hbox); have n2_ := Aside0.mk ((by rw [hg]; exact (below_size (by repeat (first | (with_reducible first | exact HB.out | apply below_alloc | apply pw_below_drewN | apply below_drew1) | exact HB.out))) : w.heap.size ≤ gb140)); have n3_ := Aside0.mk ((by rw [hg]; exact (below_size (by repeat (first | (with_reducible first | exact HB.out | apply below_alloc | apply pw_below_drewN | apply below_drew1) | exact HB.out))) : w.heap.size ≤ gb140)); clear HB; have HB := n0_; have BK140 := n1_; have GW140 := n2_; have GE140 := n3_; clear n0_ n1_ n2_ n3_; clear hb hbox hg; have p141 : 0 ≤ (0 : Int) := (by omega); have q141 : 0 < (l1.length : Int) := of_decide_eq_true (by first | (with_reducible assumption) | assumption); obtain ⟨ad141, e141, hx141_0, hx141_1, hx141_2, hx141_3, hx141_4⟩ := at_T49 HR1.out 0 p141 q141; cases e141; have qi141 : (0 < l1.length) = True := eq_true (by omega); (try rw [show ((0 : Int)).toNat = 0 from rfl] at hx141_0); (try rw [show 0 * 5 = 0 from rfl] at hx141_0); (try rw [Addr.add_zero'] at hx141_0); (try rw [show ((0 : Int)).toNat = 0 from rfl] at hx141_1); (try rw [show 0 * 5 = 0 from rfl] at hx141_1); (try rw [Addr.add_zero'] at hx141_1); (try rw [show ((0 : Int)).toNat = 0 from rfl] at hx141_2); (try rw [show 0 * 5 = 0 from rfl] at hx141_2); (try rw [Addr.add_zero'] at hx141_2); (try rw [show ((0 : Int)).toNat = 0 from rfl] at hx141_3); (try rw [show 0 * 5 = 0 from rfl] at hx141_3); (try rw [Addr.add_zero'] at hx141_3); (try rw [show ((0 : Int)).toNat = 0 from rfl] at hx141_4); (try rw [show 0 * 5 = 0 from rfl] at hx141_4); (try rw [Addr.add_zero'] at hx141_4); replace hx141_0 := (HB.out.cell (World.block_lt_of_cell? w _ hx141_0)).trans hx141_0; replace hx141_1 := (HB.out.cell (World.block_lt_of_cell? w _ hx141_1)).trans hx141_1; replace hx141_2 := (HB.out.cell (World.block_lt_of_cell? w _ hx141_2)).trans hx141_2; replace hx141_3 := (HB.out.cell (World.block_lt_of_cell? w _ hx141_3)).trans hx141_3; replace hx141_4 := (HB.out.cell (World.block_lt_of_cell? w _ hx141_4)).trans hx141_4; replace p141 := eq_true p141; replace q141 := eq_true q141; have p142 : 0 ≤ (0 : Int) := (by omega); have q142 : 0 < (l1.length : Int) := of_decide_eq_true (by first | (with_reducible assumption) | assumption); obtain ⟨ad142, e142, hx142_0, hx142_1, hx142_2, hx142_3, hx142_4⟩ := at_T49 HR1.out 0 p142 q142; obtain rfl : ad141 = ad142 := (by injection e142); have qi142 : (0 < l1.length) = True := eq_true (by omega); (try rw [show ((0 : Int)).toNat = 0 from rfl] at hx142_0); (try rw [show 0 * 5 = 0 from rfl] at hx142_0); (try rw [Addr.add_zero'] at hx142_0); (try rw [show ((0 : Int)).toNat = 0 from rfl] at hx142_1); (try rw [show 0 * 5 = 0 from rfl] at hx142_1); (try rw [Addr.add_zero'] at hx142_1); (try rw [show ((0 : Int)).toNat = 0 from rfl] at hx142_2); (try rw [show 0 * 5 = 0 from rfl] at hx142_2); (try rw [Addr.add_zero'] at hx142_2); (try rw [show ((0 : Int)).toNat = 0 from rfl] at hx142_3); (try rw [show 0 * 5 = 0 from rfl] at hx142_3); (try rw [Addr.add_zero'] at hx142_3); (try rw [show ((0 : Int)).toNat = 0 from rfl] at hx142_4); (try rw [show 0 * 5 = 0 from rfl] at hx142_4); (try rw [Addr.add_zero'] at hx142_4); replace hx142_0 := (HB.out.cell (World.block_lt_of_cell? w _ hx142_0)).trans hx142_0; replace hx142_1 := (HB.out.cell (World.block_lt_of_cell? w _ hx142_1)).trans hx142_1; replace hx142_2 := (HB.out.cell (World.block_lt_of_cell? w _ hx142_2)).trans hx142_2; replace hx142_3 := (HB.out.cell (World.block_lt_of_cell? w _ hx142_3)).trans hx142_3; replace hx142_4 := (HB.out.cell (World.block_lt_of_cell? w _ hx142_4)).trans hx142_4; replace p142 := eq_true p142; replace q142 := eq_true q142)); try go_wp2_with (first | ((with_reducible refine gate_dst (N := 2) rfl ?_); refine box_event ?hg (N := 2) ?hd (cs := #[.int .i64 a0_0, .int .i64 a0_1, .string a0_2, .string a0_3, .int .i64 a0_4]) (t := 49) ?hr ?_; (case hd => rfl); (case hg => rfl); (case hr => first | (go_simp; done) | (go_simp; rfl)); intro gb140 hg w6 hbox hb; have n0_ := Aside0.mk (below_step (by repeat (first | (with_reducible first | exact HB.out | apply below_alloc | apply pw_below_drewN | apply below_drew1) | exact HB.out)) hb); have n1_ := Aside0.mk (hbox); have n2_ := Aside0.mk ((by rw [hg]; exact (below_size (by repeat (first | (with_reducible first | exact HB.out | apply below_alloc | apply pw_below_drewN | apply below_drew1) | exact HB.out))) : w.heap.size ≤ gb140)); have n3_ := Aside0.mk ((by rw [hg]; exact (below_size (by repeat (first | (with_reducible first | exact HB.out | apply below_alloc | apply pw_below_drewN | apply below_drew1) | exact HB.out))) : w.heap.size ≤ gb140)); clear HB; have HB := n0_; have BK140 := n1_; have GW140 := n2_; have GE140 := n3_; clear n0_ n1_ n2_ n3_; clear hb hbox hg; have p141 : 0 ≤ (0 : Int) := (by omega); have q141 : 0 < (l1.length : Int) := of_decide_eq_true (by first | (with_reducible assumption) | assumption); obtain ⟨ad141, e141, hx141_0, hx141_1, hx141_2, hx141_3, hx141_4⟩ := at_T49 HR1.out 0 p141 q141; cases e141; have qi141 : (0 < l1.length) = True := eq_true (by omega); (try rw [show ((0 : Int)).toNat = 0 from rfl] at hx141_0); (try rw [show 0 * 5 = 0 from rfl] at hx141_0); (try rw [Addr.add_zero'] at hx141_0); (try rw [show ((0 : Int)).toNat = 0 from rfl] at hx141_1); (try rw [show 0 * 5 = 0 from rfl] at hx141_1); (try rw [Addr.add_zero'] at hx141_1); (try rw [show ((0 : Int)).toNat = 0 from rfl] at hx141_2); (try rw [show 0 * 5 = 0 from rfl] at hx141_2); (try rw [Addr.add_zero'] at hx141_2); (try rw [show ((0 : Int)).toNat = 0 from rfl] at hx141_3); (try rw [show 0 * 5 = 0 from rfl] at hx141_3); (try rw [Addr.add_zero'] at hx141_3); (try rw [show ((0 : Int)).toNat = 0 from rfl] at hx141_4); (try rw [show 0 * 5 = 0 from rfl] at hx141_4); (try rw [Addr.add_zero'] at hx141_4); replace hx141_0 := (HB.out.cell (World.block_lt_of_cell? w _ hx141_0)).trans hx141_0; replace hx141_1 := (HB.out.cell (World.block_lt_of_cell? w _ hx141_1)).trans hx141_1; replace hx141_2 := (HB.out.cell (World.block_lt_of_cell? w _ hx141_2)).trans hx141_2; replace hx141_3 := (HB.out.cell (World.block_lt_of_cell? w _ hx141_3)).trans hx141_3; replace hx141_4 := (HB.out.cell (World.block_lt_of_cell? w _ hx141_4)).trans hx141_4; replace p141 := eq_true p141; replace q141 := eq_true q141; have p142 : 0 ≤ (0 : Int) := (by omega); have q142 : 0 < (l1.length : Int) := of_decide_eq_true (by first | (with_reducible assumption) | assumption); obtain ⟨ad142, e142, hx142_0, hx142_1, hx142_2, hx142_3, hx142_4⟩ := at_T49 HR1.out 0 p142 q142; obtain rfl : ad141 = ad142 := (by injection e142); have qi142 : (0 < l1.length) = True := eq_true (by omega); (try rw [show ((0 : Int)).toNat = 0 from rfl] at hx142_0); (try rw [show 0 * 5 = 0 from rfl] at hx142_0); (try rw [Addr.add_zero'] at hx142_0); (try rw [show ((0 : Int)).toNat = 0 from rfl] at hx142_1); (try rw [show 0 * 5 = 0 from rfl] at hx142_1); (try rw [Addr.add_zero'] at hx142_1); (try rw [show ((0 : Int)).toNat = 0 from rfl] at hx142_2); (try rw [show 0 * 5 = 0 from rfl] at hx142_2); (try rw [Addr.add_zero'] at hx142_2); (try rw [show ((0 : Int)).toNat = 0 from rfl] at hx142_3); (try rw [show 0 * 5 = 0 from rfl] at hx142_3); (try rw [Addr.add_zero'] at hx142_3); (try rw [show ((0 : Int)).toNat = 0 from rfl] at hx142_4); (try rw [show 0 * 5 = 0 from rfl] at hx142_4); (try rw [Addr.add_zero'] at hx142_4); replace hx142_0 := (HB.out.cell (World.block_lt_of_cell? w _ hx142_0)).trans hx142_0; replace hx142_1 := (HB.out.cell (World.block_lt_of_cell? w _ hx142_1)).trans hx142_1; replace hx142_2 := (HB.out.cell (World.block_lt_of_cell? w _ hx142_2)).trans hx142_2; replace hx142_3 := (HB.out.cell (World.block_lt_of_cell? w _ hx142_3)).trans hx142_3; replace hx142_4 := (HB.out.cell (World.block_lt_of_cell? w _ hx142_4)).trans hx142_4; replace p142 := eq_true p142; replace q142 := eq_true q142)))
      go_loopg [5, 6, 22] k (fun kq v5 v6 v22 w' => ∃ (x5_1 : ByteArray) (x6_1 : ByteArray) (x22_1 : Int), v5 = .string x5_1 ∧ v6 = .string x6_1 ∧ v22 = .int .i64 x22_1 ∧ Aside0 (pick_meet.l0 kq x5_1 x6_1 l1 (l1.length : Int) x22_1 a0_0 a0_1 a0_2 a0_3 a0_4 = some r) ∧ Aside0 (kq ≤ k) ∧ Aside0 (w'.heap[gb140]? = some (.cells #[.int .i64 a0_0, .int .i64 a0_1, .string a0_2, .string a0_3, .int .i64 a0_4] 49 (0, 0))) ∧ Aside0 (Below w.heap.size w w'))
      case atStart => exact ⟨((rd_T49 l1 0).f2), ((rd_T49 l1 0).f3), (0), (by first | rfl | (simp; done) | (simp [*]; done)), (by first | rfl | (simp; done) | (simp [*]; done)), (by first | rfl | (simp; done) | (simp [*]; done)), H', ⟨Nat.le_refl _⟩, ⟨by (with_reducible repeat (first | refine blk_drewN ?_ _ | refine blk_drew ?_ | refine blk_alloc ?_ _)); exact BK140.out⟩, ⟨by repeat (first | (with_reducible first | exact HB.out | apply below_alloc | apply pw_below_drewN | apply below_drew1 | refine below_set ?_ GE140.out) | exact HB.out)⟩⟩
      case round =>
        clear H'
        try clear c1
        try clear p1
        try clear q1
        try clear hx1
        try clear qi1
        try clear c2
        try clear p2
        try clear c3
        try clear c3b0
        try clear c3b1
        try clear c3b2
        try clear c5
        try clear c5b0
        try clear c5b1
        try clear hx141_0
        try clear hx141_1
        try clear hx141_2
        try clear hx141_3
        try clear hx141_4
        try clear hx142_0
        try clear hx142_1
        try clear hx142_2
        try clear hx142_3
        try clear hx142_4
        try clear p141
        try clear p142
        try clear q141
        try clear q142
        obtain ⟨x5_1, x6_1, x22_1, rfl, rfl, rfl, HA, HK1, BK140, HB⟩ := hrel
        cases gk with
        | zero => exact absurd HA.out (by simp [pick_meet.l0])
        | succ k1 =>
          have H := HA.out
          clear HA
          simp only [pick_meet.l0] at H
          by_cases c7 : x22_1 < (l1.length : Int)
          · rw [if_pos c7] at H
            have c7b0 : decide (x22_1 < (l1.length : Int)) = true := decide_eq_true c7
            clear c7
            by_cases c8 : 0 ≤ x22_1
            · rw [if_pos c8] at H
              have c8b0 : decide (0 ≤ x22_1) = true := decide_eq_true c8
              clear c8
              by_cases c9 : x22_1 < (l1.length : Int)
              · rw [if_pos c9] at H
                have c9b0 : decide (x22_1 < (l1.length : Int)) = true := decide_eq_true c9
                clear c9
                have H' := Aside0.mk H
                clear H
                have p143 : 0 ≤ (x22_1 : Int) := of_decide_eq_true (by first | (with_reducible assumption) | assumption)
                have q143 : x22_1 < (l1.length : Int) := of_decide_eq_true (by first | (with_reducible assumption) | assumption)
                obtain ⟨ad143, e143, hx143_0, hx143_1, hx143_2, hx143_3, hx143_4⟩ := at_T49 HR1.out x22_1 p143 q143
                obtain rfl : ad141 = ad143 := (by injection e143)
                replace hx143_0 := (HB.out.cell (World.block_lt_of_cell? w _ hx143_0)).trans hx143_0
                replace hx143_1 := (HB.out.cell (World.block_lt_of_cell? w _ hx143_1)).trans hx143_1
                replace hx143_2 := (HB.out.cell (World.block_lt_of_cell? w _ hx143_2)).trans hx143_2
                replace hx143_3 := (HB.out.cell (World.block_lt_of_cell? w _ hx143_3)).trans hx143_3
                replace hx143_4 := (HB.out.cell (World.block_lt_of_cell? w _ hx143_4)).trans hx143_4
                replace p143 := eq_true p143
                replace q143 := eq_true q143
                go_wp2_with (first | ((with_reducible refine gate_dst (N := 8) rfl ?_); refine box_event ?hg (N := 8) ?hd (cs := #[.int .i64 0, .int .i64 0, .string (⟨#[]⟩ : ByteArray), .string (⟨#[]⟩ : ByteArray), .int .i64 0]) (t := 49) ?hr ?_; (case hd => rfl); (case hg => rfl); (case hr => first | (go_simp; done) | (go_simp; rfl)); intro gb144 hg w10 hbox hb; have n0_ := Aside0.mk (blk_below (g := gb140) (o := .cells #[.int .i64 a0_0, .int .i64 a0_1, .string a0_2, .string a0_3, .int .i64 a0_4] 49 (0, 0)) (by (with_reducible repeat (first | refine blk_drewN ?_ _ | refine blk_drew ?_ | refine blk_alloc ?_ _)); exact BK140.out) hb); have n1_ := Aside0.mk (below_step (by repeat (first | (with_reducible first | exact HB.out | apply below_alloc | apply pw_below_drewN | apply below_drew1 | refine below_set ?_ GE140.out) | exact HB.out)) hb); have n2_ := Aside0.mk (hbox); have n3_ := Aside0.mk ((by rw [hg]; exact (below_size (by repeat (first | (with_reducible first | exact HB.out | apply below_alloc | apply pw_below_drewN | apply below_drew1 | refine below_set ?_ GE140.out) | exact HB.out))) : w.heap.size ≤ gb144)); have n4_ := Aside0.mk ((by rw [hg]; exact (below_size (by repeat (first | (with_reducible first | exact HB.out | apply below_alloc | apply pw_below_drewN | apply below_drew1 | refine below_set ?_ GE140.out) | exact HB.out))) : w.heap.size ≤ gb144)); have n5_ := Aside0.mk ((by rw [hg]; exact Nat.ne_of_lt (blk_lt (g := gb140) (o := .cells #[.int .i64 a0_0, .int .i64 a0_1, .string a0_2, .string a0_3, .int .i64 a0_4] 49 (0, 0)) (by (with_reducible repeat (first | refine blk_drewN ?_ _ | refine blk_drew ?_ | refine blk_alloc ?_ _)); exact BK140.out)) : gb140 ≠ gb144)); have n6_ := Aside0.mk ((by rw [hg]; exact Nat.ne_of_gt (blk_lt (g := gb140) (o := .cells #[.int .i64 a0_0, .int .i64 a0_1, .string a0_2, .string a0_3, .int .i64 a0_4] 49 (0, 0)) (by (with_reducible repeat (first | refine blk_drewN ?_ _ | refine blk_drew ?_ | refine blk_alloc ?_ _)); exact BK140.out)) : gb144 ≠ gb140)); clear BK140; clear HB; have BK140 := n0_; have HB := n1_; have BK144 := n2_; have GW144 := n3_; have GE144 := n4_; have NB140_144 := n5_; have NB144_140 := n6_; clear n0_ n1_ n2_ n3_ n4_ n5_ n6_; clear hb hbox hg; have hnb11 := NB144_140.out; have hnc11 := NB140_144.out; have hcz12_0 : w10.cell? ⟨gb144, 0, none⟩ = some (.int .i64 0) := (blk_cell BK144.out 0).trans rfl; have hcz12_1 : w10.cell? ⟨gb144, 1, none⟩ = some (.int .i64 0) := (blk_cell BK144.out 1).trans rfl; have hcz12_2 : w10.cell? ⟨gb144, 2, none⟩ = some (.string (⟨#[]⟩ : ByteArray)) := (blk_cell BK144.out 2).trans rfl; have hcz12_3 : w10.cell? ⟨gb144, 3, none⟩ = some (.string (⟨#[]⟩ : ByteArray)) := (blk_cell BK144.out 3).trans rfl; have hcz12_4 : w10.cell? ⟨gb144, 4, none⟩ = some (.int .i64 0) := (blk_cell BK144.out 4).trans rfl; have hfz12_0 := blk_frozen BK144.out 0; have hfz12_1 := blk_frozen BK144.out 1; have hfz12_2 := blk_frozen BK144.out 2; have hfz12_3 := blk_frozen BK144.out 3; have hfz12_4 := blk_frozen BK144.out 4))
                repeat (go_quiet (first | ((with_reducible refine gate_dst (N := 8) rfl ?_); refine box_event ?hg (N := 8) ?hd (cs := #[.int .i64 0, .int .i64 0, .string (⟨#[]⟩ : ByteArray), .string (⟨#[]⟩ : ByteArray), .int .i64 0]) (t := 49) ?hr ?_; (case hd => rfl); (case hg => rfl); (case hr => first | (go_simp; done) | (go_simp; rfl)); intro gb144 hg w10 hbox hb; have n0_ := Aside0.mk (blk_below (g := gb140) (o := .cells #[.int .i64 a0_0, .int .i64 a0_1, .string a0_2, .string a0_3, .int .i64 a0_4] 49 (0, 0)) (by (with_reducible repeat (first | refine blk_drewN ?_ _ | refine blk_drew ?_ | refine blk_alloc ?_ _)); exact BK140.out) hb); have n1_ := Aside0.mk (below_step (by repeat (first | (with_reducible first | exact HB.out | apply below_alloc | apply pw_below_drewN | apply below_drew1 | refine below_set ?_ GE140.out) | exact HB.out)) hb); have n2_ := Aside0.mk (hbox); have n3_ := Aside0.mk ((by rw [hg]; exact (below_size (by repeat (first | (with_reducible first | exact HB.out | apply below_alloc | apply pw_below_drewN | apply below_drew1 | refine below_set ?_ GE140.out) | exact HB.out))) : w.heap.size ≤ gb144)); have n4_ := Aside0.mk ((by rw [hg]; exact (below_size (by repeat (first | (with_reducible first | exact HB.out | apply below_alloc | apply pw_below_drewN | apply below_drew1 | refine below_set ?_ GE140.out) | exact HB.out))) : w.heap.size ≤ gb144)); have n5_ := Aside0.mk ((by rw [hg]; exact Nat.ne_of_lt (blk_lt (g := gb140) (o := .cells #[.int .i64 a0_0, .int .i64 a0_1, .string a0_2, .string a0_3, .int .i64 a0_4] 49 (0, 0)) (by (with_reducible repeat (first | refine blk_drewN ?_ _ | refine blk_drew ?_ | refine blk_alloc ?_ _)); exact BK140.out)) : gb140 ≠ gb144)); have n6_ := Aside0.mk ((by rw [hg]; exact Nat.ne_of_gt (blk_lt (g := gb140) (o := .cells #[.int .i64 a0_0, .int .i64 a0_1, .string a0_2, .string a0_3, .int .i64 a0_4] 49 (0, 0)) (by (with_reducible repeat (first | refine blk_drewN ?_ _ | refine blk_drew ?_ | refine blk_alloc ?_ _)); exact BK140.out)) : gb144 ≠ gb140)); clear BK140; clear HB; have BK140 := n0_; have HB := n1_; have BK144 := n2_; have GW144 := n3_; have GE144 := n4_; have NB140_144 := n5_; have NB144_140 := n6_; clear n0_ n1_ n2_ n3_ n4_ n5_ n6_; clear hb hbox hg; have hnb11 := NB144_140.out; have hnc11 := NB140_144.out; have hcz12_0 : w10.cell? ⟨gb144, 0, none⟩ = some (.int .i64 0) := (blk_cell BK144.out 0).trans rfl; have hcz12_1 : w10.cell? ⟨gb144, 1, none⟩ = some (.int .i64 0) := (blk_cell BK144.out 1).trans rfl; have hcz12_2 : w10.cell? ⟨gb144, 2, none⟩ = some (.string (⟨#[]⟩ : ByteArray)) := (blk_cell BK144.out 2).trans rfl; have hcz12_3 : w10.cell? ⟨gb144, 3, none⟩ = some (.string (⟨#[]⟩ : ByteArray)) := (blk_cell BK144.out 3).trans rfl; have hcz12_4 : w10.cell? ⟨gb144, 4, none⟩ = some (.int .i64 0) := (blk_cell BK144.out 4).trans rfl; have hfz12_0 := blk_frozen BK144.out 0; have hfz12_1 := blk_frozen BK144.out 1; have hfz12_2 := blk_frozen BK144.out 2; have hfz12_3 := blk_frozen BK144.out 3; have hfz12_4 := blk_frozen BK144.out 4)); try go_wp2_with (first | ((with_reducible refine gate_dst (N := 8) rfl ?_); refine box_event ?hg (N := 8) ?hd (cs := #[.int .i64 0, .int .i64 0, .string (⟨#[]⟩ : ByteArray), .string (⟨#[]⟩ : ByteArray), .int .i64 0]) (t := 49) ?hr ?_; (case hd => rfl); (case hg => rfl); (case hr => first | (go_simp; done) | (go_simp; rfl)); intro gb144 hg w10 hbox hb; have n0_ := Aside0.mk (blk_below (g := gb140) (o := .cells #[.int .i64 a0_0, .int .i64 a0_1, .string a0_2, .string a0_3, .int .i64 a0_4] 49 (0, 0)) (by (with_reducible repeat (first | refine blk_drewN ?_ _ | refine blk_drew ?_ | refine blk_alloc ?_ _)); exact BK140.out) hb); have n1_ := Aside0.mk (below_step (by repeat (first | (with_reducible first | exact HB.out | apply below_alloc | apply pw_below_drewN | apply below_drew1 | refine below_set ?_ GE140.out) | exact HB.out)) hb); have n2_ := Aside0.mk (hbox); have n3_ := Aside0.mk ((by rw [hg]; exact (below_size (by repeat (first | (with_reducible first | exact HB.out | apply below_alloc | apply pw_below_drewN | apply below_drew1 | refine below_set ?_ GE140.out) | exact HB.out))) : w.heap.size ≤ gb144)); have n4_ := Aside0.mk ((by rw [hg]; exact (below_size (by repeat (first | (with_reducible first | exact HB.out | apply below_alloc | apply pw_below_drewN | apply below_drew1 | refine below_set ?_ GE140.out) | exact HB.out))) : w.heap.size ≤ gb144)); have n5_ := Aside0.mk ((by rw [hg]; exact Nat.ne_of_lt (blk_lt (g := gb140) (o := .cells #[.int .i64 a0_0, .int .i64 a0_1, .string a0_2, .string a0_3, .int .i64 a0_4] 49 (0, 0)) (by (with_reducible repeat (first | refine blk_drewN ?_ _ | refine blk_drew ?_ | refine blk_alloc ?_ _)); exact BK140.out)) : gb140 ≠ gb144)); have n6_ := Aside0.mk ((by rw [hg]; exact Nat.ne_of_gt (blk_lt (g := gb140) (o := .cells #[.int .i64 a0_0, .int .i64 a0_1, .string a0_2, .string a0_3, .int .i64 a0_4] 49 (0, 0)) (by (with_reducible repeat (first | refine blk_drewN ?_ _ | refine blk_drew ?_ | refine blk_alloc ?_ _)); exact BK140.out)) : gb144 ≠ gb140)); clear BK140; clear HB; have BK140 := n0_; have HB := n1_; have BK144 := n2_; have GW144 := n3_; have GE144 := n4_; have NB140_144 := n5_; have NB144_140 := n6_; clear n0_ n1_ n2_ n3_ n4_ n5_ n6_; clear hb hbox hg; have hnb11 := NB144_140.out; have hnc11 := NB140_144.out; have hcz12_0 : w10.cell? ⟨gb144, 0, none⟩ = some (.int .i64 0) := (blk_cell BK144.out 0).trans rfl; have hcz12_1 : w10.cell? ⟨gb144, 1, none⟩ = some (.int .i64 0) := (blk_cell BK144.out 1).trans rfl; have hcz12_2 : w10.cell? ⟨gb144, 2, none⟩ = some (.string (⟨#[]⟩ : ByteArray)) := (blk_cell BK144.out 2).trans rfl; have hcz12_3 : w10.cell? ⟨gb144, 3, none⟩ = some (.string (⟨#[]⟩ : ByteArray)) := (blk_cell BK144.out 3).trans rfl; have hcz12_4 : w10.cell? ⟨gb144, 4, none⟩ = some (.int .i64 0) := (blk_cell BK144.out 4).trans rfl; have hfz12_0 := blk_frozen BK144.out 0; have hfz12_1 := blk_frozen BK144.out 1; have hfz12_2 := blk_frozen BK144.out 2; have hfz12_3 := blk_frozen BK144.out 3; have hfz12_4 := blk_frozen BK144.out 4)))
                go_roundg k1
                case measure => have := HK1.out; omega
                case rel => exact ⟨(minB x5_1 ((rd_T49 l1 x22_1).f2)), (maxB x6_1 ((rd_T49 l1 x22_1).f3)), (wrap64 (x22_1 + 1)), (by first | rfl | (simp; done) | (simp [*]; done)), (by first | rfl | (simp; done) | (simp [*]; done)), (by first | rfl | (simp; done) | (simp [*]; done)), H', ⟨by have := HK1.out; omega⟩, ⟨by (with_reducible repeat (first | refine blk_drewN ?_ _ | refine blk_drew ?_ | refine blk_alloc ?_ _)); refine blk_far ?_ NB140_144.out _; (with_reducible repeat (first | refine blk_drewN ?_ _ | refine blk_drew ?_ | refine blk_alloc ?_ _)); refine blk_far ?_ NB140_144.out _; (with_reducible repeat (first | refine blk_drewN ?_ _ | refine blk_drew ?_ | refine blk_alloc ?_ _)); refine blk_far ?_ NB140_144.out _; (with_reducible repeat (first | refine blk_drewN ?_ _ | refine blk_drew ?_ | refine blk_alloc ?_ _)); refine blk_far ?_ NB140_144.out _; (with_reducible repeat (first | refine blk_drewN ?_ _ | refine blk_drew ?_ | refine blk_alloc ?_ _)); refine blk_far ?_ NB140_144.out _; (with_reducible repeat (first | refine blk_drewN ?_ _ | refine blk_drew ?_ | refine blk_alloc ?_ _)); exact BK140.out⟩, ⟨by repeat (first | (with_reducible first | exact HB.out | apply below_alloc | apply pw_below_drewN | apply below_drew1 | refine below_set ?_ GE140.out | refine below_set ?_ GE144.out) | exact HB.out)⟩⟩
              · rw [if_neg c9] at H
                exact absurd H (by simp)
            · rw [if_neg c8] at H
              exact absurd H (by simp)
          · rw [if_neg c7] at H
            have c7b0 : decide (x22_1 < (l1.length : Int)) = false := decide_eq_false c7
            clear c7
            by_cases c13 : ((Op.bytesLess x6_1.toList a0_2.toList) = true)
            · rw [if_pos c13] at H
              have c13b0 : (Op.bytesLess x6_1.toList a0_2.toList) = true := c13
              clear c13
              obtain rfl := Option.some.inj H
              have hcz14_0 : wr.cell? ⟨gb140, 0, none⟩ = some (.int .i64 a0_0) := (blk_cell BK140.out 0).trans rfl
              have hcz14_1 : wr.cell? ⟨gb140, 1, none⟩ = some (.int .i64 a0_1) := (blk_cell BK140.out 1).trans rfl
              have hcz14_2 : wr.cell? ⟨gb140, 2, none⟩ = some (.string a0_2) := (blk_cell BK140.out 2).trans rfl
              have hcz14_3 : wr.cell? ⟨gb140, 3, none⟩ = some (.string a0_3) := (blk_cell BK140.out 3).trans rfl
              have hcz14_4 : wr.cell? ⟨gb140, 4, none⟩ = some (.int .i64 a0_4) := (blk_cell BK140.out 4).trans rfl
              have hfz14_0 := blk_frozen BK140.out 0
              have hfz14_1 := blk_frozen BK140.out 1
              have hfz14_2 := blk_frozen BK140.out 2
              have hfz14_3 := blk_frozen BK140.out 3
              have hfz14_4 := blk_frozen BK140.out 4
              go_wp2
              repeat (go_quiet (fail); try go_wp2)
              go_ret
              exact ⟨by first | rfl | (simp [errW_none, errW_some] <;> rfl) | (simp [*, errW_none, errW_some] <;> rfl), by repeat (first | (with_reducible first | exact HB.out | apply below_alloc | apply pw_below_drewN | apply below_drew1 | refine below_set ?_ GE140.out) | exact HB.out)⟩
            · rw [if_neg c13] at H
              have c13b0 : (Op.bytesLess x6_1.toList a0_2.toList) = false := by simpa using c13
              clear c13
              obtain rfl := Option.some.inj H
              have hcz15_0 : wr.cell? ⟨gb140, 0, none⟩ = some (.int .i64 a0_0) := (blk_cell BK140.out 0).trans rfl
              have hcz15_1 : wr.cell? ⟨gb140, 1, none⟩ = some (.int .i64 a0_1) := (blk_cell BK140.out 1).trans rfl
              have hcz15_2 : wr.cell? ⟨gb140, 2, none⟩ = some (.string a0_2) := (blk_cell BK140.out 2).trans rfl
              have hcz15_3 : wr.cell? ⟨gb140, 3, none⟩ = some (.string a0_3) := (blk_cell BK140.out 3).trans rfl
              have hcz15_4 : wr.cell? ⟨gb140, 4, none⟩ = some (.int .i64 a0_4) := (blk_cell BK140.out 4).trans rfl
              have hfz15_0 := blk_frozen BK140.out 0
              have hfz15_1 := blk_frozen BK140.out 1
              have hfz15_2 := blk_frozen BK140.out 2
              have hfz15_3 := blk_frozen BK140.out 3
              have hfz15_4 := blk_frozen BK140.out 4
              go_wp2
              repeat (go_quiet (fail); try go_wp2)
              go_ret
              exact ⟨by first | rfl | (simp [errW_none, errW_some] <;> rfl) | (simp [*, errW_none, errW_some] <;> rfl), by repeat (first | (with_reducible first | exact HB.out | apply below_alloc | apply pw_below_drewN | apply below_drew1 | refine below_set ?_ GE140.out) | exact HB.out)⟩
    · rw [if_neg c5] at H
      exact absurd H (by simp)

end Go.Proofs.Ytepgnefkpjnmlaa.PD

-- printed by gprint.py (own tool) over the kit's print
namespace Go.Proofs.Ytepgnefkpjnmlaa.PD
open Go.RowKit Go.Proofs.Ytepgnefkpjnmlaa Go.Proofs.YtepgnefkpjnmlaaW.PrintWords Go.Proofs.YtepgnefkpjnmlaaW.PrintLast Go.Proofs.YtepgnefkpjnmlaaW.PrintMore
attribute [local go_sem] max2_int min2_int max_two min_two max_three min_three max_four min_four   -- for this text's walks alone
set_option linter.unnecessarySimpa false
attribute [local go_sem] min2_str max2_str leq_str gtr_str geq_str
set_option linter.unusedVariables false
set_option linter.unusedSimpArgs false

/-! ### pick_ids: function 24 -/
def pick_ids.l0 : Nat → List Int → List (S49) → Int → Int → Option (List Int)
  | 0, _, _, _, _ => none
  | k + 1, x3, x6, x7, x8 => if x8 < x7 then (if 0 ≤ x8 then (if x8 < (x6.length : Int) then (if x3.length < 17592186044416 then (pick_ids.l0 k (x3 ++ [(rd_T49 x6 x8).f0]) x6 x7 (wrap64 (x8 + 1))) else (none)) else (none)) else (none)) else (some x3)
def pick_ids.f (k : Nat) (l0 : List (S49)) : Option (List Int) := pick_ids.l0 k ([] : List Int) l0 (l0.length : Int) 0
theorem pick_ids.mono_l : ∀ k, (∀ y0 y1 y2 y3, LeO (pick_ids.l0 k y0 y1 y2 y3) (pick_ids.l0 (k + 1) y0 y1 y2 y3))
  | 0 => fun _ _ _ _ r h => by simp [pick_ids.l0] at h
  | k + 1 => by
    have ih0 := pick_ids.mono_l k
    · intro y0 y1 y2 y3
      unfold pick_ids.l0
      repeat' first
      | (with_reducible exact ih0 _ _ _ _)
      | (with_reducible exact LeO.refl _)
      | (with_reducible exact LeO.none _)
      | (with_reducible refine LeO.ite ?_ ?_)
      | (with_reducible refine LeO.bind ?_ (fun _ => ?_))
      | exact ih0 _ _ _ _
      | exact LeO.none _
      | refine LeO.ite ?_ ?_
      | refine LeO.bind ?_ (fun _ => ?_)
theorem pick_ids.mono : ∀ a0 k, LeO (pick_ids.f k a0) (pick_ids.f (k + 1) a0) := by
  intro a0 k
  have ih0 := pick_ids.mono_l k
  unfold pick_ids.f
  repeat' first
      | (with_reducible exact ih0 _ _ _ _)
      | (with_reducible exact LeO.refl _)
      | (with_reducible exact LeO.none _)
      | (with_reducible refine LeO.ite ?_ ?_)
      | (with_reducible refine LeO.bind ?_ (fun _ => ?_))
      | exact ih0 _ _ _ _
      | exact LeO.none _
      | refine LeO.ite ?_ ?_
      | refine LeO.bind ?_ (fun _ => ?_)
set_option maxHeartbeats 8000000 in
set_option maxRecDepth 100000 in
theorem pick_ids.calls (k : Nat) (A0 : Option Addr) (c0 : Nat) (l0 : List (S49)) (r : List Int) (w : World) (hr0 : Kd.C k49 w A0 l0.length l0) (hc0 : l0.length ≤ c0) (h : pick_ids.f k l0 = some r) :
    Calls Try.prog 24 #[.slice A0 l0.length c0] w fun e w' => ∃ v0_ : Value, e = .returned (v0_) ∧ Kd.R (Kd.int .i64) 3 w' w.heap.size (fun _ => True) v0_ r ∧ Below w.heap.size w w' := by
  have hu49 := Try.underlying49
  have HR0 := Aside0.mk hr0
  have HC0 := Aside0.mk hc0
  clear hr0 hc0
  have HB := Aside0.mk (Below.refl w.heap.size w)
  have H : (pick_ids.l0 k ([] : List Int) l0 (l0.length : Int) 0) = some r := h
  clear h
  have H' := Aside0.mk H
  clear H
  go_enter Try.func24, Try.ntmps24
  go_wp2
  go_loopg [3, 8] k (fun kq v3 v8 w' => ∃ (x3_1 : List Int) (x8_1 : Int), v8 = .int .i64 x8_1 ∧ Aside0 (pick_ids.l0 kq x3_1 l0 (l0.length : Int) x8_1 = some r) ∧ Aside0 (kq ≤ k) ∧ Aside0 (Kd.R (Kd.int .i64) 3 w' w.heap.size (fun _ => True) v3 x3_1) ∧ Aside0 (Below w.heap.size w w'))
  case atStart => exact ⟨(([] : List Int)), (0), (by first | rfl | (simp; done) | (simp [*]; done)), H', ⟨Nat.le_refl _⟩, ⟨by first | exact Kd.R_nil _ _ _ _ _ | exact Kd.N_nil _ _ _ _ _ | exact Kd.V_nil _ _ _ _ _ | exact Kd.Q_nil _ _ _ _ _ | exact Kd.S_nil _ _ _ _ _⟩, ⟨by repeat (first | (with_reducible first | exact HB.out | apply below_alloc | apply pw_below_drewN | apply below_drew1) | exact HB.out)⟩⟩
  case round =>
    clear H'
    obtain ⟨x3_1, x8_1, rfl, HA, HK1, HO_3, HB⟩ := hrel
    cases gk with
    | zero => exact absurd HA.out (by simp [pick_ids.l0])
    | succ k1 =>
      have H := HA.out
      clear HA
      simp only [pick_ids.l0] at H
      by_cases c2 : x8_1 < (l0.length : Int)
      · rw [if_pos c2] at H
        have c2b0 : decide (x8_1 < (l0.length : Int)) = true := decide_eq_true c2
        clear c2
        by_cases c3 : 0 ≤ x8_1
        · rw [if_pos c3] at H
          have c3b0 : decide (0 ≤ x8_1) = true := decide_eq_true c3
          clear c3
          by_cases c4 : x8_1 < (l0.length : Int)
          · rw [if_pos c4] at H
            have c4b0 : decide (x8_1 < (l0.length : Int)) = true := decide_eq_true c4
            clear c4
            by_cases c5 : x3_1.length < 17592186044416
            · rw [if_pos c5] at H
              have LMc5 := Aside0.mk c5
              clear c5
              obtain ⟨y147, hy147⟩ : ∃ y_ : List Int, y_ = (x3_1 ++ [(rd_T49 l0 x8_1).f0]) := ⟨_, rfl⟩
              replace H : (pick_ids.l0 k1 y147 l0 (l0.length : Int) (wrap64 (x8_1 + 1))) = some r := by first | (rw [hy147]; with_reducible exact H) | (have H2_ := (Option.bind_some _ _).symm.trans H; rw [hy147]; with_reducible exact H2_) | (have H2_ := (Option.bind_some _ _).symm.trans H; with_reducible exact H2_) | with_reducible exact H | (rw [hy147]; exact H) | exact H
              have Ny147 := Aside0.mk hy147
              clear hy147
              have H' := Aside0.mk H
              clear H
              have p145 : 0 ≤ (x8_1 : Int) := of_decide_eq_true (by first | (with_reducible assumption) | assumption)
              have q145 : x8_1 < (l0.length : Int) := of_decide_eq_true (by first | (with_reducible assumption) | assumption)
              obtain ⟨ad145, e145, hx145_0, hx145_1, hx145_2, hx145_3, hx145_4⟩ := at_T49 HR0.out x8_1 p145 q145
              cases e145
              replace hx145_0 := (HB.out.cell (World.block_lt_of_cell? w _ hx145_0)).trans hx145_0
              replace hx145_1 := (HB.out.cell (World.block_lt_of_cell? w _ hx145_1)).trans hx145_1
              replace hx145_2 := (HB.out.cell (World.block_lt_of_cell? w _ hx145_2)).trans hx145_2
              replace hx145_3 := (HB.out.cell (World.block_lt_of_cell? w _ hx145_3)).trans hx145_3
              replace hx145_4 := (HB.out.cell (World.block_lt_of_cell? w _ hx145_4)).trans hx145_4
              replace p145 := eq_true p145
              replace q145 := eq_true q145
              go_wp2_with (first | ((with_reducible refine gate_dst (N := 5) rfl ?_); refine box_event ?hg (N := 5) ?hd (cs := #[.int .i64 0, .int .i64 0, .string (⟨#[]⟩ : ByteArray), .string (⟨#[]⟩ : ByteArray), .int .i64 0]) (t := 49) ?hr ?_; (case hd => rfl); (case hg => rfl); (case hr => first | (go_simp; done) | (go_simp; rfl)); intro gb146 hg w6 hbox hb; have n0_ := Aside0.mk (Kd.R_below (by (with_reducible repeat (first | apply Kd.R_alloc | apply Kd.R_drewN | apply Kd.R_drew)); exact HO_3.out) hb); have n1_ := Aside0.mk (below_step (by repeat (first | (with_reducible first | exact HB.out | apply below_alloc | apply pw_below_drewN | apply below_drew1) | exact HB.out)) hb); have n2_ := Aside0.mk (hbox); have n3_ := Aside0.mk ((by rw [hg]; exact (below_size (by repeat (first | (with_reducible first | exact HB.out | apply below_alloc | apply pw_below_drewN | apply below_drew1) | exact HB.out))) : w.heap.size ≤ gb146)); have n4_ := Aside0.mk ((by rw [hg]; exact (below_size (by repeat (first | (with_reducible first | exact HB.out | apply below_alloc | apply pw_below_drewN | apply below_drew1) | exact HB.out))) : w.heap.size ≤ gb146)); clear HO_3; clear HB; have HO_3 := n0_; have HB := n1_; have BK146 := n2_; have GW146 := n3_; have GE146 := n4_; clear n0_ n1_ n2_ n3_ n4_; clear hb hbox hg; have hcz7_0 : w6.cell? ⟨gb146, 0, none⟩ = some (.int .i64 0) := (blk_cell BK146.out 0).trans rfl; have hcz7_1 : w6.cell? ⟨gb146, 1, none⟩ = some (.int .i64 0) := (blk_cell BK146.out 1).trans rfl; have hcz7_2 : w6.cell? ⟨gb146, 2, none⟩ = some (.string (⟨#[]⟩ : ByteArray)) := (blk_cell BK146.out 2).trans rfl; have hcz7_3 : w6.cell? ⟨gb146, 3, none⟩ = some (.string (⟨#[]⟩ : ByteArray)) := (blk_cell BK146.out 3).trans rfl; have hcz7_4 : w6.cell? ⟨gb146, 4, none⟩ = some (.int .i64 0) := (blk_cell BK146.out 4).trans rfl; have hfz7_0 := blk_frozen BK146.out 0; have hfz7_1 := blk_frozen BK146.out 1; have hfz7_2 := blk_frozen BK146.out 2; have hfz7_3 := blk_frozen BK146.out 3; have hfz7_4 := blk_frozen BK146.out 4) | ((with_reducible refine gate_builtin (b := .append) (xs := #[.tmp 12, .tmp 15]) rfl ?_); at_builtin; refine Kd.R_append (Kd.int .i64) (w0 := w) w.heap.size rfl (.tmp 12) (.tmp 15) 23 3 (.int .i64 0) 8 rfl Try.underlying23 info3 rfl (by decide) (by omega) u3 x3_1 ((rd_T49 l0 x8_1).f0) [.int .i64 ((rd_T49 l0 x8_1).f0)] (fun _ => True) (fun _ => False) rfl (by first | (go_simp; done) | (go_simp; rfl)) ?aP (fun _ hk => hk.elim) ?aF ?aO ?aB ?aS ?aL ?_; (case aP => exact rfl); (case aB => exact (by repeat (first | (with_reducible first | exact HB.out | apply below_alloc | apply pw_below_drewN | apply below_drew1 | refine below_set ?_ GE146.out) | exact HB.out))); (case aF => exact (fun _ _ => trivial)); (case aO => exact (by (with_reducible repeat (first | apply Kd.R_alloc | apply Kd.R_drewN | apply Kd.R_drew)); exact Kd.R_mono (Kd.R_far (p := ⟨gb146, 4, none⟩) (Kd.R_far (p := ⟨gb146, 3, none⟩) (Kd.R_far (p := ⟨gb146, 2, none⟩) (Kd.R_far (p := ⟨gb146, 1, none⟩) (Kd.R_far (p := ⟨gb146, 0, none⟩) (Kd.R_types HO_3.out BK146.out (by decide)) (fun _ hk => hk.2) (.int .i64 ((rd_T49 l0 x8_1).f0))) (fun _ hk => hk.2) (.int .i64 ((rd_T49 l0 x8_1).f1))) (fun _ hk => hk.2) (.string ((rd_T49 l0 x8_1).f2))) (fun _ hk => hk.2) (.string ((rd_T49 l0 x8_1).f3))) (fun _ hk => hk.2) (.int .i64 ((rd_T49 l0 x8_1).f4))) (fun _ hk => trivial))); (case aS => exact (below_size (by repeat (first | (with_reducible first | exact HB.out | apply below_alloc | apply pw_below_drewN | apply below_drew1 | refine below_set ?_ GE146.out) | exact HB.out)))); (case aL => have := LMc5.out; omega); intro v148 w8 ho hb hg hat; rw [← Ny147.out] at ho; have n0_ := Aside0.mk (blk_grown (g := gb146) (o := .cells #[.int .i64 ((rd_T49 l0 x8_1).f0), .int .i64 ((rd_T49 l0 x8_1).f1), .string ((rd_T49 l0 x8_1).f2), .string ((rd_T49 l0 x8_1).f3), .int .i64 ((rd_T49 l0 x8_1).f4)] 49 (0, 0)) (by (with_reducible repeat (first | refine blk_drewN ?_ _ | refine blk_drew ?_ | refine blk_alloc ?_ _)); refine blk_put (cs := #[.int .i64 ((rd_T49 l0 x8_1).f0), .int .i64 ((rd_T49 l0 x8_1).f1), .string ((rd_T49 l0 x8_1).f2), .string ((rd_T49 l0 x8_1).f3), .int .i64 0]) ?_ 4 _ rfl; (with_reducible repeat (first | refine blk_drewN ?_ _ | refine blk_drew ?_ | refine blk_alloc ?_ _)); refine blk_put (cs := #[.int .i64 ((rd_T49 l0 x8_1).f0), .int .i64 ((rd_T49 l0 x8_1).f1), .string ((rd_T49 l0 x8_1).f2), .string (⟨#[]⟩ : ByteArray), .int .i64 0]) ?_ 3 _ rfl; (with_reducible repeat (first | refine blk_drewN ?_ _ | refine blk_drew ?_ | refine blk_alloc ?_ _)); refine blk_put (cs := #[.int .i64 ((rd_T49 l0 x8_1).f0), .int .i64 ((rd_T49 l0 x8_1).f1), .string (⟨#[]⟩ : ByteArray), .string (⟨#[]⟩ : ByteArray), .int .i64 0]) ?_ 2 _ rfl; (with_reducible repeat (first | refine blk_drewN ?_ _ | refine blk_drew ?_ | refine blk_alloc ?_ _)); refine blk_put (cs := #[.int .i64 ((rd_T49 l0 x8_1).f0), .int .i64 0, .string (⟨#[]⟩ : ByteArray), .string (⟨#[]⟩ : ByteArray), .int .i64 0]) ?_ 1 _ rfl; (with_reducible repeat (first | refine blk_drewN ?_ _ | refine blk_drew ?_ | refine blk_alloc ?_ _)); refine blk_put (cs := #[.int .i64 0, .int .i64 0, .string (⟨#[]⟩ : ByteArray), .string (⟨#[]⟩ : ByteArray), .int .i64 0]) ?_ 0 _ rfl; (with_reducible repeat (first | refine blk_drewN ?_ _ | refine blk_drew ?_ | refine blk_alloc ?_ _)); exact BK146.out) hg (Kd.R_ne HO_3.out BK146.out (by decide))); have n1_ := Aside0.mk (hb); have n2_ := Aside0.mk (ho); clear BK146; clear HB; clear HO_3; have BK146 := n0_; have HB := n1_; have HO149 := n2_; clear n0_ n1_ n2_; clear ho hb hg hat))
              go_roundg k1
              case measure => have := HK1.out; omega
              case rel => exact ⟨(y147), (wrap64 (x8_1 + 1)), (by first | rfl | (simp; done) | (simp [*]; done)), H', ⟨by have := HK1.out; omega⟩, ⟨by (with_reducible repeat (first | apply Kd.R_alloc | apply Kd.R_drewN | apply Kd.R_drew)); exact HO149.out⟩, ⟨by repeat (first | (with_reducible first | exact HB.out | apply below_alloc | apply pw_below_drewN | apply below_drew1 | refine below_set ?_ GE146.out) | exact HB.out)⟩⟩
            · rw [if_neg c5] at H
              exact absurd H (by simp)
          · rw [if_neg c4] at H
            exact absurd H (by simp)
        · rw [if_neg c3] at H
          exact absurd H (by simp)
      · rw [if_neg c2] at H
        have c2b0 : decide (x8_1 < (l0.length : Int)) = false := decide_eq_false c2
        clear c2
        obtain rfl := Option.some.inj H
        go_wp2
        go_ret
        exact ⟨_, by first | rfl | (simp [errW_none, errW_some] <;> rfl) | (simp [*, errW_none, errW_some] <;> rfl), by (with_reducible repeat (first | apply Kd.R_alloc | apply Kd.R_drewN | apply Kd.R_drew)); exact HO_3.out, by repeat (first | (with_reducible first | exact HB.out | apply below_alloc | apply pw_below_drewN | apply below_drew1) | exact HB.out)⟩

end Go.Proofs.Ytepgnefkpjnmlaa.PD

-- printed by gprint.py (own tool) over the kit's print
namespace Go.Proofs.Ytepgnefkpjnmlaa.PD
open Go.RowKit Go.Proofs.Ytepgnefkpjnmlaa Go.Proofs.YtepgnefkpjnmlaaW.PrintWords Go.Proofs.YtepgnefkpjnmlaaW.PrintLast Go.Proofs.YtepgnefkpjnmlaaW.PrintMore
attribute [local go_sem] max2_int min2_int max_two min_two max_three min_three max_four min_four   -- for this text's walks alone
set_option linter.unnecessarySimpa false
attribute [local go_sem] min2_str max2_str leq_str gtr_str geq_str
set_option linter.unusedVariables false
set_option linter.unusedSimpArgs false

/-! ### api_Meta_25: function 25 -/
/-- An element of a row of rows. -/
theorem api_Meta_25.at_ {w : World} {A : Option Addr} {n : Nat} {xs : List (List (S49))} (h : Kd.C (Kd.slice 49 k49) w A n xs) (k : Nat) (hk : k < xs.length) :
    ∃ ad Ai ci, A = some ad ∧ w.cell? (ad.add k) = some (.slice Ai (xs.getD k []).length ci) ∧ (xs.getD k []).length ≤ ci ∧ Kd.C k49 w Ai (xs.getD k []).length (xs.getD k []) := by
  obtain ⟨ad, c, rfl, _, ⟨Ai, ci, rfl, h1, h2⟩, hc⟩ := Kd.C_get h ([] : List (S49)) (k : Int) (by omega) (by have := h.1; omega)
  refine ⟨ad, Ai, ci, rfl, ?_, by simpa using h1, by simpa using h2⟩
  have := hc 0 _ rfl
  have hs : ((Kd.slice 49 k49)).sz = 1 := rfl
  simpa [hs] using this
theorem api_Meta_25.grow_ (n : Nat) (w : World) (hn : n < 2513169434916) :
    Calls Try.prog 36 #[.slice none 0 0, .int .i64 n] w fun e w' => ∃ v0_ : Value, e = .returned (v0_) ∧ Kd.R k49 49 w' w.heap.size (fun _ => True) v0_ [] ∧ Below w.heap.size w w' := by
  by_cases h0 : n = 0
  · subst h0
    go_enter Try.func36, Try.ntmps36
    go_wp2
    go_ret
    exact ⟨_, rfl, Kd.R_nil _ _ _ _ _, Below.refl _ _⟩
  · have h1 : (0 : Int) < n := by omega
    go_enter Try.func36, Try.ntmps36
    go_wp2_with ((with_reducible refine gate_builtin (b := .append) (xs := #[.tmp 20, .tmp 21]) rfl ?_); refine Kd.R_append_zeros k49 (w0 := w) w.heap.size rfl (.tmp 20) (.tmp 21) 22 3 49 (.agg #[(.int .i64 0), (.int .i64 0), (.string ⟨#[]⟩), (.string ⟨#[]⟩), (.int .i64 0)]) 56 rfl Try.underlying22 Try.underlying3 info49 rfl (by decide) (by omega) _ [] z49 (n : Int) (fun _ => True) rfl rfl ?aZ ?aF ?aO ?aN ?aB ?aS ?aL ?_; (case aZ => first | exact k49_mkM _ _ _ _ | rfl); (case aF => exact fun _ _ => trivial); (case aO => exact Kd.R_nil _ _ _ _ _); (case aN => omega); (case aB => exact Below.refl _ _); (case aS => exact Nat.le_refl _); (case aL => simp; omega); intro v1 w1 ho hb hg hat; obtain ⟨A1, c1, rfl, hc1, _⟩ := Kd.R_reads ho; have HO := Aside0.mk (Kd.R_take (m := 0) ho (Nat.zero_le _)); have HB := Aside0.mk hb; clear ho hb hg hat)
    go_ret
    exact ⟨_, rfl, HO.out, HB.out⟩
def api_Meta_25.f (l0 : List (List (S49))) : Option (List (S49)) := if l0.flatten.length < 2513169434916 then some l0.flatten else none
set_option maxHeartbeats 1000000 in
theorem api_Meta_25.calls (A0 : Option Addr) (c0 : Nat) (l0 : List (List (S49))) (r : (List (S49))) (w : World) (hr0 : Kd.C (Kd.slice 49 k49) w A0 l0.length l0) (hc0 : l0.length ≤ c0) (h : api_Meta_25.f l0 = some r) :
    Calls Try.prog 25 #[.slice A0 l0.length c0] w fun e w' => ∃ v0_ : Value, e = .returned (v0_) ∧ Kd.R k49 49 w' w.heap.size (fun _ => True) v0_ r ∧ Below w.heap.size w w' := by
  obtain ⟨hlim, rfl⟩ : l0.flatten.length < 2513169434916 ∧ l0.flatten = r := by
    unfold api_Meta_25.f at h
    split at h
    · rename_i hl; exact ⟨hl, Option.some.inj h⟩
    · cases h
  clear h
  have hmost := hr0.2.1
  have HR := Aside0.mk hr0
  have hsum : ∀ k, (l0.take k).flatten.length ≤ l0.flatten.length := fun k => by
    have e : l0.flatten = (l0.take k).flatten ++ (l0.drop k).flatten := by rw [← List.flatten_append, List.take_append_drop]
    rw [e, List.length_append]
    omega
  have hstep : ∀ k, k < l0.length → (l0.take (k + 1)).flatten = (l0.take k).flatten ++ l0.getD k [] := fun k hk => by
    rw [List.take_succ_eq_append_getElem hk, List.flatten_append]
    simp [List.getD, hk]
  have HS := Aside0.mk hsum; have HST := Aside0.mk hstep; have HL := Aside0.mk hlim
  clear hr0 hsum hstep hlim hc0
  go_enter Try.func25, Try.ntmps25
  go_wp2_with fail
  go_loop [3, 11] (fun n i => ∃ k : Nat, k ≤ l0.length ∧ i = .int .i64 k ∧ n = .int .i64 ((l0.take k).flatten.length : Nat)) (fun _ i => l0.length - (intOf i).toNat)
  case atStart => exact ⟨0, Nat.zero_le _, rfl, by simp⟩
  case round =>
    obtain ⟨k, hk, rfl, rfl⟩ := hrel
    by_cases hlt : k < l0.length
    · obtain ⟨ad, Ai, ci, rfl, hcell, hci, _⟩ := api_Meta_25.at_ HR.out k hlt
      have e1 := HST.out k hlt
      have e2 := HS.out (k + 1)
      have e3 := HL.out
      rw [e1, List.length_append] at e2
      have E1 := Aside0.mk (congrArg List.length e1)
      clear e1
      rw [List.length_append] at E1
      generalize (l0.take k).flatten.length = s at *
      generalize (l0.getD k []).length = m at *
      generalize l0.flatten.length = tot at *
      go_wp2
      have h1 := E1.out
      refine ⟨⟨k + 1, by omega, by go_num, by rw [h1]; go_num⟩, by simp [intOf]; omega⟩
    · obtain rfl : k = l0.length := by omega
      have hn := HL.out
      rw [List.take_length]
      obtain ⟨n, hn0⟩ : ∃ n : Nat, n = l0.flatten.length := ⟨_, rfl⟩
      rw [← hn0] at hn ⊢
      have HN := Aside0.mk hn0
      clear hn0
      go_wp2_with (go_at_call 36; refine (api_Meta_25.grow_ n _ hn).mono ?_; rintro e w1 ⟨v, rfl, hv, hb⟩; have HV := Aside0.mk hv; have HB := Aside0.mk hb; clear hv hb)
      go_loopw [6, 27] (fun u i wr => ∃ k : Nat, k ≤ l0.length ∧ i = .int .i64 k ∧ Aside0 (Kd.R k49 49 wr w.heap.size (fun _ => True) u (l0.take k).flatten) ∧ Aside0 (Below w.heap.size w wr)) (fun _ i _ => l0.length - (intOf i).toNat)
      case atStart => exact ⟨0, Nat.zero_le _, rfl, by simpa using HV, HB⟩
      case round =>
        clear HV HB
        obtain ⟨k, hk, rfl, HV, HB⟩ := hrel
        by_cases hlt : k < l0.length
        · obtain ⟨ad, Ai, ci, rfl, hcell, hci, hrow⟩ := api_Meta_25.at_ (Kd.C_below HR.out HB.out) k hlt
          have hl : (l0.take k).flatten.length + (l0.getD k []).length < 2513169434916 := by
            have e1 := HST.out k hlt; have e2 := HS.out (k + 1); have e3 := HL.out
            rw [e1, List.length_append] at e2; omega
          have h1 := HST.out k hlt
          obtain ⟨x, hx⟩ : ∃ x : (List (S49)), x = l0.getD k [] := ⟨_, rfl⟩
          rw [← hx] at hcell hci hrow hl h1
          obtain ⟨y, hy⟩ : ∃ y : (List (S49)), y = (l0.take k).flatten := ⟨_, rfl⟩
          rw [← hy] at hl h1 HV
          have HW := Aside0.mk hrow
          have HLL := Aside0.mk hl
          have H1 := Aside0.mk h1
          clear hrow hl hci h1 hx hy
          go_wp2_with ((with_reducible refine gate_builtin (b := .append) (xs := #[.tmp 31, .tmp 32]) rfl ?_); refine Kd.R_append_rows k49 (w0 := w) w.heap.size rfl (.tmp 31) (.tmp 32) 22 49 (.agg #[(.int .i64 0), (.int .i64 0), (.string ⟨#[]⟩), (.string ⟨#[]⟩), (.int .i64 0)]) 56 rfl Try.underlying22 info49 rfl (by decide) (by omega) _ y x _ _ _ (fun _ => True) (fun _ => False) rfl rfl ?aO ?aR (fun _ _ h => h) (fun _ h => h.elim) ?aF ?aB ?aS ?aL ?_; (case aO => exact HV.out); (case aR => exact HW.out); (case aF => exact fun _ _ => trivial); (case aB => exact HB.out); (case aS => exact HB.out.size); (case aL => have := HLL.out; omega); intro v1 w2 ho hb hg hat; have HO := Aside0.mk ho; clear HB; have HB := Aside0.mk hb; clear ho hb hg hat)
          refine ⟨⟨k + 1, by omega, by go_num, ⟨by rw [H1.out]; exact HO.out⟩, HB⟩, by simp [intOf]; omega⟩
        · obtain rfl : k = l0.length := by omega
          have HV2 := HV.out
          rw [List.take_length] at HV2
          have HV3 := Aside0.mk HV2
          clear HV2 HV
          go_wp2
          go_ret
          exact ⟨_, rfl, HV3.out, HB.out⟩


end Go.Proofs.Ytepgnefkpjnmlaa.PD

-- printed by gprint.py (own tool) over the kit's print
namespace Go.Proofs.Ytepgnefkpjnmlaa.PD
open Go.RowKit Go.Proofs.Ytepgnefkpjnmlaa Go.Proofs.YtepgnefkpjnmlaaW.PrintWords Go.Proofs.YtepgnefkpjnmlaaW.PrintLast Go.Proofs.YtepgnefkpjnmlaaW.PrintMore
attribute [local go_sem] max2_int min2_int max_two min_two max_three min_three max_four min_four   -- for this text's walks alone
set_option linter.unnecessarySimpa false
attribute [local go_sem] min2_str max2_str leq_str gtr_str geq_str
set_option linter.unusedVariables false
set_option linter.unusedSimpArgs false

/-! ### pick_Pick: function 9 -/
/-- A table against the keys of some. -/
def pick_Pick.lo (l : List S49) (x : ByteArray) : ByteArray := l.foldl (fun a y => minB a y.f2) x
def pick_Pick.hi (l : List S49) (x : ByteArray) : ByteArray := l.foldl (fun a y => maxB a y.f3) x
def pick_Pick.meetB (l : List S49) (m : S49) : Bool :=
  match l with
  | [] => false
  | x :: _ => !(Op.bytesLess (pick_Pick.hi l x.f3).toList m.f2.toList) && !(Op.bytesLess m.f3.toList (pick_Pick.lo l x.f2).toList)
theorem pick_Pick.meet_loop (L : List S49) (m : S49) (hL : L.length < 1099511627776) (d : Nat) : ∀ (k i : Nat) (a b : ByteArray), d = L.length - i → i ≤ L.length → d < k →
    pick_meet.l0 k a b L (L.length : Int) i m.f0 m.f1 m.f2 m.f3 m.f4 = some (!(Op.bytesLess (pick_Pick.hi (L.drop i) b).toList m.f2.toList) && !(Op.bytesLess m.f3.toList (pick_Pick.lo (L.drop i) a).toList)) := by
  induction d with
  | zero =>
    intro k i a b hd hi hk
    obtain ⟨k, rfl⟩ : ∃ m, k = m + 1 := ⟨k - 1, by omega⟩
    obtain rfl : i = L.length := by omega
    simp only [pick_meet.l0]
    rw [if_neg (by omega), List.drop_length]
    simp only [pick_Pick.hi, pick_Pick.lo, List.foldl_nil]
    by_cases h : Op.bytesLess b.toList m.f2.toList = true
    · rw [if_pos h]; simp [h]
    · rw [if_neg h]; simp [h]
  | succ d ih =>
    intro k i a b hd hi hk
    obtain ⟨k, rfl⟩ : ∃ m, k = m + 1 := ⟨k - 1, by omega⟩
    have hlt : i < L.length := by omega
    have hw : wrap64 ((i : Int) + 1) = ((i + 1 : Nat) : Int) := by unfold wrap64; omega
    have hm : rd_T49 L (i : Int) = L[i] := by simp [rd_T49, List.getD, hlt]
    simp only [pick_meet.l0]
    rw [if_pos (by omega), if_pos (by omega), if_pos (by omega), hw, hm, ih k (i + 1) _ _ (by omega) (by omega) (by omega), List.drop_eq_getElem_cons hlt]
    rfl
theorem pick_Pick.meet_some (m : S49) (L : List S49) (hL : L.length < 1099511627776) : pick_meet.f (L.length + 1) m.f0 m.f1 m.f2 m.f3 m.f4 L = some (pick_Pick.meetB L m) := by
  unfold pick_meet.f
  cases L with
  | nil => rw [if_pos (by simp)]; rfl
  | cons x L =>
    rw [if_neg (by simp <;> omega), if_pos (by simp <;> omega)]
    have := pick_Pick.meet_loop (x :: L) m hL (x :: L).length ((x :: L).length + 1) 0 x.f2 x.f3 (by omega) (by omega) (by omega)
    exact this
theorem pick_Pick.ids_loop (L : List S49) (hL : L.length < 17592186044416) (d : Nat) : ∀ (k i : Nat) (acc : List Int), d = L.length - i → i ≤ L.length → acc.length = i → d < k →
    pick_ids.l0 k acc L (L.length : Int) i = some (acc ++ (L.drop i).map (·.f0)) := by
  induction d with
  | zero =>
    intro k i acc hd hi ha hk
    obtain ⟨k, rfl⟩ : ∃ m, k = m + 1 := ⟨k - 1, by omega⟩
    obtain rfl : i = L.length := by omega
    simp only [pick_ids.l0]
    rw [if_neg (by omega)]
    simp
  | succ d ih =>
    intro k i acc hd hi ha hk
    obtain ⟨k, rfl⟩ : ∃ m, k = m + 1 := ⟨k - 1, by omega⟩
    have hlt : i < L.length := by omega
    have hw : wrap64 ((i : Int) + 1) = ((i + 1 : Nat) : Int) := by unfold wrap64; omega
    simp only [pick_ids.l0]
    rw [if_pos (by omega), if_pos (by omega), if_pos (by omega), if_pos (by omega), hw, ih k (i + 1) _ (by omega) (by omega) (by simp [ha]) (by omega), List.drop_eq_getElem_cons hlt, List.map_cons]
    simp only [rd_T49, Int.toNat_natCast, List.getD, List.getElem?_eq_getElem hlt, Option.getD_some, List.append_assoc, List.cons_append, List.nil_append]
theorem pick_Pick.ids_some (L : List S49) (hL : L.length < 17592186044416) : pick_ids.f (L.length + 1) L = some (L.map (·.f0)) := by
  unfold pick_ids.f
  have := pick_Pick.ids_loop L hL L.length (L.length + 1) 0 [] (by omega) (by omega) rfl (by omega)
  simpa using this
def pick_Pick.under (l i : List S49) (n : Int) : List S49 := (pick_first.lev l (n + 1)).filter (pick_Pick.meetB i)
def pick_Pick.tell (l : List S49) (i : List S49) (n : Int) : Int × List Int × List Int × Bool × Bool :=
  (n, i.map (·.f0), (pick_Pick.under l i n).map (·.f0), !(l.any fun m => decide (n + 1 < m.f1) && pick_Pick.meetB (i ++ pick_Pick.under l i n) m), true)
def pick_Pick.f (l0_0 : List S49) (l0_1 : List Int) (a0_2 : Int) : Option (Int × List Int × List Int × Bool × Bool) :=
  (version_Right.f l0_0 l0_1 a0_2).bind fun ok => if ok = true then ((pick_first.f l0_0 l0_1 a0_2).bind fun p => if p.1 < 0 then some (0, [], [], false, false) else some (pick_Pick.tell l0_0 p.2 p.1)) else some (0, [], [], false, false)
theorem pick_Pick.first_facts {l0 : List S49} {l1 : List Int} {a lv : Int} {ins : List S49} (h : pick_first.f l0 l1 a = some (lv, ins)) : -1 ≤ lv ∧ lv ≤ 2 ∧ ins.length ≤ 200 ∧ l0.length ≤ 200 := by
  unfold pick_first.f at h
  split at h
  · rename_i hl
    have h := Option.some.inj h
    have hlev : ∀ n, (pick_first.lev l0 n).length ≤ 200 := fun n => Nat.le_trans (List.length_filter_le _ _) hl.1
    have h0 := hlev 0; have h1 := hlev 1; have h2 := hlev 2
    unfold pick_first.tell at h
    refine ⟨?_, ?_, ?_, hl.1⟩ <;> (repeat' split at h) <;> (obtain ⟨rfl, rfl⟩ := Prod.mk.inj h) <;> first | omega | simp <;> omega
  · cases h
theorem pick_Pick.filter_snoc (p : S49 → Bool) (l : List S49) (k : Nat) (hk : k < l.length) : (l.take (k + 1)).filter p = if p (l.getD k z49) then (l.take k).filter p ++ [l.getD k z49] else (l.take k).filter p := by
  rw [List.take_succ_eq_append_getElem hk, List.filter_append]
  simp only [List.getD, List.getElem?_eq_getElem hk, Option.getD_some, List.filter_cons, List.filter_nil]
  split <;> simp
theorem pick_Pick.any_snoc (p : S49 → Bool) (l : List S49) (k : Nat) (hk : k < l.length) : (l.take (k + 1)).any p = ((l.take k).any p || p (l.getD k z49)) := by
  rw [List.take_succ_eq_append_getElem hk, List.any_append]
  simp [List.getD, hk]
set_option maxHeartbeats 8000000 in
set_option maxRecDepth 100000 in
theorem pick_Pick.calls (A0_0 : Option Addr) (c0_0 : Nat) (l0_0 : List (S49)) (A0_1 : Option Addr) (c0_1 : Nat) (l0_1 : List Int) (a0_2 : Int) (r1 : Int) (r2 r3 : List Int) (r4 r5 : Bool) (w : World) (hr0_0 : Kd.C k49 w A0_0 l0_0.length l0_0) (hc0_0 : l0_0.length ≤ c0_0) (hr0_1 : Kd.C (Kd.int .i64) w A0_1 l0_1.length l0_1) (hc0_1 : l0_1.length ≤ c0_1) (h : pick_Pick.f l0_0 l0_1 a0_2 = some (r1, r2, r3, r4, r5)) :
    Calls Try.prog 9 #[.agg #[.slice A0_0 l0_0.length c0_0, .slice A0_1 l0_1.length c0_1, .int .i64 a0_2]] w fun e w' => ∃ v1_ v2_ : Value, e = .returned (.tuple #[.agg #[.int .i64 r1, v1_, v2_, .bool r4], .bool r5]) ∧ Kd.R (Kd.int .i64) 3 w' w.heap.size (fun k_ => some k_ ≠ (v2_ : Value).ownBlock) v1_ r2 ∧ Kd.R (Kd.int .i64) 3 w' w.heap.size (fun k_ => some k_ ≠ (v1_ : Value).ownBlock) v2_ r3 ∧ Below w.heap.size w w' := by
  unfold pick_Pick.f at h
  obtain ⟨ok, hok, h1⟩ := Option.bind_eq_some_iff.1 h
  have HOK := Aside0.mk hok
  have HR0 := Aside0.mk hr0_0
  have HR1 := Aside0.mk hr0_1
  have HC0 := Aside0.mk hc0_0
  have HC1 := Aside0.mk hc0_1
  have HH := Aside0.mk h1
  clear hr0_0 hr0_1 hc0_0 hc0_1 h1 h hok
  have HB := Aside0.mk (Below.refl w.heap.size w)
  go_enter Try.func9, Try.ntmps9
  go_wp2_with (first | ((with_reducible refine gate_dst (N := 1) rfl ?_); refine box_event ?hg (N := 1) ?hd (cs := #[.slice A0_0 l0_0.length c0_0, .slice A0_1 l0_1.length c0_1, .int .i64 a0_2]) (t := 25) ?hr ?_; (case hd => rfl); (case hg => rfl); (case hr => first | (go_simp; done) | (go_simp; rfl)); intro gb hg w1 hbox hb; have HB1 := Aside0.mk (below_step HB.out hb); have Hgb := Aside0.mk hbox; have Sgb := Aside0.mk (by rw [hg]; exact HB.out.size : w.heap.size ≤ gb); clear hb hbox hg; have e_0 : w1.cell? ⟨gb, 0, none⟩ = some (.slice A0_0 l0_0.length c0_0) := (blk_cell Hgb.out 0).trans rfl; have e_1 : w1.cell? ⟨gb, 1, none⟩ = some (.slice A0_1 l0_1.length c0_1) := (blk_cell Hgb.out 1).trans rfl; have e_2 : w1.cell? ⟨gb, 2, none⟩ = some (.int .i64 a0_2) := (blk_cell Hgb.out 2).trans rfl) | ((with_reducible refine gate_dst (N := 2) rfl ?_); refine box_event ?hg (N := 2) ?hd (cs := #[.int .i64 0, .slice none 0 0, .slice none 0 0, .bool false]) (t := 28) ?hr ?_; (case hd => rfl); (case hg => rfl); (case hr => first | (go_simp; done) | (go_simp; rfl)); intro gj hg w2 hbox hb; have HB2 := Aside0.mk (below_step HB1.out hb); have Hgj := Aside0.mk hbox; have Sgj := Aside0.mk (by rw [hg]; exact HB1.out.size : w.heap.size ≤ gj); have HK2 := Aside0.mk (blk_below Hgb.out hb); have Ngb_gj := Aside0.mk (by rw [hg]; exact blk_lt Hgb.out : gb < gj); clear hb hbox hg; clear e_0 e_1 e_2 Hgb; have z_0 : w2.cell? ⟨gj, 0, none⟩ = some (.int .i64 0) := (blk_cell Hgj.out 0).trans rfl; have z_1 : w2.cell? ⟨gj, 1, none⟩ = some (.slice none 0 0) := (blk_cell Hgj.out 1).trans rfl; have z_2 : w2.cell? ⟨gj, 2, none⟩ = some (.slice none 0 0) := (blk_cell Hgj.out 2).trans rfl; have z_3 : w2.cell? ⟨gj, 3, none⟩ = some (.bool false) := (blk_cell Hgj.out 3).trans rfl); have e_0 : w2.cell? ⟨gb, 0, none⟩ = some (.slice A0_0 l0_0.length c0_0) := (blk_cell HK2.out 0).trans rfl; have e_1 : w2.cell? ⟨gb, 1, none⟩ = some (.slice A0_1 l0_1.length c0_1) := (blk_cell HK2.out 1).trans rfl; have e_2 : w2.cell? ⟨gb, 2, none⟩ = some (.int .i64 a0_2) := (blk_cell HK2.out 2).trans rfl)
  refine (version_Right.calls A0_0 c0_0 l0_0 A0_1 c0_1 l0_1 a0_2 ok w2 (Kd.C_below HR0.out HB2.out) HC0.out (Kd.C_below HR1.out HB2.out) HC1.out HOK.out).mono ?_
  rintro e w3 ⟨rfl, hb3⟩
  have HB3 := Aside0.mk (below_step HB2.out hb3)
  have HK3 := Aside0.mk (blk_below HK2.out hb3)
  have HJ3 := Aside0.mk (blk_below Hgj.out hb3)
  clear hb3 HB HB1 HB2 HK2 Hgj e_0 e_1 e_2 z_0 z_1 z_2 z_3
  cases ok with
  | false =>
    have hh := HH.out
    rw [if_neg (by simp)] at hh
    obtain ⟨rfl, rfl, rfl, rfl, rfl⟩ : r1 = 0 ∧ r2 = [] ∧ r3 = [] ∧ r4 = false ∧ r5 = false := by simpa [eq_comm] using hh
    clear hh HH
    go_wp2_with (((with_reducible refine gate_store (t := 28) (p := 2) (v := (.tmp 16)) rfl ?_); refine agg_event rfl 28 (.tmp 2) (.tmp 16) rfl gj rfl #[.int .i64 0, .slice none 0 0, .slice none 0 0, .bool false] #[.int .i64 0, .slice none 0 0, .slice none 0 0, .bool false] rfl HJ3.out (by kernel_rfl) rfl (by simp [Value.oneCell']) ?_; intro w4 hst hgr hszz; clear hszz; have HJ4 := Aside0.mk hst; have HB4 := Aside0.mk (pw_below_grown HB3.out (some gj) HB3.out.size hgr (fun k_ e_ => by injection e_ with e_; have := Sgj.out; omega)); clear hst hgr))
    refine bodyPost_ret (results_ct rfl _ _ gj 28 #[.int .i64 0, .slice none 0 0, .slice none 0 0, .bool false] (0, 0) _ rfl HJ4.out Try.underlying28 rfl (by kernel_rfl)) rfl ?_
    exact ⟨_, _, rfl, Kd.R_nil _ _ _ _ _, Kd.R_nil _ _ _ _ _, HB4.out⟩
  | true =>
    have hh := HH.out
    rw [if_pos rfl] at hh
    obtain ⟨⟨lv, ins⟩, hp, hh3⟩ := Option.bind_eq_some_iff.1 hh
    have HP := Aside0.mk hp
    obtain ⟨hl1, hl2, hil, hlen⟩ := pick_Pick.first_facts hp
    have HH2 := Aside0.mk hh3
    clear hh hh3 HH hp
    have e_0 : w3.cell? ⟨gb, 0, none⟩ = some (.slice A0_0 l0_0.length c0_0) := (blk_cell HK3.out 0).trans rfl
    have e_1 : w3.cell? ⟨gb, 1, none⟩ = some (.slice A0_1 l0_1.length c0_1) := (blk_cell HK3.out 1).trans rfl
    have e_2 : w3.cell? ⟨gb, 2, none⟩ = some (.int .i64 a0_2) := (blk_cell HK3.out 2).trans rfl
    go_wp2_with fail
    refine (pick_first.calls A0_0 c0_0 l0_0 A0_1 c0_1 l0_1 a0_2 lv ins w3 (Kd.C_below HR0.out HB3.out) HC0.out (Kd.C_below HR1.out HB3.out) HC1.out HP.out).mono ?_
    rintro e w4 ⟨v1, rfl, hv, hb4⟩
    obtain ⟨Ai, ci, rfl, hci, -⟩ := Kd.R_reads hv
    have HCI := Aside0.mk hci
    have HB4 := Aside0.mk (below_step HB3.out hb4)
    have HK4 := Aside0.mk (blk_below HK3.out hb4)
    have HJ4 := Aside0.mk (blk_below HJ3.out hb4)
    have HI4 := Aside0.mk (Kd.R_lower hv HB3.out.size)
    clear hv hb4 HB3 HK3 HJ3 e_0 e_1 e_2 hci
    by_cases hneg : lv < 0
    · have hh := HH2.out
      rw [if_pos hneg] at hh
      obtain ⟨rfl, rfl, rfl, rfl, rfl⟩ : r1 = 0 ∧ r2 = [] ∧ r3 = [] ∧ r4 = false ∧ r5 = false := by simpa [eq_comm] using hh
      clear hh HH2
      go_wp2_with (((with_reducible refine gate_store (t := 28) (p := 2) (v := (.tmp 24)) rfl ?_); refine agg_event rfl 28 (.tmp 2) (.tmp 24) rfl gj rfl #[.int .i64 0, .slice none 0 0, .slice none 0 0, .bool false] #[.int .i64 0, .slice none 0 0, .slice none 0 0, .bool false] rfl HJ4.out (by kernel_rfl) rfl (by simp [Value.oneCell']) ?_; intro w5 hst hgr hszz; clear hszz; have HJ5 := Aside0.mk hst; have HB5 := Aside0.mk (pw_below_grown HB4.out (some gj) HB4.out.size hgr (fun k_ e_ => by injection e_ with e_; have := Sgj.out; omega)); clear hst hgr))
      refine bodyPost_ret (results_ct rfl _ _ gj 28 #[.int .i64 0, .slice none 0 0, .slice none 0 0, .bool false] (0, 0) _ rfl HJ5.out Try.underlying28 rfl (by kernel_rfl)) rfl ?_
      exact ⟨_, _, rfl, Kd.R_nil _ _ _ _ _, Kd.R_nil _ _ _ _ _, HB5.out⟩
    · have hh := HH2.out
      rw [if_neg hneg] at hh
      have hh2 := Option.some.inj hh
      simp only [pick_Pick.tell, Prod.mk.injEq] at hh2
      obtain ⟨g1, g2, g3, g4, g5⟩ := hh2
      have G1 := Aside0.mk g1; have G2 := Aside0.mk g2; have G3 := Aside0.mk g3; have G4 := Aside0.mk g4; have G5 := Aside0.mk g5
      clear g1 g2 g3 g4 g5 HH2 hh
      have e_0 : w4.cell? ⟨gb, 0, none⟩ = some (.slice A0_0 l0_0.length c0_0) := (blk_cell HK4.out 0).trans rfl
      have e_1 : w4.cell? ⟨gb, 1, none⟩ = some (.slice A0_1 l0_1.length c0_1) := (blk_cell HK4.out 1).trans rfl
      have e_2 : w4.cell? ⟨gb, 2, none⟩ = some (.int .i64 a0_2) := (blk_cell HK4.out 2).trans rfl
      go_wp2_with fail
      refine (version_Level.calls (l0_0.length + 1) A0_0 c0_0 l0_0 A0_1 c0_1 l0_1 a0_2 (lv + 1) _ w4 (Kd.C_below HR0.out HB4.out) HC0.out (Kd.C_below HR1.out HB4.out) HC1.out (pick_first.level_some l0_0 l0_1 a0_2 (lv + 1) (by omega))).mono ?_
      rintro e w5 ⟨v2, rfl, hv2, hb5⟩
      have hnl : (pick_first.lev l0_0 (lv + 1)).length ≤ 200 := Nat.le_trans (List.length_filter_le _ _) hlen
      obtain ⟨NX, hNX⟩ : ∃ NX, NX = pick_first.lev l0_0 (lv + 1) := ⟨_, rfl⟩
      rw [← hNX] at hv2 hnl
      have HNX := Aside0.mk hNX
      obtain ⟨An, cn, rfl, hcn, -⟩ := Kd.R_reads hv2
      have HB5 := Aside0.mk (below_step HB4.out hb5)
      have HK5 := Aside0.mk (blk_below HK4.out hb5)
      have HJ5 := Aside0.mk (blk_below HJ4.out hb5)
      obtain ⟨N, hN⟩ : ∃ N, N = w5.heap.size := ⟨_, rfl⟩
      have HI5 : Aside0 (Kd.R k49 49 w5 w.heap.size (fun k_ => k_ < N) (.slice Ai ins.length ci) ins) := ⟨Kd.R_mono (Kd.R_bound (Kd.R_below HI4.out hb5)) (fun k_ hk => by rw [hN]; exact hk.2.2.1)⟩
      have HX5 : Aside0 (Kd.R k49 49 w5 w.heap.size (fun k_ => k_ < N) (.slice An NX.length cn) NX) := ⟨Kd.R_mono (Kd.R_bound (Kd.R_lower hv2 HB4.out.size)) (fun k_ hk => by rw [hN]; exact hk.2.2.1)⟩
      have HZ5 : Aside0 (N ≤ w5.heap.size) := ⟨by omega⟩
      have HU5 : Aside0 (Kd.R k49 49 w5 w.heap.size (fun k_ => N ≤ k_) (.slice none 0 0) []) := ⟨Kd.R_nil _ _ _ _ _⟩
      have NGB : Aside0 (gb < N) := ⟨by rw [hN]; exact blk_lt HK5.out⟩
      have NGJ : Aside0 (gj < N) := ⟨by rw [hN]; exact blk_lt HJ5.out⟩
      clear hv2 hb5 HB4 HK4 HJ4 HI4 e_0 e_1 e_2 hN hNX hcn
      go_wp2_with fail
      go_loopw [6, 30] (fun u i wr => ∃ k : Nat, k ≤ NX.length ∧ i = .int .i64 k ∧ Aside0 (Kd.R k49 49 wr w.heap.size (fun k_ => N ≤ k_) u ((NX.take k).filter (pick_Pick.meetB ins))) ∧ Aside0 (wr.heap[gb]? = some (.cells #[.slice A0_0 l0_0.length c0_0, .slice A0_1 l0_1.length c0_1, .int .i64 a0_2] 25 (0, 0))) ∧ Aside0 (wr.heap[gj]? = some (.cells #[.int .i64 0, .slice none 0 0, .slice none 0 0, .bool false] 28 (0, 0))) ∧ Aside0 (Kd.R k49 49 wr w.heap.size (fun k_ => k_ < N) (.slice Ai ins.length ci) ins) ∧ Aside0 (Kd.R k49 49 wr w.heap.size (fun k_ => k_ < N) (.slice An NX.length cn) NX) ∧ Aside0 (Below w.heap.size w wr) ∧ Aside0 (N ≤ wr.heap.size)) (fun _ i _ => NX.length - (intOf i).toNat)
      case atStart => exact ⟨0, Nat.zero_le _, rfl, HU5, HK5, HJ5, HI5, HX5, HB5, HZ5⟩
      case round =>
        clear HU5 HK5 HJ5 HI5 HX5 HB5 HZ5
        obtain ⟨k, hk, rfl, HU, HK, HJ, HI, HX, HB, HZ⟩ := hrel
        by_cases hlt : k < NX.length
        · obtain ⟨-, -, hrd⟩ := Kd.R_reads' HX.out
          obtain ⟨ad, hAn, x0, x1, x2, x3, x4⟩ := at_T49 hrd (k : Int) (by omega) (by omega)
          subst hAn
          clear hrd
          obtain ⟨m, hm⟩ : ∃ m : S49, m = rd_T49 NX (k : Int) := ⟨_, rfl⟩
          rw [← hm, Int.toNat_natCast] at x0 x1 x2 x3 x4
          have hmg : m = NX.getD k z49 := by rw [hm, rd_T49, Int.toNat_natCast]
          have hfs := pick_Pick.filter_snoc (pick_Pick.meetB ins) NX k hlt
          rw [← hmg] at hfs
          have HFS := Aside0.mk hfs
          have HFL : Aside0 (((NX.take k).filter (pick_Pick.meetB ins)).length ≤ k) := ⟨Nat.le_trans (List.length_filter_le _ _) (List.length_take_le _ _)⟩
          obtain ⟨acc, hacc⟩ : ∃ acc, acc = (NX.take k).filter (pick_Pick.meetB ins) := ⟨_, rfl⟩
          rw [← hacc] at HU HFL HFS
          clear hm hmg hfs hacc
          go_wp2_with (first | ((with_reducible refine gate_dst (N := 8) rfl ?_); refine box_event ?hg (N := 8) ?hd (cs := #[.int .i64 0, .int .i64 0, .string (⟨#[]⟩ : ByteArray), .string (⟨#[]⟩ : ByteArray), .int .i64 0]) (t := 49) ?hr ?_; (case hd => rfl); (case hg => rfl); (case hr => first | (go_simp; done) | (go_simp; rfl)); intro g8 hg w6 hbox hb; have HB6 := Aside0.mk (below_step HB.out hb); have Hg8 := Aside0.mk hbox; have Sg8 := Aside0.mk (by rw [hg]; exact HB.out.size : w.heap.size ≤ g8); have HK6 := Aside0.mk (blk_below HK.out hb); have Ngb_g8 := Aside0.mk (by rw [hg]; exact blk_lt HK.out : gb < g8); have HJ6 := Aside0.mk (blk_below HJ.out hb); have Ngj_g8 := Aside0.mk (by rw [hg]; exact blk_lt HJ.out : gj < g8); have HZ6 := Aside0.mk (Nat.le_trans HZ.out hb.size); have HU6 := Aside0.mk (Kd.R_below (Kd.R_elderB HU.out g8 (Nat.le_of_eq hg.symm)) hb); have HI6 := Aside0.mk (Kd.R_below (Kd.R_elderB HI.out g8 (Nat.le_of_eq hg.symm)) hb); have HX6 := Aside0.mk (Kd.R_below (Kd.R_elderB HX.out g8 (Nat.le_of_eq hg.symm)) hb); clear hb hbox hg) | ((with_reducible refine gate_store (t := 49) (p := 8) (v := (.tmp 33)) rfl ?_); refine agg_event rfl 49 (.tmp 8) (.tmp 33) rfl g8 rfl #[.int .i64 m.f0, .int .i64 m.f1, .string m.f2, .string m.f3, .int .i64 m.f4] #[.int .i64 0, .int .i64 0, .string (⟨#[]⟩ : ByteArray), .string (⟨#[]⟩ : ByteArray), .int .i64 0] rfl Hg8.out (by kernel_rfl) rfl (by simp [Value.oneCell']) ?_; intro w7 hst hgr hszz; clear hszz; have HM7 := Aside0.mk hst; have HB7 := Aside0.mk (pw_below_grown HB6.out (some g8) HB6.out.size hgr (fun k_ e_ => by injection e_ with e_; have := Sg8.out; omega)); have HK7 := Aside0.mk (blk_grown HK6.out hgr (by intro e_; injection e_ with e_; have := Ngb_g8.out; omega)); have HJ7 := Aside0.mk (blk_grown HJ6.out hgr (by intro e_; injection e_ with e_; have := Ngj_g8.out; omega)); have HZ7 := Aside0.mk (Nat.le_trans HZ6.out hgr.size); have HU7 := Aside0.mk (Kd.R_mono (Kd.R_grown HU6.out hgr (fun k_ hk => by intro e_; injection e_ with e_; exact hk.2 e_)) (fun _ hk => hk.1)); have HI7 := Aside0.mk (Kd.R_mono (Kd.R_grown HI6.out hgr (fun k_ hk => by intro e_; injection e_ with e_; exact hk.2 e_)) (fun _ hk => hk.1)); have HX7 := Aside0.mk (Kd.R_mono (Kd.R_grown HX6.out hgr (fun k_ hk => by intro e_; injection e_ with e_; exact hk.2 e_)) (fun _ hk => hk.1)); clear hst hgr; clear x0 x1 x2 x3 x4; have c8_0 : w7.cell? ⟨g8, 0, none⟩ = some (.int .i64 m.f0) := (blk_cell HM7.out 0).trans rfl; have c8_1 : w7.cell? ⟨g8, 1, none⟩ = some (.int .i64 m.f1) := (blk_cell HM7.out 1).trans rfl; have c8_2 : w7.cell? ⟨g8, 2, none⟩ = some (.string m.f2) := (blk_cell HM7.out 2).trans rfl; have c8_3 : w7.cell? ⟨g8, 3, none⟩ = some (.string m.f3) := (blk_cell HM7.out 3).trans rfl; have c8_4 : w7.cell? ⟨g8, 4, none⟩ = some (.int .i64 m.f4) := (blk_cell HM7.out 4).trans rfl))
          refine (pick_meet.calls (ins.length + 1) m.f0 m.f1 m.f2 m.f3 m.f4 Ai ci ins (pick_Pick.meetB ins m) w7 (Kd.R_reads' HI7.out).2.2 HCI.out (pick_Pick.meet_some m ins (by omega))).mono ?_
          rintro e w8 ⟨rfl, hb8⟩
          have HB8 := Aside0.mk (below_step HB7.out hb8)
          have HK8 := Aside0.mk (blk_below HK7.out hb8)
          have HJ8 := Aside0.mk (blk_below HJ7.out hb8)
          have HM8 := Aside0.mk (blk_below HM7.out hb8)
          have HU8 := Aside0.mk (Kd.R_below HU7.out hb8)
          have HI8 := Aside0.mk (Kd.R_below HI7.out hb8)
          have HX8 := Aside0.mk (Kd.R_below HX7.out hb8)
          have HZ8 := Aside0.mk (Nat.le_trans HZ7.out hb8.size)
          clear HU HK HJ HI HX HB HZ HU6 HK6 HJ6 HI6 HX6 HB6 HZ6 HU7 HK7 HJ7 HI7 HX7 HB7 HZ7 HM7 Hg8 hb8 c8_0 c8_1 c8_2 c8_3 c8_4
          cases hmt : pick_Pick.meetB ins m with
          | false =>
            have hf := HFS.out
            rw [hmt, if_neg (by simp)] at hf
            have HF := Aside0.mk hf
            clear hf hmt HFS
            go_wp2_with fail
            refine ⟨⟨k + 1, by omega, by go_num, by rw [HF.out]; exact HU8, HK8, HJ8, HI8, HX8, HB8, HZ8⟩, by simp [intOf]; omega⟩
          | true =>
            have hf := HFS.out
            rw [hmt, if_pos rfl] at hf
            have HF := Aside0.mk hf
            clear hf hmt HFS
            have c8_0 : w8.cell? ⟨g8, 0, none⟩ = some (.int .i64 m.f0) := (blk_cell HM8.out 0).trans rfl
            have c8_1 : w8.cell? ⟨g8, 1, none⟩ = some (.int .i64 m.f1) := (blk_cell HM8.out 1).trans rfl
            have c8_2 : w8.cell? ⟨g8, 2, none⟩ = some (.string m.f2) := (blk_cell HM8.out 2).trans rfl
            have c8_3 : w8.cell? ⟨g8, 3, none⟩ = some (.string m.f3) := (blk_cell HM8.out 3).trans rfl
            have c8_4 : w8.cell? ⟨g8, 4, none⟩ = some (.int .i64 m.f4) := (blk_cell HM8.out 4).trans rfl
            go_wp2_with ((with_reducible refine gate_builtin (b := .append) (xs := #[.tmp 37, .tmp 39]) rfl ?_); refine Kd.R_append k49 (w0 := w) w.heap.size rfl (.tmp 37) (.tmp 39) 22 49 (.agg #[.int .i64 0, .int .i64 0, .string (⟨#[]⟩ : ByteArray), .string (⟨#[]⟩ : ByteArray), .int .i64 0]) 56 rfl Try.underlying22 info49 rfl (by decide) (by omega) _ acc m [.int .i64 m.f0, .int .i64 m.f1, .string m.f2, .string m.f3, .int .i64 m.f4] (fun k_ => N ≤ k_) (fun _ => False) rfl (by first | (go_simp; done) | (go_simp; rfl)) ?aP (fun _ hk => hk.elim) ?aF ?aO ?aB ?aS ?aL ?_; (case aP => exact k49_mkM _ _ _ m); (case aF => exact fun k_ hk => Nat.le_trans HZ8.out hk); (case aO => exact HU8.out); (case aB => exact HB8.out); (case aS => exact HB8.out.size); (case aL => have := HFL.out; omega); intro v9 w9 ho hb hg hat; have HU9 := Aside0.mk ho; have HB9 := Aside0.mk hb; have HK9 := Aside0.mk (blk_grown HK8.out hg (Kd.R_ne HU8.out HK8.out (by decide))); have HJ9 := Aside0.mk (blk_grown HJ8.out hg (Kd.R_ne HU8.out HJ8.out (by decide))); have HI9 := Aside0.mk (Kd.R_grown HI8.out hg (fun k_ hk e_ => by have := HU8.out.1 k_ e_.symm; omega)); have HX9 := Aside0.mk (Kd.R_grown HX8.out hg (fun k_ hk e_ => by have := HU8.out.1 k_ e_.symm; omega)); have HZ9 := Aside0.mk (Nat.le_trans HZ8.out hg.size); clear ho hb hg hat)
            refine ⟨⟨k + 1, by omega, by go_num, by rw [HF.out]; exact HU9, HK9, HJ9, HI9, HX9, HB9, HZ9⟩, by simp [intOf]; omega⟩
        · obtain rfl : k = NX.length := by omega
          have hfull := HU.out
          rw [List.take_length] at hfull
          obtain ⟨U, hU⟩ : ∃ U, U = NX.filter (pick_Pick.meetB ins) := ⟨_, rfl⟩
          rw [← hU] at hfull
          have hUn : U = pick_Pick.under l0_0 ins lv := by rw [hU, HNX.out]; rfl
          have hUl : U.length ≤ 200 := by rw [hU]; exact Nat.le_trans (List.length_filter_le _ _) hnl
          have HUN := Aside0.mk hUn
          obtain ⟨Au, cu, rfl, hcu, -⟩ := Kd.R_reads hfull
          have HCU := Aside0.mk hcu
          have HU1 := Aside0.mk hfull
          clear HU hU hUn hfull hcu HX
          obtain ⟨I1, hI1⟩ : ∃ I1 : List Int, I1 = ins.map (·.f0) := ⟨_, rfl⟩
          have hid1 : pick_ids.f (ins.length + 1) ins = some I1 := by rw [hI1]; exact pick_Pick.ids_some ins (by omega)
          obtain ⟨I2, hI2⟩ : ∃ I2 : List Int, I2 = U.map (·.f0) := ⟨_, rfl⟩
          have hid2 : pick_ids.f (U.length + 1) U = some I2 := by rw [hI2]; exact pick_Pick.ids_some U (by omega)
          have HI1 := Aside0.mk hI1; have HI2 := Aside0.mk hI2; have HD1 := Aside0.mk hid1; have HD2 := Aside0.mk hid2
          clear hI1 hI2 hid1 hid2
          go_wp2_with fail
          refine (pick_ids.calls (ins.length + 1) Ai ci ins I1 wr (Kd.R_reads' HI.out).2.2 HCI.out HD1.out).mono ?_
          rintro e w6 ⟨v6, rfl, hv6, hb6⟩
          obtain ⟨A1, c1, rfl, hc1, -⟩ := Kd.R_reads hv6
          obtain ⟨Mx, hMx⟩ : ∃ Mx, Mx = w6.heap.size := ⟨_, rfl⟩
          have HV6 : Aside0 (Kd.R (Kd.int .i64) 3 w6 w.heap.size (fun k_ => k_ < Mx) (.slice A1 I1.length c1) I1) := ⟨Kd.R_mono (Kd.R_bound (Kd.R_lower hv6 HB.out.size)) (fun k_ hk => by rw [hMx]; exact hk.2.2.1)⟩
          have HB6 := Aside0.mk (below_step HB.out hb6)
          have HK6 := Aside0.mk (blk_below HK.out hb6)
          have HJ6 := Aside0.mk (blk_below HJ.out hb6)
          have HI6 := Aside0.mk (Kd.R_below HI.out hb6)
          have HU6 := Aside0.mk (Kd.R_below HU1.out hb6)
          have HMX := Aside0.mk hMx
          clear hv6 hb6 hc1 hMx HB HK HJ HI HU1 HZ
          go_wp2_with fail
          refine (pick_ids.calls (U.length + 1) Au cu U I2 w6 (Kd.R_reads' HU6.out).2.2 HCU.out HD2.out).mono ?_
          rintro e w7 ⟨v7, rfl, hv7, hb7⟩
          obtain ⟨A2, c2, rfl, hc2, -⟩ := Kd.R_reads hv7
          have HW7 : Aside0 (Kd.R (Kd.int .i64) 3 w7 w.heap.size (fun k_ => Mx ≤ k_) (.slice A2 I2.length c2) I2) := ⟨Kd.R_mono (Kd.R_lower (Kd.R_bound hv7) HB6.out.size) (fun k_ hk => by rw [HMX.out]; exact hk.2.1)⟩
          have HB7 := Aside0.mk (below_step HB6.out hb7)
          have HK7 := Aside0.mk (blk_below HK6.out hb7)
          have HJ7 := Aside0.mk (blk_below HJ6.out hb7)
          have HI7 := Aside0.mk (Kd.R_below HI6.out hb7)
          have HU7 := Aside0.mk (Kd.R_below HU6.out hb7)
          have HV7 := Aside0.mk (Kd.R_below HV6.out hb7)
          clear hv7 hb7 hc2 HB6 HK6 HJ6 HI6 HU6 HV6
          go_wp2_with (first | ((with_reducible refine gate_dst (N := 9) rfl ?_); refine box_event ?hg (N := 9) ?hd (cs := #[.int .i64 0, .slice none 0 0, .slice none 0 0, .bool false]) (t := 28) ?hr ?_; (case hd => rfl); (case hg => rfl); (case hr => first | (go_simp; done) | (go_simp; rfl)); intro g9 hg w8 hbox hb; have HB8 := Aside0.mk (below_step HB7.out hb); have Hg9 := Aside0.mk hbox; have Sg9 := Aside0.mk (by rw [hg]; exact HB7.out.size : w.heap.size ≤ g9); have HK8 := Aside0.mk (blk_below HK7.out hb); have Ngb_g9 := Aside0.mk (by rw [hg]; exact blk_lt HK7.out : gb < g9); have HJ8 := Aside0.mk (blk_below HJ7.out hb); have Ngj_g9 := Aside0.mk (by rw [hg]; exact blk_lt HJ7.out : gj < g9); have HI8 := Aside0.mk (Kd.R_below (Kd.R_elderB HI7.out g9 (Nat.le_of_eq hg.symm)) hb); have HU8 := Aside0.mk (Kd.R_below (Kd.R_elderB HU7.out g9 (Nat.le_of_eq hg.symm)) hb); have HV8 := Aside0.mk (Kd.R_below (Kd.R_elderB HV7.out g9 (Nat.le_of_eq hg.symm)) hb); have HW8 := Aside0.mk (Kd.R_below (Kd.R_elderB HW7.out g9 (Nat.le_of_eq hg.symm)) hb); clear hb hbox hg) | ((with_reducible refine gate_store (t := 28) (p := 9) (v := (.tmp 47)) rfl ?_); refine agg_event rfl 28 (.tmp 9) (.tmp 47) rfl g9 rfl #[.int .i64 lv, .slice A1 I1.length c1, .slice A2 I2.length c2, .bool true] #[.int .i64 0, .slice none 0 0, .slice none 0 0, .bool false] rfl Hg9.out (by kernel_rfl) rfl (by simp [Value.oneCell']) ?_; intro w9 hst hgr hszz; clear hszz; have H9 := Aside0.mk hst; have HB9 := Aside0.mk (pw_below_grown HB8.out (some g9) HB8.out.size hgr (fun k_ e_ => by injection e_ with e_; have := Sg9.out; omega)); have HK9 := Aside0.mk (blk_grown HK8.out hgr (by intro e_; injection e_ with e_; have := Ngb_g9.out; omega)); have HJ9 := Aside0.mk (blk_grown HJ8.out hgr (by intro e_; injection e_ with e_; have := Ngj_g9.out; omega)); have HI9 := Aside0.mk (Kd.R_mono (Kd.R_grown HI8.out hgr (fun k_ hk => by intro e_; injection e_ with e_; exact hk.2 e_)) (fun _ hk => hk.1)); have HU9 := Aside0.mk (Kd.R_mono (Kd.R_grown HU8.out hgr (fun k_ hk => by intro e_; injection e_ with e_; exact hk.2 e_)) (fun _ hk => hk.1)); have HV9 := Aside0.mk (Kd.R_mono (Kd.R_grown HV8.out hgr (fun k_ hk => by intro e_; injection e_ with e_; exact hk.2 e_)) (fun _ hk => hk.1)); have HW9 := Aside0.mk (Kd.R_mono (Kd.R_grown HW8.out hgr (fun k_ hk => by intro e_; injection e_ with e_; exact hk.2 e_)) (fun _ hk => hk.1)); clear hst hgr))
          have hx := heap_alloc_new w9 (.cells #[.slice Ai ins.length ci, .slice Au U.length cu] 22)
          have hB10 := below_alloc (Below.refl _ w9) (.cells #[.slice Ai ins.length ci, .slice Au U.length cu] 22)
          have HX10 := Aside0.mk hx
          have HA10 := Aside0.mk (reads_two (e := 49) hx HCI.out HCU.out (Kd.C_below (Kd.R_reads' HI9.out).2.2 hB10) (Kd.C_below (Kd.R_reads' HU9.out).2.2 hB10))
          have HB10 := Aside0.mk (below_step HB9.out hB10)
          have HK10 := Aside0.mk (blk_below HK9.out hB10)
          have HJ10 := Aside0.mk (blk_below HJ9.out hB10)
          have H10 := Aside0.mk (blk_below H9.out hB10)
          have HV10 := Aside0.mk (Kd.R_below HV9.out hB10)
          have HW10 := Aside0.mk (Kd.R_below HW9.out hB10)
          clear hx hB10 HB7 HK7 HJ7 HI7 HU7 HV7 HW7 HB8 HK8 HJ8 HI8 HU8 HV8 HW8 Hg9 HX10
          obtain ⟨AL, hAL⟩ : ∃ AL, AL = ins ++ U := ⟨_, rfl⟩
          have hcf : api_Meta_25.f [ins, U] = some AL := by
            unfold api_Meta_25.f
            rw [hAL, if_pos (by simp; omega)]
            simp
          have hall : AL.length ≤ 400 := by rw [hAL, List.length_append]; omega
          have HCF := Aside0.mk hcf
          have HAL := Aside0.mk hAL
          clear hcf hAL
          refine (api_Meta_25.calls _ 2 [ins, U] AL _ HA10.out (Nat.le_refl _) HCF.out).mono ?_
          rintro e w11 ⟨v11, rfl, hv11, hb11⟩
          obtain ⟨Aa, ca, rfl, hca, -⟩ := Kd.R_reads hv11
          have HCA := Aside0.mk hca
          have HA11 := Aside0.mk (Kd.R_lower hv11 HB10.out.size)
          have HB11 := Aside0.mk (below_step HB10.out hb11)
          have HK11 := Aside0.mk (blk_below HK10.out hb11)
          have HJ11 := Aside0.mk (blk_below HJ10.out hb11)
          have H11 := Aside0.mk (blk_below H10.out hb11)
          have HV11 := Aside0.mk (Kd.R_below HV10.out hb11)
          have HW11 := Aside0.mk (Kd.R_below HW10.out hb11)
          clear hv11 hb11 hca HB9 HK9 HJ9 HI9 HU9 HV9 HW9 H9 HB10 HK10 HJ10 H10 HV10 HW10 HA10
          have e_0 : w11.cell? ⟨gb, 0, none⟩ = some (.slice A0_0 l0_0.length c0_0) := (blk_cell HK11.out 0).trans rfl
          go_wp2_with fail
          clear e_0
          obtain ⟨q, hq⟩ : ∃ q : S49 → Bool, q = fun m => decide (lv + 1 < m.f1) && pick_Pick.meetB AL m := ⟨_, rfl⟩
          have HQ := Aside0.mk hq
          clear hq
          go_loopw [55] (fun i wr => ∃ k : Nat, k ≤ l0_0.length ∧ i = .int .i64 k ∧ Aside0 (wr.heap[g9]? = some (.cells #[.int .i64 lv, .slice A1 I1.length c1, .slice A2 I2.length c2, .bool (!((l0_0.take k).any q))] 28 (0, 0))) ∧ Aside0 (wr.heap[gb]? = some (.cells #[.slice A0_0 l0_0.length c0_0, .slice A0_1 l0_1.length c0_1, .int .i64 a0_2] 25 (0, 0))) ∧ Aside0 (wr.heap[gj]? = some (.cells #[.int .i64 0, .slice none 0 0, .slice none 0 0, .bool false] 28 (0, 0))) ∧ Aside0 (Kd.R k49 49 wr w.heap.size (fun _ => True) (.slice Aa AL.length ca) AL) ∧ Aside0 (Kd.R (Kd.int .i64) 3 wr w.heap.size (fun k_ => k_ < Mx) (.slice A1 I1.length c1) I1) ∧ Aside0 (Kd.R (Kd.int .i64) 3 wr w.heap.size (fun k_ => Mx ≤ k_) (.slice A2 I2.length c2) I2) ∧ Aside0 (Below w.heap.size w wr)) (fun i _ => l0_0.length - (intOf i).toNat)
          case atStart => exact ⟨0, Nat.zero_le _, rfl, H11, HK11, HJ11, HA11, HV11, HW11, HB11⟩
          case round =>
            clear H11 HK11 HJ11 HA11 HV11 HW11 HB11
            obtain ⟨k, hk, rfl, H9, HK, HJ, HA, HV, HW, HB⟩ := hrel
            by_cases hlt : k < l0_0.length
            · obtain ⟨ad, hA0, x0, x1, x2, x3, x4⟩ := at_T49 (Kd.C_below HR0.out HB.out) (k : Int) (by omega) (by omega)
              subst hA0
              obtain ⟨m, hm⟩ : ∃ m : S49, m = rd_T49 l0_0 (k : Int) := ⟨_, rfl⟩
              rw [← hm, Int.toNat_natCast] at x0 x1 x2 x3 x4
              have hmg : m = l0_0.getD k z49 := by rw [hm, rd_T49, Int.toNat_natCast]
              have hfs := pick_Pick.any_snoc q l0_0 k hlt
              rw [← hmg] at hfs
              have HFS := Aside0.mk hfs
              obtain ⟨b, hb⟩ : ∃ b : Bool, b = (l0_0.take k).any q := ⟨_, rfl⟩
              rw [← hb] at H9 HFS
              clear hm hmg hfs hb
              by_cases hd : lv + 1 < m.f1
              · have hdb : decide (lv + 1 < m.f1) = true := decide_eq_true hd
                have HD := Aside0.mk hdb
                go_wp2_with (first | ((with_reducible refine gate_dst (N := 12) rfl ?_); refine box_event ?hg (N := 12) ?hd (cs := #[.int .i64 0, .int .i64 0, .string (⟨#[]⟩ : ByteArray), .string (⟨#[]⟩ : ByteArray), .int .i64 0]) (t := 49) ?hr ?_; (case hd => rfl); (case hg => rfl); (case hr => first | (go_simp; done) | (go_simp; rfl)); intro g12 hg w6 hbox hb; have HB6 := Aside0.mk (below_step HB.out hb); have Hg12 := Aside0.mk hbox; have Sg12 := Aside0.mk (by rw [hg]; exact HB.out.size : w.heap.size ≤ g12); have H6 := Aside0.mk (blk_below H9.out hb); have Ng9_g12 := Aside0.mk (by rw [hg]; exact blk_lt H9.out : g9 < g12); have HK6 := Aside0.mk (blk_below HK.out hb); have Ngb_g12 := Aside0.mk (by rw [hg]; exact blk_lt HK.out : gb < g12); have HJ6 := Aside0.mk (blk_below HJ.out hb); have Ngj_g12 := Aside0.mk (by rw [hg]; exact blk_lt HJ.out : gj < g12); have HA6 := Aside0.mk (Kd.R_below (Kd.R_elderB HA.out g12 (Nat.le_of_eq hg.symm)) hb); have HV6 := Aside0.mk (Kd.R_below (Kd.R_elderB HV.out g12 (Nat.le_of_eq hg.symm)) hb); have HW6 := Aside0.mk (Kd.R_below (Kd.R_elderB HW.out g12 (Nat.le_of_eq hg.symm)) hb); clear hb hbox hg) | ((with_reducible refine gate_store (t := 49) (p := 12) (v := (.tmp 58)) rfl ?_); refine agg_event rfl 49 (.tmp 12) (.tmp 58) rfl g12 rfl #[.int .i64 m.f0, .int .i64 m.f1, .string m.f2, .string m.f3, .int .i64 m.f4] #[.int .i64 0, .int .i64 0, .string (⟨#[]⟩ : ByteArray), .string (⟨#[]⟩ : ByteArray), .int .i64 0] rfl Hg12.out (by kernel_rfl) rfl (by simp [Value.oneCell']) ?_; intro w7 hst hgr hszz; clear hszz; have HM7 := Aside0.mk hst; have HB7 := Aside0.mk (pw_below_grown HB6.out (some g12) HB6.out.size hgr (fun k_ e_ => by injection e_ with e_; have := Sg12.out; omega)); have H7 := Aside0.mk (blk_grown H6.out hgr (by intro e_; injection e_ with e_; have := Ng9_g12.out; omega)); have HK7 := Aside0.mk (blk_grown HK6.out hgr (by intro e_; injection e_ with e_; have := Ngb_g12.out; omega)); have HJ7 := Aside0.mk (blk_grown HJ6.out hgr (by intro e_; injection e_ with e_; have := Ngj_g12.out; omega)); have HA7 := Aside0.mk (Kd.R_mono (Kd.R_grown HA6.out hgr (fun k_ hk => by intro e_; injection e_ with e_; exact hk.2 e_)) (fun _ hk => hk.1)); have HV7 := Aside0.mk (Kd.R_mono (Kd.R_grown HV6.out hgr (fun k_ hk => by intro e_; injection e_ with e_; exact hk.2 e_)) (fun _ hk => hk.1)); have HW7 := Aside0.mk (Kd.R_mono (Kd.R_grown HW6.out hgr (fun k_ hk => by intro e_; injection e_ with e_; exact hk.2 e_)) (fun _ hk => hk.1)); clear hst hgr; clear x0 x1 x2 x3 x4; have c12_0 : w7.cell? ⟨g12, 0, none⟩ = some (.int .i64 m.f0) := (blk_cell HM7.out 0).trans rfl; have c12_1 : w7.cell? ⟨g12, 1, none⟩ = some (.int .i64 m.f1) := (blk_cell HM7.out 1).trans rfl; have c12_2 : w7.cell? ⟨g12, 2, none⟩ = some (.string m.f2) := (blk_cell HM7.out 2).trans rfl; have c12_3 : w7.cell? ⟨g12, 3, none⟩ = some (.string m.f3) := (blk_cell HM7.out 3).trans rfl; have c12_4 : w7.cell? ⟨g12, 4, none⟩ = some (.int .i64 m.f4) := (blk_cell HM7.out 4).trans rfl))
                refine (pick_meet.calls (AL.length + 1) m.f0 m.f1 m.f2 m.f3 m.f4 Aa ca AL (pick_Pick.meetB AL m) w7 (Kd.R_reads' HA7.out).2.2 HCA.out (pick_Pick.meet_some m AL (by omega))).mono ?_
                rintro e w8 ⟨rfl, hb8⟩
                have HB8 := Aside0.mk (below_step HB7.out hb8)
                have H8 := Aside0.mk (blk_below H7.out hb8)
                have HK8 := Aside0.mk (blk_below HK7.out hb8)
                have HJ8 := Aside0.mk (blk_below HJ7.out hb8)
                have HA8 := Aside0.mk (Kd.R_below HA7.out hb8)
                have HV8 := Aside0.mk (Kd.R_below HV7.out hb8)
                have HW8 := Aside0.mk (Kd.R_below HW7.out hb8)
                clear H9 HK HJ HA HV HW HB H6 HK6 HJ6 HA6 HV6 HW6 HB6 H7 HK7 HJ7 HA7 HV7 HW7 HB7 HM7 Hg12 hb8 c12_0 c12_1 c12_2 c12_3 c12_4 hd hdb
                cases hmt : pick_Pick.meetB AL m with
                | false =>
                  have hf := HFS.out
                  rw [HQ.out] at hf
                  simp only [hmt, Bool.and_false, Bool.or_false] at hf
                  rw [← HQ.out] at hf
                  have HF := Aside0.mk hf
                  clear hf hmt HFS HD
                  go_wp2_with fail
                  refine ⟨⟨k + 1, by omega, by go_num, by rw [HF.out]; exact H8, HK8, HJ8, HA8, HV8, HW8, HB8⟩, by simp [intOf]; omega⟩
                | true =>
                  have hf := HFS.out
                  rw [HQ.out] at hf
                  simp only [hmt, HD.out, Bool.and_true, Bool.or_true] at hf
                  rw [← HQ.out] at hf
                  have HF := Aside0.mk hf
                  clear hf hmt HFS HD
                  go_wp2_with (((with_reducible refine gate_store (t := 4) (p := 69) (v := (.const (.bool false))) rfl ?_); refine put_event rfl 4 (.tmp 69) (.const (.bool false)) rfl g9 3 rfl (.bool false) #[.int .i64 lv, .slice A1 I1.length c1, .slice A2 I2.length c2, .bool (!b)] _ rfl H8.out (by kernel_rfl) (by simp) rfl rfl ?_; intro w9 hst hgr hszz; clear hszz; have H9 := Aside0.mk hst; have HB9 := Aside0.mk (pw_below_grown HB8.out (some g9) HB8.out.size hgr (fun k_ e_ => by injection e_ with e_; have := Sg9.out; omega)); have HK9 := Aside0.mk (blk_grown HK8.out hgr (by intro e_; injection e_ with e_; have := Ngb_g9.out; omega)); have HJ9 := Aside0.mk (blk_grown HJ8.out hgr (by intro e_; injection e_ with e_; have := Ngj_g9.out; omega)); have HA9 := Aside0.mk (Kd.R_mono (Kd.R_grown (Kd.R_types HA8.out H8.out (by decide)) hgr (fun k_ hk => by intro e_; injection e_ with e_; exact hk.2 e_)) (fun _ hk => hk.1)); have HV9 := Aside0.mk (Kd.R_mono (Kd.R_grown (Kd.R_types HV8.out H8.out (by decide)) hgr (fun k_ hk => by intro e_; injection e_ with e_; exact hk.2 e_)) (fun _ hk => hk.1)); have HW9 := Aside0.mk (Kd.R_mono (Kd.R_grown (Kd.R_types HW8.out H8.out (by decide)) hgr (fun k_ hk => by intro e_; injection e_ with e_; exact hk.2 e_)) (fun _ hk => hk.1)); clear hst hgr))
                  refine ⟨⟨k + 1, by omega, by go_num, by rw [HF.out]; exact H9, HK9, HJ9, HA9, HV9, HW9, HB9⟩, by simp [intOf]; omega⟩
              · have hdb : decide (lv + 1 < m.f1) = false := decide_eq_false hd
                have hf := HFS.out
                rw [HQ.out] at hf
                simp only [hdb, Bool.false_and, Bool.or_false] at hf
                rw [← HQ.out] at hf
                have HF := Aside0.mk hf
                clear hf HFS
                go_wp2_with (first | ((with_reducible refine gate_dst (N := 12) rfl ?_); refine box_event ?hg (N := 12) ?hd (cs := #[.int .i64 0, .int .i64 0, .string (⟨#[]⟩ : ByteArray), .string (⟨#[]⟩ : ByteArray), .int .i64 0]) (t := 49) ?hr ?_; (case hd => rfl); (case hg => rfl); (case hr => first | (go_simp; done) | (go_simp; rfl)); intro g12 hg w6 hbox hb; have HB6 := Aside0.mk (below_step HB.out hb); have Hg12 := Aside0.mk hbox; have Sg12 := Aside0.mk (by rw [hg]; exact HB.out.size : w.heap.size ≤ g12); have H6 := Aside0.mk (blk_below H9.out hb); have Ng9_g12 := Aside0.mk (by rw [hg]; exact blk_lt H9.out : g9 < g12); have HK6 := Aside0.mk (blk_below HK.out hb); have Ngb_g12 := Aside0.mk (by rw [hg]; exact blk_lt HK.out : gb < g12); have HJ6 := Aside0.mk (blk_below HJ.out hb); have Ngj_g12 := Aside0.mk (by rw [hg]; exact blk_lt HJ.out : gj < g12); have HA6 := Aside0.mk (Kd.R_below (Kd.R_elderB HA.out g12 (Nat.le_of_eq hg.symm)) hb); have HV6 := Aside0.mk (Kd.R_below (Kd.R_elderB HV.out g12 (Nat.le_of_eq hg.symm)) hb); have HW6 := Aside0.mk (Kd.R_below (Kd.R_elderB HW.out g12 (Nat.le_of_eq hg.symm)) hb); clear hb hbox hg) | ((with_reducible refine gate_store (t := 49) (p := 12) (v := (.tmp 58)) rfl ?_); refine agg_event rfl 49 (.tmp 12) (.tmp 58) rfl g12 rfl #[.int .i64 m.f0, .int .i64 m.f1, .string m.f2, .string m.f3, .int .i64 m.f4] #[.int .i64 0, .int .i64 0, .string (⟨#[]⟩ : ByteArray), .string (⟨#[]⟩ : ByteArray), .int .i64 0] rfl Hg12.out (by kernel_rfl) rfl (by simp [Value.oneCell']) ?_; intro w7 hst hgr hszz; clear hszz; have HM7 := Aside0.mk hst; have HB7 := Aside0.mk (pw_below_grown HB6.out (some g12) HB6.out.size hgr (fun k_ e_ => by injection e_ with e_; have := Sg12.out; omega)); have H7 := Aside0.mk (blk_grown H6.out hgr (by intro e_; injection e_ with e_; have := Ng9_g12.out; omega)); have HK7 := Aside0.mk (blk_grown HK6.out hgr (by intro e_; injection e_ with e_; have := Ngb_g12.out; omega)); have HJ7 := Aside0.mk (blk_grown HJ6.out hgr (by intro e_; injection e_ with e_; have := Ngj_g12.out; omega)); have HA7 := Aside0.mk (Kd.R_mono (Kd.R_grown HA6.out hgr (fun k_ hk => by intro e_; injection e_ with e_; exact hk.2 e_)) (fun _ hk => hk.1)); have HV7 := Aside0.mk (Kd.R_mono (Kd.R_grown HV6.out hgr (fun k_ hk => by intro e_; injection e_ with e_; exact hk.2 e_)) (fun _ hk => hk.1)); have HW7 := Aside0.mk (Kd.R_mono (Kd.R_grown HW6.out hgr (fun k_ hk => by intro e_; injection e_ with e_; exact hk.2 e_)) (fun _ hk => hk.1)); clear hst hgr; clear x0 x1 x2 x3 x4; have c12_0 : w7.cell? ⟨g12, 0, none⟩ = some (.int .i64 m.f0) := (blk_cell HM7.out 0).trans rfl; have c12_1 : w7.cell? ⟨g12, 1, none⟩ = some (.int .i64 m.f1) := (blk_cell HM7.out 1).trans rfl; have c12_2 : w7.cell? ⟨g12, 2, none⟩ = some (.string m.f2) := (blk_cell HM7.out 2).trans rfl; have c12_3 : w7.cell? ⟨g12, 3, none⟩ = some (.string m.f3) := (blk_cell HM7.out 3).trans rfl; have c12_4 : w7.cell? ⟨g12, 4, none⟩ = some (.int .i64 m.f4) := (blk_cell HM7.out 4).trans rfl))
                refine ⟨⟨k + 1, by omega, by go_num, by rw [HF.out]; exact H7, HK7, HJ7, HA7, HV7, HW7, HB7⟩, by simp [intOf]; omega⟩
            · obtain rfl : k = l0_0.length := by omega
              have h9 := H9.out
              rw [List.take_length] at h9
              obtain ⟨b, hb⟩ : ∃ b : Bool, b = !(l0_0.any q) := ⟨_, rfl⟩
              rw [← hb] at h9
              have HBB := Aside0.mk hb
              have c9_0 : wr.cell? ⟨g9, 0, none⟩ = some (.int .i64 lv) := (blk_cell h9 0).trans rfl
              have c9_1 : wr.cell? ⟨g9, 1, none⟩ = some (.slice A1 I1.length c1) := (blk_cell h9 1).trans rfl
              have c9_2 : wr.cell? ⟨g9, 2, none⟩ = some (.slice A2 I2.length c2) := (blk_cell h9 2).trans rfl
              have c9_3 : wr.cell? ⟨g9, 3, none⟩ = some (.bool b) := (blk_cell h9 3).trans rfl
              clear hb h9 H9
              go_wp2_with (((with_reducible refine gate_store (t := 28) (p := 2) (v := (.tmp 71)) rfl ?_); refine agg_event rfl 28 (.tmp 2) (.tmp 71) rfl gj rfl #[.int .i64 lv, .slice A1 I1.length c1, .slice A2 I2.length c2, .bool b] #[.int .i64 0, .slice none 0 0, .slice none 0 0, .bool false] rfl HJ.out (by kernel_rfl) rfl (by simp [Value.oneCell']) ?_; intro w9 hst hgr hszz; clear hszz; have HJ9 := Aside0.mk hst; have HB9 := Aside0.mk (pw_below_grown HB.out (some gj) HB.out.size hgr (fun k_ e_ => by injection e_ with e_; have := Sgj.out; omega)); have HV9 := Aside0.mk (Kd.R_mono (Kd.R_grown (Kd.R_types HV.out HJ.out (by decide)) hgr (fun k_ hk => by intro e_; injection e_ with e_; exact hk.2 e_)) (fun _ hk => hk.1)); have HW9 := Aside0.mk (Kd.R_mono (Kd.R_grown (Kd.R_types HW.out HJ.out (by decide)) hgr (fun k_ hk => by intro e_; injection e_ with e_; exact hk.2 e_)) (fun _ hk => hk.1)); clear hst hgr; clear c9_0 c9_1 c9_2 c9_3))
              refine bodyPost_ret (results_ct rfl _ _ gj 28 #[.int .i64 lv, .slice A1 I1.length c1, .slice A2 I2.length c2, .bool b] (0, 0) _ rfl HJ9.out Try.underlying28 rfl (by kernel_rfl)) rfl ?_
              have e1 := G1.out; have e2 := G2.out; have e3 := G3.out; have e4 := G4.out; have e5 := G5.out
              rw [← HUN.out, ← HAL.out, ← HQ.out, ← HBB.out] at e4
              rw [← HUN.out, ← HI2.out] at e3
              rw [← HI1.out] at e2
              subst e1 e2 e3 e4 e5
              exact ⟨_, _, rfl, Kd.R_mono HV9.out (fun k_ hk e_ => by have := HW9.out.1 k_ e_.symm; omega), Kd.R_mono HW9.out (fun k_ hk e_ => by have := HV9.out.1 k_ e_.symm; omega), HB9.out⟩


end Go.Proofs.Ytepgnefkpjnmlaa.PD

-- printed by gprint.py (own tool) over the kit's print
namespace Go.Proofs.Ytepgnefkpjnmlaa.PD
open Go.RowKit Go.Proofs.Ytepgnefkpjnmlaa Go.Proofs.YtepgnefkpjnmlaaW.PrintWords Go.Proofs.YtepgnefkpjnmlaaW.PrintLast Go.Proofs.YtepgnefkpjnmlaaW.PrintMore
attribute [local go_sem] max2_int min2_int max_two min_two max_three min_three max_four min_four   -- for this text's walks alone
set_option linter.unnecessarySimpa false
attribute [local go_sem] min2_str max2_str leq_str gtr_str geq_str
set_option linter.unusedVariables false
set_option linter.unusedSimpArgs false

/-! ### api_Entry: function 29 -/
def api_Entry.f (l0 : List (S45)) : Option (List (S45)) := if l0.length < 2932031007402 then some l0 else none
set_option maxHeartbeats 1000000 in
theorem api_Entry.calls (A0 : Option Addr) (c0 : Nat) (l0 : List (S45)) (r : List (S45)) (w : World) (hr0 : Kd.C k45 w A0 l0.length l0) (hc0 : l0.length ≤ c0) (h : api_Entry.f l0 = some r) :
    Calls Try.prog 29 #[.slice A0 l0.length c0] w fun e w' => ∃ v0_ : Value, e = .returned (v0_) ∧ Kd.R k45 45 w' w.heap.size (fun _ => True) v0_ r ∧ Below w.heap.size w w' := by
  obtain ⟨hlim, rfl⟩ : l0.length < 2932031007402 ∧ l0 = r := by
    unfold api_Entry.f at h
    split at h
    · rename_i hl; exact ⟨hl, Option.some.inj h⟩
    · cases h
  clear h
  have HR := Aside0.mk hr0
  have HL := Aside0.mk hlim
  rcases A0 with _ | ad
  · have h0 : l0 = [] := by
      rcases Nat.eq_zero_or_pos l0.length with h0 | h0
      · exact List.eq_nil_of_length_eq_zero h0
      · obtain ⟨ad, e, _⟩ := hr0.2.2 h0; cases e
    subst h0
    clear HR HL hr0 hlim hc0
    have he := fun W => run_eql_slice_nil (P := Try.prog) W 34 45 none 0 c0 Try.underlying34
    go_enter Try.func29, Try.ntmps29
    go_wp2
    go_ret
    exact ⟨_, rfl, Kd.R_nil _ _ _ _ _, Below.refl _ _⟩
  · clear hr0 hlim
    have he := fun W => run_eql_slice_nil (P := Try.prog) W 34 45 (some ad) l0.length c0 Try.underlying34
    go_enter Try.func29, Try.ntmps29
    go_wp2_with ((with_reducible refine gate_builtin (b := .append) (xs := #[.tmp 5, .tmp 6]) rfl ?_); refine Kd.R_append_rows k45 (w0 := w) w.heap.size rfl (.tmp 5) (.tmp 6) 34 45 (.agg #[(.string ⟨#[]⟩), (.int .i64 0), (.bool false), (.string ⟨#[]⟩)]) 48 rfl Try.underlying34 info45 rfl (by decide) (by omega) _ [] l0 _ _ _ (fun _ => True) (fun _ => False) rfl rfl ?aO ?aR (fun _ _ h => h) (fun _ h => h.elim) ?aF ?aB ?aS ?aL ?_; (case aO => exact ⟨fun _ _ => trivial, [], World.ownsRow_made w #[] 0 (Nat.le_refl _) (by decide) rfl, Reps.none _ _⟩); (case aR => exact Kd.C_alloc HR.out _); (case aF => exact fun _ _ => trivial); (case aB => exact below_alloc (Below.refl _ _) _); (case aS => simp); (case aL => have := HL.out; simp; omega); intro v1 w1 ho hb hg hat; have HO := Aside0.mk ho; have HB := Aside0.mk hb; clear ho hb hg hat)
    go_ret
    exact ⟨_, rfl, HO.out, HB.out⟩


end Go.Proofs.Ytepgnefkpjnmlaa.PD

-- printed by gprint.py (own tool) over the kit's print
namespace Go.Proofs.Ytepgnefkpjnmlaa.PD
open Go.RowKit Go.Proofs.Ytepgnefkpjnmlaa Go.Proofs.YtepgnefkpjnmlaaW.PrintWords Go.Proofs.YtepgnefkpjnmlaaW.PrintLast Go.Proofs.YtepgnefkpjnmlaaW.PrintMore
attribute [local go_sem] max2_int min2_int max_two min_two max_three min_three max_four min_four   -- for this text's walks alone
set_option linter.unnecessarySimpa false
attribute [local go_sem] min2_str max2_str leq_str gtr_str geq_str
set_option linter.unusedVariables false
set_option linter.unusedSimpArgs false

/-! ### pick_Cut: function 15 -/
def pick_Cut.ext (l : List S45) : Nat → Nat → Nat
  | 0, n => n
  | d + 1, n => if n < l.length ∧ (l.getD n z45).f0.toList = (l.getD (n - 1) z45).f0.toList then pick_Cut.ext l d (n + 1) else n
def pick_Cut.at_ (many : Nat) (l : List S45) : Nat := pick_Cut.ext l (l.length - min many l.length) (min many l.length)
def pick_Cut.pieces (many : Nat) : Nat → List S45 → List (List S45)
  | 0, _ => []
  | d + 1, l => if l = [] then [] else l.take (pick_Cut.at_ many l) :: pick_Cut.pieces many d (l.drop (pick_Cut.at_ many l))
theorem pick_Cut.ext_le (l : List S45) : ∀ (d n : Nat), n ≤ l.length → n ≤ pick_Cut.ext l d n ∧ pick_Cut.ext l d n ≤ l.length
  | 0, n, h => ⟨Nat.le_refl _, h⟩
  | d + 1, n, h => by
    unfold pick_Cut.ext
    split
    · rename_i hc
      have := pick_Cut.ext_le l d (n + 1) hc.1
      omega
    · exact ⟨Nat.le_refl _, h⟩
theorem pick_Cut.at_le (many : Nat) (l : List S45) : min many l.length ≤ pick_Cut.at_ many l ∧ pick_Cut.at_ many l ≤ l.length := pick_Cut.ext_le l _ _ (Nat.min_le_right _ _)
theorem pick_Cut.pieces_len (many : Nat) : ∀ (d : Nat) (l p : List S45), p ∈ pick_Cut.pieces many d l → p.length ≤ l.length
  | 0, l, p, h => by simp [pick_Cut.pieces] at h
  | d + 1, l, p, h => by
    unfold pick_Cut.pieces at h
    split at h
    · simp at h
    · rcases List.mem_cons.1 h with rfl | h
      · rw [List.length_take]; omega
      · have := pick_Cut.pieces_len many d _ p h
        rw [List.length_drop] at this
        omega
theorem pick_Cut.pieces_nil (many d : Nat) : pick_Cut.pieces many d [] = [] := by cases d <;> simp [pick_Cut.pieces]
def pick_Cut.f (l0 : List S45) (a1 : Int) : Option (List (List S45) × Option Int) := if a1 < 1 then some ([], some 1) else if l0.length < 1000000 then some (pick_Cut.pieces a1.toNat l0.length l0, none) else none
/-- The row of pieces, the first k of which are copies. -/
def pick_Cut.Half (wr w : World) (base g : Nat) (cur : Array Value) (P : List (List S45)) (k : Nat) (lo : Nat → Nat) : Prop :=
  (∀ j, j < k → ∃ u, cur[j]? = some u ∧ Kd.R k45 45 wr base (fun b => lo j ≤ b ∧ b < lo (j + 1)) u (P.getD j [])) ∧
  (∀ j, k ≤ j → j < P.length → ∃ A c, cur[j]? = some (.slice A (P.getD j []).length c) ∧ (P.getD j []).length ≤ c ∧ Kd.C k45 w A (P.getD j []).length (P.getD j [])) ∧
  (∀ i j, i ≤ j → lo i ≤ lo j) ∧ lo k ≤ wr.heap.size ∧ g < lo 0 ∧ wr.heap[g]? = some (.cells cur 34 (0, 0))
theorem pick_Cut.Half.start {wr w : World} {base g : Nat} {cur : Array Value} {P : List (List S45)} {inner : List Value} (hgc : wr.heap[g]? = some (.cells cur 34 (0, 0))) (hin : cur.toList.take (P.length * (Kd.fixed (Kd.slice 45 k45) w).sz) = inner) {B : Nat} {ok : Nat → Prop}
    (hr : Reps ((Kd.fixed (Kd.slice 45 k45) w).M wr B ok) (Kd.fixed (Kd.slice 45 k45) w).sz P inner) : pick_Cut.Half wr w base g cur P 0 (fun _ => wr.heap.size) := by
  have hg : g < wr.heap.size := (Array.getElem?_eq_some_iff.1 hgc).1
  refine ⟨fun j hj => absurd hj (Nat.not_lt_zero _), fun j _ hj => ?_, fun _ _ _ => Nat.le_refl _, Nat.le_refl _, hg, hgc⟩
  have hx : P[j]? = some (P.getD j []) := by simp [List.getD, hj]
  obtain ⟨A, c, hc, hlc, hC⟩ := hr.2 j _ hx
  subst hin
  rw [show (Kd.fixed (Kd.slice 45 k45) w).sz = 1 from rfl, Nat.mul_one, Nat.mul_one] at hc
  refine ⟨A, c, ?_, hlc, hC⟩
  have h0 := congrArg (fun l : List Value => l[0]?) hc
  simp only [List.getElem?_take, List.getElem?_drop, Nat.add_zero, List.getElem?_cons_zero] at h0
  rw [if_pos (by omega), if_pos hj] at h0
  simpa using h0
theorem pick_Cut.Half.step {wr w2 w3 w : World} {base g : Nat} {cur : Array Value} {P : List (List S45)} {k : Nat} {lo : Nat → Nat} {u : Value} (h : pick_Cut.Half wr w base g cur P k lo) (hk : k < P.length) (hc : k < cur.size) (hb : Below wr.heap.size wr w2) (hbase : base ≤ wr.heap.size)
    (hu : Kd.R k45 45 w2 wr.heap.size (fun _ => True) u (P.getD k [])) (hg : w2.grownBy w3 (some g)) (h3 : w3.heap[g]? = some (.cells (cur.setIfInBounds k u) 34 (0, 0))) :
    pick_Cut.Half w3 w base g (cur.setIfInBounds k u) P (k + 1) (fun j => if j ≤ k then lo j else w2.heap.size) := by
  obtain ⟨h1, h2, hm, hz, hg0, hgc⟩ := h
  have hmk : ∀ j, j ≤ k → lo j ≤ w2.heap.size := fun j hj => Nat.le_trans (Nat.le_trans (hm j k hj) hz) hb.size
  refine ⟨fun j hj => ?_, fun j hj hjl => ?_, fun i j hij => ?_, ?_, ?_, h3⟩
  · by_cases e : j = k
    · subst e
      refine ⟨u, by simp [Array.getElem?_setIfInBounds, hc], ?_⟩
      have hr := Kd.R_mono (Kd.R_lower (Kd.R_bound hu) hbase) (ok' := fun b => (if j ≤ j then lo j else w2.heap.size) ≤ b ∧ b < (if j + 1 ≤ j then lo (j + 1) else w2.heap.size)) (fun b hb' => by
        rw [if_pos (Nat.le_refl _), if_neg (by omega)]
        exact ⟨Nat.le_trans hz hb'.2.1, hb'.2.2.1⟩)
      exact Kd.R_grown hr hg (fun b hb' e => by
        injection e with e
        dsimp only at hb'
        rw [if_pos (Nat.le_refl _)] at hb'
        have := hm 0 j (Nat.zero_le _)
        omega)
    · obtain ⟨v, hv, hr⟩ := h1 j (by omega)
      refine ⟨v, by rw [Array.getElem?_setIfInBounds, if_neg (by omega)]; exact hv, ?_⟩
      have hr2 := Kd.R_mono (Kd.R_below hr hb) (ok' := fun b => (if j ≤ k then lo j else w2.heap.size) ≤ b ∧ b < (if j + 1 ≤ k then lo (j + 1) else w2.heap.size)) (fun b hb' => by
        rw [if_pos (by omega), if_pos (by omega)]
        exact hb')
      exact Kd.R_grown hr2 hg (fun b hb' e => by
        injection e with e
        dsimp only at hb'
        rw [if_pos (by omega)] at hb'
        have := hm 0 j (Nat.zero_le _)
        omega)
  · obtain ⟨A, c, hv, hl, hr⟩ := h2 j (by omega) hjl
    exact ⟨A, c, by rw [Array.getElem?_setIfInBounds, if_neg (by omega)]; exact hv, hl, hr⟩
  · dsimp only
    split
    · split
      · exact hm i j hij
      · exact hmk i (by omega)
    · rw [if_neg (by omega)]; exact Nat.le_refl _
  · dsimp only
    rw [if_neg (by omega)]
    exact hg.size
  · dsimp only
    rw [if_pos (Nat.zero_le _)]
    exact hg0
theorem pick_Cut.Half.all {wr w : World} {base g cap : Nat} {cur : Array Value} {P : List (List S45)} {lo : Nat → Nat} (h : pick_Cut.Half wr w base g cur P P.length lo) (hg : base ≤ g) (hn : P.length ≤ cap) (hcap : cap ≤ maxLen) (hcs : cur.size = cap) :
    Kd.S (Kd.slice 45 k45) 34 wr base (fun _ => True) (.slice (some ⟨g, 0, none⟩) P.length cap) P := by
  obtain ⟨h1, -, hm, hz, hg0, hgc⟩ := h
  have hlen : (cur.toList.take P.length).length = P.length := by rw [List.length_take]; simp; omega
  obtain ⟨f, hf⟩ := Kd.reps_tag (d := Kd.slice 45 k45) (w := wr) (base := base) (ok := fun k => True ∧ some k ≠ (Value.slice (some ⟨g, 0, none⟩) P.length cap).ownBlock) (xs := P) (inner := cur.toList.take P.length)
    (fun j b => lo j ≤ b ∧ b < lo (j + 1)) (fun i j b hi hj => by
      rcases Nat.lt_trichotomy i j with q | q | q
      · have := hm (i + 1) j q; omega
      · exact q
      · have := hm (j + 1) i q; omega)
    (fun j b hb => ⟨trivial, by
      simp [Value.ownBlock]
      have := hm 0 j (Nat.zero_le _)
      omega⟩) (by rw [hlen]; simp [Kd.slice]) (fun j x hx => by
      have hj : j < P.length := (List.getElem?_eq_some_iff.1 hx).1
      obtain ⟨u, hu, hr⟩ := h1 j hj
      have hu' : cur.toList[j]? = some u := by simpa using hu
      have e1 : ((cur.toList.take P.length).drop (j * (Kd.slice 45 k45).sz)).take (Kd.slice 45 k45).sz = [u] := by
        show ((cur.toList.take P.length).drop (j * 1)).take 1 = [u]
        have hj2 : j < (cur.toList.take P.length).length := by omega
        rw [Nat.mul_one, List.drop_eq_getElem_cons hj2, List.take_succ_cons, List.take_zero, List.getElem_take]
        exact congrArg (fun x => [x]) (List.getElem?_eq_some_iff.1 hu').2
      rw [e1]
      have e2 : P.getD j [] = x := by simp [List.getD, hx]
      rw [e2] at hr
      exact Kd.M_row hr)
  refine ⟨f, fun _ _ => trivial, cur.toList.take P.length, ?_, hf⟩
  rw [List.length_zipIdx]
  refine ⟨by rw [hlen]; exact (Nat.mul_one _).symm, .inr ⟨g, cap, cur, rfl, hg, hgc, hn, hcap, by rw [hcs]; exact (Nat.mul_one _).symm, by rw [show P.length * (Kd.tag f (Kd.slice 45 k45)).sz = P.length from Nat.mul_one _]⟩⟩
theorem pick_Cut.cut3 {w : World} {A : Option Addr} {R0 : List S45} (_h : Kd.C k45 w A R0.length R0) (i0 : TypeInfo) (hi : Try.prog.info? 45 = some i0) (_hs : i0.size = k45.sz) (c n : Nat) (hn : n ≤ R0.length) (hc : R0.length ≤ c) :
    ∀ W : World, (Instr.slice 34 (.slice A R0.length c) none (some (.int .i64 (n : Int))) (some (.int .i64 (n : Int)))).run Try.prog W = .ok (.slice A n n) W := by
  intro W
  have hel : Try.prog.elem 34 = 45 := by simp [Program.elem, Try.underlying34]
  have hu : Try.prog.underlying 34 = some (.slice (Try.prog.elem 34)) := by rw [hel]; exact Try.underlying34
  have ha : (A.map fun x => x.add 0) = A := by cases A <;> simp [Addr.add]
  rw [run_slice_hm W 34 A R0.length c hu .i64 .i64 n n (by omega) (by omega) (by omega), hel]
  simp [sizeOf, typeInfo, hi, sliced, Result.andThen, ha]
theorem pick_Cut.cut_ {w : World} {A : Option Addr} {R0 : List S45} (h : Kd.C k45 w A R0.length R0) (i0 : TypeInfo) (hi : Try.prog.info? 45 = some i0) (hs : i0.size = k45.sz) (c n : Nat) (hn : n ≤ R0.length) (hc : R0.length ≤ c) :
    ∃ A' : Option Addr, (∀ W : World, (Instr.slice 34 (.slice A R0.length c) (some (.int .i64 (n : Int))) none none).run Try.prog W = .ok (.slice A' (R0.drop n).length (c - n)) W) ∧ Kd.C k45 w A' (R0.drop n).length (R0.drop n) := by
  refine ⟨if c = n then A else A.map (·.add (n * k45.sz)), fun W => ?_, Kd.C_drop h hn hc⟩
  have := cut_from (P := Try.prog) 34 45 .i64 Try.underlying34 hi k45.sz hs A R0.length c (n : Int) (by omega) (by omega) W
  rw [Int.toNat_natCast] at this
  rw [List.length_drop]
  exact this
set_option maxHeartbeats 8000000 in
set_option maxRecDepth 100000 in
theorem pick_Cut.calls (A0 : Option Addr) (c0 : Nat) (l0 : List (S45)) (a1 : Int) (r1 : List (List (S45))) (r2 : Option Int) (w : World) (hr0 : Kd.C k45 w A0 l0.length l0) (hc0 : l0.length ≤ c0) (h : pick_Cut.f l0 a1 = some (r1, r2)) :
    Calls Try.prog 15 #[.slice A0 l0.length c0, .int .i64 a1] w fun e w' => ∃ v0_ : Value, e = .returned (.tuple #[v0_, errW r2]) ∧ Kd.S (Kd.slice 45 k45) 34 w' w.heap.size (fun _ => True) v0_ r1 ∧ Below w.heap.size w w' := by
  unfold pick_Cut.f at h
  by_cases hneg : a1 < 1
  · rw [if_pos hneg] at h
    obtain ⟨rfl, rfl⟩ := Prod.mk.inj (Option.some.inj h)
    clear h hr0 hc0
    go_enter Try.func15, Try.ntmps15
    go_wp2
    go_ret2
    exact ⟨_, rfl, Kd.S_nil _ _ _ _ _, Below.refl _ _⟩
  · rw [if_neg hneg] at h
    by_cases hlen : l0.length < 1000000
    · rw [if_pos hlen] at h
      obtain ⟨h1, h2⟩ := Prod.mk.inj (Option.some.inj h)
      subst h2
      have HP := Aside0.mk h1
      have HR := Aside0.mk hr0
      have HC := Aside0.mk hc0
      obtain ⟨many, rfl⟩ : ∃ many : Nat, a1 = many := ⟨a1.toNat, by omega⟩
      rw [Int.toNat_natCast] at HP
      have hmany : 1 ≤ many := by omega
      have hmany' : (1 : Int) ≤ many := by omega
      have HLN : Aside0 (∀ k, k < r1.length → (r1.getD k []).length < 1000000) := ⟨fun k hk => by
        rw [← h1]
        exact Nat.lt_of_le_of_lt (pick_Cut.pieces_len _ _ _ _ (by
          rw [h1, List.getD_eq_getElem?_getD, List.getElem?_eq_getElem hk]
          exact List.getElem_mem hk)) hlen⟩
      clear h hr0 h1 hneg
      have HB0 := Aside0.mk (Below.refl w.heap.size w)
      go_enter Try.func15, Try.ntmps15
      go_wp2_with fail
      go_loopw [0, 6] (fun s u wr => ∃ (d : Nat) (R0 : List S45) (P : List (List S45)) (A : Option Addr) (c : Nat), s = .slice A R0.length c ∧ R0.length ≤ c ∧ R0.length < 1000000 ∧ Aside0 (Kd.C k45 w A R0.length R0) ∧ Aside0 (P ++ pick_Cut.pieces many d R0 = r1) ∧ Aside0 (R0.length ≤ d) ∧ Aside0 (P.length + R0.length < 1000000) ∧ Aside0 (Kd.R (Kd.fixed (Kd.slice 45 k45) w) 34 wr w.heap.size (fun _ => True) u P) ∧ Aside0 (Below w.heap.size w wr)) (fun s _ _ => match s with | .slice _ n _ => n | _ => 0)
      case atStart => exact ⟨l0.length, l0, [], A0, c0, rfl, hc0, hlen, HR, HP, ⟨Nat.le_refl _⟩, ⟨by simpa using hlen⟩, ⟨Kd.R_nil _ _ _ _ _⟩, HB0⟩
      case round =>
        clear HB0 HR HP hc0 HC hlen
        obtain ⟨d, R0, P, A, c, rfl, hRc, hRl, HR, HP, HD, HPL, HU, HB⟩ := hrel
        by_cases hz : R0.length = 0
        · have hn : R0 = [] := List.eq_nil_of_length_eq_zero hz
          subst hn
          have hP := HP.out
          rw [pick_Cut.pieces_nil, List.append_nil] at hP
          subst hP
          clear HP HD HPL HR hRl hRc hz
          obtain ⟨-, inner, ⟨hil, hown⟩, hreps⟩ := HU.out
          rcases hown with hnil | ⟨g, cap, cells, rfl, hgb, hgc, hn, hcap, hsz, hin⟩
          · obtain ⟨rfl, hP0⟩ := hnil
            have hPn : P = [] := List.eq_nil_of_length_eq_zero hP0
            clear hreps hil HU
            go_wp2_with fail
            go_loopw [51] (fun i wz => i = .int .i64 0 ∧ wz = wr) (fun _ _ => 0)
            case atStart => exact ⟨rfl, rfl⟩
            case round =>
              obtain ⟨rfl, rfl⟩ := hrel
              go_wp2_with fail
              go_ret2
              subst hPn
              exact ⟨_, rfl, Kd.S_nil _ _ _ _ _, HB.out⟩
          · have HH : Aside0 (pick_Cut.Half wr w w.heap.size g cells P 0 (fun _ => wr.heap.size)) := ⟨pick_Cut.Half.start hgc hin hreps⟩
            have HG := Aside0.mk (And.intro hgb (And.intro hn (And.intro hcap hsz)))
            have HPB : Aside0 (P.length ≤ 9223372036854775807) := ⟨Nat.le_trans hn hcap⟩
            clear hgb hgc hn hcap hsz hin hil hreps HU
            go_wp2_with fail
            go_loopw [51] (fun i wz => ∃ (k : Nat) (cur : Array Value) (lo : Nat → Nat), i = .int .i64 k ∧ k ≤ P.length ∧ cur.size = cap ∧ Aside0 (pick_Cut.Half wz w w.heap.size g cur P k lo) ∧ Aside0 (Below w.heap.size w wz)) (fun i _ => P.length - (intOf i).toNat)
            case atStart => exact ⟨0, cells, _, rfl, Nat.zero_le _, HG.out.2.2.2.trans (Nat.mul_one _), HH, HB⟩
            case round =>
              obtain ⟨k, cur, lo, rfl, hk, hcs, HH2, HB2⟩ := hrel
              clear HH HB
              by_cases hlt : k < P.length
              · have hlt' : (k : Int) < P.length := by omega
                obtain ⟨A', c', hcell, hlc, hC⟩ := HH2.out.2.1 k (Nat.le_refl _) hlt
                obtain ⟨X, hX⟩ : ∃ X, X = P.getD k [] := ⟨_, rfl⟩
                rw [← hX] at hcell hlc hC
                have hcl : wr.cell? ⟨g, k, none⟩ = some (.slice A' X.length c') := by
                  have := HH2.out.2.2.2.2.2
                  simp [World.cell?, this, hcell]
                have HX := Aside0.mk hX
                have HC := Aside0.mk hC
                have HXL : Aside0 (X.length < 1000000) := ⟨by rw [hX]; exact HLN.out k hlt⟩
                clear hX hC hcell
                go_wp2_with fail
                refine (api_Entry.calls A' c' X X wr (Kd.C_below HC.out HB2.out) hlc (by unfold api_Entry.f; rw [if_pos (by have := HXL.out; omega)])).mono ?_
                rintro e w2 ⟨u, rfl, hu, hb⟩
                obtain ⟨Au, cu, rfl⟩ := Kd.R_slice hu
                have hstep := fun (w3 : World) (hgr : w2.grownBy w3 (some g)) (h3 : w3.heap[g]? = some (.cells (cur.setIfInBounds k (.slice Au X.length cu)) 34 (0, 0))) => pick_Cut.Half.step (g := g) (u := .slice Au X.length cu) HH2.out hlt (by rw [hcs]; have := HG.out.2.1; omega) hb (HB2.out.size) (by rw [← HX.out]; exact hu) hgr h3
                have hg2 : w2.heap[g]? = some (.cells cur 34 (0, 0)) := (hb.block g (Array.getElem?_eq_some_iff.1 HH2.out.2.2.2.2.2).1).trans HH2.out.2.2.2.2.2
                have HB3 := Aside0.mk (below_step HB2.out hb)
                have HS := Aside0.mk hstep
                have HG2 := Aside0.mk hg2
                clear hu hb hg2 hcl HH2 HB2 hstep
                have hkc : k < cur.size := by rw [hcs]; have := HG.out.2.1; omega
                obtain ⟨hc2, hf2⟩ : w2.cell? ⟨g, k, none⟩ = some cur[k] ∧ w2.frozen? ⟨g, k, none⟩ = false := by
                  refine ⟨(blk_cell HG2.out k).trans ?_, blk_frozen HG2.out k⟩
                  exact Array.getElem?_eq_getElem hkc
                dsimp only
                go_wp2_with fail
                have hgr : w2.grownBy (w2.setCell ⟨g, k, none⟩ (.slice Au X.length cu)) (some g) := ⟨rfl, rfl, rfl, by simp, fun j hj hn => Below.heap_setCell w2 ⟨g, k, none⟩ _ j (fun q => hn (by rw [q]))⟩
                have HH3 := Aside0.mk (HS.out _ hgr (blk_set HG2.out k _))
                have HB4 := Aside0.mk (pw_below_grown HB3.out (some g) HB3.out.size hgr (fun k_ e_ => by injection e_ with e_; have := HG.out.1; omega))
                have hpb := HPB.out
                have hw : wrap64 ((k : Int) + 1) = ((k + 1 : Nat) : Int) := by unfold wrap64; omega
                refine ⟨⟨k + 1, cur.setIfInBounds k (.slice Au X.length cu), _, congrArg _ hw, hlt, by rw [Array.size_setIfInBounds]; exact hcs, HH3, HB4⟩, ?_⟩
                have h2 : P.length - (intOf (.int .i64 (wrap64 ((k : Int) + 1)))).toNat < P.length - (intOf (.int .i64 (k : Int))).toNat := by rw [hw]; simp only [intOf, Int.toNat_natCast]; omega
                exact h2
              · have hlt' : ¬ (k : Int) < P.length := by omega
                have hke : k = P.length := by omega
                subst hke
                go_wp2_with fail
                go_ret2
                exact ⟨_, rfl, pick_Cut.Half.all HH2.out HG.out.1 HG.out.2.1 HG.out.2.2.1 hcs, HB2.out⟩
        · have hpos : 0 < R0.length := by omega
          obtain ⟨n0, hn0⟩ : ∃ n0 : Nat, n0 = min many R0.length := ⟨_, rfl⟩
          have hmin : (if (R0.length : Int) < (many : Int) then (R0.length : Int) else (many : Int)) = (n0 : Int) := by split <;> omega
          have hmin' : (if R0.length < many then (R0.length : Int) else (many : Int)) = (n0 : Int) := by split <;> omega
          have hn1 : 1 ≤ n0 := by omega
          have hn2 : n0 ≤ R0.length := by omega
          have hz0 : (0 : Int) < R0.length := by omega
          have HN0 := Aside0.mk hn0
          have HE : Aside0 (pick_Cut.ext R0 (R0.length - n0) n0 = pick_Cut.at_ many R0) := ⟨by rw [hn0]; rfl⟩
          clear hn0 hz hpos
          go_wp2_with fail
          clear hmin hmin'
          go_loopw [7] (fun i wr => ∃ n : Nat, 1 ≤ n ∧ n ≤ R0.length ∧ i = .int .i64 n ∧ Aside0 (pick_Cut.ext R0 (R0.length - n) n = pick_Cut.at_ many R0) ∧ Aside0 (Kd.R (Kd.fixed (Kd.slice 45 k45) w) 34 wr w.heap.size (fun _ => True) u6 P) ∧ Aside0 (Below w.heap.size w wr)) (fun i _ => R0.length - (intOf i).toNat)
          case atStart => exact ⟨n0, hn1, hn2, rfl, HE, HU, HB⟩
          case round =>
            clear HE HU HB hn1 hn2 HN0
            obtain ⟨n, hn1, hn2, rfl, HE, HU, HB⟩ := hrel
            have hn1' : (1 : Int) ≤ n := by omega
            have hn2' : (n : Int) ≤ R0.length := by omega
            by_cases hlt : n < R0.length
            · obtain ⟨ad, hA, x0, -, -, -⟩ := at_T45 (Kd.C_below HR.out HB.out) (n : Int) (by omega) (by omega)
              obtain ⟨ad', hA', y0, -, -, -⟩ := at_T45 (Kd.C_below HR.out HB.out) ((n : Int) - 1) (by omega) (by omega)
              subst hA
              injection hA' with hA'
              subst hA'
              obtain ⟨x, hx⟩ : ∃ x : S45, x = rd_T45 R0 (n : Int) := ⟨_, rfl⟩
              obtain ⟨y, hy⟩ : ∃ y : S45, y = rd_T45 R0 ((n : Int) - 1) := ⟨_, rfl⟩
              rw [← hx, Int.toNat_natCast] at x0
              rw [← hy, show ((n : Int) - 1).toNat = n - 1 by omega] at y0
              have hxg : x = R0.getD n z45 := by rw [hx, rd_T45, Int.toNat_natCast]
              have hyg : y = R0.getD (n - 1) z45 := by rw [hy, rd_T45, show ((n : Int) - 1).toNat = n - 1 by omega]
              have hext : pick_Cut.ext R0 (R0.length - n) n = if x.f0.toList = y.f0.toList then pick_Cut.ext R0 (R0.length - (n + 1)) (n + 1) else n := by
                conv => lhs; rw [show R0.length - n = (R0.length - (n + 1)) + 1 by omega]; unfold pick_Cut.ext
                rw [hxg, hyg]
                by_cases q : (R0.getD n z45).f0.toList = (R0.getD (n - 1) z45).f0.toList
                · rw [if_pos ⟨hlt, q⟩, if_pos q]
                · rw [if_neg (fun h => q h.2), if_neg q]
              have HX := Aside0.mk hext
              clear hx hy hxg hyg hext
              have hltb : decide ((n : Int) < R0.length) = true := decide_eq_true (by omega)
              by_cases q : x.f0.toList = y.f0.toList
              · have qb : (x.f0.toList == y.f0.toList) = true := beq_iff_eq.2 q
                have HE2 : Aside0 (pick_Cut.ext R0 (R0.length - (n + 1)) (n + 1) = pick_Cut.at_ many R0) := ⟨by rw [← HE.out, HX.out, if_pos q]⟩
                clear q HE HX
                go_wp2_with fail
                go_quiet (fail)
                go_wp2_with fail
                refine ⟨⟨n + 1, by omega, by omega, by go_num, HE2, ⟨Kd.R_drewN HU.out _⟩, ⟨pw_below_drewN HB.out _⟩⟩, by simp [intOf]; omega⟩
              · have qb : (x.f0.toList == y.f0.toList) = false := beq_eq_false_iff_ne.2 q
                have HE2 : Aside0 (n = pick_Cut.at_ many R0) := ⟨by rw [← HE.out, HX.out, if_neg q]⟩
                clear q HE HX
                go_wp2_with fail
                go_quiet (fail)
                have HU2 := Aside0.mk (Kd.R_drewN HU.out nq)
                have HB2 := Aside0.mk (pw_below_drewN HB.out nq)
                generalize wr.drewN nq = wr2 at HU2 HB2 ⊢
                clear HU HB x0 y0
                obtain ⟨i0, hi, hzz⟩ := Option.map_eq_some_iff.1 info45
                simp only [Prod.mk.injEq] at hzz
                obtain ⟨X, hX⟩ : ∃ X, X = R0.take n := ⟨_, rfl⟩
                have hXl : X.length = n := by rw [hX, List.length_take]; omega
                have hXC := Kd.C_take HR.out hn2
                rw [← hX, hXl] at hXC
                have HXC := Aside0.mk hXC
                have HXL := Aside0.mk hXl
                have hcut2 := pick_Cut.cut3 HR.out i0 hi hzz.2.1 c n hn2 hRc
                obtain ⟨A', hcut, hRC⟩ := pick_Cut.cut_ HR.out i0 hi hzz.2.1 c n hn2 hRc
                obtain ⟨R1, hR1⟩ : ∃ R1, R1 = R0.drop n := ⟨_, rfl⟩
                have hR1l : R1.length = R0.length - n := by rw [hR1, List.length_drop]
                rw [← hR1] at hcut hRC
                have HRC := Aside0.mk hRC
                obtain ⟨d', rfl⟩ : ∃ d', d = d' + 1 := ⟨d - 1, by have := HD.out; omega⟩
                have hP2 := HP.out
                rw [pick_Cut.pieces, if_neg (by intro q; rw [q] at hn2; simp at hn2; omega), ← HE2.out, ← hX, ← hR1] at hP2
                have HP2 : Aside0 ((P ++ [X]) ++ pick_Cut.pieces many d' R1 = r1) := ⟨by rw [List.append_assoc]; exact hP2⟩
                have HD2 : Aside0 (R1.length ≤ d') := ⟨by have := HD.out; omega⟩
                have HPL2 : Aside0 ((P ++ [X]).length + R1.length < 1000000) := ⟨by have := HPL.out; rw [List.length_append, List.length_singleton]; omega⟩
                have hR1c : R1.length ≤ c - n := by omega
                have hR1m : R1.length < 1000000 := by omega
                have HML : Aside0 (R1.length < R0.length) := ⟨by omega⟩
                have HPS : Aside0 (P.length < 1000000) := ⟨by have := HPL.out; omega⟩
                clear hi hzz hXC hXl hRC hR1l hP2 hX hR1 HP HD HPL HE2
                go_wp2_with ((with_reducible refine gate_builtin (b := .append) (xs := #[.tmp 39, .tmp 44]) rfl ?_); refine Kd.R_append (Kd.fixed (Kd.slice 45 k45) w) (w0 := w) w.heap.size rfl (.tmp 39) (.tmp 44) 35 34 (.slice none 0 0) 24 rfl Try.underlying35 info34 rfl Nat.zero_lt_one (by omega) _ P X [.slice _ n n] (fun _ => True) (fun _ => False) rfl (by first | (go_simp; done) | (go_simp; rfl)) ?aP (fun _ hk => hk.elim) ?aF ?aO ?aB ?aS ?aL ?_; (case aP => exact ⟨_, n, by rw [HXL.out], by rw [HXL.out]; exact Nat.le_refl _, by rw [HXL.out]; exact HXC.out⟩); (case aF => exact fun _ _ => trivial); (case aO => exact HU2.out); (case aB => exact HB2.out); (case aS => exact HB2.out.size); (case aL => have := HPS.out; omega); intro v3 w3 ho hb hg hat; have HU3 := Aside0.mk ho; have HB3 := Aside0.mk hb; clear ho hb hg hat)
                refine ⟨⟨d', R1, P ++ [X], A', c - n, rfl, hR1c, hR1m, HRC, HP2, HD2, HPL2, HU3, HB3⟩, HML.out⟩
            · have hE := HE.out
              rw [show R0.length - n = 0 by omega] at hE
              have HE2 : Aside0 (n = pick_Cut.at_ many R0) := ⟨hE⟩
              have hltb : decide ((n : Int) < R0.length) = false := decide_eq_false (by omega)
              clear hE HE
              go_wp2_with fail
              go_quiet (fail)
              have HU2 := Aside0.mk (Kd.R_drewN HU.out nq)
              have HB2 := Aside0.mk (pw_below_drewN HB.out nq)
              generalize wr.drewN nq = wr2 at HU2 HB2 ⊢
              clear HU HB
              obtain ⟨i0, hi, hzz⟩ := Option.map_eq_some_iff.1 info45
              simp only [Prod.mk.injEq] at hzz
              obtain ⟨X, hX⟩ : ∃ X, X = R0.take n := ⟨_, rfl⟩
              have hXl : X.length = n := by rw [hX, List.length_take]; omega
              have hXC := Kd.C_take HR.out hn2
              rw [← hX, hXl] at hXC
              have HXC := Aside0.mk hXC
              have HXL := Aside0.mk hXl
              have hcut2 := pick_Cut.cut3 HR.out i0 hi hzz.2.1 c n hn2 hRc
              obtain ⟨A', hcut, hRC⟩ := pick_Cut.cut_ HR.out i0 hi hzz.2.1 c n hn2 hRc
              obtain ⟨R1, hR1⟩ : ∃ R1, R1 = R0.drop n := ⟨_, rfl⟩
              have hR1l : R1.length = R0.length - n := by rw [hR1, List.length_drop]
              rw [← hR1] at hcut hRC
              have HRC := Aside0.mk hRC
              obtain ⟨d', rfl⟩ : ∃ d', d = d' + 1 := ⟨d - 1, by have := HD.out; omega⟩
              have hP2 := HP.out
              rw [pick_Cut.pieces, if_neg (by intro q; rw [q] at hn2; simp at hn2; omega), ← HE2.out, ← hX, ← hR1] at hP2
              have HP2 : Aside0 ((P ++ [X]) ++ pick_Cut.pieces many d' R1 = r1) := ⟨by rw [List.append_assoc]; exact hP2⟩
              have HD2 : Aside0 (R1.length ≤ d') := ⟨by have := HD.out; omega⟩
              have HPL2 : Aside0 ((P ++ [X]).length + R1.length < 1000000) := ⟨by have := HPL.out; rw [List.length_append, List.length_singleton]; omega⟩
              have hR1c : R1.length ≤ c - n := by omega
              have hR1m : R1.length < 1000000 := by omega
              have HML : Aside0 (R1.length < R0.length) := ⟨by omega⟩
              have HPS : Aside0 (P.length < 1000000) := ⟨by have := HPL.out; omega⟩
              clear hi hzz hXC hXl hRC hR1l hP2 hX hR1 HP HD HPL HE2
              go_wp2_with ((with_reducible refine gate_builtin (b := .append) (xs := #[.tmp 39, .tmp 44]) rfl ?_); refine Kd.R_append (Kd.fixed (Kd.slice 45 k45) w) (w0 := w) w.heap.size rfl (.tmp 39) (.tmp 44) 35 34 (.slice none 0 0) 24 rfl Try.underlying35 info34 rfl Nat.zero_lt_one (by omega) _ P X [.slice _ n n] (fun _ => True) (fun _ => False) rfl (by first | (go_simp; done) | (go_simp; rfl)) ?aP (fun _ hk => hk.elim) ?aF ?aO ?aB ?aS ?aL ?_; (case aP => exact ⟨_, n, by rw [HXL.out], by rw [HXL.out]; exact Nat.le_refl _, by rw [HXL.out]; exact HXC.out⟩); (case aF => exact fun _ _ => trivial); (case aO => exact HU2.out); (case aB => exact HB2.out); (case aS => exact HB2.out.size); (case aL => have := HPS.out; omega); intro v3 w3 ho hb hg hat; have HU3 := Aside0.mk ho; have HB3 := Aside0.mk hb; clear ho hb hg hat)
              refine ⟨⟨d', R1, P ++ [X], A', c - n, rfl, hR1c, hR1m, HRC, HP2, HD2, HPL2, HU3, HB3⟩, HML.out⟩
    · rw [if_neg hlen] at h
      cases h


end Go.Proofs.Ytepgnefkpjnmlaa.PD
