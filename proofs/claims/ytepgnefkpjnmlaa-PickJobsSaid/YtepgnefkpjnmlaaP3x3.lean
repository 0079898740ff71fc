-- printed by gprint.py (own tool) over the kit's print
import Derived.Test.YtepgnefkpjnmlaaP3x0
import Derived.Test.YtepgnefkpjnmlaaP3x2
namespace Go.Proofs.Ytepgnefkpjnmlaa.P3
open Go.RowKit Go.Proofs.Ytepgnefkpjnmlaa Go.Proofs.YtepgnefkpjnmlaaW.PrintWords Go.Proofs.YtepgnefkpjnmlaaW.PrintLast Go.Proofs.YtepgnefkpjnmlaaW.PrintMore
attribute [local go_sem] max2_int min2_int max_two min_two max_three min_three max_four min_four   -- for this text's walks alone
attribute [local go_sem] min2_str max2_str leq_str gtr_str geq_str
set_option linter.unusedVariables false
set_option linter.unusedSimpArgs false

/-! ### pick_meet: function 23 -/
def pick_meet.l0 : Nat → ByteArray → ByteArray → List (S49) → Int → Int → Int → Int → ByteArray → ByteArray → Int → Option (Bool)
  | 0, _, _, _, _, _, _, _, _, _, _ => none
  | k + 1, x5, x6, x20, x21, x22, x141000, x141001, x141002, x141003, x141004 => if x22 < x21 then (if 0 ≤ x22 then (if x22 < (x20.length : Int) then (pick_meet.l0 k (minB x5 ((rd_T49 x20 x22).f2)) (maxB x6 ((rd_T49 x20 x22).f3)) x20 x21 (wrap64 (x22 + 1)) x141000 x141001 x141002 x141003 x141004) else (none)) else (none)) else (if ((Op.bytesLess x6.toList x141002.toList) = true) then (some false) else (some (!(Op.bytesLess x141003.toList x5.toList))))
def pick_meet.f (k : Nat) (a0_0 : Int) (a0_1 : Int) (a0_2 : ByteArray) (a0_3 : ByteArray) (a0_4 : Int) (l1 : List (S49)) : Option (Bool) := if (l1.length : Int) = 0 then (some false) else (if 0 < (l1.length : Int) then (pick_meet.l0 k ((rd_T49 l1 0).f2) ((rd_T49 l1 0).f3) l1 (l1.length : Int) 0 a0_0 a0_1 a0_2 a0_3 a0_4) else (none))
theorem pick_meet.mono_l : ∀ k, (∀ y0 y1 y2 y3 y4 y5 y6 y7 y8 y9, LeO (pick_meet.l0 k y0 y1 y2 y3 y4 y5 y6 y7 y8 y9) (pick_meet.l0 (k + 1) y0 y1 y2 y3 y4 y5 y6 y7 y8 y9))
  | 0 => fun _ _ _ _ _ _ _ _ _ _ r h => by simp [pick_meet.l0] at h
  | k + 1 => by
    have ih0 := pick_meet.mono_l k
    · intro y0 y1 y2 y3 y4 y5 y6 y7 y8 y9
      unfold pick_meet.l0
      repeat' first
      | (with_reducible exact ih0 _ _ _ _ _ _ _ _ _ _)
      | (with_reducible exact LeO.refl _)
      | (with_reducible exact LeO.none _)
      | (with_reducible refine LeO.ite ?_ ?_)
      | (with_reducible refine LeO.bind ?_ (fun _ => ?_))
      | exact ih0 _ _ _ _ _ _ _ _ _ _
      | exact LeO.none _
      | refine LeO.ite ?_ ?_
      | refine LeO.bind ?_ (fun _ => ?_)
theorem pick_meet.mono : ∀ a0 a1 a2 a3 a4 a5 k, LeO (pick_meet.f k a0 a1 a2 a3 a4 a5) (pick_meet.f (k + 1) a0 a1 a2 a3 a4 a5) := by
  intro a0 a1 a2 a3 a4 a5 k
  have ih0 := pick_meet.mono_l k
  unfold pick_meet.f
  repeat' first
      | (with_reducible exact ih0 _ _ _ _ _ _ _ _ _ _)
      | (with_reducible exact LeO.refl _)
      | (with_reducible exact LeO.none _)
      | (with_reducible refine LeO.ite ?_ ?_)
      | (with_reducible refine LeO.bind ?_ (fun _ => ?_))
      | exact ih0 _ _ _ _ _ _ _ _ _ _
      | exact LeO.none _
      | refine LeO.ite ?_ ?_
      | refine LeO.bind ?_ (fun _ => ?_)
set_option maxHeartbeats 8000000 in
set_option maxRecDepth 100000 in
theorem pick_meet.calls (k : Nat) (a0_0 : Int) (a0_1 : Int) (a0_2 : ByteArray) (a0_3 : ByteArray) (a0_4 : Int) (A1 : Option Addr) (c1 : Nat) (l1 : List (S49)) (r : Bool) (w : World) (hr1 : Kd.C k49 w A1 l1.length l1) (hc1 : l1.length ≤ c1) (h : pick_meet.f k a0_0 a0_1 a0_2 a0_3 a0_4 l1 = some r) :
    Calls Try.prog 23 #[.agg #[.int .i64 a0_0, .int .i64 a0_1, .string a0_2, .string a0_3, .int .i64 a0_4], .slice A1 l1.length c1] w fun e w' => e = .returned (.bool r) ∧ Below w.heap.size w w' := by
  have hu49 := Try.underlying49
  have HR1 := Aside0.mk hr1
  have HC1 := Aside0.mk hc1
  clear hr1 hc1
  have HB := Aside0.mk (Below.refl w.heap.size w)
  have H : (if (l1.length : Int) = 0 then (some false) else (if 0 < (l1.length : Int) then (pick_meet.l0 k ((rd_T49 l1 0).f2) ((rd_T49 l1 0).f3) l1 (l1.length : Int) 0 a0_0 a0_1 a0_2 a0_3 a0_4) else (none))) = some r := h
  clear h
  by_cases c3 : (l1.length : Int) = 0
  · rw [if_pos c3] at H
    have c3b0 : ((l1.length : Int) == 0) = true := beq_iff_eq.mpr c3
    have c3b1 : ((l1.length : Int) != 0) = false := bne_eq_false_iff_eq.mpr c3
    clear c3
    obtain rfl := Option.some.inj H
    go_enter Try.func23, Try.ntmps23
    go_wp2_with (first | ((with_reducible refine gate_dst (N := 2) rfl ?_); refine box_event ?hg (N := 2) ?hd (cs := #[.int .i64 a0_0, .int .i64 a0_1, .string a0_2, .string a0_3, .int .i64 a0_4]) (t := 49) ?hr ?_; (case hd => rfl); (case hg => rfl); (case hr => first | (go_simp; done) | (go_simp; rfl)); intro gb140 hg w4 hbox hb; have n0_ := Aside0.mk (below_step (by repeat (first | (with_reducible first | exact HB.out | apply below_alloc | apply pw_below_drewN | apply below_drew1) | exact HB.out)) hb); have n1_ := Aside0.mk (hbox); have n2_ := Aside0.mk ((by rw [hg]; exact (below_size (by repeat (first | (with_reducible first | exact HB.out | apply below_alloc | apply pw_below_drewN | apply below_drew1) | exact HB.out))) : w.heap.size ≤ gb140)); have n3_ := Aside0.mk ((by rw [hg]; exact (below_size (by repeat (first | (with_reducible first | exact HB.out | apply below_alloc | apply pw_below_drewN | apply below_drew1) | exact HB.out))) : w.heap.size ≤ gb140)); clear HB; have HB := n0_; have BK140 := n1_; have GW140 := n2_; have GE140 := n3_; clear n0_ n1_ n2_ n3_; clear hb hbox hg))
    repeat (go_quiet (first | ((with_reducible refine gate_dst (N := 2) rfl ?_); refine box_event ?hg (N := 2) ?hd (cs := #[.int .i64 a0_0, .int .i64 a0_1, .string a0_2, .string a0_3, .int .i64 a0_4]) (t := 49) ?hr ?_; (case hd => rfl); (case hg => rfl); (case hr => first | (go_simp; done) | (go_simp; rfl)); intro gb140 hg w4 hbox hb; have n0_ := Aside0.mk (below_step (by repeat (first | (with_reducible first | exact HB.out | apply below_alloc | apply pw_below_drewN | apply below_drew1) | exact HB.out)) hb); have n1_ := Aside0.mk (hbox); have n2_ := Aside0.mk ((by rw [hg]; exact (below_size (by repeat (first | (with_reducible first | exact HB.out | apply below_alloc | apply pw_below_drewN | apply below_drew1) | exact HB.out))) : w.heap.size ≤ gb140)); have n3_ := Aside0.mk ((by rw [hg]; exact (below_size (by repeat (first | (with_reducible first | exact HB.out | apply below_alloc | apply pw_below_drewN | apply below_drew1) | exact HB.out))) : w.heap.size ≤ gb140)); clear HB; have HB := n0_; have BK140 := n1_; have GW140 := n2_; have GE140 := n3_; clear n0_ n1_ n2_ n3_; clear hb hbox hg)); try go_wp2_with (first | ((with_reducible refine gate_dst (N := 2) rfl ?_); refine box_event ?hg (N := 2) ?hd (cs := #[.int .i64 a0_0, .int .i64 a0_1, .string a0_2, .string a0_3, .int .i64 a0_4]) (t := 49) ?hr ?_; (case hd => rfl); (case hg => rfl); (case hr => first | (go_simp; done) | (go_simp; rfl)); intro gb140 hg w4 hbox hb; have n0_ := Aside0.mk (below_step (by repeat (first | (with_reducible first | exact HB.out | apply below_alloc | apply pw_below_drewN | apply below_drew1) | exact HB.out)) hb); have n1_ := Aside0.mk (hbox); have n2_ := Aside0.mk ((by rw [hg]; exact (below_size (by repeat (first | (with_reducible first | exact HB.out | apply below_alloc | apply pw_below_drewN | apply below_drew1) | exact HB.out))) : w.heap.size ≤ gb140)); have n3_ := Aside0.mk ((by rw [hg]; exact (below_size (by repeat (first | (with_reducible first | exact HB.out | apply below_alloc | apply pw_below_drewN | apply below_drew1) | exact HB.out))) : w.heap.size ≤ gb140)); clear HB; have HB := n0_; have BK140 := n1_; have GW140 := n2_; have GE140 := n3_; clear n0_ n1_ n2_ n3_; clear hb hbox hg)))
    go_ret
    exact ⟨by first | rfl | (simp [errW_none, errW_some] <;> rfl) | (simp [*, errW_none, errW_some] <;> rfl), by repeat (first | (with_reducible first | exact HB.out | apply below_alloc | apply pw_below_drewN | apply below_drew1 | refine below_set ?_ GE140.out) | exact HB.out)⟩
  · rw [if_neg c3] at H
    have c3b0 : ((l1.length : Int) == 0) = false := beq_eq_false_iff_ne.mpr c3
    have c3b1 : ((l1.length : Int) != 0) = true := bne_iff_ne.mpr c3
    have c3b2 : ¬ (l1 = []) := fun h_ => c3 (by rw [h_]; rfl)
    by_cases c5 : 0 < (l1.length : Int)
    · rw [if_pos c5] at H
      have c5b0 : decide (0 < (l1.length : Int)) = true := decide_eq_true c5
      have c5b1 : decide (0 < l1.length) = true := decide_eq_true (by omega)
      clear c5
      have H' := Aside0.mk H
      clear H
      go_enter Try.func23, Try.ntmps23
      go_wp2_with (first | ((with_reducible refine gate_dst (N := 2) rfl ?_); refine box_event ?hg (N := 2) ?hd (cs := #[.int .i64 a0_0, .int .i64 a0_1, .string a0_2, .string a0_3, .int .i64 a0_4]) (t := 49) ?hr ?_; (case hd => rfl); (case hg => rfl); (case hr => first | (go_simp; done) | (go_simp; rfl)); intro gb140 hg w6 hbox hb; have n0_ := Aside0.mk (below_step (by repeat (first | (with_reducible first | exact HB.out | apply below_alloc | apply pw_below_drewN | apply below_drew1) | exact HB.out)) hb); have n1_ := Aside0.mk (hbox); have n2_ := Aside0.mk ((by rw [hg]; exact (below_size (by repeat (first | (with_reducible first | exact HB.out | apply below_alloc | apply pw_below_drewN | apply below_drew1) | exact HB.out))) : w.heap.size ≤ gb140)); have n3_ := Aside0.mk ((by rw [hg]; exact (below_size (by repeat (first | (with_reducible first | exact HB.out | apply below_alloc | apply pw_below_drewN | apply below_drew1) | exact HB.out))) : w.heap.size ≤ gb140)); clear HB; have HB := n0_; have BK140 := n1_; have GW140 := n2_; have GE140 := n3_; clear n0_ n1_ n2_ n3_; clear hb hbox hg; have p141 : 0 ≤ (0 : Int) := (by omega); have q141 : 0 < (l1.length : Int) := of_decide_eq_true (by first | (with_reducible assumption) | assumption); obtain ⟨ad141, e141, hx141_0, hx141_1, hx141_2, hx141_3, hx141_4⟩ := at_T49 HR1.out 0 p141 q141; cases e141; have qi141 : (0 < l1.length) = True := eq_true (by omega); (try rw [show ((0 : Int)).toNat = 0 from rfl] at hx141_0); (try rw [show 0 * 5 = 0 from rfl] at hx141_0); (try rw [Addr.add_zero'] at hx141_0); (try rw [show ((0 : Int)).toNat = 0 from rfl] at hx141_1); (try rw [show 0 * 5 = 0 from rfl] at hx141_1); (try rw [Addr.add_zero'] at hx141_1); (try rw [show ((0 : Int)).toNat = 0 from rfl] at hx141_2); (try rw [show 0 * 5 = 0 from rfl] at hx141_2); (try rw [Addr.add_zero'] at hx141_2); (try rw [show ((0 : Int)).toNat = 0 from rfl] at hx141_3); (try rw [show 0 * 5 = 0 from rfl] at hx141_3); (try rw [Addr.add_zero'] at hx141_3); (try rw [show ((0 : Int)).toNat = 0 from rfl] at hx141_4); (try rw [show 0 * 5 = 0 from rfl] at hx141_4); (try rw [Addr.add_zero'] at hx141_4); replace hx141_0 := (HB.out.cell (World.block_lt_of_cell? w _ hx141_0)).trans hx141_0; replace hx141_1 := (HB.out.cell (World.block_lt_of_cell? w _ hx141_1)).trans hx141_1; replace hx141_2 := (HB.out.cell (World.block_lt_of_cell? w _ hx141_2)).trans hx141_2; replace hx141_3 := (HB.out.cell (World.block_lt_of_cell? w _ hx141_3)).trans hx141_3; replace hx141_4 := (HB.out.cell (World.block_lt_of_cell? w _ hx141_4)).trans hx141_4; replace p141 := eq_true p141; replace q141 := eq_true q141; have p142 : 0 ≤ (0 : Int) := (by omega); have q142 : 0 < (l1.length : Int) := of_decide_eq_true (by first | (with_reducible assumption) | assumption); obtain ⟨ad142, e142, hx142_0, hx142_1, hx142_2, hx142_3, hx142_4⟩ := at_T49 HR1.out 0 p142 q142; obtain rfl : ad141 = ad142 := (by injection e142); have qi142 : (0 < l1.length) = True := eq_true (by omega); (try rw [show ((0 : Int)).toNat = 0 from rfl] at hx142_0); (try rw [show 0 * 5 = 0 from rfl] at hx142_0); (try rw [Addr.add_zero'] at hx142_0); (try rw [show ((0 : Int)).toNat = 0 from rfl] at hx142_1); (try rw [show 0 * 5 = 0 from rfl] at hx142_1); (try rw [Addr.add_zero'] at hx142_1); (try rw [show ((0 : Int)).toNat = 0 from rfl] at hx142_2); (try rw [show 0 * 5 = 0 from rfl] at hx142_2); (try rw [Addr.add_zero'] at hx142_2); (try rw [show ((0 : Int)).toNat = 0 from rfl] at hx142_3); (try rw [show 0 * 5 = 0 from rfl] at hx142_3); (try rw [Addr.add_zero'] at hx142_3); (try rw [show ((0 : Int)).toNat = 0 from rfl] at hx142_4); (try rw [show 0 * 5 = 0 from rfl] at hx142_4); (try rw [Addr.add_zero'] at hx142_4); replace hx142_0 := (HB.out.cell (World.block_lt_of_cell? w _ hx142_0)).trans hx142_0; replace hx142_1 := (HB.out.cell (World.block_lt_of_cell? w _ hx142_1)).trans hx142_1; replace hx142_2 := (HB.out.cell (World.block_lt_of_cell? w _ hx142_2)).trans hx142_2; replace hx142_3 := (HB.out.cell (World.block_lt_of_cell? w _ hx142_3)).trans hx142_3; replace hx142_4 := (HB.out.cell (World.block_lt_of_cell? w _ hx142_4)).trans hx142_4; replace p142 := eq_true p142; replace q142 := eq_true q142))
      repeat (go_quiet (first | ((with_reducible refine gate_dst (N := 2) rfl ?_); refine box_event ?hg (N := 2) ?hd (cs := #[.int .i64 a0_0, .int .i64 a0_1, .string a0_2, .string a0_3, .int .i64 a0_4]) (t := 49) ?hr ?_; (case hd => rfl); (case hg => rfl); (case hr => first | (go_simp; done) | (go_simp; rfl)); intro gb140 hg w6 hbox hb; have n0_ := Aside0.mk (below_step (by repeat (first | (with_reducible first | exact HB.out | apply below_alloc | apply pw_below_drewN | apply below_drew1) | exact HB.out)) hb); have n1_ := Aside0.mk (hbox); have n2_ := Aside0.mk ((by rw [hg]; exact (below_size (by repeat (first | (with_reducible first | exact HB.out | apply below_alloc | apply pw_below_drewN | apply below_drew1) | exact HB.out))) : w.heap.size ≤ gb140)); have n3_ := Aside0.mk ((by rw [hg]; exact (below_size (by repeat (first | (with_reducible first | exact HB.out | apply below_alloc | apply pw_below_drewN | apply below_drew1) | exact HB.out))) : w.heap.size ≤ gb140)); clear HB; have HB := n0_; have BK140 := n1_; have GW140 := n2_; have GE140 := n3_; clear n0_ n1_ n2_ n3_; clear hb hbox hg; have p141 : 0 ≤ (0 : Int) := (by omega); have q141 : 0 < (l1.length : Int) := of_decide_eq_true (by first | (with_reducible assumption) | assumption); obtain ⟨ad141, e141, hx141_0, hx141_1, hx141_2, hx141_3, hx141_4⟩ := at_T49 HR1.out 0 p141 q141; cases e141; have qi141 : (0 < l1.length) = True := eq_true (by omega); (try rw [show ((0 : Int)).toNat = 0 from rfl] at hx141_0); (try rw [show 0 * 5 = 0 from rfl] at hx141_0); (try rw [Addr.add_zero'] at hx141_0); (try rw [show ((0 : Int)).toNat = 0 from rfl] at hx141_1); (try rw [show 0 * 5 = 0 from rfl] at hx141_1); (try rw [Addr.add_zero'] at hx141_1); (try rw [show ((0 : Int)).toNat = 0 from rfl] at hx141_2); (try rw [show 0 * 5 = 0 from rfl] at hx141_2); (try rw [Addr.add_zero'] at hx141_2); (try rw [show ((0 : Int)).toNat = 0 from rfl] at hx141_3); (try rw [show 0 * 5 = 0 from rfl] at hx141_3); (try rw [Addr.add_zero'] at hx141_3); (try rw [show ((0 : Int)).toNat = 0 from rfl] at hx141_4); (try rw [show 0 * 5 = 0 from rfl] at hx141_4); (try rw [Addr.add_zero'] at hx141_4); replace hx141_0 := (HB.out.cell (World.block_lt_of_cell? w _ hx141_0)).trans hx141_0; replace hx141_1 := (HB.out.cell (World.block_lt_of_cell? w _ hx141_1)).trans hx141_1; replace hx141_2 := (HB.out.cell (World.block_lt_of_cell? w _ hx141_2)).trans hx141_2; replace hx141_3 := (HB.out.cell (World.block_lt_of_cell? w _ hx141_3)).trans hx141_3; replace hx141_4 := (HB.out.cell (World.block_lt_of_cell? w _ hx141_4)).trans hx141_4; replace p141 := eq_true p141; replace q141 := eq_true q141; have p142 : 0 ≤ (0 : Int) := (by omega); have q142 : 0 < (l1.length : Int) := of_decide_eq_true (by first | (with_reducible assumption) | assumption); obtain ⟨ad142, e142, hx142_0, hx142_1, hx142_2, hx142_3, hx142_4⟩ := at_T49 HR1.out 0 p142 q142; obtain rfl : ad141 = ad142 := (by injection e142); have qi142 : (0 < l1.length) = True := eq_true (by omega); (try rw [show ((0 : Int)).toNat = 0 from rfl] at hx142_0); (try rw [show 0 * 5 = 0 from rfl] at hx142_0); (try rw [Addr.add_zero'] at hx142_0); (try rw [show ((0 : Int)).toNat = 0 from rfl] at hx142_1); (try rw [show 0 * 5 = 0 from rfl] at hx142_1); (try rw [Addr.add_zero'] at hx142_1); (try rw [show ((0 : Int)).toNat = 0 from rfl] at hx142_2); (try rw [show 0 * 5 = 0 from rfl] at hx142_2); (try rw [Addr.add_zero'] at hx142_2); (try rw [show ((0 : Int)).toNat = 0 from rfl] at hx142_3); (try rw [show 0 * 5 = 0 from rfl] at hx142_3); (try rw [Addr.add_zero'] at hx142_3); (try rw [show ((0 : Int)).toNat = 0 from rfl] at hx142_4); (try rw [show 0 * 5 = 0 from rfl] at hx142_4); (try rw [Addr.add_zero'] at hx142_4); replace hx142_0 := (HB.out.cell (World.block_lt_of_cell? w _ hx142_0)).trans hx142_0; replace hx142_1 := (HB.out.cell (World.block_lt_of_cell? w _ hx142_1)).trans hx142_1; replace hx142_2 := (HB.out.cell (World.block_lt_of_cell? w _ hx142_2)).trans hx142_2; replace hx142_3 := (HB.out.cell (World.block_lt_of_cell? w _ hx142_3)).trans hx142_3; replace hx142_4 := (HB.out.cell (World.block_lt_of_cell? w _ hx142_4)).trans hx142_4; replace p142 := eq_true p142; replace q142 := eq_true q142)); try go_wp2_with (first | ((with_reducible refine gate_dst (N := 2) rfl ?_); refine box_event ?hg (N := 2) ?hd (cs := #[.int .i64 a0_0, .int .i64 a0_1, .string a0_2, .string a0_3, .int .i64 a0_4]) (t := 49) ?hr ?_; (case hd => rfl); (case hg => rfl); (case hr => first | (go_simp; done) | (go_simp; rfl)); intro gb140 hg w6 hbox hb; have n0_ := Aside0.mk (below_step (by repeat (first | (with_reducible first | exact HB.out | apply below_alloc | apply pw_below_drewN | apply below_drew1) | exact HB.out)) hb); have n1_ := Aside0.mk (hbox); have n2_ := Aside0.mk ((by rw [hg]; exact (below_size (by repeat (first | (with_reducible first | exact HB.out | apply below_alloc | apply pw_below_drewN | apply below_drew1) | exact HB.out))) : w.heap.size ≤ gb140)); have n3_ := Aside0.mk ((by rw [hg]; exact (below_size (by repeat (first | (with_reducible first | exact HB.out | apply below_alloc | apply pw_below_drewN | apply below_drew1) | exact HB.out))) : w.heap.size ≤ gb140)); clear HB; have HB := n0_; have BK140 := n1_; have GW140 := n2_; have GE140 := n3_; clear n0_ n1_ n2_ n3_; clear hb hbox hg; have p141 : 0 ≤ (0 : Int) := (by omega); have q141 : 0 < (l1.length : Int) := of_decide_eq_true (by first | (with_reducible assumption) | assumption); obtain ⟨ad141, e141, hx141_0, hx141_1, hx141_2, hx141_3, hx141_4⟩ := at_T49 HR1.out 0 p141 q141; cases e141; have qi141 : (0 < l1.length) = True := eq_true (by omega); (try rw [show ((0 : Int)).toNat = 0 from rfl] at hx141_0); (try rw [show 0 * 5 = 0 from rfl] at hx141_0); (try rw [Addr.add_zero'] at hx141_0); (try rw [show ((0 : Int)).toNat = 0 from rfl] at hx141_1); (try rw [show 0 * 5 = 0 from rfl] at hx141_1); (try rw [Addr.add_zero'] at hx141_1); (try rw [show ((0 : Int)).toNat = 0 from rfl] at hx141_2); (try rw [show 0 * 5 = 0 from rfl] at hx141_2); (try rw [Addr.add_zero'] at hx141_2); (try rw [show ((0 : Int)).toNat = 0 from rfl] at hx141_3); (try rw [show 0 * 5 = 0 from rfl] at hx141_3); (try rw [Addr.add_zero'] at hx141_3); (try rw [show ((0 : Int)).toNat = 0 from rfl] at hx141_4); (try rw [show 0 * 5 = 0 from rfl] at hx141_4); (try rw [Addr.add_zero'] at hx141_4); replace hx141_0 := (HB.out.cell (World.block_lt_of_cell? w _ hx141_0)).trans hx141_0; replace hx141_1 := (HB.out.cell (World.block_lt_of_cell? w _ hx141_1)).trans hx141_1; replace hx141_2 := (HB.out.cell (World.block_lt_of_cell? w _ hx141_2)).trans hx141_2; replace hx141_3 := (HB.out.cell (World.block_lt_of_cell? w _ hx141_3)).trans hx141_3; replace hx141_4 := (HB.out.cell (World.block_lt_of_cell? w _ hx141_4)).trans hx141_4; replace p141 := eq_true p141; replace q141 := eq_true q141; have p142 : 0 ≤ (0 : Int) := (by omega); have q142 : 0 < (l1.length : Int) := of_decide_eq_true (by first | (with_reducible assumption) | assumption); obtain ⟨ad142, e142, hx142_0, hx142_1, hx142_2, hx142_3, hx142_4⟩ := at_T49 HR1.out 0 p142 q142; obtain rfl : ad141 = ad142 := (by injection e142); have qi142 : (0 < l1.length) = True := eq_true (by omega); (try rw [show ((0 : Int)).toNat = 0 from rfl] at hx142_0); (try rw [show 0 * 5 = 0 from rfl] at hx142_0); (try rw [Addr.add_zero'] at hx142_0); (try rw [show ((0 : Int)).toNat = 0 from rfl] at hx142_1); (try rw [show 0 * 5 = 0 from rfl] at hx142_1); (try rw [Addr.add_zero'] at hx142_1); (try rw [show ((0 : Int)).toNat = 0 from rfl] at hx142_2); (try rw [show 0 * 5 = 0 from rfl] at hx142_2); (try rw [Addr.add_zero'] at hx142_2); (try rw [show ((0 : Int)).toNat = 0 from rfl] at hx142_3); (try rw [show 0 * 5 = 0 from rfl] at hx142_3); (try rw [Addr.add_zero'] at hx142_3); (try rw [show ((0 : Int)).toNat = 0 from rfl] at hx142_4); (try rw [show 0 * 5 = 0 from rfl] at hx142_4); (try rw [Addr.add_zero'] at hx142_4); replace hx142_0 := (HB.out.cell (World.block_lt_of_cell? w _ hx142_0)).trans hx142_0; replace hx142_1 := (HB.out.cell (World.block_lt_of_cell? w _ hx142_1)).trans hx142_1; replace hx142_2 := (HB.out.cell (World.block_lt_of_cell? w _ hx142_2)).trans hx142_2; replace hx142_3 := (HB.out.cell (World.block_lt_of_cell? w _ hx142_3)).trans hx142_3; replace hx142_4 := (HB.out.cell (World.block_lt_of_cell? w _ hx142_4)).trans hx142_4; replace p142 := eq_true p142; replace q142 := eq_true q142)))
      go_loopg [5, 6, 22] k (fun kq v5 v6 v22 w' => ∃ (x5_1 : ByteArray) (x6_1 : ByteArray) (x22_1 : Int), v5 = .string x5_1 ∧ v6 = .string x6_1 ∧ v22 = .int .i64 x22_1 ∧ Aside0 (pick_meet.l0 kq x5_1 x6_1 l1 (l1.length : Int) x22_1 a0_0 a0_1 a0_2 a0_3 a0_4 = some r) ∧ Aside0 (kq ≤ k) ∧ Aside0 (w'.heap[gb140]? = some (.cells #[.int .i64 a0_0, .int .i64 a0_1, .string a0_2, .string a0_3, .int .i64 a0_4] 49 (0, 0))) ∧ Aside0 (Below w.heap.size w w'))
      case atStart => exact ⟨((rd_T49 l1 0).f2), ((rd_T49 l1 0).f3), (0), (by first | rfl | (simp; done) | (simp [*]; done)), (by first | rfl | (simp; done) | (simp [*]; done)), (by first | rfl | (simp; done) | (simp [*]; done)), H', ⟨Nat.le_refl _⟩, ⟨by (with_reducible repeat (first | refine blk_drewN ?_ _ | refine blk_drew ?_ | refine blk_alloc ?_ _)); exact BK140.out⟩, ⟨by repeat (first | (with_reducible first | exact HB.out | apply below_alloc | apply pw_below_drewN | apply below_drew1 | refine below_set ?_ GE140.out) | exact HB.out)⟩⟩
      case round =>
        clear H'
        try clear c1
        try clear p1
        try clear q1
        try clear hx1
        try clear qi1
        try clear c2
        try clear p2
        try clear c3
        try clear c3b0
        try clear c3b1
        try clear c3b2
        try clear c5
        try clear c5b0
        try clear c5b1
        try clear hx141_0
        try clear hx141_1
        try clear hx141_2
        try clear hx141_3
        try clear hx141_4
        try clear hx142_0
        try clear hx142_1
        try clear hx142_2
        try clear hx142_3
        try clear hx142_4
        try clear p141
        try clear p142
        try clear q141
        try clear q142
        obtain ⟨x5_1, x6_1, x22_1, rfl, rfl, rfl, HA, HK1, BK140, HB⟩ := hrel
        cases gk with
        | zero => exact absurd HA.out (by simp [pick_meet.l0])
        | succ k1 =>
          have H := HA.out
          clear HA
          simp only [pick_meet.l0] at H
          by_cases c7 : x22_1 < (l1.length : Int)
          · rw [if_pos c7] at H
            have c7b0 : decide (x22_1 < (l1.length : Int)) = true := decide_eq_true c7
            clear c7
            by_cases c8 : 0 ≤ x22_1
            · rw [if_pos c8] at H
              have c8b0 : decide (0 ≤ x22_1) = true := decide_eq_true c8
              clear c8
              by_cases c9 : x22_1 < (l1.length : Int)
              · rw [if_pos c9] at H
                have c9b0 : decide (x22_1 < (l1.length : Int)) = true := decide_eq_true c9
                clear c9
                have H' := Aside0.mk H
                clear H
                have p143 : 0 ≤ (x22_1 : Int) := of_decide_eq_true (by first | (with_reducible assumption) | assumption)
                have q143 : x22_1 < (l1.length : Int) := of_decide_eq_true (by first | (with_reducible assumption) | assumption)
                obtain ⟨ad143, e143, hx143_0, hx143_1, hx143_2, hx143_3, hx143_4⟩ := at_T49 HR1.out x22_1 p143 q143
                obtain rfl : ad141 = ad143 := (by injection e143)
                replace hx143_0 := (HB.out.cell (World.block_lt_of_cell? w _ hx143_0)).trans hx143_0
                replace hx143_1 := (HB.out.cell (World.block_lt_of_cell? w _ hx143_1)).trans hx143_1
                replace hx143_2 := (HB.out.cell (World.block_lt_of_cell? w _ hx143_2)).trans hx143_2
                replace hx143_3 := (HB.out.cell (World.block_lt_of_cell? w _ hx143_3)).trans hx143_3
                replace hx143_4 := (HB.out.cell (World.block_lt_of_cell? w _ hx143_4)).trans hx143_4
                replace p143 := eq_true p143
                replace q143 := eq_true q143
                go_wp2_with (first | ((with_reducible refine gate_dst (N := 8) rfl ?_); refine box_event ?hg (N := 8) ?hd (cs := #[.int .i64 0, .int .i64 0, .string (⟨#[]⟩ : ByteArray), .string (⟨#[]⟩ : ByteArray), .int .i64 0]) (t := 49) ?hr ?_; (case hd => rfl); (case hg => rfl); (case hr => first | (go_simp; done) | (go_simp; rfl)); intro gb144 hg w10 hbox hb; have n0_ := Aside0.mk (blk_below (g := gb140) (o := .cells #[.int .i64 a0_0, .int .i64 a0_1, .string a0_2, .string a0_3, .int .i64 a0_4] 49 (0, 0)) (by (with_reducible repeat (first | refine blk_drewN ?_ _ | refine blk_drew ?_ | refine blk_alloc ?_ _)); exact BK140.out) hb); have n1_ := Aside0.mk (below_step (by repeat (first | (with_reducible first | exact HB.out | apply below_alloc | apply pw_below_drewN | apply below_drew1 | refine below_set ?_ GE140.out) | exact HB.out)) hb); have n2_ := Aside0.mk (hbox); have n3_ := Aside0.mk ((by rw [hg]; exact (below_size (by repeat (first | (with_reducible first | exact HB.out | apply below_alloc | apply pw_below_drewN | apply below_drew1 | refine below_set ?_ GE140.out) | exact HB.out))) : w.heap.size ≤ gb144)); have n4_ := Aside0.mk ((by rw [hg]; exact (below_size (by repeat (first | (with_reducible first | exact HB.out | apply below_alloc | apply pw_below_drewN | apply below_drew1 | refine below_set ?_ GE140.out) | exact HB.out))) : w.heap.size ≤ gb144)); have n5_ := Aside0.mk ((by rw [hg]; exact Nat.ne_of_lt (blk_lt (g := gb140) (o := .cells #[.int .i64 a0_0, .int .i64 a0_1, .string a0_2, .string a0_3, .int .i64 a0_4] 49 (0, 0)) (by (with_reducible repeat (first | refine blk_drewN ?_ _ | refine blk_drew ?_ | refine blk_alloc ?_ _)); exact BK140.out)) : gb140 ≠ gb144)); have n6_ := Aside0.mk ((by rw [hg]; exact Nat.ne_of_gt (blk_lt (g := gb140) (o := .cells #[.int .i64 a0_0, .int .i64 a0_1, .string a0_2, .string a0_3, .int .i64 a0_4] 49 (0, 0)) (by (with_reducible repeat (first | refine blk_drewN ?_ _ | refine blk_drew ?_ | refine blk_alloc ?_ _)); exact BK140.out)) : gb144 ≠ gb140)); clear BK140; clear HB; have BK140 := n0_; have HB := n1_; have BK144 := n2_; have GW144 := n3_; have GE144 := n4_; have NB140_144 := n5_; have NB144_140 := n6_; clear n0_ n1_ n2_ n3_ n4_ n5_ n6_; clear hb hbox hg; have hnb11 := NB144_140.out; have hnc11 := NB140_144.out; have hcz12_0 : w10.cell? ⟨gb144, 0, none⟩ = some (.int .i64 0) := (blk_cell BK144.out 0).trans rfl; have hcz12_1 : w10.cell? ⟨gb144, 1, none⟩ = some (.int .i64 0) := (blk_cell BK144.out 1).trans rfl; have hcz12_2 : w10.cell? ⟨gb144, 2, none⟩ = some (.string (⟨#[]⟩ : ByteArray)) := (blk_cell BK144.out 2).trans rfl; have hcz12_3 : w10.cell? ⟨gb144, 3, none⟩ = some (.string (⟨#[]⟩ : ByteArray)) := (blk_cell BK144.out 3).trans rfl; have hcz12_4 : w10.cell? ⟨gb144, 4, none⟩ = some (.int .i64 0) := (blk_cell BK144.out 4).trans rfl; have hfz12_0 := blk_frozen BK144.out 0; have hfz12_1 := blk_frozen BK144.out 1; have hfz12_2 := blk_frozen BK144.out 2; have hfz12_3 := blk_frozen BK144.out 3; have hfz12_4 := blk_frozen BK144.out 4))
                repeat (go_quiet (first | ((with_reducible refine gate_dst (N := 8) rfl ?_); refine box_event ?hg (N := 8) ?hd (cs := #[.int .i64 0, .int .i64 0, .string (⟨#[]⟩ : ByteArray), .string (⟨#[]⟩ : ByteArray), .int .i64 0]) (t := 49) ?hr ?_; (case hd => rfl); (case hg => rfl); (case hr => first | (go_simp; done) | (go_simp; rfl)); intro gb144 hg w10 hbox hb; have n0_ := Aside0.mk (blk_below (g := gb140) (o := .cells #[.int .i64 a0_0, .int .i64 a0_1, .string a0_2, .string a0_3, .int .i64 a0_4] 49 (0, 0)) (by (with_reducible repeat (first | refine blk_drewN ?_ _ | refine blk_drew ?_ | refine blk_alloc ?_ _)); exact BK140.out) hb); have n1_ := Aside0.mk (below_step (by repeat (first | (with_reducible first | exact HB.out | apply below_alloc | apply pw_below_drewN | apply below_drew1 | refine below_set ?_ GE140.out) | exact HB.out)) hb); have n2_ := Aside0.mk (hbox); have n3_ := Aside0.mk ((by rw [hg]; exact (below_size (by repeat (first | (with_reducible first | exact HB.out | apply below_alloc | apply pw_below_drewN | apply below_drew1 | refine below_set ?_ GE140.out) | exact HB.out))) : w.heap.size ≤ gb144)); have n4_ := Aside0.mk ((by rw [hg]; exact (below_size (by repeat (first | (with_reducible first | exact HB.out | apply below_alloc | apply pw_below_drewN | apply below_drew1 | refine below_set ?_ GE140.out) | exact HB.out))) : w.heap.size ≤ gb144)); have n5_ := Aside0.mk ((by rw [hg]; exact Nat.ne_of_lt (blk_lt (g := gb140) (o := .cells #[.int .i64 a0_0, .int .i64 a0_1, .string a0_2, .string a0_3, .int .i64 a0_4] 49 (0, 0)) (by (with_reducible repeat (first | refine blk_drewN ?_ _ | refine blk_drew ?_ | refine blk_alloc ?_ _)); exact BK140.out)) : gb140 ≠ gb144)); have n6_ := Aside0.mk ((by rw [hg]; exact Nat.ne_of_gt (blk_lt (g := gb140) (o := .cells #[.int .i64 a0_0, .int .i64 a0_1, .string a0_2, .string a0_3, .int .i64 a0_4] 49 (0, 0)) (by (with_reducible repeat (first | refine blk_drewN ?_ _ | refine blk_drew ?_ | refine blk_alloc ?_ _)); exact BK140.out)) : gb144 ≠ gb140)); clear BK140; clear HB; have BK140 := n0_; have HB := n1_; have BK144 := n2_; have GW144 := n3_; have GE144 := n4_; have NB140_144 := n5_; have NB144_140 := n6_; clear n0_ n1_ n2_ n3_ n4_ n5_ n6_; clear hb hbox hg; have hnb11 := NB144_140.out; have hnc11 := NB140_144.out; have hcz12_0 : w10.cell? ⟨gb144, 0, none⟩ = some (.int .i64 0) := (blk_cell BK144.out 0).trans rfl; have hcz12_1 : w10.cell? ⟨gb144, 1, none⟩ = some (.int .i64 0) := (blk_cell BK144.out 1).trans rfl; have hcz12_2 : w10.cell? ⟨gb144, 2, none⟩ = some (.string (⟨#[]⟩ : ByteArray)) := (blk_cell BK144.out 2).trans rfl; have hcz12_3 : w10.cell? ⟨gb144, 3, none⟩ = some (.string (⟨#[]⟩ : ByteArray)) := (blk_cell BK144.out 3).trans rfl; have hcz12_4 : w10.cell? ⟨gb144, 4, none⟩ = some (.int .i64 0) := (blk_cell BK144.out 4).trans rfl; have hfz12_0 := blk_frozen BK144.out 0; have hfz12_1 := blk_frozen BK144.out 1; have hfz12_2 := blk_frozen BK144.out 2; have hfz12_3 := blk_frozen BK144.out 3; have hfz12_4 := blk_frozen BK144.out 4)); try go_wp2_with (first | ((with_reducible refine gate_dst (N := 8) rfl ?_); refine box_event ?hg (N := 8) ?hd (cs := #[.int .i64 0, .int .i64 0, .string (⟨#[]⟩ : ByteArray), .string (⟨#[]⟩ : ByteArray), .int .i64 0]) (t := 49) ?hr ?_; (case hd => rfl); (case hg => rfl); (case hr => first | (go_simp; done) | (go_simp; rfl)); intro gb144 hg w10 hbox hb; have n0_ := Aside0.mk (blk_below (g := gb140) (o := .cells #[.int .i64 a0_0, .int .i64 a0_1, .string a0_2, .string a0_3, .int .i64 a0_4] 49 (0, 0)) (by (with_reducible repeat (first | refine blk_drewN ?_ _ | refine blk_drew ?_ | refine blk_alloc ?_ _)); exact BK140.out) hb); have n1_ := Aside0.mk (below_step (by repeat (first | (with_reducible first | exact HB.out | apply below_alloc | apply pw_below_drewN | apply below_drew1 | refine below_set ?_ GE140.out) | exact HB.out)) hb); have n2_ := Aside0.mk (hbox); have n3_ := Aside0.mk ((by rw [hg]; exact (below_size (by repeat (first | (with_reducible first | exact HB.out | apply below_alloc | apply pw_below_drewN | apply below_drew1 | refine below_set ?_ GE140.out) | exact HB.out))) : w.heap.size ≤ gb144)); have n4_ := Aside0.mk ((by rw [hg]; exact (below_size (by repeat (first | (with_reducible first | exact HB.out | apply below_alloc | apply pw_below_drewN | apply below_drew1 | refine below_set ?_ GE140.out) | exact HB.out))) : w.heap.size ≤ gb144)); have n5_ := Aside0.mk ((by rw [hg]; exact Nat.ne_of_lt (blk_lt (g := gb140) (o := .cells #[.int .i64 a0_0, .int .i64 a0_1, .string a0_2, .string a0_3, .int .i64 a0_4] 49 (0, 0)) (by (with_reducible repeat (first | refine blk_drewN ?_ _ | refine blk_drew ?_ | refine blk_alloc ?_ _)); exact BK140.out)) : gb140 ≠ gb144)); have n6_ := Aside0.mk ((by rw [hg]; exact Nat.ne_of_gt (blk_lt (g := gb140) (o := .cells #[.int .i64 a0_0, .int .i64 a0_1, .string a0_2, .string a0_3, .int .i64 a0_4] 49 (0, 0)) (by (with_reducible repeat (first | refine blk_drewN ?_ _ | refine blk_drew ?_ | refine blk_alloc ?_ _)); exact BK140.out)) : gb144 ≠ gb140)); clear BK140; clear HB; have BK140 := n0_; have HB := n1_; have BK144 := n2_; have GW144 := n3_; have GE144 := n4_; have NB140_144 := n5_; have NB144_140 := n6_; clear n0_ n1_ n2_ n3_ n4_ n5_ n6_; clear hb hbox hg; have hnb11 := NB144_140.out; have hnc11 := NB140_144.out; have hcz12_0 : w10.cell? ⟨gb144, 0, none⟩ = some (.int .i64 0) := (blk_cell BK144.out 0).trans rfl; have hcz12_1 : w10.cell? ⟨gb144, 1, none⟩ = some (.int .i64 0) := (blk_cell BK144.out 1).trans rfl; have hcz12_2 : w10.cell? ⟨gb144, 2, none⟩ = some (.string (⟨#[]⟩ : ByteArray)) := (blk_cell BK144.out 2).trans rfl; have hcz12_3 : w10.cell? ⟨gb144, 3, none⟩ = some (.string (⟨#[]⟩ : ByteArray)) := (blk_cell BK144.out 3).trans rfl; have hcz12_4 : w10.cell? ⟨gb144, 4, none⟩ = some (.int .i64 0) := (blk_cell BK144.out 4).trans rfl; have hfz12_0 := blk_frozen BK144.out 0; have hfz12_1 := blk_frozen BK144.out 1; have hfz12_2 := blk_frozen BK144.out 2; have hfz12_3 := blk_frozen BK144.out 3; have hfz12_4 := blk_frozen BK144.out 4)))
                go_roundg k1
                case measure => have := HK1.out; omega
                case rel => exact ⟨(minB x5_1 ((rd_T49 l1 x22_1).f2)), (maxB x6_1 ((rd_T49 l1 x22_1).f3)), (wrap64 (x22_1 + 1)), (by first | rfl | (simp; done) | (simp [*]; done)), (by first | rfl | (simp; done) | (simp [*]; done)), (by first | rfl | (simp; done) | (simp [*]; done)), H', ⟨by have := HK1.out; omega⟩, ⟨by (with_reducible repeat (first | refine blk_drewN ?_ _ | refine blk_drew ?_ | refine blk_alloc ?_ _)); refine blk_far ?_ NB140_144.out _; (with_reducible repeat (first | refine blk_drewN ?_ _ | refine blk_drew ?_ | refine blk_alloc ?_ _)); refine blk_far ?_ NB140_144.out _; (with_reducible repeat (first | refine blk_drewN ?_ _ | refine blk_drew ?_ | refine blk_alloc ?_ _)); refine blk_far ?_ NB140_144.out _; (with_reducible repeat (first | refine blk_drewN ?_ _ | refine blk_drew ?_ | refine blk_alloc ?_ _)); refine blk_far ?_ NB140_144.out _; (with_reducible repeat (first | refine blk_drewN ?_ _ | refine blk_drew ?_ | refine blk_alloc ?_ _)); refine blk_far ?_ NB140_144.out _; (with_reducible repeat (first | refine blk_drewN ?_ _ | refine blk_drew ?_ | refine blk_alloc ?_ _)); exact BK140.out⟩, ⟨by repeat (first | (with_reducible first | exact HB.out | apply below_alloc | apply pw_below_drewN | apply below_drew1 | refine below_set ?_ GE140.out | refine below_set ?_ GE144.out) | exact HB.out)⟩⟩
              · rw [if_neg c9] at H
                exact absurd H (by simp)
            · rw [if_neg c8] at H
              exact absurd H (by simp)
          · rw [if_neg c7] at H
            have c7b0 : decide (x22_1 < (l1.length : Int)) = false := decide_eq_false c7
            clear c7
            by_cases c13 : ((Op.bytesLess x6_1.toList a0_2.toList) = true)
            · rw [if_pos c13] at H
              have c13b0 : (Op.bytesLess x6_1.toList a0_2.toList) = true := c13
              clear c13
              obtain rfl := Option.some.inj H
              have hcz14_0 : wr.cell? ⟨gb140, 0, none⟩ = some (.int .i64 a0_0) := (blk_cell BK140.out 0).trans rfl
              have hcz14_1 : wr.cell? ⟨gb140, 1, none⟩ = some (.int .i64 a0_1) := (blk_cell BK140.out 1).trans rfl
              have hcz14_2 : wr.cell? ⟨gb140, 2, none⟩ = some (.string a0_2) := (blk_cell BK140.out 2).trans rfl
              have hcz14_3 : wr.cell? ⟨gb140, 3, none⟩ = some (.string a0_3) := (blk_cell BK140.out 3).trans rfl
              have hcz14_4 : wr.cell? ⟨gb140, 4, none⟩ = some (.int .i64 a0_4) := (blk_cell BK140.out 4).trans rfl
              have hfz14_0 := blk_frozen BK140.out 0
              have hfz14_1 := blk_frozen BK140.out 1
              have hfz14_2 := blk_frozen BK140.out 2
              have hfz14_3 := blk_frozen BK140.out 3
              have hfz14_4 := blk_frozen BK140.out 4
              go_wp2
              repeat (go_quiet (fail); try go_wp2)
              go_ret
              exact ⟨by first | rfl | (simp [errW_none, errW_some] <;> rfl) | (simp [*, errW_none, errW_some] <;> rfl), by repeat (first | (with_reducible first | exact HB.out | apply below_alloc | apply pw_below_drewN | apply below_drew1 | refine below_set ?_ GE140.out) | exact HB.out)⟩
            · rw [if_neg c13] at H
              have c13b0 : (Op.bytesLess x6_1.toList a0_2.toList) = false := by simpa using c13
              clear c13
              obtain rfl := Option.some.inj H
              have hcz15_0 : wr.cell? ⟨gb140, 0, none⟩ = some (.int .i64 a0_0) := (blk_cell BK140.out 0).trans rfl
              have hcz15_1 : wr.cell? ⟨gb140, 1, none⟩ = some (.int .i64 a0_1) := (blk_cell BK140.out 1).trans rfl
              have hcz15_2 : wr.cell? ⟨gb140, 2, none⟩ = some (.string a0_2) := (blk_cell BK140.out 2).trans rfl
              have hcz15_3 : wr.cell? ⟨gb140, 3, none⟩ = some (.string a0_3) := (blk_cell BK140.out 3).trans rfl
              have hcz15_4 : wr.cell? ⟨gb140, 4, none⟩ = some (.int .i64 a0_4) := (blk_cell BK140.out 4).trans rfl
              have hfz15_0 := blk_frozen BK140.out 0
              have hfz15_1 := blk_frozen BK140.out 1
              have hfz15_2 := blk_frozen BK140.out 2
              have hfz15_3 := blk_frozen BK140.out 3
              have hfz15_4 := blk_frozen BK140.out 4
              go_wp2
              repeat (go_quiet (fail); try go_wp2)
              go_ret
              exact ⟨by first | rfl | (simp [errW_none, errW_some] <;> rfl) | (simp [*, errW_none, errW_some] <;> rfl), by repeat (first | (with_reducible first | exact HB.out | apply below_alloc | apply pw_below_drewN | apply below_drew1 | refine below_set ?_ GE140.out) | exact HB.out)⟩
    · rw [if_neg c5] at H
      exact absurd H (by simp)

/-! ### pick_ids: function 24 -/
def pick_ids.l0 : Nat → List Int → List (S49) → Int → Int → Option (List Int)
  | 0, _, _, _, _ => none
  | k + 1, x3, x6, x7, x8 => if x8 < x7 then (if 0 ≤ x8 then (if x8 < (x6.length : Int) then (if x3.length < 17592186044416 then (pick_ids.l0 k (x3 ++ [(rd_T49 x6 x8).f0]) x6 x7 (wrap64 (x8 + 1))) else (none)) else (none)) else (none)) else (some x3)
def pick_ids.f (k : Nat) (l0 : List (S49)) : Option (List Int) := pick_ids.l0 k ([] : List Int) l0 (l0.length : Int) 0
theorem pick_ids.mono_l : ∀ k, (∀ y0 y1 y2 y3, LeO (pick_ids.l0 k y0 y1 y2 y3) (pick_ids.l0 (k + 1) y0 y1 y2 y3))
  | 0 => fun _ _ _ _ r h => by simp [pick_ids.l0] at h
  | k + 1 => by
    have ih0 := pick_ids.mono_l k
    · intro y0 y1 y2 y3
      unfold pick_ids.l0
      repeat' first
      | (with_reducible exact ih0 _ _ _ _)
      | (with_reducible exact LeO.refl _)
      | (with_reducible exact LeO.none _)
      | (with_reducible refine LeO.ite ?_ ?_)
      | (with_reducible refine LeO.bind ?_ (fun _ => ?_))
      | exact ih0 _ _ _ _
      | exact LeO.none _
      | refine LeO.ite ?_ ?_
      | refine LeO.bind ?_ (fun _ => ?_)
theorem pick_ids.mono : ∀ a0 k, LeO (pick_ids.f k a0) (pick_ids.f (k + 1) a0) := by
  intro a0 k
  have ih0 := pick_ids.mono_l k
  unfold pick_ids.f
  repeat' first
      | (with_reducible exact ih0 _ _ _ _)
      | (with_reducible exact LeO.refl _)
      | (with_reducible exact LeO.none _)
      | (with_reducible refine LeO.ite ?_ ?_)
      | (with_reducible refine LeO.bind ?_ (fun _ => ?_))
      | exact ih0 _ _ _ _
      | exact LeO.none _
      | refine LeO.ite ?_ ?_
      | refine LeO.bind ?_ (fun _ => ?_)
set_option maxHeartbeats 8000000 in
set_option maxRecDepth 100000 in
theorem pick_ids.calls (k : Nat) (A0 : Option Addr) (c0 : Nat) (l0 : List (S49)) (r : List Int) (w : World) (hr0 : Kd.C k49 w A0 l0.length l0) (hc0 : l0.length ≤ c0) (h : pick_ids.f k l0 = some r) :
    Calls Try.prog 24 #[.slice A0 l0.length c0] w fun e w' => ∃ v0_ : Value, e = .returned (v0_) ∧ Kd.R (Kd.int .i64) 3 w' w.heap.size (fun _ => True) v0_ r ∧ Below w.heap.size w w' := by
  have hu49 := Try.underlying49
  have HR0 := Aside0.mk hr0
  have HC0 := Aside0.mk hc0
  clear hr0 hc0
  have HB := Aside0.mk (Below.refl w.heap.size w)
  have H : (pick_ids.l0 k ([] : List Int) l0 (l0.length : Int) 0) = some r := h
  clear h
  have H' := Aside0.mk H
  clear H
  go_enter Try.func24, Try.ntmps24
  go_wp2
  go_loopg [3, 8] k (fun kq v3 v8 w' => ∃ (x3_1 : List Int) (x8_1 : Int), v8 = .int .i64 x8_1 ∧ Aside0 (pick_ids.l0 kq x3_1 l0 (l0.length : Int) x8_1 = some r) ∧ Aside0 (kq ≤ k) ∧ Aside0 (Kd.R (Kd.int .i64) 3 w' w.heap.size (fun _ => True) v3 x3_1) ∧ Aside0 (Below w.heap.size w w'))
  case atStart => exact ⟨(([] : List Int)), (0), (by first | rfl | (simp; done) | (simp [*]; done)), H', ⟨Nat.le_refl _⟩, ⟨by first | exact Kd.R_nil _ _ _ _ _ | exact Kd.N_nil _ _ _ _ _ | exact Kd.V_nil _ _ _ _ _ | exact Kd.Q_nil _ _ _ _ _ | exact Kd.S_nil _ _ _ _ _⟩, ⟨by repeat (first | (with_reducible first | exact HB.out | apply below_alloc | apply pw_below_drewN | apply below_drew1) | exact HB.out)⟩⟩
  case round =>
    clear H'
    obtain ⟨x3_1, x8_1, rfl, HA, HK1, HO_3, HB⟩ := hrel
    cases gk with
    | zero => exact absurd HA.out (by simp [pick_ids.l0])
    | succ k1 =>
      have H := HA.out
      clear HA
      simp only [pick_ids.l0] at H
      by_cases c2 : x8_1 < (l0.length : Int)
      · rw [if_pos c2] at H
        have c2b0 : decide (x8_1 < (l0.length : Int)) = true := decide_eq_true c2
        clear c2
        by_cases c3 : 0 ≤ x8_1
        · rw [if_pos c3] at H
          have c3b0 : decide (0 ≤ x8_1) = true := decide_eq_true c3
          clear c3
          by_cases c4 : x8_1 < (l0.length : Int)
          · rw [if_pos c4] at H
            have c4b0 : decide (x8_1 < (l0.length : Int)) = true := decide_eq_true c4
            clear c4
            by_cases c5 : x3_1.length < 17592186044416
            · rw [if_pos c5] at H
              have LMc5 := Aside0.mk c5
              clear c5
              obtain ⟨y147, hy147⟩ : ∃ y_ : List Int, y_ = (x3_1 ++ [(rd_T49 l0 x8_1).f0]) := ⟨_, rfl⟩
              replace H : (pick_ids.l0 k1 y147 l0 (l0.length : Int) (wrap64 (x8_1 + 1))) = some r := by first | (rw [hy147]; with_reducible exact H) | (have H2_ := (Option.bind_some _ _).symm.trans H; rw [hy147]; with_reducible exact H2_) | (have H2_ := (Option.bind_some _ _).symm.trans H; with_reducible exact H2_) | with_reducible exact H | (rw [hy147]; exact H) | exact H
              have Ny147 := Aside0.mk hy147
              clear hy147
              have H' := Aside0.mk H
              clear H
              have p145 : 0 ≤ (x8_1 : Int) := of_decide_eq_true (by first | (with_reducible assumption) | assumption)
              have q145 : x8_1 < (l0.length : Int) := of_decide_eq_true (by first | (with_reducible assumption) | assumption)
              obtain ⟨ad145, e145, hx145_0, hx145_1, hx145_2, hx145_3, hx145_4⟩ := at_T49 HR0.out x8_1 p145 q145
              cases e145
              replace hx145_0 := (HB.out.cell (World.block_lt_of_cell? w _ hx145_0)).trans hx145_0
              replace hx145_1 := (HB.out.cell (World.block_lt_of_cell? w _ hx145_1)).trans hx145_1
              replace hx145_2 := (HB.out.cell (World.block_lt_of_cell? w _ hx145_2)).trans hx145_2
              replace hx145_3 := (HB.out.cell (World.block_lt_of_cell? w _ hx145_3)).trans hx145_3
              replace hx145_4 := (HB.out.cell (World.block_lt_of_cell? w _ hx145_4)).trans hx145_4
              replace p145 := eq_true p145
              replace q145 := eq_true q145
              go_wp2_with (first | ((with_reducible refine gate_dst (N := 5) rfl ?_); refine box_event ?hg (N := 5) ?hd (cs := #[.int .i64 0, .int .i64 0, .string (⟨#[]⟩ : ByteArray), .string (⟨#[]⟩ : ByteArray), .int .i64 0]) (t := 49) ?hr ?_; (case hd => rfl); (case hg => rfl); (case hr => first | (go_simp; done) | (go_simp; rfl)); intro gb146 hg w6 hbox hb; have n0_ := Aside0.mk (Kd.R_below (by (with_reducible repeat (first | apply Kd.R_alloc | apply Kd.R_drewN | apply Kd.R_drew)); exact HO_3.out) hb); have n1_ := Aside0.mk (below_step (by repeat (first | (with_reducible first | exact HB.out | apply below_alloc | apply pw_below_drewN | apply below_drew1) | exact HB.out)) hb); have n2_ := Aside0.mk (hbox); have n3_ := Aside0.mk ((by rw [hg]; exact (below_size (by repeat (first | (with_reducible first | exact HB.out | apply below_alloc | apply pw_below_drewN | apply below_drew1) | exact HB.out))) : w.heap.size ≤ gb146)); have n4_ := Aside0.mk ((by rw [hg]; exact (below_size (by repeat (first | (with_reducible first | exact HB.out | apply below_alloc | apply pw_below_drewN | apply below_drew1) | exact HB.out))) : w.heap.size ≤ gb146)); clear HO_3; clear HB; have HO_3 := n0_; have HB := n1_; have BK146 := n2_; have GW146 := n3_; have GE146 := n4_; clear n0_ n1_ n2_ n3_ n4_; clear hb hbox hg; have hcz7_0 : w6.cell? ⟨gb146, 0, none⟩ = some (.int .i64 0) := (blk_cell BK146.out 0).trans rfl; have hcz7_1 : w6.cell? ⟨gb146, 1, none⟩ = some (.int .i64 0) := (blk_cell BK146.out 1).trans rfl; have hcz7_2 : w6.cell? ⟨gb146, 2, none⟩ = some (.string (⟨#[]⟩ : ByteArray)) := (blk_cell BK146.out 2).trans rfl; have hcz7_3 : w6.cell? ⟨gb146, 3, none⟩ = some (.string (⟨#[]⟩ : ByteArray)) := (blk_cell BK146.out 3).trans rfl; have hcz7_4 : w6.cell? ⟨gb146, 4, none⟩ = some (.int .i64 0) := (blk_cell BK146.out 4).trans rfl; have hfz7_0 := blk_frozen BK146.out 0; have hfz7_1 := blk_frozen BK146.out 1; have hfz7_2 := blk_frozen BK146.out 2; have hfz7_3 := blk_frozen BK146.out 3; have hfz7_4 := blk_frozen BK146.out 4) | ((with_reducible refine gate_builtin (b := .append) (xs := #[.tmp 12, .tmp 15]) rfl ?_); at_builtin; refine Kd.R_append (Kd.int .i64) (w0 := w) w.heap.size rfl (.tmp 12) (.tmp 15) 23 3 (.int .i64 0) 8 rfl Try.underlying23 info3 rfl (by decide) (by omega) u3 x3_1 ((rd_T49 l0 x8_1).f0) [.int .i64 ((rd_T49 l0 x8_1).f0)] (fun _ => True) (fun _ => False) rfl (by first | (go_simp; done) | (go_simp; rfl)) ?aP (fun _ hk => hk.elim) ?aF ?aO ?aB ?aS ?aL ?_; (case aP => exact rfl); (case aB => exact (by repeat (first | (with_reducible first | exact HB.out | apply below_alloc | apply pw_below_drewN | apply below_drew1 | refine below_set ?_ GE146.out) | exact HB.out))); (case aF => exact (fun _ _ => trivial)); (case aO => exact (by (with_reducible repeat (first | apply Kd.R_alloc | apply Kd.R_drewN | apply Kd.R_drew)); exact Kd.R_mono (Kd.R_far (p := ⟨gb146, 4, none⟩) (Kd.R_far (p := ⟨gb146, 3, none⟩) (Kd.R_far (p := ⟨gb146, 2, none⟩) (Kd.R_far (p := ⟨gb146, 1, none⟩) (Kd.R_far (p := ⟨gb146, 0, none⟩) (Kd.R_types HO_3.out BK146.out (by decide)) (fun _ hk => hk.2) (.int .i64 ((rd_T49 l0 x8_1).f0))) (fun _ hk => hk.2) (.int .i64 ((rd_T49 l0 x8_1).f1))) (fun _ hk => hk.2) (.string ((rd_T49 l0 x8_1).f2))) (fun _ hk => hk.2) (.string ((rd_T49 l0 x8_1).f3))) (fun _ hk => hk.2) (.int .i64 ((rd_T49 l0 x8_1).f4))) (fun _ hk => trivial))); (case aS => exact (below_size (by repeat (first | (with_reducible first | exact HB.out | apply below_alloc | apply pw_below_drewN | apply below_drew1 | refine below_set ?_ GE146.out) | exact HB.out)))); (case aL => have := LMc5.out; omega); intro v148 w8 ho hb hg hat; rw [← Ny147.out] at ho; have n0_ := Aside0.mk (blk_grown (g := gb146) (o := .cells #[.int .i64 ((rd_T49 l0 x8_1).f0), .int .i64 ((rd_T49 l0 x8_1).f1), .string ((rd_T49 l0 x8_1).f2), .string ((rd_T49 l0 x8_1).f3), .int .i64 ((rd_T49 l0 x8_1).f4)] 49 (0, 0)) (by (with_reducible repeat (first | refine blk_drewN ?_ _ | refine blk_drew ?_ | refine blk_alloc ?_ _)); refine blk_put (cs := #[.int .i64 ((rd_T49 l0 x8_1).f0), .int .i64 ((rd_T49 l0 x8_1).f1), .string ((rd_T49 l0 x8_1).f2), .string ((rd_T49 l0 x8_1).f3), .int .i64 0]) ?_ 4 _ rfl; (with_reducible repeat (first | refine blk_drewN ?_ _ | refine blk_drew ?_ | refine blk_alloc ?_ _)); refine blk_put (cs := #[.int .i64 ((rd_T49 l0 x8_1).f0), .int .i64 ((rd_T49 l0 x8_1).f1), .string ((rd_T49 l0 x8_1).f2), .string (⟨#[]⟩ : ByteArray), .int .i64 0]) ?_ 3 _ rfl; (with_reducible repeat (first | refine blk_drewN ?_ _ | refine blk_drew ?_ | refine blk_alloc ?_ _)); refine blk_put (cs := #[.int .i64 ((rd_T49 l0 x8_1).f0), .int .i64 ((rd_T49 l0 x8_1).f1), .string (⟨#[]⟩ : ByteArray), .string (⟨#[]⟩ : ByteArray), .int .i64 0]) ?_ 2 _ rfl; (with_reducible repeat (first | refine blk_drewN ?_ _ | refine blk_drew ?_ | refine blk_alloc ?_ _)); refine blk_put (cs := #[.int .i64 ((rd_T49 l0 x8_1).f0), .int .i64 0, .string (⟨#[]⟩ : ByteArray), .string (⟨#[]⟩ : ByteArray), .int .i64 0]) ?_ 1 _ rfl; (with_reducible repeat (first | refine blk_drewN ?_ _ | refine blk_drew ?_ | refine blk_alloc ?_ _)); refine blk_put (cs := #[.int .i64 0, .int .i64 0, .string (⟨#[]⟩ : ByteArray), .string (⟨#[]⟩ : ByteArray), .int .i64 0]) ?_ 0 _ rfl; (with_reducible repeat (first | refine blk_drewN ?_ _ | refine blk_drew ?_ | refine blk_alloc ?_ _)); exact BK146.out) hg (Kd.R_ne HO_3.out BK146.out (by decide))); have n1_ := Aside0.mk (hb); have n2_ := Aside0.mk (ho); clear BK146; clear HB; clear HO_3; have BK146 := n0_; have HB := n1_; have HO149 := n2_; clear n0_ n1_ n2_; clear ho hb hg hat))
              go_roundg k1
              case measure => have := HK1.out; omega
              case rel => exact ⟨(y147), (wrap64 (x8_1 + 1)), (by first | rfl | (simp; done) | (simp [*]; done)), H', ⟨by have := HK1.out; omega⟩, ⟨by (with_reducible repeat (first | apply Kd.R_alloc | apply Kd.R_drewN | apply Kd.R_drew)); exact HO149.out⟩, ⟨by repeat (first | (with_reducible first | exact HB.out | apply below_alloc | apply pw_below_drewN | apply below_drew1 | refine below_set ?_ GE146.out) | exact HB.out)⟩⟩
            · rw [if_neg c5] at H
              exact absurd H (by simp)
          · rw [if_neg c4] at H
            exact absurd H (by simp)
        · rw [if_neg c3] at H
          exact absurd H (by simp)
      · rw [if_neg c2] at H
        have c2b0 : decide (x8_1 < (l0.length : Int)) = false := decide_eq_false c2
        clear c2
        obtain rfl := Option.some.inj H
        go_wp2
        go_ret
        exact ⟨_, by first | rfl | (simp [errW_none, errW_some] <;> rfl) | (simp [*, errW_none, errW_some] <;> rfl), by (with_reducible repeat (first | apply Kd.R_alloc | apply Kd.R_drewN | apply Kd.R_drew)); exact HO_3.out, by repeat (first | (with_reducible first | exact HB.out | apply below_alloc | apply pw_below_drewN | apply below_drew1) | exact HB.out)⟩

-- NOT PRINTED: function 36 (api_Meta_36)

/-! ### api_Meta_25: function 25 -/
/-- An element of a row of rows. -/
theorem api_Meta_25.at_ {w : World} {A : Option Addr} {n : Nat} {xs : List (List (S49))} (h : Kd.C (Kd.slice 49 k49) w A n xs) (k : Nat) (hk : k < xs.length) :
    ∃ ad Ai ci, A = some ad ∧ w.cell? (ad.add k) = some (.slice Ai (xs.getD k []).length ci) ∧ (xs.getD k []).length ≤ ci ∧ Kd.C k49 w Ai (xs.getD k []).length (xs.getD k []) := by
  obtain ⟨ad, c, rfl, _, ⟨Ai, ci, rfl, h1, h2⟩, hc⟩ := Kd.C_get h ([] : List (S49)) (k : Int) (by omega) (by have := h.1; omega)
  refine ⟨ad, Ai, ci, rfl, ?_, by simpa using h1, by simpa using h2⟩
  have := hc 0 _ rfl
  have hs : ((Kd.slice 49 k49)).sz = 1 := rfl
  simpa [hs] using this
theorem api_Meta_25.grow_ (n : Nat) (w : World) (hn : n < 2513169434916) :
    Calls Try.prog 36 #[.slice none 0 0, .int .i64 n] w fun e w' => ∃ v0_ : Value, e = .returned (v0_) ∧ Kd.R k49 49 w' w.heap.size (fun _ => True) v0_ [] ∧ Below w.heap.size w w' := by
  by_cases h0 : n = 0
  · subst h0
    go_enter Try.func36, Try.ntmps36
    go_wp2
    go_ret
    exact ⟨_, rfl, Kd.R_nil _ _ _ _ _, Below.refl _ _⟩
  · have h1 : (0 : Int) < n := by omega
    go_enter Try.func36, Try.ntmps36
    go_wp2_with ((with_reducible refine gate_builtin (b := .append) (xs := #[.tmp 20, .tmp 21]) rfl ?_); refine Kd.R_append_zeros k49 (w0 := w) w.heap.size rfl (.tmp 20) (.tmp 21) 22 3 49 (.agg #[(.int .i64 0), (.int .i64 0), (.string ⟨#[]⟩), (.string ⟨#[]⟩), (.int .i64 0)]) 56 rfl Try.underlying22 Try.underlying3 info49 rfl (by decide) (by omega) _ [] z49 (n : Int) (fun _ => True) rfl rfl ?aZ ?aF ?aO ?aN ?aB ?aS ?aL ?_; (case aZ => first | exact k49_mkM _ _ _ _ | rfl); (case aF => exact fun _ _ => trivial); (case aO => exact Kd.R_nil _ _ _ _ _); (case aN => omega); (case aB => exact Below.refl _ _); (case aS => exact Nat.le_refl _); (case aL => simp; omega); intro v1 w1 ho hb hg hat; obtain ⟨A1, c1, rfl, hc1, _⟩ := Kd.R_reads ho; have HO := Aside0.mk (Kd.R_take (m := 0) ho (Nat.zero_le _)); have HB := Aside0.mk hb; clear ho hb hg hat)
    go_ret
    exact ⟨_, rfl, HO.out, HB.out⟩
def api_Meta_25.f (l0 : List (List (S49))) : Option (List (S49)) := if l0.flatten.length < 2513169434916 then some l0.flatten else none
set_option maxHeartbeats 1000000 in
theorem api_Meta_25.calls (A0 : Option Addr) (c0 : Nat) (l0 : List (List (S49))) (r : (List (S49))) (w : World) (hr0 : Kd.C (Kd.slice 49 k49) w A0 l0.length l0) (hc0 : l0.length ≤ c0) (h : api_Meta_25.f l0 = some r) :
    Calls Try.prog 25 #[.slice A0 l0.length c0] w fun e w' => ∃ v0_ : Value, e = .returned (v0_) ∧ Kd.R k49 49 w' w.heap.size (fun _ => True) v0_ r ∧ Below w.heap.size w w' := by
  obtain ⟨hlim, rfl⟩ : l0.flatten.length < 2513169434916 ∧ l0.flatten = r := by
    unfold api_Meta_25.f at h
    split at h
    · rename_i hl; exact ⟨hl, Option.some.inj h⟩
    · cases h
  clear h
  have hmost := hr0.2.1
  have HR := Aside0.mk hr0
  have hsum : ∀ k, (l0.take k).flatten.length ≤ l0.flatten.length := fun k => by
    have e : l0.flatten = (l0.take k).flatten ++ (l0.drop k).flatten := by rw [← List.flatten_append, List.take_append_drop]
    rw [e, List.length_append]
    omega
  have hstep : ∀ k, k < l0.length → (l0.take (k + 1)).flatten = (l0.take k).flatten ++ l0.getD k [] := fun k hk => by
    rw [List.take_succ_eq_append_getElem hk, List.flatten_append]
    simp [List.getD, hk]
  have HS := Aside0.mk hsum; have HST := Aside0.mk hstep; have HL := Aside0.mk hlim
  clear hr0 hsum hstep hlim hc0
  go_enter Try.func25, Try.ntmps25
  go_wp2_with fail
  go_loop [3, 11] (fun n i => ∃ k : Nat, k ≤ l0.length ∧ i = .int .i64 k ∧ n = .int .i64 ((l0.take k).flatten.length : Nat)) (fun _ i => l0.length - (intOf i).toNat)
  case atStart => exact ⟨0, Nat.zero_le _, rfl, by simp⟩
  case round =>
    obtain ⟨k, hk, rfl, rfl⟩ := hrel
    by_cases hlt : k < l0.length
    · obtain ⟨ad, Ai, ci, rfl, hcell, hci, _⟩ := api_Meta_25.at_ HR.out k hlt
      have e1 := HST.out k hlt
      have e2 := HS.out (k + 1)
      have e3 := HL.out
      rw [e1, List.length_append] at e2
      have E1 := Aside0.mk (congrArg List.length e1)
      clear e1
      rw [List.length_append] at E1
      generalize (l0.take k).flatten.length = s at *
      generalize (l0.getD k []).length = m at *
      generalize l0.flatten.length = tot at *
      go_wp2
      have h1 := E1.out
      refine ⟨⟨k + 1, by omega, by go_num, by rw [h1]; go_num⟩, by simp [intOf]; omega⟩
    · obtain rfl : k = l0.length := by omega
      have hn := HL.out
      rw [List.take_length]
      obtain ⟨n, hn0⟩ : ∃ n : Nat, n = l0.flatten.length := ⟨_, rfl⟩
      rw [← hn0] at hn ⊢
      have HN := Aside0.mk hn0
      clear hn0
      go_wp2_with (go_at_call 36; refine (api_Meta_25.grow_ n _ hn).mono ?_; rintro e w1 ⟨v, rfl, hv, hb⟩; have HV := Aside0.mk hv; have HB := Aside0.mk hb; clear hv hb)
      go_loopw [6, 27] (fun u i wr => ∃ k : Nat, k ≤ l0.length ∧ i = .int .i64 k ∧ Aside0 (Kd.R k49 49 wr w.heap.size (fun _ => True) u (l0.take k).flatten) ∧ Aside0 (Below w.heap.size w wr)) (fun _ i _ => l0.length - (intOf i).toNat)
      case atStart => exact ⟨0, Nat.zero_le _, rfl, by simpa using HV, HB⟩
      case round =>
        clear HV HB
        obtain ⟨k, hk, rfl, HV, HB⟩ := hrel
        by_cases hlt : k < l0.length
        · obtain ⟨ad, Ai, ci, rfl, hcell, hci, hrow⟩ := api_Meta_25.at_ (Kd.C_below HR.out HB.out) k hlt
          have hl : (l0.take k).flatten.length + (l0.getD k []).length < 2513169434916 := by
            have e1 := HST.out k hlt; have e2 := HS.out (k + 1); have e3 := HL.out
            rw [e1, List.length_append] at e2; omega
          have h1 := HST.out k hlt
          obtain ⟨x, hx⟩ : ∃ x : (List (S49)), x = l0.getD k [] := ⟨_, rfl⟩
          rw [← hx] at hcell hci hrow hl h1
          obtain ⟨y, hy⟩ : ∃ y : (List (S49)), y = (l0.take k).flatten := ⟨_, rfl⟩
          rw [← hy] at hl h1 HV
          have HW := Aside0.mk hrow
          have HLL := Aside0.mk hl
          have H1 := Aside0.mk h1
          clear hrow hl hci h1 hx hy
          go_wp2_with ((with_reducible refine gate_builtin (b := .append) (xs := #[.tmp 31, .tmp 32]) rfl ?_); refine Kd.R_append_rows k49 (w0 := w) w.heap.size rfl (.tmp 31) (.tmp 32) 22 49 (.agg #[(.int .i64 0), (.int .i64 0), (.string ⟨#[]⟩), (.string ⟨#[]⟩), (.int .i64 0)]) 56 rfl Try.underlying22 info49 rfl (by decide) (by omega) _ y x _ _ _ (fun _ => True) (fun _ => False) rfl rfl ?aO ?aR (fun _ _ h => h) (fun _ h => h.elim) ?aF ?aB ?aS ?aL ?_; (case aO => exact HV.out); (case aR => exact HW.out); (case aF => exact fun _ _ => trivial); (case aB => exact HB.out); (case aS => exact HB.out.size); (case aL => have := HLL.out; omega); intro v1 w2 ho hb hg hat; have HO := Aside0.mk ho; clear HB; have HB := Aside0.mk hb; clear ho hb hg hat)
          refine ⟨⟨k + 1, by omega, by go_num, ⟨by rw [H1.out]; exact HO.out⟩, HB⟩, by simp [intOf]; omega⟩
        · obtain rfl : k = l0.length := by omega
          have HV2 := HV.out
          rw [List.take_length] at HV2
          have HV3 := Aside0.mk HV2
          clear HV2 HV
          go_wp2
          go_ret
          exact ⟨_, rfl, HV3.out, HB.out⟩


/-! ### pick_Pick: function 9 -/
/-- A table against the keys of some. -/
def pick_Pick.lo (l : List S49) (x : ByteArray) : ByteArray := l.foldl (fun a y => minB a y.f2) x
def pick_Pick.hi (l : List S49) (x : ByteArray) : ByteArray := l.foldl (fun a y => maxB a y.f3) x
def pick_Pick.meetB (l : List S49) (m : S49) : Bool :=
  match l with
  | [] => false
  | x :: _ => !(Op.bytesLess (pick_Pick.hi l x.f3).toList m.f2.toList) && !(Op.bytesLess m.f3.toList (pick_Pick.lo l x.f2).toList)
theorem pick_Pick.meet_loop (L : List S49) (m : S49) (hL : L.length < 1099511627776) (d : Nat) : ∀ (k i : Nat) (a b : ByteArray), d = L.length - i → i ≤ L.length → d < k →
    pick_meet.l0 k a b L (L.length : Int) i m.f0 m.f1 m.f2 m.f3 m.f4 = some (!(Op.bytesLess (pick_Pick.hi (L.drop i) b).toList m.f2.toList) && !(Op.bytesLess m.f3.toList (pick_Pick.lo (L.drop i) a).toList)) := by
  induction d with
  | zero =>
    intro k i a b hd hi hk
    obtain ⟨k, rfl⟩ : ∃ m, k = m + 1 := ⟨k - 1, by omega⟩
    obtain rfl : i = L.length := by omega
    simp only [pick_meet.l0]
    rw [if_neg (by omega), List.drop_length]
    simp only [pick_Pick.hi, pick_Pick.lo, List.foldl_nil]
    by_cases h : Op.bytesLess b.toList m.f2.toList = true
    · rw [if_pos h]; simp [h]
    · rw [if_neg h]; simp [h]
  | succ d ih =>
    intro k i a b hd hi hk
    obtain ⟨k, rfl⟩ : ∃ m, k = m + 1 := ⟨k - 1, by omega⟩
    have hlt : i < L.length := by omega
    have hw : wrap64 ((i : Int) + 1) = ((i + 1 : Nat) : Int) := by unfold wrap64; omega
    have hm : rd_T49 L (i : Int) = L[i] := by simp [rd_T49, List.getD, hlt]
    simp only [pick_meet.l0]
    rw [if_pos (by omega), if_pos (by omega), if_pos (by omega), hw, hm, ih k (i + 1) _ _ (by omega) (by omega) (by omega), List.drop_eq_getElem_cons hlt]
    rfl
theorem pick_Pick.meet_some (m : S49) (L : List S49) (hL : L.length < 1099511627776) : pick_meet.f (L.length + 1) m.f0 m.f1 m.f2 m.f3 m.f4 L = some (pick_Pick.meetB L m) := by
  unfold pick_meet.f
  cases L with
  | nil => rw [if_pos (by simp)]; rfl
  | cons x L =>
    rw [if_neg (by simp <;> omega), if_pos (by simp <;> omega)]
    have := pick_Pick.meet_loop (x :: L) m hL (x :: L).length ((x :: L).length + 1) 0 x.f2 x.f3 (by omega) (by omega) (by omega)
    exact this
theorem pick_Pick.ids_loop (L : List S49) (hL : L.length < 17592186044416) (d : Nat) : ∀ (k i : Nat) (acc : List Int), d = L.length - i → i ≤ L.length → acc.length = i → d < k →
    pick_ids.l0 k acc L (L.length : Int) i = some (acc ++ (L.drop i).map (·.f0)) := by
  induction d with
  | zero =>
    intro k i acc hd hi ha hk
    obtain ⟨k, rfl⟩ : ∃ m, k = m + 1 := ⟨k - 1, by omega⟩
    obtain rfl : i = L.length := by omega
    simp only [pick_ids.l0]
    rw [if_neg (by omega)]
    simp
  | succ d ih =>
    intro k i acc hd hi ha hk
    obtain ⟨k, rfl⟩ : ∃ m, k = m + 1 := ⟨k - 1, by omega⟩
    have hlt : i < L.length := by omega
    have hw : wrap64 ((i : Int) + 1) = ((i + 1 : Nat) : Int) := by unfold wrap64; omega
    simp only [pick_ids.l0]
    rw [if_pos (by omega), if_pos (by omega), if_pos (by omega), if_pos (by omega), hw, ih k (i + 1) _ (by omega) (by omega) (by simp [ha]) (by omega), List.drop_eq_getElem_cons hlt, List.map_cons]
    simp only [rd_T49, Int.toNat_natCast, List.getD, List.getElem?_eq_getElem hlt, Option.getD_some, List.append_assoc, List.cons_append, List.nil_append]
theorem pick_Pick.ids_some (L : List S49) (hL : L.length < 17592186044416) : pick_ids.f (L.length + 1) L = some (L.map (·.f0)) := by
  unfold pick_ids.f
  have := pick_Pick.ids_loop L hL L.length (L.length + 1) 0 [] (by omega) (by omega) rfl (by omega)
  simpa using this
def pick_Pick.under (l i : List S49) (n : Int) : List S49 := (pick_first.lev l (n + 1)).filter (pick_Pick.meetB i)
def pick_Pick.tell (l : List S49) (i : List S49) (n : Int) : Int × List Int × List Int × Bool × Bool :=
  (n, i.map (·.f0), (pick_Pick.under l i n).map (·.f0), !(l.any fun m => decide (n + 1 < m.f1) && pick_Pick.meetB (i ++ pick_Pick.under l i n) m), true)
def pick_Pick.f (l0_0 : List S49) (l0_1 : List Int) (a0_2 : Int) : Option (Int × List Int × List Int × Bool × Bool) :=
  (version_Right.f l0_0 l0_1 a0_2).bind fun ok => if ok = true then ((pick_first.f l0_0 l0_1 a0_2).bind fun p => if p.1 < 0 then some (0, [], [], false, false) else some (pick_Pick.tell l0_0 p.2 p.1)) else some (0, [], [], false, false)
theorem pick_Pick.first_facts {l0 : List S49} {l1 : List Int} {a lv : Int} {ins : List S49} (h : pick_first.f l0 l1 a = some (lv, ins)) : -1 ≤ lv ∧ lv ≤ 2 ∧ ins.length ≤ 200 ∧ l0.length ≤ 200 := by
  unfold pick_first.f at h
  split at h
  · rename_i hl
    have h := Option.some.inj h
    have hlev : ∀ n, (pick_first.lev l0 n).length ≤ 200 := fun n => Nat.le_trans (List.length_filter_le _ _) hl.1
    have h0 := hlev 0; have h1 := hlev 1; have h2 := hlev 2
    unfold pick_first.tell at h
    refine ⟨?_, ?_, ?_, hl.1⟩ <;> (repeat' split at h) <;> (obtain ⟨rfl, rfl⟩ := Prod.mk.inj h) <;> first | omega | simp <;> omega
  · cases h
theorem pick_Pick.filter_snoc (p : S49 → Bool) (l : List S49) (k : Nat) (hk : k < l.length) : (l.take (k + 1)).filter p = if p (l.getD k z49) then (l.take k).filter p ++ [l.getD k z49] else (l.take k).filter p := by
  rw [List.take_succ_eq_append_getElem hk, List.filter_append]
  simp only [List.getD, List.getElem?_eq_getElem hk, Option.getD_some, List.filter_cons, List.filter_nil]
  split <;> simp
theorem pick_Pick.any_snoc (p : S49 → Bool) (l : List S49) (k : Nat) (hk : k < l.length) : (l.take (k + 1)).any p = ((l.take k).any p || p (l.getD k z49)) := by
  rw [List.take_succ_eq_append_getElem hk, List.any_append]
  simp [List.getD, hk]
set_option maxHeartbeats 8000000 in
set_option maxRecDepth 100000 in
theorem pick_Pick.calls (A0_0 : Option Addr) (c0_0 : Nat) (l0_0 : List (S49)) (A0_1 : Option Addr) (c0_1 : Nat) (l0_1 : List Int) (a0_2 : Int) (r1 : Int) (r2 r3 : List Int) (r4 r5 : Bool) (w : World) (hr0_0 : Kd.C k49 w A0_0 l0_0.length l0_0) (hc0_0 : l0_0.length ≤ c0_0) (hr0_1 : Kd.C (Kd.int .i64) w A0_1 l0_1.length l0_1) (hc0_1 : l0_1.length ≤ c0_1) (h : pick_Pick.f l0_0 l0_1 a0_2 = some (r1, r2, r3, r4, r5)) :
    Calls Try.prog 9 #[.agg #[.slice A0_0 l0_0.length c0_0, .slice A0_1 l0_1.length c0_1, .int .i64 a0_2]] w fun e w' => ∃ v1_ v2_ : Value, e = .returned (.tuple #[.agg #[.int .i64 r1, v1_, v2_, .bool r4], .bool r5]) ∧ Kd.R (Kd.int .i64) 3 w' w.heap.size (fun k_ => some k_ ≠ (v2_ : Value).ownBlock) v1_ r2 ∧ Kd.R (Kd.int .i64) 3 w' w.heap.size (fun k_ => some k_ ≠ (v1_ : Value).ownBlock) v2_ r3 ∧ Below w.heap.size w w' := by
  unfold pick_Pick.f at h
  obtain ⟨ok, hok, h1⟩ := Option.bind_eq_some_iff.1 h
  have HOK := Aside0.mk hok
  have HR0 := Aside0.mk hr0_0
  have HR1 := Aside0.mk hr0_1
  have HC0 := Aside0.mk hc0_0
  have HC1 := Aside0.mk hc0_1
  have HH := Aside0.mk h1
  clear hr0_0 hr0_1 hc0_0 hc0_1 h1 h hok
  have HB := Aside0.mk (Below.refl w.heap.size w)
  go_enter Try.func9, Try.ntmps9
  go_wp2_with (first | ((with_reducible refine gate_dst (N := 1) rfl ?_); refine box_event ?hg (N := 1) ?hd (cs := #[.slice A0_0 l0_0.length c0_0, .slice A0_1 l0_1.length c0_1, .int .i64 a0_2]) (t := 25) ?hr ?_; (case hd => rfl); (case hg => rfl); (case hr => first | (go_simp; done) | (go_simp; rfl)); intro gb hg w1 hbox hb; have HB1 := Aside0.mk (below_step HB.out hb); have Hgb := Aside0.mk hbox; have Sgb := Aside0.mk (by rw [hg]; exact HB.out.size : w.heap.size ≤ gb); clear hb hbox hg; have e_0 : w1.cell? ⟨gb, 0, none⟩ = some (.slice A0_0 l0_0.length c0_0) := (blk_cell Hgb.out 0).trans rfl; have e_1 : w1.cell? ⟨gb, 1, none⟩ = some (.slice A0_1 l0_1.length c0_1) := (blk_cell Hgb.out 1).trans rfl; have e_2 : w1.cell? ⟨gb, 2, none⟩ = some (.int .i64 a0_2) := (blk_cell Hgb.out 2).trans rfl) | ((with_reducible refine gate_dst (N := 2) rfl ?_); refine box_event ?hg (N := 2) ?hd (cs := #[.int .i64 0, .slice none 0 0, .slice none 0 0, .bool false]) (t := 28) ?hr ?_; (case hd => rfl); (case hg => rfl); (case hr => first | (go_simp; done) | (go_simp; rfl)); intro gj hg w2 hbox hb; have HB2 := Aside0.mk (below_step HB1.out hb); have Hgj := Aside0.mk hbox; have Sgj := Aside0.mk (by rw [hg]; exact HB1.out.size : w.heap.size ≤ gj); have HK2 := Aside0.mk (blk_below Hgb.out hb); have Ngb_gj := Aside0.mk (by rw [hg]; exact blk_lt Hgb.out : gb < gj); clear hb hbox hg; clear e_0 e_1 e_2 Hgb; have z_0 : w2.cell? ⟨gj, 0, none⟩ = some (.int .i64 0) := (blk_cell Hgj.out 0).trans rfl; have z_1 : w2.cell? ⟨gj, 1, none⟩ = some (.slice none 0 0) := (blk_cell Hgj.out 1).trans rfl; have z_2 : w2.cell? ⟨gj, 2, none⟩ = some (.slice none 0 0) := (blk_cell Hgj.out 2).trans rfl; have z_3 : w2.cell? ⟨gj, 3, none⟩ = some (.bool false) := (blk_cell Hgj.out 3).trans rfl); have e_0 : w2.cell? ⟨gb, 0, none⟩ = some (.slice A0_0 l0_0.length c0_0) := (blk_cell HK2.out 0).trans rfl; have e_1 : w2.cell? ⟨gb, 1, none⟩ = some (.slice A0_1 l0_1.length c0_1) := (blk_cell HK2.out 1).trans rfl; have e_2 : w2.cell? ⟨gb, 2, none⟩ = some (.int .i64 a0_2) := (blk_cell HK2.out 2).trans rfl)
  refine (version_Right.calls A0_0 c0_0 l0_0 A0_1 c0_1 l0_1 a0_2 ok w2 (Kd.C_below HR0.out HB2.out) HC0.out (Kd.C_below HR1.out HB2.out) HC1.out HOK.out).mono ?_
  rintro e w3 ⟨rfl, hb3⟩
  have HB3 := Aside0.mk (below_step HB2.out hb3)
  have HK3 := Aside0.mk (blk_below HK2.out hb3)
  have HJ3 := Aside0.mk (blk_below Hgj.out hb3)
  clear hb3 HB HB1 HB2 HK2 Hgj e_0 e_1 e_2 z_0 z_1 z_2 z_3
  cases ok with
  | false =>
    have hh := HH.out
    rw [if_neg (by simp)] at hh
    obtain ⟨rfl, rfl, rfl, rfl, rfl⟩ : r1 = 0 ∧ r2 = [] ∧ r3 = [] ∧ r4 = false ∧ r5 = false := by simpa [eq_comm] using hh
    clear hh HH
    go_wp2_with (((with_reducible refine gate_store (t := 28) (p := 2) (v := (.tmp 16)) rfl ?_); refine agg_event rfl 28 (.tmp 2) (.tmp 16) rfl gj rfl #[.int .i64 0, .slice none 0 0, .slice none 0 0, .bool false] #[.int .i64 0, .slice none 0 0, .slice none 0 0, .bool false] rfl HJ3.out (by kernel_rfl) rfl (by simp [Value.oneCell']) ?_; intro w4 hst hgr hszz; clear hszz; have HJ4 := Aside0.mk hst; have HB4 := Aside0.mk (pw_below_grown HB3.out (some gj) HB3.out.size hgr (fun k_ e_ => by injection e_ with e_; have := Sgj.out; omega)); clear hst hgr))
    refine bodyPost_ret (results_ct rfl _ _ gj 28 #[.int .i64 0, .slice none 0 0, .slice none 0 0, .bool false] (0, 0) _ rfl HJ4.out Try.underlying28 rfl (by kernel_rfl)) rfl ?_
    exact ⟨_, _, rfl, Kd.R_nil _ _ _ _ _, Kd.R_nil _ _ _ _ _, HB4.out⟩
  | true =>
    have hh := HH.out
    rw [if_pos rfl] at hh
    obtain ⟨⟨lv, ins⟩, hp, hh3⟩ := Option.bind_eq_some_iff.1 hh
    have HP := Aside0.mk hp
    obtain ⟨hl1, hl2, hil, hlen⟩ := pick_Pick.first_facts hp
    have HH2 := Aside0.mk hh3
    clear hh hh3 HH hp
    have e_0 : w3.cell? ⟨gb, 0, none⟩ = some (.slice A0_0 l0_0.length c0_0) := (blk_cell HK3.out 0).trans rfl
    have e_1 : w3.cell? ⟨gb, 1, none⟩ = some (.slice A0_1 l0_1.length c0_1) := (blk_cell HK3.out 1).trans rfl
    have e_2 : w3.cell? ⟨gb, 2, none⟩ = some (.int .i64 a0_2) := (blk_cell HK3.out 2).trans rfl
    go_wp2_with fail
    refine (pick_first.calls A0_0 c0_0 l0_0 A0_1 c0_1 l0_1 a0_2 lv ins w3 (Kd.C_below HR0.out HB3.out) HC0.out (Kd.C_below HR1.out HB3.out) HC1.out HP.out).mono ?_
    rintro e w4 ⟨v1, rfl, hv, hb4⟩
    obtain ⟨Ai, ci, rfl, hci, -⟩ := Kd.R_reads hv
    have HCI := Aside0.mk hci
    have HB4 := Aside0.mk (below_step HB3.out hb4)
    have HK4 := Aside0.mk (blk_below HK3.out hb4)
    have HJ4 := Aside0.mk (blk_below HJ3.out hb4)
    have HI4 := Aside0.mk (Kd.R_lower hv HB3.out.size)
    clear hv hb4 HB3 HK3 HJ3 e_0 e_1 e_2 hci
    by_cases hneg : lv < 0
    · have hh := HH2.out
      rw [if_pos hneg] at hh
      obtain ⟨rfl, rfl, rfl, rfl, rfl⟩ : r1 = 0 ∧ r2 = [] ∧ r3 = [] ∧ r4 = false ∧ r5 = false := by simpa [eq_comm] using hh
      clear hh HH2
      go_wp2_with (((with_reducible refine gate_store (t := 28) (p := 2) (v := (.tmp 24)) rfl ?_); refine agg_event rfl 28 (.tmp 2) (.tmp 24) rfl gj rfl #[.int .i64 0, .slice none 0 0, .slice none 0 0, .bool false] #[.int .i64 0, .slice none 0 0, .slice none 0 0, .bool false] rfl HJ4.out (by kernel_rfl) rfl (by simp [Value.oneCell']) ?_; intro w5 hst hgr hszz; clear hszz; have HJ5 := Aside0.mk hst; have HB5 := Aside0.mk (pw_below_grown HB4.out (some gj) HB4.out.size hgr (fun k_ e_ => by injection e_ with e_; have := Sgj.out; omega)); clear hst hgr))
      refine bodyPost_ret (results_ct rfl _ _ gj 28 #[.int .i64 0, .slice none 0 0, .slice none 0 0, .bool false] (0, 0) _ rfl HJ5.out Try.underlying28 rfl (by kernel_rfl)) rfl ?_
      exact ⟨_, _, rfl, Kd.R_nil _ _ _ _ _, Kd.R_nil _ _ _ _ _, HB5.out⟩
    · have hh := HH2.out
      rw [if_neg hneg] at hh
      have hh2 := Option.some.inj hh
      simp only [pick_Pick.tell, Prod.mk.injEq] at hh2
      obtain ⟨g1, g2, g3, g4, g5⟩ := hh2
      have G1 := Aside0.mk g1; have G2 := Aside0.mk g2; have G3 := Aside0.mk g3; have G4 := Aside0.mk g4; have G5 := Aside0.mk g5
      clear g1 g2 g3 g4 g5 HH2 hh
      have e_0 : w4.cell? ⟨gb, 0, none⟩ = some (.slice A0_0 l0_0.length c0_0) := (blk_cell HK4.out 0).trans rfl
      have e_1 : w4.cell? ⟨gb, 1, none⟩ = some (.slice A0_1 l0_1.length c0_1) := (blk_cell HK4.out 1).trans rfl
      have e_2 : w4.cell? ⟨gb, 2, none⟩ = some (.int .i64 a0_2) := (blk_cell HK4.out 2).trans rfl
      go_wp2_with fail
      refine (version_Level.calls (l0_0.length + 1) A0_0 c0_0 l0_0 A0_1 c0_1 l0_1 a0_2 (lv + 1) _ w4 (Kd.C_below HR0.out HB4.out) HC0.out (Kd.C_below HR1.out HB4.out) HC1.out (pick_first.level_some l0_0 l0_1 a0_2 (lv + 1) (by omega))).mono ?_
      rintro e w5 ⟨v2, rfl, hv2, hb5⟩
      have hnl : (pick_first.lev l0_0 (lv + 1)).length ≤ 200 := Nat.le_trans (List.length_filter_le _ _) hlen
      obtain ⟨NX, hNX⟩ : ∃ NX, NX = pick_first.lev l0_0 (lv + 1) := ⟨_, rfl⟩
      rw [← hNX] at hv2 hnl
      have HNX := Aside0.mk hNX
      obtain ⟨An, cn, rfl, hcn, -⟩ := Kd.R_reads hv2
      have HB5 := Aside0.mk (below_step HB4.out hb5)
      have HK5 := Aside0.mk (blk_below HK4.out hb5)
      have HJ5 := Aside0.mk (blk_below HJ4.out hb5)
      obtain ⟨N, hN⟩ : ∃ N, N = w5.heap.size := ⟨_, rfl⟩
      have HI5 : Aside0 (Kd.R k49 49 w5 w.heap.size (fun k_ => k_ < N) (.slice Ai ins.length ci) ins) := ⟨Kd.R_mono (Kd.R_bound (Kd.R_below HI4.out hb5)) (fun k_ hk => by rw [hN]; exact hk.2.2.1)⟩
      have HX5 : Aside0 (Kd.R k49 49 w5 w.heap.size (fun k_ => k_ < N) (.slice An NX.length cn) NX) := ⟨Kd.R_mono (Kd.R_bound (Kd.R_lower hv2 HB4.out.size)) (fun k_ hk => by rw [hN]; exact hk.2.2.1)⟩
      have HZ5 : Aside0 (N ≤ w5.heap.size) := ⟨by omega⟩
      have HU5 : Aside0 (Kd.R k49 49 w5 w.heap.size (fun k_ => N ≤ k_) (.slice none 0 0) []) := ⟨Kd.R_nil _ _ _ _ _⟩
      have NGB : Aside0 (gb < N) := ⟨by rw [hN]; exact blk_lt HK5.out⟩
      have NGJ : Aside0 (gj < N) := ⟨by rw [hN]; exact blk_lt HJ5.out⟩
      clear hv2 hb5 HB4 HK4 HJ4 HI4 e_0 e_1 e_2 hN hNX hcn
      go_wp2_with fail
      go_loopw [6, 30] (fun u i wr => ∃ k : Nat, k ≤ NX.length ∧ i = .int .i64 k ∧ Aside0 (Kd.R k49 49 wr w.heap.size (fun k_ => N ≤ k_) u ((NX.take k).filter (pick_Pick.meetB ins))) ∧ Aside0 (wr.heap[gb]? = some (.cells #[.slice A0_0 l0_0.length c0_0, .slice A0_1 l0_1.length c0_1, .int .i64 a0_2] 25 (0, 0))) ∧ Aside0 (wr.heap[gj]? = some (.cells #[.int .i64 0, .slice none 0 0, .slice none 0 0, .bool false] 28 (0, 0))) ∧ Aside0 (Kd.R k49 49 wr w.heap.size (fun k_ => k_ < N) (.slice Ai ins.length ci) ins) ∧ Aside0 (Kd.R k49 49 wr w.heap.size (fun k_ => k_ < N) (.slice An NX.length cn) NX) ∧ Aside0 (Below w.heap.size w wr) ∧ Aside0 (N ≤ wr.heap.size)) (fun _ i _ => NX.length - (intOf i).toNat)
      case atStart => exact ⟨0, Nat.zero_le _, rfl, HU5, HK5, HJ5, HI5, HX5, HB5, HZ5⟩
      case round =>
        clear HU5 HK5 HJ5 HI5 HX5 HB5 HZ5
        obtain ⟨k, hk, rfl, HU, HK, HJ, HI, HX, HB, HZ⟩ := hrel
        by_cases hlt : k < NX.length
        · obtain ⟨-, -, hrd⟩ := Kd.R_reads' HX.out
          obtain ⟨ad, hAn, x0, x1, x2, x3, x4⟩ := at_T49 hrd (k : Int) (by omega) (by omega)
          subst hAn
          clear hrd
          obtain ⟨m, hm⟩ : ∃ m : S49, m = rd_T49 NX (k : Int) := ⟨_, rfl⟩
          rw [← hm, Int.toNat_natCast] at x0 x1 x2 x3 x4
          have hmg : m = NX.getD k z49 := by rw [hm, rd_T49, Int.toNat_natCast]
          have hfs := pick_Pick.filter_snoc (pick_Pick.meetB ins) NX k hlt
          rw [← hmg] at hfs
          have HFS := Aside0.mk hfs
          have HFL : Aside0 (((NX.take k).filter (pick_Pick.meetB ins)).length ≤ k) := ⟨Nat.le_trans (List.length_filter_le _ _) (List.length_take_le _ _)⟩
          obtain ⟨acc, hacc⟩ : ∃ acc, acc = (NX.take k).filter (pick_Pick.meetB ins) := ⟨_, rfl⟩
          rw [← hacc] at HU HFL HFS
          clear hm hmg hfs hacc
          go_wp2_with (first | ((with_reducible refine gate_dst (N := 8) rfl ?_); refine box_event ?hg (N := 8) ?hd (cs := #[.int .i64 0, .int .i64 0, .string (⟨#[]⟩ : ByteArray), .string (⟨#[]⟩ : ByteArray), .int .i64 0]) (t := 49) ?hr ?_; (case hd => rfl); (case hg => rfl); (case hr => first | (go_simp; done) | (go_simp; rfl)); intro g8 hg w6 hbox hb; have HB6 := Aside0.mk (below_step HB.out hb); have Hg8 := Aside0.mk hbox; have Sg8 := Aside0.mk (by rw [hg]; exact HB.out.size : w.heap.size ≤ g8); have HK6 := Aside0.mk (blk_below HK.out hb); have Ngb_g8 := Aside0.mk (by rw [hg]; exact blk_lt HK.out : gb < g8); have HJ6 := Aside0.mk (blk_below HJ.out hb); have Ngj_g8 := Aside0.mk (by rw [hg]; exact blk_lt HJ.out : gj < g8); have HZ6 := Aside0.mk (Nat.le_trans HZ.out hb.size); have HU6 := Aside0.mk (Kd.R_below (Kd.R_elderB HU.out g8 (Nat.le_of_eq hg.symm)) hb); have HI6 := Aside0.mk (Kd.R_below (Kd.R_elderB HI.out g8 (Nat.le_of_eq hg.symm)) hb); have HX6 := Aside0.mk (Kd.R_below (Kd.R_elderB HX.out g8 (Nat.le_of_eq hg.symm)) hb); clear hb hbox hg) | ((with_reducible refine gate_store (t := 49) (p := 8) (v := (.tmp 33)) rfl ?_); refine agg_event rfl 49 (.tmp 8) (.tmp 33) rfl g8 rfl #[.int .i64 m.f0, .int .i64 m.f1, .string m.f2, .string m.f3, .int .i64 m.f4] #[.int .i64 0, .int .i64 0, .string (⟨#[]⟩ : ByteArray), .string (⟨#[]⟩ : ByteArray), .int .i64 0] rfl Hg8.out (by kernel_rfl) rfl (by simp [Value.oneCell']) ?_; intro w7 hst hgr hszz; clear hszz; have HM7 := Aside0.mk hst; have HB7 := Aside0.mk (pw_below_grown HB6.out (some g8) HB6.out.size hgr (fun k_ e_ => by injection e_ with e_; have := Sg8.out; omega)); have HK7 := Aside0.mk (blk_grown HK6.out hgr (by intro e_; injection e_ with e_; have := Ngb_g8.out; omega)); have HJ7 := Aside0.mk (blk_grown HJ6.out hgr (by intro e_; injection e_ with e_; have := Ngj_g8.out; omega)); have HZ7 := Aside0.mk (Nat.le_trans HZ6.out hgr.size); have HU7 := Aside0.mk (Kd.R_mono (Kd.R_grown HU6.out hgr (fun k_ hk => by intro e_; injection e_ with e_; exact hk.2 e_)) (fun _ hk => hk.1)); have HI7 := Aside0.mk (Kd.R_mono (Kd.R_grown HI6.out hgr (fun k_ hk => by intro e_; injection e_ with e_; exact hk.2 e_)) (fun _ hk => hk.1)); have HX7 := Aside0.mk (Kd.R_mono (Kd.R_grown HX6.out hgr (fun k_ hk => by intro e_; injection e_ with e_; exact hk.2 e_)) (fun _ hk => hk.1)); clear hst hgr; clear x0 x1 x2 x3 x4; have c8_0 : w7.cell? ⟨g8, 0, none⟩ = some (.int .i64 m.f0) := (blk_cell HM7.out 0).trans rfl; have c8_1 : w7.cell? ⟨g8, 1, none⟩ = some (.int .i64 m.f1) := (blk_cell HM7.out 1).trans rfl; have c8_2 : w7.cell? ⟨g8, 2, none⟩ = some (.string m.f2) := (blk_cell HM7.out 2).trans rfl; have c8_3 : w7.cell? ⟨g8, 3, none⟩ = some (.string m.f3) := (blk_cell HM7.out 3).trans rfl; have c8_4 : w7.cell? ⟨g8, 4, none⟩ = some (.int .i64 m.f4) := (blk_cell HM7.out 4).trans rfl))
          refine (pick_meet.calls (ins.length + 1) m.f0 m.f1 m.f2 m.f3 m.f4 Ai ci ins (pick_Pick.meetB ins m) w7 (Kd.R_reads' HI7.out).2.2 HCI.out (pick_Pick.meet_some m ins (by omega))).mono ?_
          rintro e w8 ⟨rfl, hb8⟩
          have HB8 := Aside0.mk (below_step HB7.out hb8)
          have HK8 := Aside0.mk (blk_below HK7.out hb8)
          have HJ8 := Aside0.mk (blk_below HJ7.out hb8)
          have HM8 := Aside0.mk (blk_below HM7.out hb8)
          have HU8 := Aside0.mk (Kd.R_below HU7.out hb8)
          have HI8 := Aside0.mk (Kd.R_below HI7.out hb8)
          have HX8 := Aside0.mk (Kd.R_below HX7.out hb8)
          have HZ8 := Aside0.mk (Nat.le_trans HZ7.out hb8.size)
          clear HU HK HJ HI HX HB HZ HU6 HK6 HJ6 HI6 HX6 HB6 HZ6 HU7 HK7 HJ7 HI7 HX7 HB7 HZ7 HM7 Hg8 hb8 c8_0 c8_1 c8_2 c8_3 c8_4
          cases hmt : pick_Pick.meetB ins m with
          | false =>
            have hf := HFS.out
            rw [hmt, if_neg (by simp)] at hf
            have HF := Aside0.mk hf
            clear hf hmt HFS
            go_wp2_with fail
            refine ⟨⟨k + 1, by omega, by go_num, by rw [HF.out]; exact HU8, HK8, HJ8, HI8, HX8, HB8, HZ8⟩, by simp [intOf]; omega⟩
          | true =>
            have hf := HFS.out
            rw [hmt, if_pos rfl] at hf
            have HF := Aside0.mk hf
            clear hf hmt HFS
            have c8_0 : w8.cell? ⟨g8, 0, none⟩ = some (.int .i64 m.f0) := (blk_cell HM8.out 0).trans rfl
            have c8_1 : w8.cell? ⟨g8, 1, none⟩ = some (.int .i64 m.f1) := (blk_cell HM8.out 1).trans rfl
            have c8_2 : w8.cell? ⟨g8, 2, none⟩ = some (.string m.f2) := (blk_cell HM8.out 2).trans rfl
            have c8_3 : w8.cell? ⟨g8, 3, none⟩ = some (.string m.f3) := (blk_cell HM8.out 3).trans rfl
            have c8_4 : w8.cell? ⟨g8, 4, none⟩ = some (.int .i64 m.f4) := (blk_cell HM8.out 4).trans rfl
            go_wp2_with ((with_reducible refine gate_builtin (b := .append) (xs := #[.tmp 37, .tmp 39]) rfl ?_); refine Kd.R_append k49 (w0 := w) w.heap.size rfl (.tmp 37) (.tmp 39) 22 49 (.agg #[.int .i64 0, .int .i64 0, .string (⟨#[]⟩ : ByteArray), .string (⟨#[]⟩ : ByteArray), .int .i64 0]) 56 rfl Try.underlying22 info49 rfl (by decide) (by omega) _ acc m [.int .i64 m.f0, .int .i64 m.f1, .string m.f2, .string m.f3, .int .i64 m.f4] (fun k_ => N ≤ k_) (fun _ => False) rfl (by first | (go_simp; done) | (go_simp; rfl)) ?aP (fun _ hk => hk.elim) ?aF ?aO ?aB ?aS ?aL ?_; (case aP => exact k49_mkM _ _ _ m); (case aF => exact fun k_ hk => Nat.le_trans HZ8.out hk); (case aO => exact HU8.out); (case aB => exact HB8.out); (case aS => exact HB8.out.size); (case aL => have := HFL.out; omega); intro v9 w9 ho hb hg hat; have HU9 := Aside0.mk ho; have HB9 := Aside0.mk hb; have HK9 := Aside0.mk (blk_grown HK8.out hg (Kd.R_ne HU8.out HK8.out (by decide))); have HJ9 := Aside0.mk (blk_grown HJ8.out hg (Kd.R_ne HU8.out HJ8.out (by decide))); have HI9 := Aside0.mk (Kd.R_grown HI8.out hg (fun k_ hk e_ => by have := HU8.out.1 k_ e_.symm; omega)); have HX9 := Aside0.mk (Kd.R_grown HX8.out hg (fun k_ hk e_ => by have := HU8.out.1 k_ e_.symm; omega)); have HZ9 := Aside0.mk (Nat.le_trans HZ8.out hg.size); clear ho hb hg hat)
            refine ⟨⟨k + 1, by omega, by go_num, by rw [HF.out]; exact HU9, HK9, HJ9, HI9, HX9, HB9, HZ9⟩, by simp [intOf]; omega⟩
        · obtain rfl : k = NX.length := by omega
          have hfull := HU.out
          rw [List.take_length] at hfull
          obtain ⟨U, hU⟩ : ∃ U, U = NX.filter (pick_Pick.meetB ins) := ⟨_, rfl⟩
          rw [← hU] at hfull
          have hUn : U = pick_Pick.under l0_0 ins lv := by rw [hU, HNX.out]; rfl
          have hUl : U.length ≤ 200 := by rw [hU]; exact Nat.le_trans (List.length_filter_le _ _) hnl
          have HUN := Aside0.mk hUn
          obtain ⟨Au, cu, rfl, hcu, -⟩ := Kd.R_reads hfull
          have HCU := Aside0.mk hcu
          have HU1 := Aside0.mk hfull
          clear HU hU hUn hfull hcu HX
          obtain ⟨I1, hI1⟩ : ∃ I1 : List Int, I1 = ins.map (·.f0) := ⟨_, rfl⟩
          have hid1 : pick_ids.f (ins.length + 1) ins = some I1 := by rw [hI1]; exact pick_Pick.ids_some ins (by omega)
          obtain ⟨I2, hI2⟩ : ∃ I2 : List Int, I2 = U.map (·.f0) := ⟨_, rfl⟩
          have hid2 : pick_ids.f (U.length + 1) U = some I2 := by rw [hI2]; exact pick_Pick.ids_some U (by omega)
          have HI1 := Aside0.mk hI1; have HI2 := Aside0.mk hI2; have HD1 := Aside0.mk hid1; have HD2 := Aside0.mk hid2
          clear hI1 hI2 hid1 hid2
          go_wp2_with fail
          refine (pick_ids.calls (ins.length + 1) Ai ci ins I1 wr (Kd.R_reads' HI.out).2.2 HCI.out HD1.out).mono ?_
          rintro e w6 ⟨v6, rfl, hv6, hb6⟩
          obtain ⟨A1, c1, rfl, hc1, -⟩ := Kd.R_reads hv6
          obtain ⟨Mx, hMx⟩ : ∃ Mx, Mx = w6.heap.size := ⟨_, rfl⟩
          have HV6 : Aside0 (Kd.R (Kd.int .i64) 3 w6 w.heap.size (fun k_ => k_ < Mx) (.slice A1 I1.length c1) I1) := ⟨Kd.R_mono (Kd.R_bound (Kd.R_lower hv6 HB.out.size)) (fun k_ hk => by rw [hMx]; exact hk.2.2.1)⟩
          have HB6 := Aside0.mk (below_step HB.out hb6)
          have HK6 := Aside0.mk (blk_below HK.out hb6)
          have HJ6 := Aside0.mk (blk_below HJ.out hb6)
          have HI6 := Aside0.mk (Kd.R_below HI.out hb6)
          have HU6 := Aside0.mk (Kd.R_below HU1.out hb6)
          have HMX := Aside0.mk hMx
          clear hv6 hb6 hc1 hMx HB HK HJ HI HU1 HZ
          go_wp2_with fail
          refine (pick_ids.calls (U.length + 1) Au cu U I2 w6 (Kd.R_reads' HU6.out).2.2 HCU.out HD2.out).mono ?_
          rintro e w7 ⟨v7, rfl, hv7, hb7⟩
          obtain ⟨A2, c2, rfl, hc2, -⟩ := Kd.R_reads hv7
          have HW7 : Aside0 (Kd.R (Kd.int .i64) 3 w7 w.heap.size (fun k_ => Mx ≤ k_) (.slice A2 I2.length c2) I2) := ⟨Kd.R_mono (Kd.R_lower (Kd.R_bound hv7) HB6.out.size) (fun k_ hk => by rw [HMX.out]; exact hk.2.1)⟩
          have HB7 := Aside0.mk (below_step HB6.out hb7)
          have HK7 := Aside0.mk (blk_below HK6.out hb7)
          have HJ7 := Aside0.mk (blk_below HJ6.out hb7)
          have HI7 := Aside0.mk (Kd.R_below HI6.out hb7)
          have HU7 := Aside0.mk (Kd.R_below HU6.out hb7)
          have HV7 := Aside0.mk (Kd.R_below HV6.out hb7)
          clear hv7 hb7 hc2 HB6 HK6 HJ6 HI6 HU6 HV6
          go_wp2_with (first | ((with_reducible refine gate_dst (N := 9) rfl ?_); refine box_event ?hg (N := 9) ?hd (cs := #[.int .i64 0, .slice none 0 0, .slice none 0 0, .bool false]) (t := 28) ?hr ?_; (case hd => rfl); (case hg => rfl); (case hr => first | (go_simp; done) | (go_simp; rfl)); intro g9 hg w8 hbox hb; have HB8 := Aside0.mk (below_step HB7.out hb); have Hg9 := Aside0.mk hbox; have Sg9 := Aside0.mk (by rw [hg]; exact HB7.out.size : w.heap.size ≤ g9); have HK8 := Aside0.mk (blk_below HK7.out hb); have Ngb_g9 := Aside0.mk (by rw [hg]; exact blk_lt HK7.out : gb < g9); have HJ8 := Aside0.mk (blk_below HJ7.out hb); have Ngj_g9 := Aside0.mk (by rw [hg]; exact blk_lt HJ7.out : gj < g9); have HI8 := Aside0.mk (Kd.R_below (Kd.R_elderB HI7.out g9 (Nat.le_of_eq hg.symm)) hb); have HU8 := Aside0.mk (Kd.R_below (Kd.R_elderB HU7.out g9 (Nat.le_of_eq hg.symm)) hb); have HV8 := Aside0.mk (Kd.R_below (Kd.R_elderB HV7.out g9 (Nat.le_of_eq hg.symm)) hb); have HW8 := Aside0.mk (Kd.R_below (Kd.R_elderB HW7.out g9 (Nat.le_of_eq hg.symm)) hb); clear hb hbox hg) | ((with_reducible refine gate_store (t := 28) (p := 9) (v := (.tmp 47)) rfl ?_); refine agg_event rfl 28 (.tmp 9) (.tmp 47) rfl g9 rfl #[.int .i64 lv, .slice A1 I1.length c1, .slice A2 I2.length c2, .bool true] #[.int .i64 0, .slice none 0 0, .slice none 0 0, .bool false] rfl Hg9.out (by kernel_rfl) rfl (by simp [Value.oneCell']) ?_; intro w9 hst hgr hszz; clear hszz; have H9 := Aside0.mk hst; have HB9 := Aside0.mk (pw_below_grown HB8.out (some g9) HB8.out.size hgr (fun k_ e_ => by injection e_ with e_; have := Sg9.out; omega)); have HK9 := Aside0.mk (blk_grown HK8.out hgr (by intro e_; injection e_ with e_; have := Ngb_g9.out; omega)); have HJ9 := Aside0.mk (blk_grown HJ8.out hgr (by intro e_; injection e_ with e_; have := Ngj_g9.out; omega)); have HI9 := Aside0.mk (Kd.R_mono (Kd.R_grown HI8.out hgr (fun k_ hk => by intro e_; injection e_ with e_; exact hk.2 e_)) (fun _ hk => hk.1)); have HU9 := Aside0.mk (Kd.R_mono (Kd.R_grown HU8.out hgr (fun k_ hk => by intro e_; injection e_ with e_; exact hk.2 e_)) (fun _ hk => hk.1)); have HV9 := Aside0.mk (Kd.R_mono (Kd.R_grown HV8.out hgr (fun k_ hk => by intro e_; injection e_ with e_; exact hk.2 e_)) (fun _ hk => hk.1)); have HW9 := Aside0.mk (Kd.R_mono (Kd.R_grown HW8.out hgr (fun k_ hk => by intro e_; injection e_ with e_; exact hk.2 e_)) (fun _ hk => hk.1)); clear hst hgr))
          have hx := heap_alloc_new w9 (.cells #[.slice Ai ins.length ci, .slice Au U.length cu] 22)
          have hB10 := below_alloc (Below.refl _ w9) (.cells #[.slice Ai ins.length ci, .slice Au U.length cu] 22)
          have HX10 := Aside0.mk hx
          have HA10 := Aside0.mk (reads_two (e := 49) hx HCI.out HCU.out (Kd.C_below (Kd.R_reads' HI9.out).2.2 hB10) (Kd.C_below (Kd.R_reads' HU9.out).2.2 hB10))
          have HB10 := Aside0.mk (below_step HB9.out hB10)
          have HK10 := Aside0.mk (blk_below HK9.out hB10)
          have HJ10 := Aside0.mk (blk_below HJ9.out hB10)
          have H10 := Aside0.mk (blk_below H9.out hB10)
          have HV10 := Aside0.mk (Kd.R_below HV9.out hB10)
          have HW10 := Aside0.mk (Kd.R_below HW9.out hB10)
          clear hx hB10 HB7 HK7 HJ7 HI7 HU7 HV7 HW7 HB8 HK8 HJ8 HI8 HU8 HV8 HW8 Hg9 HX10
          obtain ⟨AL, hAL⟩ : ∃ AL, AL = ins ++ U := ⟨_, rfl⟩
          have hcf : api_Meta_25.f [ins, U] = some AL := by
            unfold api_Meta_25.f
            rw [hAL, if_pos (by simp; omega)]
            simp
          have hall : AL.length ≤ 400 := by rw [hAL, List.length_append]; omega
          have HCF := Aside0.mk hcf
          have HAL := Aside0.mk hAL
          clear hcf hAL
          refine (api_Meta_25.calls _ 2 [ins, U] AL _ HA10.out (Nat.le_refl _) HCF.out).mono ?_
          rintro e w11 ⟨v11, rfl, hv11, hb11⟩
          obtain ⟨Aa, ca, rfl, hca, -⟩ := Kd.R_reads hv11
          have HCA := Aside0.mk hca
          have HA11 := Aside0.mk (Kd.R_lower hv11 HB10.out.size)
          have HB11 := Aside0.mk (below_step HB10.out hb11)
          have HK11 := Aside0.mk (blk_below HK10.out hb11)
          have HJ11 := Aside0.mk (blk_below HJ10.out hb11)
          have H11 := Aside0.mk (blk_below H10.out hb11)
          have HV11 := Aside0.mk (Kd.R_below HV10.out hb11)
          have HW11 := Aside0.mk (Kd.R_below HW10.out hb11)
          clear hv11 hb11 hca HB9 HK9 HJ9 HI9 HU9 HV9 HW9 H9 HB10 HK10 HJ10 H10 HV10 HW10 HA10
          have e_0 : w11.cell? ⟨gb, 0, none⟩ = some (.slice A0_0 l0_0.length c0_0) := (blk_cell HK11.out 0).trans rfl
          go_wp2_with fail
          clear e_0
          obtain ⟨q, hq⟩ : ∃ q : S49 → Bool, q = fun m => decide (lv + 1 < m.f1) && pick_Pick.meetB AL m := ⟨_, rfl⟩
          have HQ := Aside0.mk hq
          clear hq
          go_loopw [55] (fun i wr => ∃ k : Nat, k ≤ l0_0.length ∧ i = .int .i64 k ∧ Aside0 (wr.heap[g9]? = some (.cells #[.int .i64 lv, .slice A1 I1.length c1, .slice A2 I2.length c2, .bool (!((l0_0.take k).any q))] 28 (0, 0))) ∧ Aside0 (wr.heap[gb]? = some (.cells #[.slice A0_0 l0_0.length c0_0, .slice A0_1 l0_1.length c0_1, .int .i64 a0_2] 25 (0, 0))) ∧ Aside0 (wr.heap[gj]? = some (.cells #[.int .i64 0, .slice none 0 0, .slice none 0 0, .bool false] 28 (0, 0))) ∧ Aside0 (Kd.R k49 49 wr w.heap.size (fun _ => True) (.slice Aa AL.length ca) AL) ∧ Aside0 (Kd.R (Kd.int .i64) 3 wr w.heap.size (fun k_ => k_ < Mx) (.slice A1 I1.length c1) I1) ∧ Aside0 (Kd.R (Kd.int .i64) 3 wr w.heap.size (fun k_ => Mx ≤ k_) (.slice A2 I2.length c2) I2) ∧ Aside0 (Below w.heap.size w wr)) (fun i _ => l0_0.length - (intOf i).toNat)
          case atStart => exact ⟨0, Nat.zero_le _, rfl, H11, HK11, HJ11, HA11, HV11, HW11, HB11⟩
          case round =>
            clear H11 HK11 HJ11 HA11 HV11 HW11 HB11
            obtain ⟨k, hk, rfl, H9, HK, HJ, HA, HV, HW, HB⟩ := hrel
            by_cases hlt : k < l0_0.length
            · obtain ⟨ad, hA0, x0, x1, x2, x3, x4⟩ := at_T49 (Kd.C_below HR0.out HB.out) (k : Int) (by omega) (by omega)
              subst hA0
              obtain ⟨m, hm⟩ : ∃ m : S49, m = rd_T49 l0_0 (k : Int) := ⟨_, rfl⟩
              rw [← hm, Int.toNat_natCast] at x0 x1 x2 x3 x4
              have hmg : m = l0_0.getD k z49 := by rw [hm, rd_T49, Int.toNat_natCast]
              have hfs := pick_Pick.any_snoc q l0_0 k hlt
              rw [← hmg] at hfs
              have HFS := Aside0.mk hfs
              obtain ⟨b, hb⟩ : ∃ b : Bool, b = (l0_0.take k).any q := ⟨_, rfl⟩
              rw [← hb] at H9 HFS
              clear hm hmg hfs hb
              by_cases hd : lv + 1 < m.f1
              · have hdb : decide (lv + 1 < m.f1) = true := decide_eq_true hd
                have HD := Aside0.mk hdb
                go_wp2_with (first | ((with_reducible refine gate_dst (N := 12) rfl ?_); refine box_event ?hg (N := 12) ?hd (cs := #[.int .i64 0, .int .i64 0, .string (⟨#[]⟩ : ByteArray), .string (⟨#[]⟩ : ByteArray), .int .i64 0]) (t := 49) ?hr ?_; (case hd => rfl); (case hg => rfl); (case hr => first | (go_simp; done) | (go_simp; rfl)); intro g12 hg w6 hbox hb; have HB6 := Aside0.mk (below_step HB.out hb); have Hg12 := Aside0.mk hbox; have Sg12 := Aside0.mk (by rw [hg]; exact HB.out.size : w.heap.size ≤ g12); have H6 := Aside0.mk (blk_below H9.out hb); have Ng9_g12 := Aside0.mk (by rw [hg]; exact blk_lt H9.out : g9 < g12); have HK6 := Aside0.mk (blk_below HK.out hb); have Ngb_g12 := Aside0.mk (by rw [hg]; exact blk_lt HK.out : gb < g12); have HJ6 := Aside0.mk (blk_below HJ.out hb); have Ngj_g12 := Aside0.mk (by rw [hg]; exact blk_lt HJ.out : gj < g12); have HA6 := Aside0.mk (Kd.R_below (Kd.R_elderB HA.out g12 (Nat.le_of_eq hg.symm)) hb); have HV6 := Aside0.mk (Kd.R_below (Kd.R_elderB HV.out g12 (Nat.le_of_eq hg.symm)) hb); have HW6 := Aside0.mk (Kd.R_below (Kd.R_elderB HW.out g12 (Nat.le_of_eq hg.symm)) hb); clear hb hbox hg) | ((with_reducible refine gate_store (t := 49) (p := 12) (v := (.tmp 58)) rfl ?_); refine agg_event rfl 49 (.tmp 12) (.tmp 58) rfl g12 rfl #[.int .i64 m.f0, .int .i64 m.f1, .string m.f2, .string m.f3, .int .i64 m.f4] #[.int .i64 0, .int .i64 0, .string (⟨#[]⟩ : ByteArray), .string (⟨#[]⟩ : ByteArray), .int .i64 0] rfl Hg12.out (by kernel_rfl) rfl (by simp [Value.oneCell']) ?_; intro w7 hst hgr hszz; clear hszz; have HM7 := Aside0.mk hst; have HB7 := Aside0.mk (pw_below_grown HB6.out (some g12) HB6.out.size hgr (fun k_ e_ => by injection e_ with e_; have := Sg12.out; omega)); have H7 := Aside0.mk (blk_grown H6.out hgr (by intro e_; injection e_ with e_; have := Ng9_g12.out; omega)); have HK7 := Aside0.mk (blk_grown HK6.out hgr (by intro e_; injection e_ with e_; have := Ngb_g12.out; omega)); have HJ7 := Aside0.mk (blk_grown HJ6.out hgr (by intro e_; injection e_ with e_; have := Ngj_g12.out; omega)); have HA7 := Aside0.mk (Kd.R_mono (Kd.R_grown HA6.out hgr (fun k_ hk => by intro e_; injection e_ with e_; exact hk.2 e_)) (fun _ hk => hk.1)); have HV7 := Aside0.mk (Kd.R_mono (Kd.R_grown HV6.out hgr (fun k_ hk => by intro e_; injection e_ with e_; exact hk.2 e_)) (fun _ hk => hk.1)); have HW7 := Aside0.mk (Kd.R_mono (Kd.R_grown HW6.out hgr (fun k_ hk => by intro e_; injection e_ with e_; exact hk.2 e_)) (fun _ hk => hk.1)); clear hst hgr; clear x0 x1 x2 x3 x4; have c12_0 : w7.cell? ⟨g12, 0, none⟩ = some (.int .i64 m.f0) := (blk_cell HM7.out 0).trans rfl; have c12_1 : w7.cell? ⟨g12, 1, none⟩ = some (.int .i64 m.f1) := (blk_cell HM7.out 1).trans rfl; have c12_2 : w7.cell? ⟨g12, 2, none⟩ = some (.string m.f2) := (blk_cell HM7.out 2).trans rfl; have c12_3 : w7.cell? ⟨g12, 3, none⟩ = some (.string m.f3) := (blk_cell HM7.out 3).trans rfl; have c12_4 : w7.cell? ⟨g12, 4, none⟩ = some (.int .i64 m.f4) := (blk_cell HM7.out 4).trans rfl))
                refine (pick_meet.calls (AL.length + 1) m.f0 m.f1 m.f2 m.f3 m.f4 Aa ca AL (pick_Pick.meetB AL m) w7 (Kd.R_reads' HA7.out).2.2 HCA.out (pick_Pick.meet_some m AL (by omega))).mono ?_
                rintro e w8 ⟨rfl, hb8⟩
                have HB8 := Aside0.mk (below_step HB7.out hb8)
                have H8 := Aside0.mk (blk_below H7.out hb8)
                have HK8 := Aside0.mk (blk_below HK7.out hb8)
                have HJ8 := Aside0.mk (blk_below HJ7.out hb8)
                have HA8 := Aside0.mk (Kd.R_below HA7.out hb8)
                have HV8 := Aside0.mk (Kd.R_below HV7.out hb8)
                have HW8 := Aside0.mk (Kd.R_below HW7.out hb8)
                clear H9 HK HJ HA HV HW HB H6 HK6 HJ6 HA6 HV6 HW6 HB6 H7 HK7 HJ7 HA7 HV7 HW7 HB7 HM7 Hg12 hb8 c12_0 c12_1 c12_2 c12_3 c12_4 hd hdb
                cases hmt : pick_Pick.meetB AL m with
                | false =>
                  have hf := HFS.out
                  rw [HQ.out] at hf
                  simp only [hmt, Bool.and_false, Bool.or_false] at hf
                  rw [← HQ.out] at hf
                  have HF := Aside0.mk hf
                  clear hf hmt HFS HD
                  go_wp2_with fail
                  refine ⟨⟨k + 1, by omega, by go_num, by rw [HF.out]; exact H8, HK8, HJ8, HA8, HV8, HW8, HB8⟩, by simp [intOf]; omega⟩
                | true =>
                  have hf := HFS.out
                  rw [HQ.out] at hf
                  simp only [hmt, HD.out, Bool.and_true, Bool.or_true] at hf
                  rw [← HQ.out] at hf
                  have HF := Aside0.mk hf
                  clear hf hmt HFS HD
                  go_wp2_with (((with_reducible refine gate_store (t := 4) (p := 69) (v := (.const (.bool false))) rfl ?_); refine put_event rfl 4 (.tmp 69) (.const (.bool false)) rfl g9 3 rfl (.bool false) #[.int .i64 lv, .slice A1 I1.length c1, .slice A2 I2.length c2, .bool (!b)] _ rfl H8.out (by kernel_rfl) (by simp) rfl rfl ?_; intro w9 hst hgr hszz; clear hszz; have H9 := Aside0.mk hst; have HB9 := Aside0.mk (pw_below_grown HB8.out (some g9) HB8.out.size hgr (fun k_ e_ => by injection e_ with e_; have := Sg9.out; omega)); have HK9 := Aside0.mk (blk_grown HK8.out hgr (by intro e_; injection e_ with e_; have := Ngb_g9.out; omega)); have HJ9 := Aside0.mk (blk_grown HJ8.out hgr (by intro e_; injection e_ with e_; have := Ngj_g9.out; omega)); have HA9 := Aside0.mk (Kd.R_mono (Kd.R_grown (Kd.R_types HA8.out H8.out (by decide)) hgr (fun k_ hk => by intro e_; injection e_ with e_; exact hk.2 e_)) (fun _ hk => hk.1)); have HV9 := Aside0.mk (Kd.R_mono (Kd.R_grown (Kd.R_types HV8.out H8.out (by decide)) hgr (fun k_ hk => by intro e_; injection e_ with e_; exact hk.2 e_)) (fun _ hk => hk.1)); have HW9 := Aside0.mk (Kd.R_mono (Kd.R_grown (Kd.R_types HW8.out H8.out (by decide)) hgr (fun k_ hk => by intro e_; injection e_ with e_; exact hk.2 e_)) (fun _ hk => hk.1)); clear hst hgr))
                  refine ⟨⟨k + 1, by omega, by go_num, by rw [HF.out]; exact H9, HK9, HJ9, HA9, HV9, HW9, HB9⟩, by simp [intOf]; omega⟩
              · have hdb : decide (lv + 1 < m.f1) = false := decide_eq_false hd
                have hf := HFS.out
                rw [HQ.out] at hf
                simp only [hdb, Bool.false_and, Bool.or_false] at hf
                rw [← HQ.out] at hf
                have HF := Aside0.mk hf
                clear hf HFS
                go_wp2_with (first | ((with_reducible refine gate_dst (N := 12) rfl ?_); refine box_event ?hg (N := 12) ?hd (cs := #[.int .i64 0, .int .i64 0, .string (⟨#[]⟩ : ByteArray), .string (⟨#[]⟩ : ByteArray), .int .i64 0]) (t := 49) ?hr ?_; (case hd => rfl); (case hg => rfl); (case hr => first | (go_simp; done) | (go_simp; rfl)); intro g12 hg w6 hbox hb; have HB6 := Aside0.mk (below_step HB.out hb); have Hg12 := Aside0.mk hbox; have Sg12 := Aside0.mk (by rw [hg]; exact HB.out.size : w.heap.size ≤ g12); have H6 := Aside0.mk (blk_below H9.out hb); have Ng9_g12 := Aside0.mk (by rw [hg]; exact blk_lt H9.out : g9 < g12); have HK6 := Aside0.mk (blk_below HK.out hb); have Ngb_g12 := Aside0.mk (by rw [hg]; exact blk_lt HK.out : gb < g12); have HJ6 := Aside0.mk (blk_below HJ.out hb); have Ngj_g12 := Aside0.mk (by rw [hg]; exact blk_lt HJ.out : gj < g12); have HA6 := Aside0.mk (Kd.R_below (Kd.R_elderB HA.out g12 (Nat.le_of_eq hg.symm)) hb); have HV6 := Aside0.mk (Kd.R_below (Kd.R_elderB HV.out g12 (Nat.le_of_eq hg.symm)) hb); have HW6 := Aside0.mk (Kd.R_below (Kd.R_elderB HW.out g12 (Nat.le_of_eq hg.symm)) hb); clear hb hbox hg) | ((with_reducible refine gate_store (t := 49) (p := 12) (v := (.tmp 58)) rfl ?_); refine agg_event rfl 49 (.tmp 12) (.tmp 58) rfl g12 rfl #[.int .i64 m.f0, .int .i64 m.f1, .string m.f2, .string m.f3, .int .i64 m.f4] #[.int .i64 0, .int .i64 0, .string (⟨#[]⟩ : ByteArray), .string (⟨#[]⟩ : ByteArray), .int .i64 0] rfl Hg12.out (by kernel_rfl) rfl (by simp [Value.oneCell']) ?_; intro w7 hst hgr hszz; clear hszz; have HM7 := Aside0.mk hst; have HB7 := Aside0.mk (pw_below_grown HB6.out (some g12) HB6.out.size hgr (fun k_ e_ => by injection e_ with e_; have := Sg12.out; omega)); have H7 := Aside0.mk (blk_grown H6.out hgr (by intro e_; injection e_ with e_; have := Ng9_g12.out; omega)); have HK7 := Aside0.mk (blk_grown HK6.out hgr (by intro e_; injection e_ with e_; have := Ngb_g12.out; omega)); have HJ7 := Aside0.mk (blk_grown HJ6.out hgr (by intro e_; injection e_ with e_; have := Ngj_g12.out; omega)); have HA7 := Aside0.mk (Kd.R_mono (Kd.R_grown HA6.out hgr (fun k_ hk => by intro e_; injection e_ with e_; exact hk.2 e_)) (fun _ hk => hk.1)); have HV7 := Aside0.mk (Kd.R_mono (Kd.R_grown HV6.out hgr (fun k_ hk => by intro e_; injection e_ with e_; exact hk.2 e_)) (fun _ hk => hk.1)); have HW7 := Aside0.mk (Kd.R_mono (Kd.R_grown HW6.out hgr (fun k_ hk => by intro e_; injection e_ with e_; exact hk.2 e_)) (fun _ hk => hk.1)); clear hst hgr; clear x0 x1 x2 x3 x4; have c12_0 : w7.cell? ⟨g12, 0, none⟩ = some (.int .i64 m.f0) := (blk_cell HM7.out 0).trans rfl; have c12_1 : w7.cell? ⟨g12, 1, none⟩ = some (.int .i64 m.f1) := (blk_cell HM7.out 1).trans rfl; have c12_2 : w7.cell? ⟨g12, 2, none⟩ = some (.string m.f2) := (blk_cell HM7.out 2).trans rfl; have c12_3 : w7.cell? ⟨g12, 3, none⟩ = some (.string m.f3) := (blk_cell HM7.out 3).trans rfl; have c12_4 : w7.cell? ⟨g12, 4, none⟩ = some (.int .i64 m.f4) := (blk_cell HM7.out 4).trans rfl))
                refine ⟨⟨k + 1, by omega, by go_num, by rw [HF.out]; exact H7, HK7, HJ7, HA7, HV7, HW7, HB7⟩, by simp [intOf]; omega⟩
            · obtain rfl : k = l0_0.length := by omega
              have h9 := H9.out
              rw [List.take_length] at h9
              obtain ⟨b, hb⟩ : ∃ b : Bool, b = !(l0_0.any q) := ⟨_, rfl⟩
              rw [← hb] at h9
              have HBB := Aside0.mk hb
              have c9_0 : wr.cell? ⟨g9, 0, none⟩ = some (.int .i64 lv) := (blk_cell h9 0).trans rfl
              have c9_1 : wr.cell? ⟨g9, 1, none⟩ = some (.slice A1 I1.length c1) := (blk_cell h9 1).trans rfl
              have c9_2 : wr.cell? ⟨g9, 2, none⟩ = some (.slice A2 I2.length c2) := (blk_cell h9 2).trans rfl
              have c9_3 : wr.cell? ⟨g9, 3, none⟩ = some (.bool b) := (blk_cell h9 3).trans rfl
              clear hb h9 H9
              go_wp2_with (((with_reducible refine gate_store (t := 28) (p := 2) (v := (.tmp 71)) rfl ?_); refine agg_event rfl 28 (.tmp 2) (.tmp 71) rfl gj rfl #[.int .i64 lv, .slice A1 I1.length c1, .slice A2 I2.length c2, .bool b] #[.int .i64 0, .slice none 0 0, .slice none 0 0, .bool false] rfl HJ.out (by kernel_rfl) rfl (by simp [Value.oneCell']) ?_; intro w9 hst hgr hszz; clear hszz; have HJ9 := Aside0.mk hst; have HB9 := Aside0.mk (pw_below_grown HB.out (some gj) HB.out.size hgr (fun k_ e_ => by injection e_ with e_; have := Sgj.out; omega)); have HV9 := Aside0.mk (Kd.R_mono (Kd.R_grown (Kd.R_types HV.out HJ.out (by decide)) hgr (fun k_ hk => by intro e_; injection e_ with e_; exact hk.2 e_)) (fun _ hk => hk.1)); have HW9 := Aside0.mk (Kd.R_mono (Kd.R_grown (Kd.R_types HW.out HJ.out (by decide)) hgr (fun k_ hk => by intro e_; injection e_ with e_; exact hk.2 e_)) (fun _ hk => hk.1)); clear hst hgr; clear c9_0 c9_1 c9_2 c9_3))
              refine bodyPost_ret (results_ct rfl _ _ gj 28 #[.int .i64 lv, .slice A1 I1.length c1, .slice A2 I2.length c2, .bool b] (0, 0) _ rfl HJ9.out Try.underlying28 rfl (by kernel_rfl)) rfl ?_
              have e1 := G1.out; have e2 := G2.out; have e3 := G3.out; have e4 := G4.out; have e5 := G5.out
              rw [← HUN.out, ← HAL.out, ← HQ.out, ← HBB.out] at e4
              rw [← HUN.out, ← HI2.out] at e3
              rw [← HI1.out] at e2
              subst e1 e2 e3 e4 e5
              exact ⟨_, _, rfl, Kd.R_mono HV9.out (fun k_ hk e_ => by have := HW9.out.1 k_ e_.symm; omega), Kd.R_mono HW9.out (fun k_ hk e_ => by have := HV9.out.1 k_ e_.symm; omega), HB9.out⟩


/-! ### api_Entry: function 29 -/
def api_Entry.f (l0 : List (S45)) : Option (List (S45)) := if l0.length < 2932031007402 then some l0 else none
set_option maxHeartbeats 1000000 in
theorem api_Entry.calls (A0 : Option Addr) (c0 : Nat) (l0 : List (S45)) (r : List (S45)) (w : World) (hr0 : Kd.C k45 w A0 l0.length l0) (hc0 : l0.length ≤ c0) (h : api_Entry.f l0 = some r) :
    Calls Try.prog 29 #[.slice A0 l0.length c0] w fun e w' => ∃ v0_ : Value, e = .returned (v0_) ∧ Kd.R k45 45 w' w.heap.size (fun _ => True) v0_ r ∧ Below w.heap.size w w' := by
  obtain ⟨hlim, rfl⟩ : l0.length < 2932031007402 ∧ l0 = r := by
    unfold api_Entry.f at h
    split at h
    · rename_i hl; exact ⟨hl, Option.some.inj h⟩
    · cases h
  clear h
  have HR := Aside0.mk hr0
  have HL := Aside0.mk hlim
  rcases A0 with _ | ad
  · have h0 : l0 = [] := by
      rcases Nat.eq_zero_or_pos l0.length with h0 | h0
      · exact List.eq_nil_of_length_eq_zero h0
      · obtain ⟨ad, e, _⟩ := hr0.2.2 h0; cases e
    subst h0
    clear HR HL hr0 hlim hc0
    have he := fun W => run_eql_slice_nil (P := Try.prog) W 34 45 none 0 c0 Try.underlying34
    go_enter Try.func29, Try.ntmps29
    go_wp2
    go_ret
    exact ⟨_, rfl, Kd.R_nil _ _ _ _ _, Below.refl _ _⟩
  · clear hr0 hlim
    have he := fun W => run_eql_slice_nil (P := Try.prog) W 34 45 (some ad) l0.length c0 Try.underlying34
    go_enter Try.func29, Try.ntmps29
    go_wp2_with ((with_reducible refine gate_builtin (b := .append) (xs := #[.tmp 5, .tmp 6]) rfl ?_); refine Kd.R_append_rows k45 (w0 := w) w.heap.size rfl (.tmp 5) (.tmp 6) 34 45 (.agg #[(.string ⟨#[]⟩), (.int .i64 0), (.bool false), (.string ⟨#[]⟩)]) 48 rfl Try.underlying34 info45 rfl (by decide) (by omega) _ [] l0 _ _ _ (fun _ => True) (fun _ => False) rfl rfl ?aO ?aR (fun _ _ h => h) (fun _ h => h.elim) ?aF ?aB ?aS ?aL ?_; (case aO => exact ⟨fun _ _ => trivial, [], World.ownsRow_made w #[] 0 (Nat.le_refl _) (by decide) rfl, Reps.none _ _⟩); (case aR => exact Kd.C_alloc HR.out _); (case aF => exact fun _ _ => trivial); (case aB => exact below_alloc (Below.refl _ _) _); (case aS => simp); (case aL => have := HL.out; simp; omega); intro v1 w1 ho hb hg hat; have HO := Aside0.mk ho; have HB := Aside0.mk hb; clear ho hb hg hat)
    go_ret
    exact ⟨_, rfl, HO.out, HB.out⟩


end Go.Proofs.Ytepgnefkpjnmlaa.P3
