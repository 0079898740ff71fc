-- packed: PDx12 PDx13 PDx14 PDx18 PDx19 PDx21 PDx27
import Derived.Test.YtokimlfagpddlaaVW0
-- printed by gprint.py (own tool) over the kit's print
namespace Go.Proofs.Ytokimlfagpddlaa.PD
open Go.RowKit Go.Proofs.Ytokimlfagpddlaa Go.Proofs.YtokimlfagpddlaaW.PrintWords Go.Proofs.YtokimlfagpddlaaW.PrintLast Go.Proofs.YtokimlfagpddlaaW.PrintMore
attribute [local go_sem] max2_int min2_int max_two min_two max_three min_three max_four min_four   -- for this text's walks alone
set_option linter.unnecessarySimpa false
attribute [local go_sem] min2_str max2_str leq_str gtr_str geq_str
set_option linter.unusedVariables false
set_option linter.unusedSimpArgs false

/-! ### version_meta: function 34 -/
def version_meta.f (a0_0 : Int) (a0_1 : Int) (a0_2 : ByteArray) (a0_3 : ByteArray) (a0_4 : Int) : Option (Bool) := if a0_0 < 1 then (some false) else (if a0_0 > 9007199254740991 then (some false) else (if a0_1 < 0 then (some false) else (if a0_1 ≥ 4 then (some false) else (if a0_4 < 1 then (some false) else (if a0_4 > 1048576 then (some false) else (if a0_2.toList = ([] : List UInt8) then (some false) else (if ((Op.bytesLess a0_3.toList a0_2.toList) = true) then (some false) else (if (a0_2.size : Int) ≤ 80 then (some (decide ((a0_3.size : Int) ≤ 80))) else (some false)))))))))
set_option maxHeartbeats 8000000 in
set_option maxRecDepth 100000 in
theorem version_meta.calls (a0_0 : Int) (a0_1 : Int) (a0_2 : ByteArray) (a0_3 : ByteArray) (a0_4 : Int) (r : Bool) (w : World) (h : version_meta.f a0_0 a0_1 a0_2 a0_3 a0_4 = some r) :
    Calls Try.prog 34 #[.agg #[.int .i64 a0_0, .int .i64 a0_1, .string a0_2, .string a0_3, .int .i64 a0_4]] w fun e w' => e = .returned (.bool r) ∧ Below w.heap.size w w' := by
  have hu35 := Try.underlying35
  have HB := Aside0.mk (Below.refl w.heap.size w)
  have H : (if a0_0 < 1 then (some false) else (if a0_0 > 9007199254740991 then (some false) else (if a0_1 < 0 then (some false) else (if a0_1 ≥ 4 then (some false) else (if a0_4 < 1 then (some false) else (if a0_4 > 1048576 then (some false) else (if a0_2.toList = ([] : List UInt8) then (some false) else (if ((Op.bytesLess a0_3.toList a0_2.toList) = true) then (some false) else (if (a0_2.size : Int) ≤ 80 then (some (decide ((a0_3.size : Int) ≤ 80))) else (some false)))))))))) = some r := h
  clear h
  by_cases c2 : a0_0 < 1
  · rw [if_pos c2] at H
    have c2b0 : decide (a0_0 < 1) = true := decide_eq_true c2
    clear c2
    obtain rfl := Option.some.inj H
    go_enter Try.func34, Try.ntmps34
    go_wp2_with (first | ((with_reducible refine gate_dst (N := 1) rfl ?_); (try (refine gate_guard (by rfl) ?_; dsimp only)); refine box_event ?hg (N := 1) ?hd (cs := #[.int .i64 a0_0, .int .i64 a0_1, .string a0_2, .string a0_3, .int .i64 a0_4]) (t := 35) ?hr ?_; (case hd => rfl); (case hg => rfl); (case hr => first | (go_simp; done) | (go_simp; rfl)); intro gb133 hg w3 hbox hb; have n0_ := Aside0.mk (below_step (by repeat (first | (with_reducible first | exact HB.out | apply below_alloc | apply pw_below_drewN | apply below_drew1) | exact HB.out)) hb); have n1_ := Aside0.mk (hbox); have n2_ := Aside0.mk ((by rw [hg]; exact (below_size (by repeat (first | (with_reducible first | exact HB.out | apply below_alloc | apply pw_below_drewN | apply below_drew1) | exact HB.out))) : w.heap.size ≤ gb133)); have n3_ := Aside0.mk ((by rw [hg]; exact (below_size (by repeat (first | (with_reducible first | exact HB.out | apply below_alloc | apply pw_below_drewN | apply below_drew1) | exact HB.out))) : w.heap.size ≤ gb133)); clear HB; have HB := n0_; have BK133 := n1_; have GW133 := n2_; have GE133 := n3_; clear n0_ n1_ n2_ n3_; clear hb hbox hg; have hcz4_0 : w3.cell? ⟨gb133, 0, none⟩ = some (.int .i64 a0_0) := (blk_cell BK133.out 0).trans rfl; have hcz4_1 : w3.cell? ⟨gb133, 1, none⟩ = some (.int .i64 a0_1) := (blk_cell BK133.out 1).trans rfl; have hcz4_2 : w3.cell? ⟨gb133, 2, none⟩ = some (.string a0_2) := (blk_cell BK133.out 2).trans rfl; have hcz4_3 : w3.cell? ⟨gb133, 3, none⟩ = some (.string a0_3) := (blk_cell BK133.out 3).trans rfl; have hcz4_4 : w3.cell? ⟨gb133, 4, none⟩ = some (.int .i64 a0_4) := (blk_cell BK133.out 4).trans rfl; have hfz4_0 := blk_frozen BK133.out 0; have hfz4_1 := blk_frozen BK133.out 1; have hfz4_2 := blk_frozen BK133.out 2; have hfz4_3 := blk_frozen BK133.out 3; have hfz4_4 := blk_frozen BK133.out 4))
    go_ret
    exact ⟨by first | rfl | (simp [errW_none, errW_some] <;> rfl) | (simp [*, errW_none, errW_some] <;> rfl), by repeat (first | (with_reducible first | exact HB.out | apply below_alloc | apply pw_below_drewN | apply below_drew1 | refine below_set ?_ GE133.out) | exact HB.out)⟩
  · rw [if_neg c2] at H
    have c2b0 : decide (a0_0 < 1) = false := decide_eq_false c2
    clear c2
    by_cases c5 : a0_0 > 9007199254740991
    · rw [if_pos c5] at H
      have c5b0 : decide (9007199254740991 < a0_0) = true := decide_eq_true c5
      clear c5
      obtain rfl := Option.some.inj H
      go_enter Try.func34, Try.ntmps34
      go_wp2_with (first | ((with_reducible refine gate_dst (N := 1) rfl ?_); (try (refine gate_guard (by rfl) ?_; dsimp only)); refine box_event ?hg (N := 1) ?hd (cs := #[.int .i64 a0_0, .int .i64 a0_1, .string a0_2, .string a0_3, .int .i64 a0_4]) (t := 35) ?hr ?_; (case hd => rfl); (case hg => rfl); (case hr => first | (go_simp; done) | (go_simp; rfl)); intro gb133 hg w6 hbox hb; have n0_ := Aside0.mk (below_step (by repeat (first | (with_reducible first | exact HB.out | apply below_alloc | apply pw_below_drewN | apply below_drew1) | exact HB.out)) hb); have n1_ := Aside0.mk (hbox); have n2_ := Aside0.mk ((by rw [hg]; exact (below_size (by repeat (first | (with_reducible first | exact HB.out | apply below_alloc | apply pw_below_drewN | apply below_drew1) | exact HB.out))) : w.heap.size ≤ gb133)); have n3_ := Aside0.mk ((by rw [hg]; exact (below_size (by repeat (first | (with_reducible first | exact HB.out | apply below_alloc | apply pw_below_drewN | apply below_drew1) | exact HB.out))) : w.heap.size ≤ gb133)); clear HB; have HB := n0_; have BK133 := n1_; have GW133 := n2_; have GE133 := n3_; clear n0_ n1_ n2_ n3_; clear hb hbox hg; have hcz7_0 : w6.cell? ⟨gb133, 0, none⟩ = some (.int .i64 a0_0) := (blk_cell BK133.out 0).trans rfl; have hcz7_1 : w6.cell? ⟨gb133, 1, none⟩ = some (.int .i64 a0_1) := (blk_cell BK133.out 1).trans rfl; have hcz7_2 : w6.cell? ⟨gb133, 2, none⟩ = some (.string a0_2) := (blk_cell BK133.out 2).trans rfl; have hcz7_3 : w6.cell? ⟨gb133, 3, none⟩ = some (.string a0_3) := (blk_cell BK133.out 3).trans rfl; have hcz7_4 : w6.cell? ⟨gb133, 4, none⟩ = some (.int .i64 a0_4) := (blk_cell BK133.out 4).trans rfl; have hfz7_0 := blk_frozen BK133.out 0; have hfz7_1 := blk_frozen BK133.out 1; have hfz7_2 := blk_frozen BK133.out 2; have hfz7_3 := blk_frozen BK133.out 3; have hfz7_4 := blk_frozen BK133.out 4))
      go_ret
      exact ⟨by first | rfl | (simp [errW_none, errW_some] <;> rfl) | (simp [*, errW_none, errW_some] <;> rfl), by repeat (first | (with_reducible first | exact HB.out | apply below_alloc | apply pw_below_drewN | apply below_drew1 | refine below_set ?_ GE133.out) | exact HB.out)⟩
    · rw [if_neg c5] at H
      have c5b0 : decide (9007199254740991 < a0_0) = false := decide_eq_false c5
      clear c5
      by_cases c8 : a0_1 < 0
      · rw [if_pos c8] at H
        have c8b0 : decide (a0_1 < 0) = true := decide_eq_true c8
        clear c8
        obtain rfl := Option.some.inj H
        go_enter Try.func34, Try.ntmps34
        go_wp2_with (first | ((with_reducible refine gate_dst (N := 1) rfl ?_); (try (refine gate_guard (by rfl) ?_; dsimp only)); refine box_event ?hg (N := 1) ?hd (cs := #[.int .i64 a0_0, .int .i64 a0_1, .string a0_2, .string a0_3, .int .i64 a0_4]) (t := 35) ?hr ?_; (case hd => rfl); (case hg => rfl); (case hr => first | (go_simp; done) | (go_simp; rfl)); intro gb133 hg w9 hbox hb; have n0_ := Aside0.mk (below_step (by repeat (first | (with_reducible first | exact HB.out | apply below_alloc | apply pw_below_drewN | apply below_drew1) | exact HB.out)) hb); have n1_ := Aside0.mk (hbox); have n2_ := Aside0.mk ((by rw [hg]; exact (below_size (by repeat (first | (with_reducible first | exact HB.out | apply below_alloc | apply pw_below_drewN | apply below_drew1) | exact HB.out))) : w.heap.size ≤ gb133)); have n3_ := Aside0.mk ((by rw [hg]; exact (below_size (by repeat (first | (with_reducible first | exact HB.out | apply below_alloc | apply pw_below_drewN | apply below_drew1) | exact HB.out))) : w.heap.size ≤ gb133)); clear HB; have HB := n0_; have BK133 := n1_; have GW133 := n2_; have GE133 := n3_; clear n0_ n1_ n2_ n3_; clear hb hbox hg; have hcz10_0 : w9.cell? ⟨gb133, 0, none⟩ = some (.int .i64 a0_0) := (blk_cell BK133.out 0).trans rfl; have hcz10_1 : w9.cell? ⟨gb133, 1, none⟩ = some (.int .i64 a0_1) := (blk_cell BK133.out 1).trans rfl; have hcz10_2 : w9.cell? ⟨gb133, 2, none⟩ = some (.string a0_2) := (blk_cell BK133.out 2).trans rfl; have hcz10_3 : w9.cell? ⟨gb133, 3, none⟩ = some (.string a0_3) := (blk_cell BK133.out 3).trans rfl; have hcz10_4 : w9.cell? ⟨gb133, 4, none⟩ = some (.int .i64 a0_4) := (blk_cell BK133.out 4).trans rfl; have hfz10_0 := blk_frozen BK133.out 0; have hfz10_1 := blk_frozen BK133.out 1; have hfz10_2 := blk_frozen BK133.out 2; have hfz10_3 := blk_frozen BK133.out 3; have hfz10_4 := blk_frozen BK133.out 4))
        go_ret
        exact ⟨by first | rfl | (simp [errW_none, errW_some] <;> rfl) | (simp [*, errW_none, errW_some] <;> rfl), by repeat (first | (with_reducible first | exact HB.out | apply below_alloc | apply pw_below_drewN | apply below_drew1 | refine below_set ?_ GE133.out) | exact HB.out)⟩
      · rw [if_neg c8] at H
        have c8b0 : decide (a0_1 < 0) = false := decide_eq_false c8
        clear c8
        by_cases c11 : a0_1 ≥ 4
        · rw [if_pos c11] at H
          have c11b0 : decide (4 ≤ a0_1) = true := decide_eq_true c11
          clear c11
          obtain rfl := Option.some.inj H
          go_enter Try.func34, Try.ntmps34
          go_wp2_with (first | ((with_reducible refine gate_dst (N := 1) rfl ?_); (try (refine gate_guard (by rfl) ?_; dsimp only)); refine box_event ?hg (N := 1) ?hd (cs := #[.int .i64 a0_0, .int .i64 a0_1, .string a0_2, .string a0_3, .int .i64 a0_4]) (t := 35) ?hr ?_; (case hd => rfl); (case hg => rfl); (case hr => first | (go_simp; done) | (go_simp; rfl)); intro gb133 hg w12 hbox hb; have n0_ := Aside0.mk (below_step (by repeat (first | (with_reducible first | exact HB.out | apply below_alloc | apply pw_below_drewN | apply below_drew1) | exact HB.out)) hb); have n1_ := Aside0.mk (hbox); have n2_ := Aside0.mk ((by rw [hg]; exact (below_size (by repeat (first | (with_reducible first | exact HB.out | apply below_alloc | apply pw_below_drewN | apply below_drew1) | exact HB.out))) : w.heap.size ≤ gb133)); have n3_ := Aside0.mk ((by rw [hg]; exact (below_size (by repeat (first | (with_reducible first | exact HB.out | apply below_alloc | apply pw_below_drewN | apply below_drew1) | exact HB.out))) : w.heap.size ≤ gb133)); clear HB; have HB := n0_; have BK133 := n1_; have GW133 := n2_; have GE133 := n3_; clear n0_ n1_ n2_ n3_; clear hb hbox hg; have hcz13_0 : w12.cell? ⟨gb133, 0, none⟩ = some (.int .i64 a0_0) := (blk_cell BK133.out 0).trans rfl; have hcz13_1 : w12.cell? ⟨gb133, 1, none⟩ = some (.int .i64 a0_1) := (blk_cell BK133.out 1).trans rfl; have hcz13_2 : w12.cell? ⟨gb133, 2, none⟩ = some (.string a0_2) := (blk_cell BK133.out 2).trans rfl; have hcz13_3 : w12.cell? ⟨gb133, 3, none⟩ = some (.string a0_3) := (blk_cell BK133.out 3).trans rfl; have hcz13_4 : w12.cell? ⟨gb133, 4, none⟩ = some (.int .i64 a0_4) := (blk_cell BK133.out 4).trans rfl; have hfz13_0 := blk_frozen BK133.out 0; have hfz13_1 := blk_frozen BK133.out 1; have hfz13_2 := blk_frozen BK133.out 2; have hfz13_3 := blk_frozen BK133.out 3; have hfz13_4 := blk_frozen BK133.out 4))
          go_ret
          exact ⟨by first | rfl | (simp [errW_none, errW_some] <;> rfl) | (simp [*, errW_none, errW_some] <;> rfl), by repeat (first | (with_reducible first | exact HB.out | apply below_alloc | apply pw_below_drewN | apply below_drew1 | refine below_set ?_ GE133.out) | exact HB.out)⟩
        · rw [if_neg c11] at H
          have c11b0 : decide (4 ≤ a0_1) = false := decide_eq_false c11
          clear c11
          by_cases c14 : a0_4 < 1
          · rw [if_pos c14] at H
            have c14b0 : decide (a0_4 < 1) = true := decide_eq_true c14
            clear c14
            obtain rfl := Option.some.inj H
            go_enter Try.func34, Try.ntmps34
            go_wp2_with (first | ((with_reducible refine gate_dst (N := 1) rfl ?_); (try (refine gate_guard (by rfl) ?_; dsimp only)); refine box_event ?hg (N := 1) ?hd (cs := #[.int .i64 a0_0, .int .i64 a0_1, .string a0_2, .string a0_3, .int .i64 a0_4]) (t := 35) ?hr ?_; (case hd => rfl); (case hg => rfl); (case hr => first | (go_simp; done) | (go_simp; rfl)); intro gb133 hg w15 hbox hb; have n0_ := Aside0.mk (below_step (by repeat (first | (with_reducible first | exact HB.out | apply below_alloc | apply pw_below_drewN | apply below_drew1) | exact HB.out)) hb); have n1_ := Aside0.mk (hbox); have n2_ := Aside0.mk ((by rw [hg]; exact (below_size (by repeat (first | (with_reducible first | exact HB.out | apply below_alloc | apply pw_below_drewN | apply below_drew1) | exact HB.out))) : w.heap.size ≤ gb133)); have n3_ := Aside0.mk ((by rw [hg]; exact (below_size (by repeat (first | (with_reducible first | exact HB.out | apply below_alloc | apply pw_below_drewN | apply below_drew1) | exact HB.out))) : w.heap.size ≤ gb133)); clear HB; have HB := n0_; have BK133 := n1_; have GW133 := n2_; have GE133 := n3_; clear n0_ n1_ n2_ n3_; clear hb hbox hg; have hcz16_0 : w15.cell? ⟨gb133, 0, none⟩ = some (.int .i64 a0_0) := (blk_cell BK133.out 0).trans rfl; have hcz16_1 : w15.cell? ⟨gb133, 1, none⟩ = some (.int .i64 a0_1) := (blk_cell BK133.out 1).trans rfl; have hcz16_2 : w15.cell? ⟨gb133, 2, none⟩ = some (.string a0_2) := (blk_cell BK133.out 2).trans rfl; have hcz16_3 : w15.cell? ⟨gb133, 3, none⟩ = some (.string a0_3) := (blk_cell BK133.out 3).trans rfl; have hcz16_4 : w15.cell? ⟨gb133, 4, none⟩ = some (.int .i64 a0_4) := (blk_cell BK133.out 4).trans rfl; have hfz16_0 := blk_frozen BK133.out 0; have hfz16_1 := blk_frozen BK133.out 1; have hfz16_2 := blk_frozen BK133.out 2; have hfz16_3 := blk_frozen BK133.out 3; have hfz16_4 := blk_frozen BK133.out 4))
            go_ret
            exact ⟨by first | rfl | (simp [errW_none, errW_some] <;> rfl) | (simp [*, errW_none, errW_some] <;> rfl), by repeat (first | (with_reducible first | exact HB.out | apply below_alloc | apply pw_below_drewN | apply below_drew1 | refine below_set ?_ GE133.out) | exact HB.out)⟩
          · rw [if_neg c14] at H
            have c14b0 : decide (a0_4 < 1) = false := decide_eq_false c14
            clear c14
            by_cases c17 : a0_4 > 1048576
            · rw [if_pos c17] at H
              have c17b0 : decide (1048576 < a0_4) = true := decide_eq_true c17
              clear c17
              obtain rfl := Option.some.inj H
              go_enter Try.func34, Try.ntmps34
              go_wp2_with (first | ((with_reducible refine gate_dst (N := 1) rfl ?_); (try (refine gate_guard (by rfl) ?_; dsimp only)); refine box_event ?hg (N := 1) ?hd (cs := #[.int .i64 a0_0, .int .i64 a0_1, .string a0_2, .string a0_3, .int .i64 a0_4]) (t := 35) ?hr ?_; (case hd => rfl); (case hg => rfl); (case hr => first | (go_simp; done) | (go_simp; rfl)); intro gb133 hg w18 hbox hb; have n0_ := Aside0.mk (below_step (by repeat (first | (with_reducible first | exact HB.out | apply below_alloc | apply pw_below_drewN | apply below_drew1) | exact HB.out)) hb); have n1_ := Aside0.mk (hbox); have n2_ := Aside0.mk ((by rw [hg]; exact (below_size (by repeat (first | (with_reducible first | exact HB.out | apply below_alloc | apply pw_below_drewN | apply below_drew1) | exact HB.out))) : w.heap.size ≤ gb133)); have n3_ := Aside0.mk ((by rw [hg]; exact (below_size (by repeat (first | (with_reducible first | exact HB.out | apply below_alloc | apply pw_below_drewN | apply below_drew1) | exact HB.out))) : w.heap.size ≤ gb133)); clear HB; have HB := n0_; have BK133 := n1_; have GW133 := n2_; have GE133 := n3_; clear n0_ n1_ n2_ n3_; clear hb hbox hg; have hcz19_0 : w18.cell? ⟨gb133, 0, none⟩ = some (.int .i64 a0_0) := (blk_cell BK133.out 0).trans rfl; have hcz19_1 : w18.cell? ⟨gb133, 1, none⟩ = some (.int .i64 a0_1) := (blk_cell BK133.out 1).trans rfl; have hcz19_2 : w18.cell? ⟨gb133, 2, none⟩ = some (.string a0_2) := (blk_cell BK133.out 2).trans rfl; have hcz19_3 : w18.cell? ⟨gb133, 3, none⟩ = some (.string a0_3) := (blk_cell BK133.out 3).trans rfl; have hcz19_4 : w18.cell? ⟨gb133, 4, none⟩ = some (.int .i64 a0_4) := (blk_cell BK133.out 4).trans rfl; have hfz19_0 := blk_frozen BK133.out 0; have hfz19_1 := blk_frozen BK133.out 1; have hfz19_2 := blk_frozen BK133.out 2; have hfz19_3 := blk_frozen BK133.out 3; have hfz19_4 := blk_frozen BK133.out 4))
              go_ret
              exact ⟨by first | rfl | (simp [errW_none, errW_some] <;> rfl) | (simp [*, errW_none, errW_some] <;> rfl), by repeat (first | (with_reducible first | exact HB.out | apply below_alloc | apply pw_below_drewN | apply below_drew1 | refine below_set ?_ GE133.out) | exact HB.out)⟩
            · rw [if_neg c17] at H
              have c17b0 : decide (1048576 < a0_4) = false := decide_eq_false c17
              clear c17
              by_cases c20 : a0_2.toList = ([] : List UInt8)
              · rw [if_pos c20] at H
                have c20b0 : (a0_2.toList == ([] : List UInt8)) = true := beq_iff_eq.mpr c20
                have c20b1 : (a0_2.toList != ([] : List UInt8)) = false := bne_eq_false_iff_eq.mpr c20
                clear c20
                obtain rfl := Option.some.inj H
                go_enter Try.func34, Try.ntmps34
                go_wp2_with (first | ((with_reducible refine gate_dst (N := 1) rfl ?_); (try (refine gate_guard (by rfl) ?_; dsimp only)); refine box_event ?hg (N := 1) ?hd (cs := #[.int .i64 a0_0, .int .i64 a0_1, .string a0_2, .string a0_3, .int .i64 a0_4]) (t := 35) ?hr ?_; (case hd => rfl); (case hg => rfl); (case hr => first | (go_simp; done) | (go_simp; rfl)); intro gb133 hg w21 hbox hb; have n0_ := Aside0.mk (below_step (by repeat (first | (with_reducible first | exact HB.out | apply below_alloc | apply pw_below_drewN | apply below_drew1) | exact HB.out)) hb); have n1_ := Aside0.mk (hbox); have n2_ := Aside0.mk ((by rw [hg]; exact (below_size (by repeat (first | (with_reducible first | exact HB.out | apply below_alloc | apply pw_below_drewN | apply below_drew1) | exact HB.out))) : w.heap.size ≤ gb133)); have n3_ := Aside0.mk ((by rw [hg]; exact (below_size (by repeat (first | (with_reducible first | exact HB.out | apply below_alloc | apply pw_below_drewN | apply below_drew1) | exact HB.out))) : w.heap.size ≤ gb133)); clear HB; have HB := n0_; have BK133 := n1_; have GW133 := n2_; have GE133 := n3_; clear n0_ n1_ n2_ n3_; clear hb hbox hg; have hcz22_0 : w21.cell? ⟨gb133, 0, none⟩ = some (.int .i64 a0_0) := (blk_cell BK133.out 0).trans rfl; have hcz22_1 : w21.cell? ⟨gb133, 1, none⟩ = some (.int .i64 a0_1) := (blk_cell BK133.out 1).trans rfl; have hcz22_2 : w21.cell? ⟨gb133, 2, none⟩ = some (.string a0_2) := (blk_cell BK133.out 2).trans rfl; have hcz22_3 : w21.cell? ⟨gb133, 3, none⟩ = some (.string a0_3) := (blk_cell BK133.out 3).trans rfl; have hcz22_4 : w21.cell? ⟨gb133, 4, none⟩ = some (.int .i64 a0_4) := (blk_cell BK133.out 4).trans rfl; have hfz22_0 := blk_frozen BK133.out 0; have hfz22_1 := blk_frozen BK133.out 1; have hfz22_2 := blk_frozen BK133.out 2; have hfz22_3 := blk_frozen BK133.out 3; have hfz22_4 := blk_frozen BK133.out 4))
                go_ret
                exact ⟨by first | rfl | (simp [errW_none, errW_some] <;> rfl) | (simp [*, errW_none, errW_some] <;> rfl), by repeat (first | (with_reducible first | exact HB.out | apply below_alloc | apply pw_below_drewN | apply below_drew1 | refine below_set ?_ GE133.out) | exact HB.out)⟩
              · rw [if_neg c20] at H
                have c20b0 : (a0_2.toList == ([] : List UInt8)) = false := beq_eq_false_iff_ne.mpr c20
                have c20b1 : (a0_2.toList != ([] : List UInt8)) = true := bne_iff_ne.mpr c20
                by_cases c23 : ((Op.bytesLess a0_3.toList a0_2.toList) = true)
                · rw [if_pos c23] at H
                  have c23b0 : (Op.bytesLess a0_3.toList a0_2.toList) = true := c23
                  clear c23
                  obtain rfl := Option.some.inj H
                  go_enter Try.func34, Try.ntmps34
                  go_wp2_with (first | ((with_reducible refine gate_dst (N := 1) rfl ?_); (try (refine gate_guard (by rfl) ?_; dsimp only)); refine box_event ?hg (N := 1) ?hd (cs := #[.int .i64 a0_0, .int .i64 a0_1, .string a0_2, .string a0_3, .int .i64 a0_4]) (t := 35) ?hr ?_; (case hd => rfl); (case hg => rfl); (case hr => first | (go_simp; done) | (go_simp; rfl)); intro gb133 hg w24 hbox hb; have n0_ := Aside0.mk (below_step (by repeat (first | (with_reducible first | exact HB.out | apply below_alloc | apply pw_below_drewN | apply below_drew1) | exact HB.out)) hb); have n1_ := Aside0.mk (hbox); have n2_ := Aside0.mk ((by rw [hg]; exact (below_size (by repeat (first | (with_reducible first | exact HB.out | apply below_alloc | apply pw_below_drewN | apply below_drew1) | exact HB.out))) : w.heap.size ≤ gb133)); have n3_ := Aside0.mk ((by rw [hg]; exact (below_size (by repeat (first | (with_reducible first | exact HB.out | apply below_alloc | apply pw_below_drewN | apply below_drew1) | exact HB.out))) : w.heap.size ≤ gb133)); clear HB; have HB := n0_; have BK133 := n1_; have GW133 := n2_; have GE133 := n3_; clear n0_ n1_ n2_ n3_; clear hb hbox hg; have hcz25_0 : w24.cell? ⟨gb133, 0, none⟩ = some (.int .i64 a0_0) := (blk_cell BK133.out 0).trans rfl; have hcz25_1 : w24.cell? ⟨gb133, 1, none⟩ = some (.int .i64 a0_1) := (blk_cell BK133.out 1).trans rfl; have hcz25_2 : w24.cell? ⟨gb133, 2, none⟩ = some (.string a0_2) := (blk_cell BK133.out 2).trans rfl; have hcz25_3 : w24.cell? ⟨gb133, 3, none⟩ = some (.string a0_3) := (blk_cell BK133.out 3).trans rfl; have hcz25_4 : w24.cell? ⟨gb133, 4, none⟩ = some (.int .i64 a0_4) := (blk_cell BK133.out 4).trans rfl; have hfz25_0 := blk_frozen BK133.out 0; have hfz25_1 := blk_frozen BK133.out 1; have hfz25_2 := blk_frozen BK133.out 2; have hfz25_3 := blk_frozen BK133.out 3; have hfz25_4 := blk_frozen BK133.out 4))
                  go_ret
                  exact ⟨by first | rfl | (simp [errW_none, errW_some] <;> rfl) | (simp [*, errW_none, errW_some] <;> rfl), by repeat (first | (with_reducible first | exact HB.out | apply below_alloc | apply pw_below_drewN | apply below_drew1 | refine below_set ?_ GE133.out) | exact HB.out)⟩
                · rw [if_neg c23] at H
                  have c23b0 : (Op.bytesLess a0_3.toList a0_2.toList) = false := by simpa using c23
                  clear c23
                  by_cases c26 : (a0_2.size : Int) ≤ 80
                  · rw [if_pos c26] at H
                    have c26b0 : decide ((a0_2.size : Int) ≤ 80) = true := decide_eq_true c26
                    have c26b1 : decide (a0_2.size ≤ 80) = true := decide_eq_true (by omega)
                    clear c26
                    obtain rfl := Option.some.inj H
                    go_enter Try.func34, Try.ntmps34
                    go_wp2_with (first | ((with_reducible refine gate_dst (N := 1) rfl ?_); (try (refine gate_guard (by rfl) ?_; dsimp only)); refine box_event ?hg (N := 1) ?hd (cs := #[.int .i64 a0_0, .int .i64 a0_1, .string a0_2, .string a0_3, .int .i64 a0_4]) (t := 35) ?hr ?_; (case hd => rfl); (case hg => rfl); (case hr => first | (go_simp; done) | (go_simp; rfl)); intro gb133 hg w27 hbox hb; have n0_ := Aside0.mk (below_step (by repeat (first | (with_reducible first | exact HB.out | apply below_alloc | apply pw_below_drewN | apply below_drew1) | exact HB.out)) hb); have n1_ := Aside0.mk (hbox); have n2_ := Aside0.mk ((by rw [hg]; exact (below_size (by repeat (first | (with_reducible first | exact HB.out | apply below_alloc | apply pw_below_drewN | apply below_drew1) | exact HB.out))) : w.heap.size ≤ gb133)); have n3_ := Aside0.mk ((by rw [hg]; exact (below_size (by repeat (first | (with_reducible first | exact HB.out | apply below_alloc | apply pw_below_drewN | apply below_drew1) | exact HB.out))) : w.heap.size ≤ gb133)); clear HB; have HB := n0_; have BK133 := n1_; have GW133 := n2_; have GE133 := n3_; clear n0_ n1_ n2_ n3_; clear hb hbox hg; have hcz28_0 : w27.cell? ⟨gb133, 0, none⟩ = some (.int .i64 a0_0) := (blk_cell BK133.out 0).trans rfl; have hcz28_1 : w27.cell? ⟨gb133, 1, none⟩ = some (.int .i64 a0_1) := (blk_cell BK133.out 1).trans rfl; have hcz28_2 : w27.cell? ⟨gb133, 2, none⟩ = some (.string a0_2) := (blk_cell BK133.out 2).trans rfl; have hcz28_3 : w27.cell? ⟨gb133, 3, none⟩ = some (.string a0_3) := (blk_cell BK133.out 3).trans rfl; have hcz28_4 : w27.cell? ⟨gb133, 4, none⟩ = some (.int .i64 a0_4) := (blk_cell BK133.out 4).trans rfl; have hfz28_0 := blk_frozen BK133.out 0; have hfz28_1 := blk_frozen BK133.out 1; have hfz28_2 := blk_frozen BK133.out 2; have hfz28_3 := blk_frozen BK133.out 3; have hfz28_4 := blk_frozen BK133.out 4))
                    go_ret
                    exact ⟨by first | rfl | (simp [errW_none, errW_some] <;> rfl) | (simp [*, errW_none, errW_some] <;> rfl), by repeat (first | (with_reducible first | exact HB.out | apply below_alloc | apply pw_below_drewN | apply below_drew1 | refine below_set ?_ GE133.out) | exact HB.out)⟩
                  · rw [if_neg c26] at H
                    have c26b0 : decide ((a0_2.size : Int) ≤ 80) = false := decide_eq_false c26
                    have c26b1 : decide (a0_2.size ≤ 80) = false := decide_eq_false (by omega)
                    clear c26
                    obtain rfl := Option.some.inj H
                    go_enter Try.func34, Try.ntmps34
                    go_wp2_with (first | ((with_reducible refine gate_dst (N := 1) rfl ?_); (try (refine gate_guard (by rfl) ?_; dsimp only)); refine box_event ?hg (N := 1) ?hd (cs := #[.int .i64 a0_0, .int .i64 a0_1, .string a0_2, .string a0_3, .int .i64 a0_4]) (t := 35) ?hr ?_; (case hd => rfl); (case hg => rfl); (case hr => first | (go_simp; done) | (go_simp; rfl)); intro gb133 hg w29 hbox hb; have n0_ := Aside0.mk (below_step (by repeat (first | (with_reducible first | exact HB.out | apply below_alloc | apply pw_below_drewN | apply below_drew1) | exact HB.out)) hb); have n1_ := Aside0.mk (hbox); have n2_ := Aside0.mk ((by rw [hg]; exact (below_size (by repeat (first | (with_reducible first | exact HB.out | apply below_alloc | apply pw_below_drewN | apply below_drew1) | exact HB.out))) : w.heap.size ≤ gb133)); have n3_ := Aside0.mk ((by rw [hg]; exact (below_size (by repeat (first | (with_reducible first | exact HB.out | apply below_alloc | apply pw_below_drewN | apply below_drew1) | exact HB.out))) : w.heap.size ≤ gb133)); clear HB; have HB := n0_; have BK133 := n1_; have GW133 := n2_; have GE133 := n3_; clear n0_ n1_ n2_ n3_; clear hb hbox hg; have hcz30_0 : w29.cell? ⟨gb133, 0, none⟩ = some (.int .i64 a0_0) := (blk_cell BK133.out 0).trans rfl; have hcz30_1 : w29.cell? ⟨gb133, 1, none⟩ = some (.int .i64 a0_1) := (blk_cell BK133.out 1).trans rfl; have hcz30_2 : w29.cell? ⟨gb133, 2, none⟩ = some (.string a0_2) := (blk_cell BK133.out 2).trans rfl; have hcz30_3 : w29.cell? ⟨gb133, 3, none⟩ = some (.string a0_3) := (blk_cell BK133.out 3).trans rfl; have hcz30_4 : w29.cell? ⟨gb133, 4, none⟩ = some (.int .i64 a0_4) := (blk_cell BK133.out 4).trans rfl; have hfz30_0 := blk_frozen BK133.out 0; have hfz30_1 := blk_frozen BK133.out 1; have hfz30_2 := blk_frozen BK133.out 2; have hfz30_3 := blk_frozen BK133.out 3; have hfz30_4 := blk_frozen BK133.out 4))
                    go_ret
                    exact ⟨by first | rfl | (simp [errW_none, errW_some] <;> rfl) | (simp [*, errW_none, errW_some] <;> rfl), by repeat (first | (with_reducible first | exact HB.out | apply below_alloc | apply pw_below_drewN | apply below_drew1 | refine below_set ?_ GE133.out) | exact HB.out)⟩

end Go.Proofs.Ytokimlfagpddlaa.PD

-- printed by gprint.py (own tool) over the kit's print
namespace Go.Proofs.Ytokimlfagpddlaa.PD
open Go.RowKit Go.Proofs.Ytokimlfagpddlaa Go.Proofs.YtokimlfagpddlaaW.PrintWords Go.Proofs.YtokimlfagpddlaaW.PrintLast Go.Proofs.YtokimlfagpddlaaW.PrintMore
attribute [local go_sem] max2_int min2_int max_two min_two max_three min_three max_four min_four   -- for this text's walks alone
set_option linter.unnecessarySimpa false
attribute [local go_sem] min2_str max2_str leq_str gtr_str geq_str
set_option linter.unusedVariables false
set_option linter.unusedSimpArgs false

/-! ### version_Right: function 13 -/
def version_Right.litB (n : Int) : Bool := decide (n < 1 ∨ 9007199254740991 < n)
theorem version_Right.lit_ (n : Int) (w : World) : Calls Try.prog 33 #[.int .i64 n] w fun e w' => e = .returned (.bool (decide (n < 1 ∨ 9007199254740991 < n))) ∧ w' = w := by
  by_cases h1 : n < 1
  · have h : decide (n < 1 ∨ 9007199254740991 < n) = true := by simp [h1]
    rw [h]
    go_enter Try.func33, Try.ntmps33
    go_wp2
    go_ret
    exact ⟨rfl, rfl⟩
  · have h : decide (n < 1 ∨ 9007199254740991 < n) = decide (9007199254740991 < n) := by simp [h1]
    rw [h]
    clear h
    by_cases h2 : 9007199254740991 < n
    all_goals
      go_enter Try.func33, Try.ntmps33
      go_wp2
      go_ret
      exact ⟨by simp [h2], rfl⟩
theorem version_Right.lit2_ (n : Int) (w : World) : Calls Try.prog 33 #[.int .i64 n] w fun e w' => e = .returned (.bool (version_Right.litB n)) ∧ w' = w := version_Right.lit_ n w
theorem version_Right.index_ (A0 : Option Addr) (c0 : Nat) (l0 : List Int) (w : World) (hr0 : Kd.C (Kd.int .i64) w A0 l0.length l0) :
    Calls Try.prog 67 #[.slice A0 l0.length c0, .func (.func 33) #[] #[]] w fun e w' => (∃ n : Int, e = .returned (.int .i64 n) ∧ (0 ≤ n ↔ ∃ x ∈ l0, version_Right.litB x = true)) ∧ w' = w := by
  have hm := hr0.2.1
  have HR := Aside0.mk hr0
  clear hr0
  go_enter Try.func67, Try.ntmps67
  go_wp2
  go_loop [8] (fun i => ∃ k : Nat, k ≤ l0.length ∧ i = .int .i64 k ∧ Aside0 (∀ j, j < k → version_Right.litB (l0.getD j 0) = false)) (fun i => l0.length - (intOf i).toNat)
  case atStart => exact ⟨0, Nat.zero_le _, rfl, ⟨fun j h => absurd h (by omega)⟩⟩
  case round =>
    obtain ⟨k, hk, rfl, HN⟩ := hrel
    by_cases hlt : k < l0.length
    · obtain ⟨ad, rfl, hcell⟩ := Kd.at_int HR.out (k : Int) (by omega) (by omega)
      obtain ⟨n, hn⟩ : ∃ n : Int, n = rd l0 (k : Int) := ⟨_, rfl⟩
      rw [← hn] at hcell
      have hg : n = l0.getD k 0 := by rw [hn, rd, Int.toNat_natCast]
      have HG := Aside0.mk hg
      rw [Int.toNat_natCast] at hcell
      clear hn hg
      cases hb : version_Right.litB n with
      | true =>
        have HB := Aside0.mk hb
        clear hb
        have hc := version_Right.lit2_ n w
        rw [HB.out] at hc
        have HC := Lib.hid hc
        clear hc
        go_wp2_with (go_at_call 33; refine HC.out.mono ?_; rintro e w' ⟨rfl, rfl⟩)
        go_ret
        exact ⟨⟨k, rfl, by simp; exact ⟨n, by rw [HG.out]; simp [List.getD, hlt], HB.out⟩⟩, rfl⟩
      | false =>
        have HB := Aside0.mk hb
        clear hb
        have hc := version_Right.lit2_ n w
        rw [HB.out] at hc
        have HC := Lib.hid hc
        clear hc
        go_wp2_with (go_at_call 33; refine HC.out.mono ?_; rintro e w' ⟨rfl, rfl⟩)
        refine ⟨⟨k + 1, by omega, by go_num, ⟨fun j hj => ?_⟩⟩, by simp [intOf]; omega⟩
        by_cases e : j = k
        · subst e; rw [← HG.out]; exact HB.out
        · exact HN.out j (by omega)
    · obtain rfl : k = l0.length := by omega
      go_wp2
      go_ret
      refine ⟨⟨-1, rfl, by simp; intro x hx; obtain ⟨j, hj, rfl⟩ := List.mem_iff_getElem.1 hx; have := HN.out j hj; simpa [List.getD, hj] using this⟩, rfl⟩
theorem version_Right.contains_ (A0 : Option Addr) (c0 : Nat) (l0 : List Int) (w : World) (hr0 : Kd.C (Kd.int .i64) w A0 l0.length l0) :
    Calls Try.prog 32 #[.slice A0 l0.length c0, .func (.func 33) #[] #[]] w fun e w' => e = .returned (.bool (l0.any version_Right.litB)) ∧ w' = w := by
  have HC := Lib.hid (version_Right.index_ A0 c0 l0 w hr0)
  have hm := hr0.2.1
  clear hr0
  go_enter Try.func32, Try.ntmps32
  go_wp2_with (go_at_call 67; refine HC.out.mono ?_; rintro e w' ⟨⟨n, rfl, hn⟩, rfl⟩; have HN := Aside0.mk hn; clear hn)
  go_ret
  refine ⟨?_, rfl⟩
  have e : l0.any version_Right.litB = decide (0 ≤ n) := by rw [Bool.eq_iff_iff, List.any_eq_true, decide_eq_true_iff]; exact HN.out.symm
  rw [e]
  rfl
/-- Right, by the plain facts. -/
def version_Right.meta_ (m : S35) : Bool := (version_meta.f m.f0 m.f1 m.f2 m.f3 m.f4).getD false
def version_Right.cmp_ (a b : S35) : Int := (version_compare.f 5 a.f0 a.f1 a.f2 a.f3 a.f4 b.f0 b.f1 b.f2 b.f3 b.f4).getD 0
theorem version_Right.meta_some (m : S35) : version_meta.f m.f0 m.f1 m.f2 m.f3 m.f4 = some (version_Right.meta_ m) := by
  unfold version_Right.meta_ version_meta.f
  repeat' split
  all_goals rfl
theorem version_Right.isnan_int (a : Int) : cmp_isNaN_int.f a = some false := by simp [cmp_isNaN_int.f]
theorem version_Right.isnan_str (a : ByteArray) : cmp_isNaN_string.f a = some false := by simp [cmp_isNaN_string.f]
theorem version_Right.cmp_int (a b : Int) : cmp_Compare_int.f a b = some (if a < b then -1 else if a > b then 1 else 0) := by
  simp only [cmp_Compare_int.f, version_Right.isnan_int, Option.bind_some]
  simp
  repeat' split
  all_goals rfl
theorem version_Right.cmp_str (a b : ByteArray) : cmp_Compare_string.f a b = some (if Op.bytesLess a.toList b.toList = true then -1 else if Op.bytesLess b.toList a.toList = true then 1 else 0) := by
  simp only [cmp_Compare_string.f, version_Right.isnan_str, Option.bind_some]
  simp
  repeat' split
  all_goals rfl
theorem version_Right.or2 (k : Nat) (a b : Int) : cmp_Or_int.f (k + 3) [a, b] = some (if a = 0 then b else a) := by
  have w0 : wrap64 (0 + 1) = 1 := by unfold wrap64; omega
  have w1 : wrap64 (1 + 1) = 2 := by unfold wrap64; omega
  simp only [cmp_Or_int.f, cmp_Or_int.l0, List.length_cons, List.length_nil, w0, w1]
  by_cases h : a = 0
  · by_cases h2 : b = 0 <;> simp [h, h2, rd]
  · simp [h, rd]
/-- The order of two tables. -/
def version_Right.ord (a b : S35) : Int :=
  let c := if a.f1 < b.f1 then -1 else if a.f1 > b.f1 then 1 else 0
  let c := if a.f1 > 0 then (if c = 0 then (if Op.bytesLess a.f2.toList b.f2.toList = true then -1 else if Op.bytesLess b.f2.toList a.f2.toList = true then 1 else 0) else c) else c
  if c = 0 then (if a.f0 < b.f0 then -1 else if a.f0 > b.f0 then 1 else 0) else c
theorem version_Right.compare_some (k : Nat) (a b : S35) : version_compare.f (k + 3) a.f0 a.f1 a.f2 a.f3 a.f4 b.f0 b.f1 b.f2 b.f3 b.f4 = some (version_Right.ord a b) := by
  unfold version_compare.f version_Right.ord
  simp only [version_Right.cmp_int, version_Right.cmp_str, version_Right.or2, Option.bind_some]
  by_cases h : a.f1 > 0 <;> simp [h]
theorem version_Right.ids_loop (L : List S35) (G : List Int) (a : Int) (hL : L.length + G.length < 17592186044416) (d : Nat) : ∀ (k i : Nat) (acc : List Int), d = L.length - i → i ≤ L.length → acc.length = i → d < k →
    version_ids.l0 k acc L (L.length : Int) i L G a = some (acc ++ (L.drop i).map (·.f0) ++ G) := by
  induction d with
  | zero =>
    intro k i acc hd hi ha hk
    obtain ⟨k, rfl⟩ : ∃ m, k = m + 1 := ⟨k - 1, by omega⟩
    obtain rfl : i = L.length := by omega
    simp only [version_ids.l0]
    rw [if_neg (by omega), if_pos (by omega)]
    simp
  | succ d ih =>
    intro k i acc hd hi ha hk
    obtain ⟨k, rfl⟩ : ∃ m, k = m + 1 := ⟨k - 1, by omega⟩
    have hlt : i < L.length := by omega
    simp only [version_ids.l0]
    rw [if_pos (by omega), if_pos (by omega), if_pos (by omega), if_pos (by omega)]
    have hw : wrap64 ((i : Int) + 1) = ((i + 1 : Nat) : Int) := by unfold wrap64; omega
    rw [hw, ih k (i + 1) _ (by omega) (by omega) (by simp [ha]) (by omega)]
    have e : acc ++ [(rd_T35 L (i : Int)).f0] ++ (L.drop (i + 1)).map (·.f0) ++ G = acc ++ (L.drop i).map (·.f0) ++ G := by
      rw [List.drop_eq_getElem_cons hlt, List.map_cons]
      simp only [rd_T35, Int.toNat_natCast, List.getD, List.getElem?_eq_getElem hlt, Option.getD_some, List.append_assoc, List.cons_append, List.nil_append]
    rw [e]
theorem version_Right.ids_some (L : List S35) (G : List Int) (a : Int) (hL : L.length + G.length < 17592186044416) : version_ids.f (L.length + 1) L G a = some (L.map (·.f0) ++ G) := by
  unfold version_ids.f
  have := version_Right.ids_loop L G a hL L.length (L.length + 1) 0 [] (by omega) (by omega) rfl (by omega)
  simpa using this
def version_Right.step_ (a b : S35) : Bool := decide (version_Right.ord a b < 0) && !(decide (a.f1 = b.f1) && decide (0 < b.f1) && !(Op.bytesLess a.f3.toList b.f2.toList))
def version_Right.good_ (l : List S35) (i : Nat) : Bool := version_Right.meta_ (l.getD i z35) && (i == 0 || version_Right.step_ (l.getD (i - 1) z35) (l.getD i z35))
def version_Right.tell (l0_0 : List S35) (l0_1 : List Int) (a0_2 : Int) : Bool :=
  decide (l0_0.length ≤ 200) && (decide (l0_1.length ≤ 20) && (decide (0 ≤ a0_2) && (decide (a0_2 ≤ 9007199254740991) && (decide (l0_0.map (·.f0) ++ l0_1).Nodup && (!(l0_1.any version_Right.litB) && (List.range l0_0.length).all (version_Right.good_ l0_0))))))
def version_Right.f (l0_0 : List S35) (l0_1 : List Int) (a0_2 : Int) : Option Bool := if (∀ m ∈ l0_0, -9223372036854775808 ≤ m.f0 ∧ m.f0 ≤ 9223372036854775807) ∧ (∀ n ∈ l0_1, -9223372036854775808 ≤ n ∧ n ≤ 9223372036854775807) then some (version_Right.tell l0_0 l0_1 a0_2) else none
set_option maxHeartbeats 4000000 in
set_option maxRecDepth 100000 in
theorem version_Right.calls (A0_0 : Option Addr) (c0_0 : Nat) (l0_0 : List (S35)) (A0_1 : Option Addr) (c0_1 : Nat) (l0_1 : List Int) (a0_2 : Int) (r : Bool) (w : World) (hr0_0 : Kd.C k35 w A0_0 l0_0.length l0_0) (hc0_0 : l0_0.length ≤ c0_0) (hr0_1 : Kd.C (Kd.int .i64) w A0_1 l0_1.length l0_1) (hc0_1 : l0_1.length ≤ c0_1) (h : version_Right.f l0_0 l0_1 a0_2 = some r) :
    Calls Try.prog 13 #[.agg #[.slice A0_0 l0_0.length c0_0, .slice A0_1 l0_1.length c0_1, .int .i64 a0_2]] w fun e w' => e = .returned (.bool r) ∧ Below w.heap.size w w' := by
  obtain ⟨⟨hw0, hw1⟩, hR⟩ : ((∀ m ∈ l0_0, -9223372036854775808 ≤ m.f0 ∧ m.f0 ≤ 9223372036854775807) ∧ (∀ n ∈ l0_1, -9223372036854775808 ≤ n ∧ n ≤ 9223372036854775807)) ∧ version_Right.tell l0_0 l0_1 a0_2 = r := by
    unfold version_Right.f at h
    split at h
    · rename_i hl; exact ⟨hl, Option.some.inj h⟩
    · cases h
  clear h
  have HR0 := Aside0.mk hr0_0
  have HR1 := Aside0.mk hr0_1
  have HW0 := Aside0.mk hw0
  have HW1 := Aside0.mk hw1
  have HC0 := Aside0.mk hc0_0
  have HC1 := Aside0.mk hc0_1
  have HRR := Aside0.mk hR
  have hm0 := hr0_0.2.1
  have hm1 := hr0_1.2.1
  clear hr0_0 hr0_1 hw0 hw1 hc0_0 hc0_1 hR
  by_cases c1 : l0_0.length ≤ 200
  · by_cases c2 : l0_1.length ≤ 20
    · by_cases c3 : 0 ≤ a0_2
      · by_cases c4 : a0_2 ≤ 9007199254740991
        · go_enter Try.func13, Try.ntmps13
          go_wp2_with ((with_reducible refine gate_dst (N := 1) rfl ?_); refine box_event ?hg (N := 1) ?hd (cs := #[.slice A0_0 l0_0.length c0_0, .slice A0_1 l0_1.length c0_1, .int .i64 a0_2]) (t := 25) ?hr ?_; (case hd => rfl); (case hg => rfl); (case hr => first | (go_simp; done) | (go_simp; rfl)); intro gb hg w1 hbox hb; have HB := Aside0.mk hb; have HK := Aside0.mk hbox; have HG := Aside0.mk (Nat.le_of_eq hg.symm); clear hb hbox hg; have e0 : w1.cell? ⟨gb, 0, none⟩ = some (.slice A0_0 l0_0.length c0_0) := (blk_cell HK.out 0).trans rfl; have e1 : w1.cell? ⟨gb, 1, none⟩ = some (.slice A0_1 l0_1.length c0_1) := (blk_cell HK.out 1).trans rfl; have e2 : w1.cell? ⟨gb, 2, none⟩ = some (.int .i64 a0_2) := (blk_cell HK.out 2).trans rfl)
          refine (version_ids.calls (l0_0.length + 1) A0_0 c0_0 l0_0 A0_1 c0_1 l0_1 a0_2 _ w1 (Kd.C_below HR0.out HB.out) HC0.out (Kd.C_below HR1.out HB.out) HC1.out (version_Right.ids_some l0_0 l0_1 a0_2 (by omega))).mono ?_
          rintro e w2 ⟨v, rfl, hv, hb2⟩
          obtain ⟨Ai, ci, rfl, hci, hri⟩ := Kd.R_reads hv
          have HB2 := Aside0.mk (below_step HB.out hb2)
          have HK2 := Aside0.mk (blk_below HK.out hb2)
          have HRI := Aside0.mk hri
          have HCI := Aside0.mk hci
          clear hv hb2 HB HK e0 e1 e2 hri hci
          have htw : version_twice.f (l0_0.map (·.f0) ++ l0_1) = some (decide (¬ (l0_0.map (·.f0) ++ l0_1).Nodup)) := by
            unfold version_twice.f
            rw [if_pos]
            refine ⟨by simp; omega, fun x hx => ?_⟩
            rcases List.mem_append.1 hx with hx | hx
            · obtain ⟨m, hm, rfl⟩ := List.mem_map.1 hx; exact HW0.out m hm
            · exact HW1.out x hx
          have HTW := Aside0.mk htw
          clear htw
          generalize hids : l0_0.map (·.f0) ++ l0_1 = ids at HRI HCI HTW ⊢
          have HIDS := Aside0.mk hids
          clear hids
          go_wp2_with fail
          refine (version_twice.calls Ai ci ids _ w2 HRI.out HCI.out HTW.out).mono ?_
          rintro e w3 ⟨rfl, hb3⟩
          have HB3 := Aside0.mk (below_step HB2.out hb3)
          have HK3 := Aside0.mk (blk_below HK2.out hb3)
          clear hb3 HB2 HK2 HRI HCI HTW
          by_cases c5 : ids.Nodup
          · have HC5 := Aside0.mk c5
            rw [show decide (¬ ids.Nodup) = false by simp [c5]]
            clear c5
            have e0 : w3.cell? ⟨gb, 0, none⟩ = some (.slice A0_0 l0_0.length c0_0) := (blk_cell HK3.out 0).trans rfl
            have e1 : w3.cell? ⟨gb, 1, none⟩ = some (.slice A0_1 l0_1.length c0_1) := (blk_cell HK3.out 1).trans rfl
            go_wp2_with fail
            refine (version_Right.contains_ A0_1 c0_1 l0_1 _ (Kd.C_below HR1.out HB3.out)).mono ?_
            rintro e w3 ⟨rfl, rfl⟩
            cases c6 : l0_1.any version_Right.litB with
            | true =>
              have hR := HRR.out
              simp only [version_Right.tell, c1, c2, c3, c4, c6, HIDS.out, HC5.out, decide_true, Bool.true_and, Bool.false_and, Bool.not_true] at hR
              have HRF := Aside0.mk hR
              clear hR c6
              go_wp2_with fail
              go_ret
              exact ⟨by rw [← HRF.out]; rfl, HB3.out⟩
            | false =>
              have hR := HRR.out
              simp only [version_Right.tell, c1, c2, c3, c4, c6, HIDS.out, HC5.out, decide_true, Bool.true_and, Bool.not_false] at hR
              have HRT := Aside0.mk hR
              clear hR c6 HC5 HIDS HRR
              go_wp2_with fail
              clear e0 e1
              generalize w3 = ws at HB3 HK3 ⊢
              go_loopw [37] (fun i wr => ∃ k : Nat, k ≤ l0_0.length ∧ i = .int .i64 k ∧ Aside0 (∀ j, j < k → version_Right.good_ l0_0 j = true) ∧ Aside0 (wr.heap[gb]? = some (.cells #[.slice A0_0 l0_0.length c0_0, .slice A0_1 l0_1.length c0_1, .int .i64 a0_2] 25 (0, 0))) ∧ Aside0 (Below w.heap.size w wr)) (fun i _ => l0_0.length - (intOf i).toNat)
              case atStart => exact ⟨0, Nat.zero_le _, rfl, ⟨fun j h => absurd h (by omega)⟩, HK3, HB3⟩
              case round =>
                clear HB3 HK3
                obtain ⟨k, hk, rfl, HN, HK, HB⟩ := hrel
                by_cases hlt : k < l0_0.length
                · obtain ⟨ad, rfl, x0, x1, x2, x3, x4⟩ := at_T35 (Kd.C_below HR0.out HB.out) (k : Int) (by omega) (by omega)
                  obtain ⟨m, hm⟩ : ∃ m : S35, m = rd_T35 l0_0 (k : Int) := ⟨_, rfl⟩
                  rw [← hm, Int.toNat_natCast] at x0 x1 x2 x3 x4
                  have hmg : m = l0_0.getD k z35 := by rw [hm, rd_T35, Int.toNat_natCast]
                  have HM := Aside0.mk hmg
                  clear hm hmg
                  have HGB := Aside0.mk (blk_lt HK.out)
                  go_wp2_with (first | ((with_reducible refine gate_dst (N := 4) rfl ?_); refine box_event ?hg (N := 4) ?hd (cs := #[.int .i64 0, .int .i64 0, .string (⟨#[]⟩ : ByteArray), .string (⟨#[]⟩ : ByteArray), .int .i64 0]) (t := 35) ?hr ?_; (case hd => rfl); (case hg => rfl); (case hr => first | (go_simp; done) | (go_simp; rfl)); intro g4 hg w4 hbox hb; have HB4 := Aside0.mk (below_step HB.out hb); have Hg4 := Aside0.mk hbox; have HGg4 := Aside0.mk (Nat.le_of_eq hg.symm); have HK4 := Aside0.mk (blk_below HK.out hb); have HN4 := Aside0.mk (by rw [hg]; have := HGB.out; omega : gb < g4); have HS4 := Aside0.mk (by rw [hg]; exact HB.out.size : w.heap.size ≤ g4); clear hb hbox hg) | ((with_reducible refine gate_store (t := 35) (p := 4) (v := .tmp 41) rfl ?_); refine agg_event rfl 35 (.tmp 4) (.tmp 41) rfl g4 rfl #[.int .i64 m.f0, .int .i64 m.f1, .string m.f2, .string m.f3, .int .i64 m.f4] #[.int .i64 0, .int .i64 0, .string (⟨#[]⟩ : ByteArray), .string (⟨#[]⟩ : ByteArray), .int .i64 0] rfl Hg4.out (by kernel_rfl) rfl (by simp [Value.oneCell']) ?_; intro w5 hst hgr hszz; clear hszz; have HM4 := Aside0.mk hst; have HB5 := Aside0.mk (pw_below_grown HB4.out (some g4) HB4.out.size hgr (fun k_ e_ => by injection e_ with e_; have := HS4.out; omega)); have HK5 := Aside0.mk (blk_grown HK4.out hgr (by intro e_; injection e_ with e_; have := HN4.out; omega)); clear hst hgr x0 x1 x2 x3 x4; have c4_0 : w5.cell? ⟨g4, 0, none⟩ = some (.int .i64 m.f0) := (blk_cell HM4.out 0).trans rfl; have c4_1 : w5.cell? ⟨g4, 1, none⟩ = some (.int .i64 m.f1) := (blk_cell HM4.out 1).trans rfl; have c4_2 : w5.cell? ⟨g4, 2, none⟩ = some (.string m.f2) := (blk_cell HM4.out 2).trans rfl; have c4_3 : w5.cell? ⟨g4, 3, none⟩ = some (.string m.f3) := (blk_cell HM4.out 3).trans rfl; have c4_4 : w5.cell? ⟨g4, 4, none⟩ = some (.int .i64 m.f4) := (blk_cell HM4.out 4).trans rfl))
                  clear HB HK HB4 HK4 Hg4 HGg4
                  go_wp2_with fail
                  refine (version_meta.calls m.f0 m.f1 m.f2 m.f3 m.f4 (version_Right.meta_ m) w5 (version_Right.meta_some m)).mono ?_
                  rintro e w6 ⟨rfl, hb6⟩
                  have HB6 := Aside0.mk (below_step HB5.out hb6)
                  have HK6 := Aside0.mk (blk_below HK5.out hb6)
                  have HM6 := Aside0.mk (blk_below HM4.out hb6)
                  clear hb6 HB5 HK5 HM4 c4_0 c4_1 c4_2 c4_3 c4_4
                  cases hme : version_Right.meta_ m with
                  | false =>
                    have hR : r = false := by
                      rw [← HRT.out, List.all_eq_false]
                      exact ⟨k, List.mem_range.2 hlt, by rw [version_Right.good_, ← HM.out, hme]; simp⟩
                    have HRF := Aside0.mk hR
                    clear hR hme
                    go_wp2_with fail
                    go_ret
                    exact ⟨by rw [HRF.out]; rfl, HB6.out⟩
                  | true =>
                    have HME := Aside0.mk hme
                    clear hme
                    by_cases hk0 : k = 0
                    · subst hk0
                      have hn1 : ∀ j, j < 1 → version_Right.good_ l0_0 j = true := by
                        intro j hj
                        obtain rfl : j = 0 := by omega
                        rw [version_Right.good_, ← HM.out, HME.out]; rfl
                      have HN1 := Aside0.mk hn1
                      clear hn1 HN HME HM
                      go_wp2_with fail
                      refine ⟨⟨1, by omega, rfl, HN1, HK6, HB6⟩, by simp [intOf]; omega⟩
                    · have hkp : 1 ≤ (k : Int) := by omega
                      have hk0b : ((k : Int) == 0) = false := beq_eq_false_iff_ne.2 (by omega)
                      have e0 : w6.cell? ⟨gb, 0, none⟩ = some (.slice (some ad) l0_0.length c0_0) := (blk_cell HK6.out 0).trans rfl
                      obtain ⟨ad', ead, x0, x1, x2, x3, x4⟩ := at_T35 (Kd.C_below HR0.out HB6.out) ((k : Int) - 1) (by omega) (by omega)
                      injection ead with ead
                      subst ead
                      obtain ⟨p, hp⟩ : ∃ p : S35, p = rd_T35 l0_0 ((k : Int) - 1) := ⟨_, rfl⟩
                      rw [← hp, show ((k : Int) - 1).toNat = k - 1 by omega] at x0 x1 x2 x3 x4
                      have hpg : p = l0_0.getD (k - 1) z35 := by rw [hp, rd_T35, show ((k : Int) - 1).toNat = k - 1 by omega]
                      have HP := Aside0.mk hpg
                      clear hp hpg
                      have HGB6 := Aside0.mk (blk_lt HK6.out)
                      have HGM6 := Aside0.mk (blk_lt HM6.out)
                      go_wp2_with (first | ((with_reducible refine gate_dst (N := 5) rfl ?_); refine box_event ?hg (N := 5) ?hd (cs := #[.int .i64 0, .int .i64 0, .string (⟨#[]⟩ : ByteArray), .string (⟨#[]⟩ : ByteArray), .int .i64 0]) (t := 35) ?hr ?_; (case hd => rfl); (case hg => rfl); (case hr => first | (go_simp; done) | (go_simp; rfl)); intro g5 hg w7 hbox hb; have HB7 := Aside0.mk (below_step HB6.out hb); have Hg5 := Aside0.mk hbox; have HGg5 := Aside0.mk (Nat.le_of_eq hg.symm); have HK7 := Aside0.mk (blk_below HK6.out hb); have HM7 := Aside0.mk (blk_below HM6.out hb); have HN7 := Aside0.mk (by rw [hg]; have := HGB6.out; omega : gb < g5); have HN7m := Aside0.mk (by rw [hg]; have := HGM6.out; omega : g4 < g5); have HS7 := Aside0.mk (by rw [hg]; exact HB6.out.size : w.heap.size ≤ g5); clear hb hbox hg) | ((with_reducible refine gate_store (t := 35) (p := 5) (v := .tmp 52) rfl ?_); refine agg_event rfl 35 (.tmp 5) (.tmp 52) rfl g5 rfl #[.int .i64 p.f0, .int .i64 p.f1, .string p.f2, .string p.f3, .int .i64 p.f4] #[.int .i64 0, .int .i64 0, .string (⟨#[]⟩ : ByteArray), .string (⟨#[]⟩ : ByteArray), .int .i64 0] rfl Hg5.out (by kernel_rfl) rfl (by simp [Value.oneCell']) ?_; intro w8 hst hgr hszz; clear hszz; have HP8 := Aside0.mk hst; have HB8 := Aside0.mk (pw_below_grown HB7.out (some g5) HB7.out.size hgr (fun k_ e_ => by injection e_ with e_; have := HS7.out; omega)); have HK8 := Aside0.mk (blk_grown HK7.out hgr (by intro e_; injection e_ with e_; have := HN7.out; omega)); have HM8 := Aside0.mk (blk_grown HM7.out hgr (by intro e_; injection e_ with e_; have := HN7m.out; omega)); clear hst hgr x0 x1 x2 x3 x4 e0; have c4_0 : w8.cell? ⟨g4, 0, none⟩ = some (.int .i64 m.f0) := (blk_cell HM8.out 0).trans rfl; have c4_1 : w8.cell? ⟨g4, 1, none⟩ = some (.int .i64 m.f1) := (blk_cell HM8.out 1).trans rfl; have c4_2 : w8.cell? ⟨g4, 2, none⟩ = some (.string m.f2) := (blk_cell HM8.out 2).trans rfl; have c4_3 : w8.cell? ⟨g4, 3, none⟩ = some (.string m.f3) := (blk_cell HM8.out 3).trans rfl; have c4_4 : w8.cell? ⟨g4, 4, none⟩ = some (.int .i64 m.f4) := (blk_cell HM8.out 4).trans rfl; have c5_0 : w8.cell? ⟨g5, 0, none⟩ = some (.int .i64 p.f0) := (blk_cell HP8.out 0).trans rfl; have c5_1 : w8.cell? ⟨g5, 1, none⟩ = some (.int .i64 p.f1) := (blk_cell HP8.out 1).trans rfl; have c5_2 : w8.cell? ⟨g5, 2, none⟩ = some (.string p.f2) := (blk_cell HP8.out 2).trans rfl; have c5_3 : w8.cell? ⟨g5, 3, none⟩ = some (.string p.f3) := (blk_cell HP8.out 3).trans rfl; have c5_4 : w8.cell? ⟨g5, 4, none⟩ = some (.int .i64 p.f4) := (blk_cell HP8.out 4).trans rfl))
                      clear HB6 HK6 HM6 HB7 HK7 HM7 Hg5 HGg5
                      go_wp2_with fail
                      refine (version_compare.calls 5 p.f0 p.f1 p.f2 p.f3 p.f4 m.f0 m.f1 m.f2 m.f3 m.f4 _ w8 (version_Right.compare_some 2 p m)).mono ?_
                      rintro e w9 ⟨rfl, hb9⟩
                      have HB9 := Aside0.mk (below_step HB8.out hb9)
                      have HK9 := Aside0.mk (blk_below HK8.out hb9)
                      have HM9 := Aside0.mk (blk_below HM8.out hb9)
                      have HP9 := Aside0.mk (blk_below HP8.out hb9)
                      clear hb9 HB8 HK8 HM8 HP8 c4_0 c4_1 c4_2 c4_3 c4_4 c5_0 c5_1 c5_2 c5_3 c5_4
                      obtain ⟨od, hod⟩ : ∃ od : Int, od = version_Right.ord p m := ⟨_, rfl⟩
                      rw [← hod]
                      have HOD := Aside0.mk hod
                      clear hod
                      have c4_0 : w9.cell? ⟨g4, 0, none⟩ = some (.int .i64 m.f0) := (blk_cell HM9.out 0).trans rfl
                      have c4_1 : w9.cell? ⟨g4, 1, none⟩ = some (.int .i64 m.f1) := (blk_cell HM9.out 1).trans rfl
                      have c4_2 : w9.cell? ⟨g4, 2, none⟩ = some (.string m.f2) := (blk_cell HM9.out 2).trans rfl
                      have c4_3 : w9.cell? ⟨g4, 3, none⟩ = some (.string m.f3) := (blk_cell HM9.out 3).trans rfl
                      have c4_4 : w9.cell? ⟨g4, 4, none⟩ = some (.int .i64 m.f4) := (blk_cell HM9.out 4).trans rfl
                      have c5_0 : w9.cell? ⟨g5, 0, none⟩ = some (.int .i64 p.f0) := (blk_cell HP9.out 0).trans rfl
                      have c5_1 : w9.cell? ⟨g5, 1, none⟩ = some (.int .i64 p.f1) := (blk_cell HP9.out 1).trans rfl
                      have c5_2 : w9.cell? ⟨g5, 2, none⟩ = some (.string p.f2) := (blk_cell HP9.out 2).trans rfl
                      have c5_3 : w9.cell? ⟨g5, 3, none⟩ = some (.string p.f3) := (blk_cell HP9.out 3).trans rfl
                      have c5_4 : w9.cell? ⟨g5, 4, none⟩ = some (.int .i64 p.f4) := (blk_cell HP9.out 4).trans rfl
                      have hgood : version_Right.good_ l0_0 k = version_Right.step_ p m := by rw [version_Right.good_, ← HM.out, ← HP.out, HME.out]; simp [hk0]
                      have HGD := Aside0.mk hgood
                      clear hgood
                      have bad : version_Right.step_ p m = false → r = false := fun hs => by
                        rw [← HRT.out, List.all_eq_false]
                        exact ⟨k, List.mem_range.2 hlt, by rw [HGD.out, hs]; simp⟩
                      have next : version_Right.step_ p m = true → ∀ j, j < k + 1 → version_Right.good_ l0_0 j = true := fun hs j hj => by
                        by_cases e : j = k
                        · rw [e, HGD.out, hs]
                        · exact HN.out j (by omega)
                      have BAD := Aside0.mk bad
                      have NEXT := Aside0.mk next
                      clear bad next HGD HN HM HP HME
                      by_cases d1 : od < 0
                      · by_cases d2 : p.f1 = m.f1
                        · have d2b : (p.f1 == m.f1) = true := beq_iff_eq.2 d2
                          by_cases d3 : 0 < m.f1
                          · cases d4 : Op.bytesLess p.f3.toList m.f2.toList with
                            | true =>
                              have hst : version_Right.step_ p m = true := by rw [version_Right.step_, ← HOD.out]; simp [d1, d2, d3, d4]
                              have HNX := Aside0.mk (NEXT.out hst)
                              clear hst
                              clear d2
                              go_wp2_with fail
                              refine ⟨⟨k + 1, by omega, by go_num, HNX, HK9, HB9⟩, by simp [intOf]; omega⟩
                            | false =>
                              have hst : version_Right.step_ p m = false := by rw [version_Right.step_, ← HOD.out]; simp [d1, d2, d3, d4]
                              have HRF := Aside0.mk (BAD.out hst)
                              clear hst
                              clear d2
                              go_wp2_with fail
                              go_ret
                              exact ⟨by rw [HRF.out]; rfl, HB9.out⟩
                          · have d3b : decide (0 < m.f1) = false := decide_eq_false d3
                            have hst : version_Right.step_ p m = true := by rw [version_Right.step_, ← HOD.out]; simp [d1, d2, d3]
                            have HNX := Aside0.mk (NEXT.out hst)
                            clear hst
                            clear d2
                            go_wp2_with fail
                            refine ⟨⟨k + 1, by omega, by go_num, HNX, HK9, HB9⟩, by simp [intOf]; omega⟩
                        · have d2b : (p.f1 == m.f1) = false := beq_eq_false_iff_ne.2 d2
                          have hst : version_Right.step_ p m = true := by rw [version_Right.step_, ← HOD.out]; simp [d1, d2]
                          have HNX := Aside0.mk (NEXT.out hst)
                          clear hst
                          clear d2
                          go_wp2_with fail
                          refine ⟨⟨k + 1, by omega, by go_num, HNX, HK9, HB9⟩, by simp [intOf]; omega⟩
                      · have d1b : decide (0 ≤ od) = true := decide_eq_true (by omega)
                        have hst : version_Right.step_ p m = false := by rw [version_Right.step_, ← HOD.out]; simp [d1]
                        have HRF := Aside0.mk (BAD.out hst)
                        clear hst
                        go_wp2_with fail
                        go_ret
                        exact ⟨by rw [HRF.out]; rfl, HB9.out⟩
                · obtain rfl : k = l0_0.length := by omega
                  have hR : r = true := by rw [← HRT.out, List.all_eq_true]; intro j hj; exact HN.out j (List.mem_range.1 hj)
                  have HRF := Aside0.mk hR
                  clear hR
                  go_wp2_with fail
                  go_ret
                  exact ⟨by rw [HRF.out]; rfl, HB.out⟩
          · have hR := HRR.out
            simp only [version_Right.tell, c1, c2, c3, c4, HIDS.out, c5, decide_true, decide_false, Bool.true_and, Bool.false_and] at hR
            have HRF := Aside0.mk hR
            rw [show decide (¬ ids.Nodup) = true by simp [c5]]
            clear hR c5
            go_wp2_with fail
            go_ret
            exact ⟨by rw [← HRF.out]; rfl, HB3.out⟩
        · have hR := HRR.out
          simp only [version_Right.tell, c1, c2, c3, c4, decide_true, decide_false, Bool.true_and, Bool.false_and] at hR
          have HRF := Aside0.mk hR
          clear hR
          go_enter Try.func13, Try.ntmps13
          go_wp2
          go_ret
          exact ⟨by rw [← HRF.out]; rfl, below_alloc (Below.refl _ _) _⟩
      · have hR := HRR.out
        simp only [version_Right.tell, c1, c2, c3, decide_true, decide_false, Bool.true_and, Bool.false_and] at hR
        have HRF := Aside0.mk hR
        clear hR
        go_enter Try.func13, Try.ntmps13
        go_wp2
        go_ret
        exact ⟨by rw [← HRF.out]; rfl, below_alloc (Below.refl _ _) _⟩
    · have hR := HRR.out
      simp only [version_Right.tell, c1, c2, decide_true, decide_false, Bool.true_and, Bool.false_and] at hR
      have HRF := Aside0.mk hR
      clear hR
      go_enter Try.func13, Try.ntmps13
      go_wp2
      go_ret
      exact ⟨by rw [← HRF.out]; rfl, below_alloc (Below.refl _ _) _⟩
  · have hR := HRR.out
    simp only [version_Right.tell, c1, decide_true, decide_false, Bool.true_and, Bool.false_and] at hR
    have HRF := Aside0.mk hR
    clear hR
    go_enter Try.func13, Try.ntmps13
    go_wp2
    go_ret
    exact ⟨by rw [← HRF.out]; rfl, below_alloc (Below.refl _ _) _⟩


end Go.Proofs.Ytokimlfagpddlaa.PD

-- printed by gprint.py (own tool) over the kit's print
namespace Go.Proofs.Ytokimlfagpddlaa.PD
open Go.RowKit Go.Proofs.Ytokimlfagpddlaa Go.Proofs.YtokimlfagpddlaaW.PrintWords Go.Proofs.YtokimlfagpddlaaW.PrintLast Go.Proofs.YtokimlfagpddlaaW.PrintMore
attribute [local go_sem] max2_int min2_int max_two min_two max_three min_three max_four min_four   -- for this text's walks alone
set_option linter.unnecessarySimpa false
attribute [local go_sem] min2_str max2_str leq_str gtr_str geq_str
set_option linter.unusedVariables false
set_option linter.unusedSimpArgs false

/-! ### api_Meta_35: function 35 -/
def api_Meta_35.f (l0 : List (S35)) : Option (List (S35)) := if l0.length < 2513169434916 then some l0 else none
set_option maxHeartbeats 1000000 in
theorem api_Meta_35.calls (A0 : Option Addr) (c0 : Nat) (l0 : List (S35)) (r : List (S35)) (w : World) (hr0 : Kd.C k35 w A0 l0.length l0) (hc0 : l0.length ≤ c0) (h : api_Meta_35.f l0 = some r) :
    Calls Try.prog 35 #[.slice A0 l0.length c0] w fun e w' => ∃ v0_ : Value, e = .returned (v0_) ∧ Kd.R k35 35 w' w.heap.size (fun _ => True) v0_ r ∧ Below w.heap.size w w' := by
  obtain ⟨hlim, rfl⟩ : l0.length < 2513169434916 ∧ l0 = r := by
    unfold api_Meta_35.f at h
    split at h
    · rename_i hl; exact ⟨hl, Option.some.inj h⟩
    · cases h
  clear h
  have HR := Aside0.mk hr0
  have HL := Aside0.mk hlim
  rcases A0 with _ | ad
  · have h0 : l0 = [] := by
      rcases Nat.eq_zero_or_pos l0.length with h0 | h0
      · exact List.eq_nil_of_length_eq_zero h0
      · obtain ⟨ad, e, _⟩ := hr0.2.2 h0; cases e
    subst h0
    clear HR HL hr0 hlim hc0
    have he := fun W => run_eql_slice_nil (P := Try.prog) W 22 35 none 0 c0 Try.underlying22
    go_enter Try.func35, Try.ntmps35
    go_wp2
    go_ret
    exact ⟨_, rfl, Kd.R_nil _ _ _ _ _, Below.refl _ _⟩
  · clear hr0 hlim
    have he := fun W => run_eql_slice_nil (P := Try.prog) W 22 35 (some ad) l0.length c0 Try.underlying22
    go_enter Try.func35, Try.ntmps35
    go_wp2_with ((with_reducible refine gate_builtin (b := .append) (xs := #[.tmp 5, .tmp 6]) rfl ?_); refine Kd.R_append_rows k35 (w0 := w) w.heap.size rfl (.tmp 5) (.tmp 6) 22 35 (.agg #[(.int .i64 0), (.int .i64 0), (.string ⟨#[]⟩), (.string ⟨#[]⟩), (.int .i64 0)]) 56 rfl Try.underlying22 info35 rfl (by decide) (by omega) _ [] l0 _ _ _ (fun _ => True) (fun _ => False) rfl rfl ?aO ?aR (fun _ _ h => h) (fun _ h => h.elim) ?aF ?aB ?aS ?aL ?_; (case aO => exact ⟨fun _ _ => trivial, [], World.ownsRow_made w #[] 0 (Nat.le_refl _) (by decide) rfl, Reps.none _ _⟩); (case aR => exact Kd.C_alloc HR.out _); (case aF => exact fun _ _ => trivial); (case aB => exact below_alloc (Below.refl _ _) _); (case aS => simp); (case aL => have := HL.out; simp; omega); intro v1 w1 ho hb hg hat; have HO := Aside0.mk ho; have HB := Aside0.mk hb; clear ho hb hg hat)
    go_ret
    exact ⟨_, rfl, HO.out, HB.out⟩


end Go.Proofs.Ytokimlfagpddlaa.PD

-- printed by gprint.py (own tool) over the kit's print
namespace Go.Proofs.Ytokimlfagpddlaa.PD
open Go.RowKit Go.Proofs.Ytokimlfagpddlaa Go.Proofs.YtokimlfagpddlaaW.PrintWords Go.Proofs.YtokimlfagpddlaaW.PrintLast Go.Proofs.YtokimlfagpddlaaW.PrintMore
attribute [local go_sem] max2_int min2_int max_two min_two max_three min_three max_four min_four   -- for this text's walks alone
set_option linter.unnecessarySimpa false
attribute [local go_sem] min2_str max2_str leq_str gtr_str geq_str
set_option linter.unusedVariables false
set_option linter.unusedSimpArgs false

/-! ### api_Meta_22: function 22 -/
theorem api_Meta_22.empty_ (A : Option Addr) (w : World) : Kd.C k35 w A 0 [] := ⟨rfl, by decide, fun h => absurd h (by omega)⟩
theorem api_Meta_22.index_ (A : Option Addr) (c : Nat) (fv : Value) (w : World) : Calls Try.prog 71 #[.slice A 0 c, fv] w fun e w' => e = .returned (.int .i64 (-1)) ∧ w' = w := by
  go_enter Try.func71, Try.ntmps71
  go_wp2_with fail
  go_loopw [8] (fun i wr => i = .int .i64 0 ∧ wr = w) (fun _ _ => 0)
  case atStart => exact ⟨rfl, rfl⟩
  case round =>
    obtain ⟨rfl, rfl⟩ := hrel
    go_wp2_with fail
    go_ret
    exact ⟨rfl, rfl⟩
theorem api_Meta_22.contains_ (A : Option Addr) (c : Nat) (fv : Value) (w : World) : Calls Try.prog 39 #[.slice A 0 c, fv] w fun e w' => e = .returned (.bool false) ∧ w' = w := by
  have HI := Lib.hid (api_Meta_22.index_ A c fv w)
  go_enter Try.func39, Try.ntmps39
  go_wp2_with (go_at_call 71; refine HI.out.mono ?_; rintro e w' ⟨rfl, rfl⟩)
  go_ret
  exact ⟨rfl, rfl⟩
theorem api_Meta_22.delete_ (A : Option Addr) (c : Nat) (fv : Value) (w : World) : Calls Try.prog 58 #[.slice A 0 c, fv] w fun e w' => e = .returned (.slice A 0 c) ∧ w' = w := by
  have HI := Lib.hid (api_Meta_22.index_ A c fv w)
  go_enter Try.func58, Try.ntmps58
  go_wp2_with (go_at_call 71; refine HI.out.mono ?_; rintro e w' ⟨rfl, rfl⟩)
  go_ret
  exact ⟨rfl, rfl⟩
set_option maxHeartbeats 2000000 in
set_option maxRecDepth 100000 in
/-- Of nothing, nothing is left out. -/
theorem api_Meta_22.none_ (A0 A1 : Option Addr) (c0 c1 : Nat) (w : World) : Calls Try.prog 22 #[.slice A0 0 c0, .slice A1 0 c1, .func (.func 23) #[] #[]] w fun e w' => ∃ v, e = .returned (.tuple #[v, .bool true]) ∧ Kd.R k35 35 w' w.heap.size (fun _ => True) v [] ∧ Below w.heap.size w w' := by
  have hmm : ∀ (n : Int) (w : World), (Instr.makeMap 95 (some (.int .i64 n))).run Try.prog w = .ok (.map (some w.heap.size)) (w.alloc (.map #[] 0)) := fun n w => by simp [Instr.makeMap, run_underlying Try.underlying95, asInt, asIntOf, Result.andThen]
  go_enter Try.func22, Try.ntmps22
  go_wp2_with fail
  have HB : Aside0 (Below w.heap.size w (((w.alloc (.cells #[.func (.func 23) #[] #[]] 56)).alloc (.map #[] 0)).alloc (.cells #[.map (some (w.heap.size + 1))] 95))) := ⟨below_alloc (below_alloc (below_alloc (Below.refl _ _) _) _) _⟩
  generalize ((w.alloc (.cells #[.func (.func 23) #[] #[]] 56)).alloc (.map #[] 0)).alloc (.cells #[.map (some (w.heap.size + 1))] 95) = w1 at HB ⊢
  clear hmm
  go_loopw [16] (fun i wr => i = .int .i64 0 ∧ wr = w1) (fun _ _ => 0)
  case atStart => exact ⟨rfl, rfl⟩
  case round =>
    obtain ⟨rfl, rfl⟩ := hrel
    go_wp2_with fail
    refine (api_Meta_35.calls A0 c0 [] [] wr (api_Meta_22.empty_ A0 wr) (Nat.zero_le _) (by rfl)).mono ?_
    rintro e w2 ⟨v, rfl, hv, hb⟩
    have HV := Aside0.mk (Kd.R_lower hv HB.out.size)
    have HB2 := Aside0.mk (below_step HB.out hb)
    clear hv hb
    obtain ⟨A, c, rfl, -, -⟩ := Kd.R_reads HV.out
    go_wp2_with (go_at_call 58; refine (api_Meta_22.delete_ A c _ _).mono ?_; rintro e w' ⟨rfl, rfl⟩)
    go_ret2
    exact ⟨_, rfl, HV.out, HB2.out⟩
set_option maxHeartbeats 2000000 in
set_option maxRecDepth 100000 in
/-- Of nothing, something cannot be left out. -/
theorem api_Meta_22.some_ (A0 A1 : Option Addr) (c0 c1 m : Nat) (G : List Int) (w : World) (hr : Kd.C (Kd.int .i64) w A1 m G) (h0 : 0 < m) (hb0 : -9223372036854775808 ≤ rd G 0 ∧ rd G 0 ≤ 9223372036854775807) : Calls Try.prog 22 #[.slice A0 0 c0, .slice A1 m c1, .func (.func 23) #[] #[]] w fun e w' => e = .returned (.tuple #[.slice none 0 0, .bool false]) ∧ Below w.heap.size w w' := by
  have hmm : ∀ (n : Int) (w : World), (Instr.makeMap 95 (some (.int .i64 n))).run Try.prog w = .ok (.map (some w.heap.size)) (w.alloc (.map #[] 0)) := fun n w => by simp [Instr.makeMap, run_underlying Try.underlying95, asInt, asIntOf, Result.andThen]
  have HR := Aside0.mk hr
  have HC := Lib.hid (api_Meta_22.contains_ A0 c0)
  have hwn : (Lit.int .i64 (rd G 0)).wf = true := version_twice.wf_ hb0
  have HWN := Aside0.mk hwn
  have HM := Aside0.mk hr.2.1
  clear hr hwn hb0
  go_enter Try.func22, Try.ntmps22
  go_wp2_with fail
  obtain ⟨W0, hW0⟩ : ∃ W0, W0 = w.alloc (.cells #[.func (.func 23) #[] #[]] 56) := ⟨_, rfl⟩
  obtain ⟨B, hBB⟩ : ∃ B, B = w.heap.size + 1 := ⟨_, rfl⟩
  have HBB := Aside0.mk hBB
  have hB0 : B = W0.heap.size := by rw [hW0, hBB]; simp
  have HS0 : SetAt (W0.alloc (.map #[] 0)) 3 4 B [] := by rw [hB0]; exact setAt_made _ _ _
  have HBW : Aside0 (Below w.heap.size w ((W0.alloc (.map #[] 0)).alloc (.cells #[.map (some B)] 95))) := ⟨by rw [hW0]; exact below_alloc (below_alloc (below_alloc (Below.refl _ _) _) _) _⟩
  rw [← hW0, ← hBB]
  obtain ⟨w1, hw1⟩ : ∃ w1, w1 = (W0.alloc (.map #[] 0)).alloc (.cells #[.map (some B)] 95) := ⟨_, rfl⟩
  rw [← hw1] at HBW
  have HS1 : Aside0 (SetAt w1 3 4 B []) := ⟨by rw [hw1]; exact World.ownsMap.alloc HS0 _⟩
  have HK : Aside0 (w1.heap[B + 1]? = some (.cells #[.map (some B)] 95 (0, 0))) := ⟨by rw [hw1, show B + 1 = (W0.alloc (.map #[] 0)).heap.size by rw [hB0]; simp]; exact blk_new _ _⟩
  have hz : ∀ w : World, (zeroValue 4).run Try.prog w = .ok (.bool false) w := fun w => by kernel_rfl
  have HZ := Aside0.mk hz
  have hd : decide (rd G 0 ∈ ([] : List Int)) = false := by simp
  have HD := Aside0.mk hd
  have hr2 := Kd.C_below HR.out HBW.out
  obtain ⟨ad, rfl, hcell⟩ := Kd.at_int hr2 0 (by omega) (by omega)
  obtain ⟨g, hg⟩ : ∃ g, g = rd G 0 := ⟨_, rfl⟩
  rw [← hg] at hcell HWN HD
  rw [show (ad.add (Int.toNat 0)) = ad by simp [Addr.add]] at hcell
  rw [← hw1]
  clear hw1 hW0 hBB hB0 HS0 hd hr2 hz hmm hg HR
  have hm1 : (0 : Int) < (m : Int) := by omega
  go_loopw [16] (fun i wr => i = .int .i64 0 ∧ wr = w1) (fun _ _ => 0)
  case atStart => exact ⟨rfl, rfl⟩
  case round =>
    obtain ⟨rfl, rfl⟩ := hrel
    go_upto_region 5 with fail
    obtain ⟨w2, hw2⟩ : ∃ w2, w2 = wr.alloc (.cells #[.int .i64 g] 3) := ⟨_, rfl⟩
    obtain ⟨gk, hgk⟩ : ∃ gk, gk = wr.heap.size := ⟨_, rfl⟩
    have HS2 : Aside0 (SetAt w2 3 4 B []) := ⟨by rw [hw2]; exact World.ownsMap.alloc HS1.out _⟩
    have HBW2 : Aside0 (Below w.heap.size w w2) := ⟨by rw [hw2]; exact below_alloc HBW.out _⟩
    have x0 : w2.cell? ⟨B + 1, 0, none⟩ = some (.map (some B)) := by rw [hw2]; exact (blk_cell (blk_alloc HK.out _) 0).trans rfl
    have hk2 : w2.heap[gk]? = some (.cells #[.int .i64 g] 3 (0, 0)) := by rw [hw2, hgk]; exact blk_new _ _
    have x1 : w2.cell? ⟨gk, 0, none⟩ = some (.int .i64 g) := (blk_cell hk2 0).trans rfl
    rw [← hw2, ← hgk]
    clear hw2 hgk hk2 hcell HS1 HBW HK
    go_wp2_with (first | (refine wpList_lookup_set _ rfl (.tmp 20) (.tmp 21) 95 rfl 3 4 Try.underlying3 Try.underlying95 Try.underlying4 HZ.out B [] rfl HS2.out g rfl HWN.out false HD.out ?_) | (go_at_call 39; refine (HC.out _ _).mono ?_; rintro e w' ⟨rfl, rfl⟩))
    go_ret2
    exact ⟨rfl, HBW2.out⟩
/-- What without answers of an empty list. -/
def api_Meta_22.f (l0 : List S35) (l1 : List Int) : Option (List S35 × Bool) := if l0.length = 0 ∧ (l1.length = 0 ∨ (-9223372036854775808 ≤ rd l1 0 ∧ rd l1 0 ≤ 9223372036854775807)) then some ([], l1.length == 0) else none
theorem api_Meta_22.calls (A0 : Option Addr) (c0 : Nat) (l0 : List S35) (A1 : Option Addr) (c1 : Nat) (l1 : List Int) (r1 : List S35) (r2 : Bool) (w : World) (hr0 : Kd.C k35 w A0 l0.length l0) (hc0 : l0.length ≤ c0) (hr1 : Kd.C (Kd.int .i64) w A1 l1.length l1) (hc1 : l1.length ≤ c1) (h : api_Meta_22.f l0 l1 = some (r1, r2)) :
    Calls Try.prog 22 #[.slice A0 l0.length c0, .slice A1 l1.length c1, .func (.func 23) #[] #[]] w fun e w' => ∃ v0_ : Value, e = .returned (.tuple #[v0_, .bool r2]) ∧ Kd.R k35 35 w' w.heap.size (fun _ => True) v0_ r1 ∧ Below w.heap.size w w' := by
  obtain ⟨⟨h0, h1⟩, hR⟩ : (l0.length = 0 ∧ (l1.length = 0 ∨ (-9223372036854775808 ≤ rd l1 0 ∧ rd l1 0 ≤ 9223372036854775807))) ∧ (([] : List S35), l1.length == 0) = (r1, r2) := by
    unfold api_Meta_22.f at h
    split at h
    · rename_i hl; exact ⟨hl, Option.some.inj h⟩
    · cases h
  obtain ⟨rfl, rfl⟩ := Prod.mk.inj hR
  rw [h0]
  by_cases hz : l1.length = 0
  · rw [hz]
    exact (api_Meta_22.none_ A0 A1 c0 c1 w).mono fun e w' ⟨v, he, hv, hb⟩ => ⟨v, he, hv, hb⟩
  · have e : (l1.length == 0) = false := by simpa using hz
    rw [e]
    refine (api_Meta_22.some_ A0 A1 c0 c1 l1.length l1 w hr1 (by omega) (h1.resolve_left hz)).mono fun e w' ⟨he, hb⟩ => ⟨_, he, Kd.R_nil _ _ _ _ _, hb⟩


end Go.Proofs.Ytokimlfagpddlaa.PD

-- printed by gprint.py (own tool) over the kit's print
namespace Go.Proofs.Ytokimlfagpddlaa.PD
open Go.RowKit Go.Proofs.Ytokimlfagpddlaa Go.Proofs.YtokimlfagpddlaaW.PrintWords Go.Proofs.YtokimlfagpddlaaW.PrintLast Go.Proofs.YtokimlfagpddlaaW.PrintMore
attribute [local go_sem] max2_int min2_int max_two min_two max_three min_three max_four min_four   -- for this text's walks alone
set_option linter.unnecessarySimpa false
attribute [local go_sem] min2_str max2_str leq_str gtr_str geq_str
set_option linter.unusedVariables false
set_option linter.unusedSimpArgs false

/-! ### slices_Clone_int_int: function 36 -/
def slices_Clone_int_int.f (l0 : List (Int)) : Option (List (Int)) := if l0.length < 17592186044416 then some l0 else none
set_option maxHeartbeats 1000000 in
theorem slices_Clone_int_int.calls (A0 : Option Addr) (c0 : Nat) (l0 : List (Int)) (r : List (Int)) (w : World) (hr0 : Kd.C (Kd.int .i64) w A0 l0.length l0) (hc0 : l0.length ≤ c0) (h : slices_Clone_int_int.f l0 = some r) :
    Calls Try.prog 36 #[.slice A0 l0.length c0] w fun e w' => ∃ v0_ : Value, e = .returned (v0_) ∧ Kd.R (Kd.int .i64) 3 w' w.heap.size (fun _ => True) v0_ r ∧ Below w.heap.size w w' := by
  obtain ⟨hlim, rfl⟩ : l0.length < 17592186044416 ∧ l0 = r := by
    unfold slices_Clone_int_int.f at h
    split at h
    · rename_i hl; exact ⟨hl, Option.some.inj h⟩
    · cases h
  clear h
  have HR := Aside0.mk hr0
  have HL := Aside0.mk hlim
  rcases A0 with _ | ad
  · have h0 : l0 = [] := by
      rcases Nat.eq_zero_or_pos l0.length with h0 | h0
      · exact List.eq_nil_of_length_eq_zero h0
      · obtain ⟨ad, e, _⟩ := hr0.2.2 h0; cases e
    subst h0
    clear HR HL hr0 hlim hc0
    have he := fun W => run_eql_slice_nil (P := Try.prog) W 23 3 none 0 c0 Try.underlying23
    go_enter Try.func36, Try.ntmps36
    go_wp2
    go_ret
    exact ⟨_, rfl, Kd.R_nil _ _ _ _ _, Below.refl _ _⟩
  · clear hr0 hlim
    have he := fun W => run_eql_slice_nil (P := Try.prog) W 23 3 (some ad) l0.length c0 Try.underlying23
    go_enter Try.func36, Try.ntmps36
    go_wp2_with ((with_reducible refine gate_builtin (b := .append) (xs := #[.tmp 5, .tmp 6]) rfl ?_); refine Kd.R_append_rows (Kd.int .i64) (w0 := w) w.heap.size rfl (.tmp 5) (.tmp 6) 23 3 (.int .i64 0) 8 rfl Try.underlying23 info3 rfl (by decide) (by omega) _ [] l0 _ _ _ (fun _ => True) (fun _ => False) rfl rfl ?aO ?aR (fun _ _ h => h) (fun _ h => h.elim) ?aF ?aB ?aS ?aL ?_; (case aO => exact ⟨fun _ _ => trivial, [], World.ownsRow_made w #[] 0 (Nat.le_refl _) (by decide) rfl, Reps.none _ _⟩); (case aR => exact Kd.C_alloc HR.out _); (case aF => exact fun _ _ => trivial); (case aB => exact below_alloc (Below.refl _ _) _); (case aS => simp); (case aL => have := HL.out; simp; omega); intro v1 w1 ho hb hg hat; have HO := Aside0.mk ho; have HB := Aside0.mk hb; clear ho hb hg hat)
    go_ret
    exact ⟨_, rfl, HO.out, HB.out⟩


end Go.Proofs.Ytokimlfagpddlaa.PD

-- printed by gprint.py (own tool) over the kit's print
namespace Go.Proofs.Ytokimlfagpddlaa.PD
open Go.RowKit Go.Proofs.Ytokimlfagpddlaa Go.Proofs.YtokimlfagpddlaaW.PrintWords Go.Proofs.YtokimlfagpddlaaW.PrintLast Go.Proofs.YtokimlfagpddlaaW.PrintMore
attribute [local go_sem] max2_int min2_int max_two min_two max_three min_three max_four min_four   -- for this text's walks alone
set_option linter.unnecessarySimpa false
attribute [local go_sem] min2_str max2_str leq_str gtr_str geq_str
set_option linter.unusedVariables false
set_option linter.unusedSimpArgs false

/-! ### version_without_int: function 24 -/
theorem version_without_int.empty_ (A : Option Addr) (w : World) : Kd.C (Kd.int .i64) w A 0 [] := ⟨rfl, by decide, fun h => absurd h (by omega)⟩
theorem version_without_int.index_ (A : Option Addr) (c : Nat) (fv : Value) (w : World) : Calls Try.prog 67 #[.slice A 0 c, fv] w fun e w' => e = .returned (.int .i64 (-1)) ∧ w' = w := by
  go_enter Try.func67, Try.ntmps67
  go_wp2_with fail
  go_loopw [8] (fun i wr => i = .int .i64 0 ∧ wr = w) (fun _ _ => 0)
  case atStart => exact ⟨rfl, rfl⟩
  case round =>
    obtain ⟨rfl, rfl⟩ := hrel
    go_wp2_with fail
    go_ret
    exact ⟨rfl, rfl⟩
theorem version_without_int.contains_ (A : Option Addr) (c : Nat) (fv : Value) (w : World) : Calls Try.prog 32 #[.slice A 0 c, fv] w fun e w' => e = .returned (.bool false) ∧ w' = w := by
  have HI := Lib.hid (version_without_int.index_ A c fv w)
  go_enter Try.func32, Try.ntmps32
  go_wp2_with (go_at_call 67; refine HI.out.mono ?_; rintro e w' ⟨rfl, rfl⟩)
  go_ret
  exact ⟨rfl, rfl⟩
theorem version_without_int.delete_ (A : Option Addr) (c : Nat) (fv : Value) (w : World) : Calls Try.prog 61 #[.slice A 0 c, fv] w fun e w' => e = .returned (.slice A 0 c) ∧ w' = w := by
  have HI := Lib.hid (version_without_int.index_ A c fv w)
  go_enter Try.func61, Try.ntmps61
  go_wp2_with (go_at_call 67; refine HI.out.mono ?_; rintro e w' ⟨rfl, rfl⟩)
  go_ret
  exact ⟨rfl, rfl⟩
set_option maxHeartbeats 2000000 in
set_option maxRecDepth 100000 in
/-- Of nothing, nothing is left out. -/
theorem version_without_int.none_ (A0 A1 : Option Addr) (c0 c1 : Nat) (w : World) : Calls Try.prog 24 #[.slice A0 0 c0, .slice A1 0 c1, .func (.func 25) #[] #[]] w fun e w' => ∃ v, e = .returned (.tuple #[v, .bool true]) ∧ Kd.R (Kd.int .i64) 3 w' w.heap.size (fun _ => True) v [] ∧ Below w.heap.size w w' := by
  have hmm : ∀ (n : Int) (w : World), (Instr.makeMap 95 (some (.int .i64 n))).run Try.prog w = .ok (.map (some w.heap.size)) (w.alloc (.map #[] 0)) := fun n w => by simp [Instr.makeMap, run_underlying Try.underlying95, asInt, asIntOf, Result.andThen]
  go_enter Try.func24, Try.ntmps24
  go_wp2_with fail
  have HB : Aside0 (Below w.heap.size w (((w.alloc (.cells #[.func (.func 25) #[] #[]] 59)).alloc (.map #[] 0)).alloc (.cells #[.map (some (w.heap.size + 1))] 95))) := ⟨below_alloc (below_alloc (below_alloc (Below.refl _ _) _) _) _⟩
  generalize ((w.alloc (.cells #[.func (.func 25) #[] #[]] 59)).alloc (.map #[] 0)).alloc (.cells #[.map (some (w.heap.size + 1))] 95) = w1 at HB ⊢
  clear hmm
  go_loopw [16] (fun i wr => i = .int .i64 0 ∧ wr = w1) (fun _ _ => 0)
  case atStart => exact ⟨rfl, rfl⟩
  case round =>
    obtain ⟨rfl, rfl⟩ := hrel
    go_wp2_with fail
    refine (slices_Clone_int_int.calls A0 c0 [] [] wr (version_without_int.empty_ A0 wr) (Nat.zero_le _) (by rfl)).mono ?_
    rintro e w2 ⟨v, rfl, hv, hb⟩
    have HV := Aside0.mk (Kd.R_lower hv HB.out.size)
    have HB2 := Aside0.mk (below_step HB.out hb)
    clear hv hb
    obtain ⟨A, c, rfl, -, -⟩ := Kd.R_reads HV.out
    go_wp2_with (go_at_call 61; refine (version_without_int.delete_ A c _ _).mono ?_; rintro e w' ⟨rfl, rfl⟩)
    go_ret2
    exact ⟨_, rfl, HV.out, HB2.out⟩
set_option maxHeartbeats 2000000 in
set_option maxRecDepth 100000 in
/-- Of nothing, something cannot be left out. -/
theorem version_without_int.some_ (A0 A1 : Option Addr) (c0 c1 m : Nat) (G : List Int) (w : World) (hr : Kd.C (Kd.int .i64) w A1 m G) (h0 : 0 < m) (hb0 : -9223372036854775808 ≤ rd G 0 ∧ rd G 0 ≤ 9223372036854775807) : Calls Try.prog 24 #[.slice A0 0 c0, .slice A1 m c1, .func (.func 25) #[] #[]] w fun e w' => e = .returned (.tuple #[.slice none 0 0, .bool false]) ∧ Below w.heap.size w w' := by
  have hmm : ∀ (n : Int) (w : World), (Instr.makeMap 95 (some (.int .i64 n))).run Try.prog w = .ok (.map (some w.heap.size)) (w.alloc (.map #[] 0)) := fun n w => by simp [Instr.makeMap, run_underlying Try.underlying95, asInt, asIntOf, Result.andThen]
  have HR := Aside0.mk hr
  have HC := Lib.hid (version_without_int.contains_ A0 c0)
  have hwn : (Lit.int .i64 (rd G 0)).wf = true := version_twice.wf_ hb0
  have HWN := Aside0.mk hwn
  have HM := Aside0.mk hr.2.1
  clear hr hwn hb0
  go_enter Try.func24, Try.ntmps24
  go_wp2_with fail
  obtain ⟨W0, hW0⟩ : ∃ W0, W0 = w.alloc (.cells #[.func (.func 25) #[] #[]] 59) := ⟨_, rfl⟩
  obtain ⟨B, hBB⟩ : ∃ B, B = w.heap.size + 1 := ⟨_, rfl⟩
  have HBB := Aside0.mk hBB
  have hB0 : B = W0.heap.size := by rw [hW0, hBB]; simp
  have HS0 : SetAt (W0.alloc (.map #[] 0)) 3 4 B [] := by rw [hB0]; exact setAt_made _ _ _
  have HBW : Aside0 (Below w.heap.size w ((W0.alloc (.map #[] 0)).alloc (.cells #[.map (some B)] 95))) := ⟨by rw [hW0]; exact below_alloc (below_alloc (below_alloc (Below.refl _ _) _) _) _⟩
  rw [← hW0, ← hBB]
  obtain ⟨w1, hw1⟩ : ∃ w1, w1 = (W0.alloc (.map #[] 0)).alloc (.cells #[.map (some B)] 95) := ⟨_, rfl⟩
  rw [← hw1] at HBW
  have HS1 : Aside0 (SetAt w1 3 4 B []) := ⟨by rw [hw1]; exact World.ownsMap.alloc HS0 _⟩
  have HK : Aside0 (w1.heap[B + 1]? = some (.cells #[.map (some B)] 95 (0, 0))) := ⟨by rw [hw1, show B + 1 = (W0.alloc (.map #[] 0)).heap.size by rw [hB0]; simp]; exact blk_new _ _⟩
  have hz : ∀ w : World, (zeroValue 4).run Try.prog w = .ok (.bool false) w := fun w => by kernel_rfl
  have HZ := Aside0.mk hz
  have hd : decide (rd G 0 ∈ ([] : List Int)) = false := by simp
  have HD := Aside0.mk hd
  have hr2 := Kd.C_below HR.out HBW.out
  obtain ⟨ad, rfl, hcell⟩ := Kd.at_int hr2 0 (by omega) (by omega)
  obtain ⟨g, hg⟩ : ∃ g, g = rd G 0 := ⟨_, rfl⟩
  rw [← hg] at hcell HWN HD
  rw [show (ad.add (Int.toNat 0)) = ad by simp [Addr.add]] at hcell
  rw [← hw1]
  clear hw1 hW0 hBB hB0 HS0 hd hr2 hz hmm hg HR
  have hm1 : (0 : Int) < (m : Int) := by omega
  go_loopw [16] (fun i wr => i = .int .i64 0 ∧ wr = w1) (fun _ _ => 0)
  case atStart => exact ⟨rfl, rfl⟩
  case round =>
    obtain ⟨rfl, rfl⟩ := hrel
    go_upto_region 5 with fail
    obtain ⟨w2, hw2⟩ : ∃ w2, w2 = wr.alloc (.cells #[.int .i64 g] 3) := ⟨_, rfl⟩
    obtain ⟨gk, hgk⟩ : ∃ gk, gk = wr.heap.size := ⟨_, rfl⟩
    have HS2 : Aside0 (SetAt w2 3 4 B []) := ⟨by rw [hw2]; exact World.ownsMap.alloc HS1.out _⟩
    have HBW2 : Aside0 (Below w.heap.size w w2) := ⟨by rw [hw2]; exact below_alloc HBW.out _⟩
    have x0 : w2.cell? ⟨B + 1, 0, none⟩ = some (.map (some B)) := by rw [hw2]; exact (blk_cell (blk_alloc HK.out _) 0).trans rfl
    have hk2 : w2.heap[gk]? = some (.cells #[.int .i64 g] 3 (0, 0)) := by rw [hw2, hgk]; exact blk_new _ _
    have x1 : w2.cell? ⟨gk, 0, none⟩ = some (.int .i64 g) := (blk_cell hk2 0).trans rfl
    rw [← hw2, ← hgk]
    clear hw2 hgk hk2 hcell HS1 HBW HK
    go_wp2_with (first | (refine wpList_lookup_set _ rfl (.tmp 20) (.tmp 21) 95 rfl 3 4 Try.underlying3 Try.underlying95 Try.underlying4 HZ.out B [] rfl HS2.out g rfl HWN.out false HD.out ?_) | (go_at_call 32; refine (HC.out _ _).mono ?_; rintro e w' ⟨rfl, rfl⟩))
    go_ret2
    exact ⟨rfl, HBW2.out⟩
/-- What without answers of an empty list. -/
def version_without_int.f (l0 : List Int) (l1 : List Int) : Option (List Int × Bool) := if l0.length = 0 ∧ (l1.length = 0 ∨ (-9223372036854775808 ≤ rd l1 0 ∧ rd l1 0 ≤ 9223372036854775807)) then some ([], l1.length == 0) else none
theorem version_without_int.calls (A0 : Option Addr) (c0 : Nat) (l0 : List Int) (A1 : Option Addr) (c1 : Nat) (l1 : List Int) (r1 : List Int) (r2 : Bool) (w : World) (hr0 : Kd.C (Kd.int .i64) w A0 l0.length l0) (hc0 : l0.length ≤ c0) (hr1 : Kd.C (Kd.int .i64) w A1 l1.length l1) (hc1 : l1.length ≤ c1) (h : version_without_int.f l0 l1 = some (r1, r2)) :
    Calls Try.prog 24 #[.slice A0 l0.length c0, .slice A1 l1.length c1, .func (.func 25) #[] #[]] w fun e w' => ∃ v0_ : Value, e = .returned (.tuple #[v0_, .bool r2]) ∧ Kd.R (Kd.int .i64) 3 w' w.heap.size (fun _ => True) v0_ r1 ∧ Below w.heap.size w w' := by
  obtain ⟨⟨h0, h1⟩, hR⟩ : (l0.length = 0 ∧ (l1.length = 0 ∨ (-9223372036854775808 ≤ rd l1 0 ∧ rd l1 0 ≤ 9223372036854775807))) ∧ (([] : List Int), l1.length == 0) = (r1, r2) := by
    unfold version_without_int.f at h
    split at h
    · rename_i hl; exact ⟨hl, Option.some.inj h⟩
    · cases h
  obtain ⟨rfl, rfl⟩ := Prod.mk.inj hR
  rw [h0]
  by_cases hz : l1.length = 0
  · rw [hz]
    exact (version_without_int.none_ A0 A1 c0 c1 w).mono fun e w' ⟨v, he, hv, hb⟩ => ⟨v, he, hv, hb⟩
  · have e : (l1.length == 0) = false := by simpa using hz
    rw [e]
    refine (version_without_int.some_ A0 A1 c0 c1 l1.length l1 w hr1 (by omega) (h1.resolve_left hz)).mono fun e w' ⟨he, hb⟩ => ⟨_, he, Kd.R_nil _ _ _ _ _, hb⟩


end Go.Proofs.Ytokimlfagpddlaa.PD

-- printed by gprint.py (own tool) over the kit's print
namespace Go.Proofs.Ytokimlfagpddlaa.PD
open Go.RowKit Go.Proofs.Ytokimlfagpddlaa Go.Proofs.YtokimlfagpddlaaW.PrintWords Go.Proofs.YtokimlfagpddlaaW.PrintLast Go.Proofs.YtokimlfagpddlaaW.PrintMore
attribute [local go_sem] max2_int min2_int max_two min_two max_three min_three max_four min_four   -- for this text's walks alone
set_option linter.unnecessarySimpa false
attribute [local go_sem] min2_str max2_str leq_str gtr_str geq_str
set_option linter.unusedVariables false
set_option linter.unusedSimpArgs false

/-! ### api_Meta_26: function 26 -/
def api_Meta_26.okP (l : List S35) : Bool := (List.range l.length).all fun j => (List.range j).all fun i => decide (0 ≤ version_Right.ord (rd_T35 l (j : Int)) (rd_T35 l (i : Int)))
theorem api_Meta_26.okP_at {l : List S35} (h : api_Meta_26.okP l = true) (i j : Nat) (h0 : i < j) (h1 : j < l.length) : 0 ≤ version_Right.ord (rd_T35 l (j : Int)) (rd_T35 l (i : Int)) := by
  have := (List.all_eq_true.1 ((List.all_eq_true.1 h) j (List.mem_range.2 h1))) i (List.mem_range.2 h0)
  exact of_decide_eq_true this
def api_Meta_26.okL (l : List S35) : Bool := (List.range l.length).all fun j => j == 0 || decide (0 ≤ version_Right.ord (rd_T35 l (j : Int)) (rd_T35 l ((j : Int) - 1)))
theorem api_Meta_26.okL_at {l : List S35} (h : api_Meta_26.okL l = true) (j : Nat) (h0 : 0 < j) (h1 : j < l.length) : 0 ≤ version_Right.ord (rd_T35 l (j : Int)) (rd_T35 l ((j : Int) - 1)) := by
  have := (List.all_eq_true.1 h) j (List.mem_range.2 h1)
  have n0 : (j == 0) = false := by simp; omega
  rw [n0, Bool.false_or] at this
  exact of_decide_eq_true this
/-- The order of two tables, told by the program's own compare. -/
theorem api_Meta_26.cmp_ (p m : S35) (w : World) : Calls Try.prog 27 #[.agg #[.int .i64 p.f0, .int .i64 p.f1, .string p.f2, .string p.f3, .int .i64 p.f4], .agg #[.int .i64 m.f0, .int .i64 m.f1, .string m.f2, .string m.f3, .int .i64 m.f4]] w fun e w' => e = .returned (.int .i64 (version_Right.ord p m)) ∧ Below w.heap.size w w' :=
  version_compare.calls 5 p.f0 p.f1 p.f2 p.f3 p.f4 m.f0 m.f1 m.f2 m.f3 m.f4 _ w (version_Right.compare_some 2 p m)
theorem api_Meta_26.load_ {w0 w : World} {A : Option Addr} {n : Nat} {l : List S35} (h : Kd.C k35 w0 A n l) (hb : Below w0.heap.size w0 w) (i : Int) (h0 : 0 ≤ i) (h1 : i < n) : ∃ ad, A = some ad ∧ (Instr.loadAt 35 (.pointer (some (ad.add (i.toNat * 5))))).run Try.prog w = .ok (.agg #[.int .i64 (rd_T35 l i).f0, .int .i64 (rd_T35 l i).f1, .string (rd_T35 l i).f2, .string (rd_T35 l i).f3, .int .i64 (rd_T35 l i).f4]) w := by
  obtain ⟨ad, rfl, x0, x1, x2, x3, x4⟩ := at_T35 (Kd.C_below h hb) i h0 h1
  refine ⟨ad, rfl, ?_⟩
  go_simp
theorem api_Meta_26.quiet_ {P : Program} {C : World → Prop} {id : Nat} {Q : Exit → Act → World → Prop} {a : Act} {w : World} {l : List Oper} (hm : P.follows .mixedOrders = true) (hB : Region.lexB .any l.toArray = true) (hC : C w.drew)
    (h : wpQuiet P l.toArray C (fun a' => ∀ w', C w' → Q .normal a' w') l a) : (Code.region id l.toArray true).wp P Q a w :=
  wp_region_quiet (C := C) hm hB hC (by simpa using h)
set_option maxHeartbeats 2000000 in
set_option maxRecDepth 100000 in
theorem api_Meta_26.ins_ (A : Option Addr) (n c : Nat) (l : List S35) (a b : Nat) (w : World) (hr : Kd.C k35 w A n l) (hs : api_Meta_26.okL l = true) (hb : b ≤ n) (ha : a ≤ b) (hn : n < 4294967296) :
    Calls Try.prog 76 #[.slice A n c, .int .i64 a, .int .i64 b, .func (.func 27) #[] #[]] w fun e w' => e = .returned (.tuple #[]) ∧ Below w.heap.size w w' := by
  have HR := Aside0.mk hr
  have HS := Aside0.mk hs
  have HLEN := Aside0.mk hr.1
  clear hr hs
  go_enter Try.func76, Try.ntmps76
  go_wp2_with fail
  have HB0 := Aside0.mk (Below.refl w.heap.size w)
  go_loopw [8] (fun i wr => ∃ k : Nat, i = .int .i64 k ∧ a + 1 ≤ k ∧ k ≤ n + 1 ∧ Aside0 (Below w.heap.size w wr)) (fun i _ => n + 1 - (intOf i).toNat)
  case atStart => exact ⟨a + 1, by go_num, Nat.le_refl _, by omega, HB0⟩
  case round =>
    clear HB0
    obtain ⟨k, rfl, hak, hkn, HB⟩ := hrel
    by_cases hkb : k < b
    · have hkb' : (k : Int) < (b : Int) := by omega
      go_wp2_with fail
      go_loopw [9] (fun i wz => i = .int .i64 k ∧ Aside0 (Below w.heap.size w wz)) (fun i _ => 0)
      case atStart => exact ⟨rfl, HB⟩
      case round =>
        clear HB
        obtain ⟨rfl, HB⟩ := hrel
        have hka : (a : Int) < (k : Int) := by omega
        have hL : n = l.length := HLEN.out.symm
        have hord := api_Meta_26.okL_at HS.out k (by omega) (by omega)
        obtain ⟨od, hod⟩ : ∃ od, od = version_Right.ord (rd_T35 l (k : Int)) (rd_T35 l ((k : Int) - 1)) := ⟨_, rfl⟩
        rw [← hod] at hord
        have HOD := Aside0.mk hod
        clear hod hL
        obtain ⟨ad, rfl, -⟩ := api_Meta_26.load_ HR.out (Below.refl _ _) (k : Int) (by omega) (by omega)
        go_wp2_with fail
        refine api_Meta_26.quiet_ (C := fun x => Below w.heap.size w x) (by kernel_rfl) (by kernel_rfl) (below_drew1 HB.out) ?_
        repeat (first | go_big_quiet_skip | (go_big_quiet_want; go_big_quiet_op; first | go_big_quiet_on | (refine ⟨_, fun _ _ => rfl, ?_⟩; go_big_quiet_on)))
        go_big_quiet_want
        go_big_quiet_op
        refine ⟨.agg #[.int .i64 (rd_T35 l k).f0, .int .i64 (rd_T35 l k).f1, .string (rd_T35 l k).f2, .string (rd_T35 l k).f3, .int .i64 (rd_T35 l k).f4], fun w' hC => ?_, ?_⟩
        · obtain ⟨ad', e, x0, x1, x2, x3, x4⟩ := at_T35 (Kd.C_below HR.out hC) (k : Int) (by omega) (by omega)
          injection e with e
          subst e
          rw [Int.toNat_natCast] at x0 x1 x2 x3 x4
          go_simp
        go_big_quiet_on
        repeat (first | go_big_quiet_skip | (go_big_quiet_want; go_big_quiet_op; first | go_big_quiet_on | (refine ⟨_, fun _ _ => rfl, ?_⟩; go_big_quiet_on)))
        go_big_quiet_want
        go_big_quiet_op
        refine ⟨.agg #[.int .i64 (rd_T35 l ((k : Int) - 1)).f0, .int .i64 (rd_T35 l ((k : Int) - 1)).f1, .string (rd_T35 l ((k : Int) - 1)).f2, .string (rd_T35 l ((k : Int) - 1)).f3, .int .i64 (rd_T35 l ((k : Int) - 1)).f4], fun w' hC => ?_, ?_⟩
        · obtain ⟨ad', e, x0, x1, x2, x3, x4⟩ := at_T35 (Kd.C_below HR.out hC) ((k : Int) - 1) (by omega) (by omega)
          injection e with e
          subst e
          rw [show ((k : Int) - 1).toNat = k - 1 by omega] at x0 x1 x2 x3 x4
          go_simp
        go_big_quiet_on
        repeat (first | go_big_quiet_skip | (go_big_quiet_want; go_big_quiet_op; first | go_big_quiet_on | (refine ⟨_, fun _ _ => rfl, ?_⟩; go_big_quiet_on) | go_big_quiet_call (first | (intro hC_; go_at_call 27; exact (api_Meta_26.cmp_ _ _ _).mono fun e w' h => ⟨by rw [h.1, ← HOD.out], below_step hC_ h.2⟩))))
        refine wpQuiet_nil ?_
        intro w9 hw9
        have HB9 := Aside0.mk hw9
        clear hw9
        have hdec : decide (od < 0) = false := decide_eq_false (by omega)
        go_wp2_with fail
        exact ⟨⟨k + 1, rfl, by omega, by omega, HB9⟩, by simp only [intOf]; omega⟩
    · go_wp2_with fail
      go_end0
      exact ⟨rfl, HB.out⟩
set_option maxHeartbeats 8000000 in
set_option maxRecDepth 100000 in
theorem api_Meta_26.sym_ (A : Option Addr) (n c : Nat) (l : List S35) (hs : api_Meta_26.okP l = true) (hn : n < 4294967296) : ∀ (d a m b : Nat) (w : World), Kd.C k35 w A n l → b - a ≤ d → a < m → m < b → b ≤ n →
    Calls Try.prog 77 #[.slice A n c, .int .i64 a, .int .i64 m, .int .i64 b, .func (.func 27) #[] #[]] w fun e w' => e = .returned (.tuple #[]) ∧ Below w.heap.size w w' := by
  intro d
  induction d with
  | zero => intro a m b w _ h1 h2 h3; omega
  | succ d ih =>
    intro a m b w hr hd ham hmb hbn
    have HIH := Lib.hid ih
    have HR := Aside0.mk hr
    have HS := Aside0.mk hs
    have HLEN := Aside0.mk hr.1
    have HB0 := Aside0.mk (Below.refl w.heap.size w)
    obtain ⟨ad, rfl, -⟩ := api_Meta_26.load_ HR.out (Below.refl _ _) (m : Int) (by omega) (by omega)
    clear ih hr hs
    by_cases h1 : m - a = 1
    · skip
      have h1' : (m : Int) - (a : Int) = 1 := by omega
      go_enter Try.func77, Try.ntmps77
      go_wp2_with fail
      go_loopw [10, 11] (fun i j wr => ∃ k : Nat, i = .int .i64 m ∧ j = .int .i64 k ∧ m ≤ k ∧ k ≤ b ∧ Aside0 (Below w.heap.size w wr)) (fun _ j _ => (intOf j).toNat)
      case atStart => exact ⟨b, rfl, rfl, by omega, Nat.le_refl _, HB0⟩
      case round =>
        clear HB0
        obtain ⟨k, rfl, rfl, hmk, hkb, HB⟩ := hrel
        by_cases hlt : m < k
        · have hlt' : (m : Int) < (k : Int) := by omega
          go_upto_region 5 with fail
          obtain ⟨h, hh⟩ : ∃ h : Nat, (h : Int) = ((m : Int) + (k : Int)) / 2 := ⟨(m + k) / 2, by omega⟩
          rw [← hh]
          have hh1 : m ≤ h := by omega
          have hh2 : h < k := by omega
          clear hh
          have hord := api_Meta_26.okP_at HS.out a h (by omega) (by have := HLEN.out; omega)
          obtain ⟨od, hod⟩ : ∃ od, od = version_Right.ord (rd_T35 l ((h : Nat) : Int)) (rd_T35 l ((a : Nat) : Int)) := ⟨_, rfl⟩
          rw [← hod] at hord
          have HOD := Aside0.mk hod
          clear hod
          refine api_Meta_26.quiet_ (C := fun x => Below w.heap.size w x) (by kernel_rfl) (by kernel_rfl) (below_drew1 HB.out) ?_
          repeat (first | go_big_quiet_skip | (go_big_quiet_want; go_big_quiet_op; first | go_big_quiet_on | (refine ⟨_, fun _ _ => rfl, ?_⟩; go_big_quiet_on)))
          go_big_quiet_want
          go_big_quiet_op
          refine ⟨.agg #[.int .i64 (rd_T35 l (h : Int)).f0, .int .i64 (rd_T35 l (h : Int)).f1, .string (rd_T35 l (h : Int)).f2, .string (rd_T35 l (h : Int)).f3, .int .i64 (rd_T35 l (h : Int)).f4], fun w' hC => ?_, ?_⟩
          · obtain ⟨ad', e, x0, x1, x2, x3, x4⟩ := at_T35 (Kd.C_below HR.out hC) (h : Int) (by omega) (by omega)
            injection e with e
            subst e
            rw [Int.toNat_natCast] at x0 x1 x2 x3 x4
            go_simp
          go_big_quiet_on
          repeat (first | go_big_quiet_skip | (go_big_quiet_want; go_big_quiet_op; first | go_big_quiet_on | (refine ⟨_, fun _ _ => rfl, ?_⟩; go_big_quiet_on)))
          go_big_quiet_want
          go_big_quiet_op
          refine ⟨.agg #[.int .i64 (rd_T35 l (a : Int)).f0, .int .i64 (rd_T35 l (a : Int)).f1, .string (rd_T35 l (a : Int)).f2, .string (rd_T35 l (a : Int)).f3, .int .i64 (rd_T35 l (a : Int)).f4], fun w' hC => ?_, ?_⟩
          · obtain ⟨ad', e, x0, x1, x2, x3, x4⟩ := at_T35 (Kd.C_below HR.out hC) (a : Int) (by omega) (by omega)
            injection e with e
            subst e
            rw [Int.toNat_natCast] at x0 x1 x2 x3 x4
            go_simp
          go_big_quiet_on
          repeat (first | go_big_quiet_skip | (go_big_quiet_want; go_big_quiet_op; first | go_big_quiet_on | (refine ⟨_, fun _ _ => rfl, ?_⟩; go_big_quiet_on) | go_big_quiet_call (first | (intro hC_; go_at_call 27; exact (api_Meta_26.cmp_ _ _ _).mono fun e w' h => ⟨by rw [h.1, ← HOD.out], below_step hC_ h.2⟩))))
          refine wpQuiet_nil ?_
          intro w9 hw9
          have HB9 := Aside0.mk hw9
          clear hw9
          have hdec : decide (od < 0) = false := decide_eq_false (by omega)
          have hdec2 : (!decide (od < 0)) = true := by rw [hdec]; rfl
          have hdec3 : decide (0 ≤ od) = true := decide_eq_true hord
          go_wp2_with fail
          exact ⟨⟨h, rfl, rfl, hh1, by omega, HB9⟩, by simp only [intOf]; omega⟩
        · obtain rfl : k = m := by omega
          go_wp2_with fail
          go_loopw [13] (fun i wr2 => i = .int .i64 a ∧ wr2 = wr) (fun _ _ => 0)
          case atStart => exact ⟨rfl, rfl⟩
          case round =>
            obtain ⟨rfl, rfl⟩ := hrel
            have h1'' : (k : Int) - 1 = (a : Int) := by omega
            go_wp2_with fail
            (first | go_end0 | ((try simp only [Exit.inBlock, Exit.then]); refine bodyPost_ret (results_none rfl _ _ _) rfl ?_))
            exact ⟨rfl, HB.out⟩
    · by_cases h2 : b - m = 1
      · skip
        have h1' : ¬ (m : Int) - (a : Int) = 1 := by omega
        have h2' : (b : Int) - (m : Int) = 1 := by omega
        go_enter Try.func77, Try.ntmps77
        go_wp2_with fail
        go_loopw [14, 15] (fun i j wr => ∃ k : Nat, i = .int .i64 k ∧ j = .int .i64 m ∧ a ≤ k ∧ k ≤ m ∧ Aside0 (Below w.heap.size w wr)) (fun i _ _ => m - (intOf i).toNat)
        case atStart => exact ⟨a, rfl, rfl, Nat.le_refl _, by omega, HB0⟩
        case round =>
          clear HB0
          obtain ⟨k, rfl, rfl, hak, hkm, HB⟩ := hrel
          by_cases hlt : k < m
          · have hlt' : (k : Int) < (m : Int) := by omega
            go_upto_region 17 with fail
            obtain ⟨h, hh⟩ : ∃ h : Nat, (h : Int) = ((k : Int) + (m : Int)) / 2 := ⟨(k + m) / 2, by omega⟩
            rw [← hh]
            have hh1 : k ≤ h := by omega
            have hh2 : h < m := by omega
            clear hh
            have hord := api_Meta_26.okP_at HS.out h m (by omega) (by have := HLEN.out; omega)
            obtain ⟨od, hod⟩ : ∃ od, od = version_Right.ord (rd_T35 l ((m : Nat) : Int)) (rd_T35 l ((h : Nat) : Int)) := ⟨_, rfl⟩
            rw [← hod] at hord
            have HOD := Aside0.mk hod
            clear hod
            refine api_Meta_26.quiet_ (C := fun x => Below w.heap.size w x) (by kernel_rfl) (by kernel_rfl) (below_drew1 HB.out) ?_
            repeat (first | go_big_quiet_skip | (go_big_quiet_want; go_big_quiet_op; first | go_big_quiet_on | (refine ⟨_, fun _ _ => rfl, ?_⟩; go_big_quiet_on)))
            go_big_quiet_want
            go_big_quiet_op
            refine ⟨.agg #[.int .i64 (rd_T35 l (m : Int)).f0, .int .i64 (rd_T35 l (m : Int)).f1, .string (rd_T35 l (m : Int)).f2, .string (rd_T35 l (m : Int)).f3, .int .i64 (rd_T35 l (m : Int)).f4], fun w' hC => ?_, ?_⟩
            · obtain ⟨ad', e, x0, x1, x2, x3, x4⟩ := at_T35 (Kd.C_below HR.out hC) (m : Int) (by omega) (by omega)
              injection e with e
              subst e
              rw [Int.toNat_natCast] at x0 x1 x2 x3 x4
              go_simp
            go_big_quiet_on
            repeat (first | go_big_quiet_skip | (go_big_quiet_want; go_big_quiet_op; first | go_big_quiet_on | (refine ⟨_, fun _ _ => rfl, ?_⟩; go_big_quiet_on)))
            go_big_quiet_want
            go_big_quiet_op
            refine ⟨.agg #[.int .i64 (rd_T35 l (h : Int)).f0, .int .i64 (rd_T35 l (h : Int)).f1, .string (rd_T35 l (h : Int)).f2, .string (rd_T35 l (h : Int)).f3, .int .i64 (rd_T35 l (h : Int)).f4], fun w' hC => ?_, ?_⟩
            · obtain ⟨ad', e, x0, x1, x2, x3, x4⟩ := at_T35 (Kd.C_below HR.out hC) (h : Int) (by omega) (by omega)
              injection e with e
              subst e
              rw [Int.toNat_natCast] at x0 x1 x2 x3 x4
              go_simp
            go_big_quiet_on
            repeat (first | go_big_quiet_skip | (go_big_quiet_want; go_big_quiet_op; first | go_big_quiet_on | (refine ⟨_, fun _ _ => rfl, ?_⟩; go_big_quiet_on) | go_big_quiet_call (first | (intro hC_; go_at_call 27; exact (api_Meta_26.cmp_ _ _ _).mono fun e w' h => ⟨by rw [h.1, ← HOD.out], below_step hC_ h.2⟩))))
            refine wpQuiet_nil ?_
            intro w9 hw9
            have HB9 := Aside0.mk hw9
            clear hw9
            have hdec : decide (od < 0) = false := decide_eq_false (by omega)
            have hdec2 : (!decide (od < 0)) = true := by rw [hdec]; rfl
            have hdec3 : decide (0 ≤ od) = true := decide_eq_true hord
            go_wp2_with fail
            all_goals first | exact ⟨⟨h + 1, by go_num, rfl, by omega, by omega, HB9⟩, by simp only [intOf]; omega⟩ | (exfalso; rename_i hx_; rw [hdec2] at hx_; cases hx_)
          · obtain rfl : k = m := by omega
            go_wp2_with fail
            go_loopw [17] (fun i wr2 => i = .int .i64 k ∧ wr2 = wr) (fun _ _ => 0)
            case atStart => exact ⟨rfl, rfl⟩
            case round =>
              obtain ⟨rfl, rfl⟩ := hrel
              go_wp2_with fail
              (first | go_end0 | ((try simp only [Exit.inBlock, Exit.then]); refine bodyPost_ret (results_none rfl _ _ _) rfl ?_))
              exact ⟨rfl, HB.out⟩
      · have h1' : ¬ (m : Int) - (a : Int) = 1 := by omega
        have h2' : ¬ (b : Int) - (m : Int) = 1 := by omega
        go_enter Try.func77, Try.ntmps77
        go_upto_region 25 with fail
        obtain ⟨mid, hmid⟩ : ∃ mid : Nat, (mid : Int) = ((a : Int) + (b : Int)) / 2 := ⟨(a + b) / 2, by omega⟩
        rw [← hmid]
        have hm1 : a < mid := by omega
        have hm2 : mid < b := by omega
        have hm3 : 2 * mid ≤ a + b := by omega
        have hm4 : a + b ≤ 2 * mid + 1 := by omega
        clear hmid
        by_cases hc0 : mid < m
        · skip
          have hc : mid < m := hc0
          have hc' : (m : Int) > (mid : Int) := by omega
          go_upto_region 33 with fail
          obtain ⟨p, hp⟩ : ∃ p : Nat, (p : Int) = (mid : Int) + (m : Int) - 1 := ⟨mid + m - 1, by omega⟩
          rw [← hp]
          have hp1 : p + 1 ≤ mid + m := by omega
          have hp2 : mid + m ≤ p + 1 := by omega
          clear hp
          obtain ⟨s0, hs0⟩ : ∃ s0 : Nat, (s0 : Int) = (mid : Int) + (m : Int) - (b : Int) := ⟨mid + m - b, by omega⟩
          rw [← hs0]
          have hs1 : s0 + b ≤ mid + m := by omega
          have hs2 : mid + m ≤ s0 + b := by omega
          clear hs0
          go_loopw [20, 21] (fun i j wr => ∃ k : Nat, i = .int .i64 k ∧ j = .int .i64 mid ∧ s0 ≤ k ∧ k ≤ mid ∧ Aside0 (Below w.heap.size w wr)) (fun i _ _ => mid - (intOf i).toNat)
          case atStart => exact ⟨s0, rfl, rfl, Nat.le_refl _, by omega, HB0⟩
          case round =>
            clear HB0
            obtain ⟨k, rfl, rfl, hak, hkm, HB⟩ := hrel
            by_cases hlt : k < mid
            · have hlt' : (k : Int) < (mid : Int) := by omega
              go_upto_region 35 with fail
              obtain ⟨h, hh⟩ : ∃ h : Nat, (h : Int) = ((k : Int) + (mid : Int)) / 2 := ⟨(k + mid) / 2, by omega⟩
              rw [← hh]
              have hh1 : k ≤ h := by omega
              have hh2 : h < mid := by omega
              obtain ⟨q, hq⟩ : ∃ q : Nat, (q : Int) = (p : Int) - (h : Int) := ⟨p - h, by omega⟩
              clear hh
              have hqh : h < q := by omega
              have hqb : q < b := by omega
              have HQ := Aside0.mk hq
              clear hq
              have hord := api_Meta_26.okP_at HS.out h q (by omega) (by have := HLEN.out; omega)
              obtain ⟨od, hod⟩ : ∃ od, od = version_Right.ord (rd_T35 l ((p : Int) - (h : Int))) (rd_T35 l ((h : Nat) : Int)) := ⟨_, rfl⟩
              rw [HQ.out, ← hod] at hord
              have HOD := Aside0.mk hod
              clear hod
              refine api_Meta_26.quiet_ (C := fun x => Below w.heap.size w x) (by kernel_rfl) (by kernel_rfl) (below_drew1 HB.out) ?_
              repeat (first | go_big_quiet_skip | (go_big_quiet_want; go_big_quiet_op; first | go_big_quiet_on | (refine ⟨_, fun _ _ => rfl, ?_⟩; go_big_quiet_on)))
              go_big_quiet_want
              go_big_quiet_op
              refine ⟨.agg #[.int .i64 (rd_T35 l ((p : Int) - (h : Int))).f0, .int .i64 (rd_T35 l ((p : Int) - (h : Int))).f1, .string (rd_T35 l ((p : Int) - (h : Int))).f2, .string (rd_T35 l ((p : Int) - (h : Int))).f3, .int .i64 (rd_T35 l ((p : Int) - (h : Int))).f4], fun w' hC => ?_, ?_⟩
              · obtain ⟨ad', e, x0, x1, x2, x3, x4⟩ := at_T35 (Kd.C_below HR.out hC) ((p : Int) - (h : Int)) (by omega) (by omega)
                injection e with e
                subst e
                rw [show ((p : Int) - (h : Int)).toNat = p - h by omega] at x0 x1 x2 x3 x4
                go_simp
              go_big_quiet_on
              repeat (first | go_big_quiet_skip | (go_big_quiet_want; go_big_quiet_op; first | go_big_quiet_on | (refine ⟨_, fun _ _ => rfl, ?_⟩; go_big_quiet_on)))
              go_big_quiet_want
              go_big_quiet_op
              refine ⟨.agg #[.int .i64 (rd_T35 l (h : Int)).f0, .int .i64 (rd_T35 l (h : Int)).f1, .string (rd_T35 l (h : Int)).f2, .string (rd_T35 l (h : Int)).f3, .int .i64 (rd_T35 l (h : Int)).f4], fun w' hC => ?_, ?_⟩
              · obtain ⟨ad', e, x0, x1, x2, x3, x4⟩ := at_T35 (Kd.C_below HR.out hC) (h : Int) (by omega) (by omega)
                injection e with e
                subst e
                rw [Int.toNat_natCast] at x0 x1 x2 x3 x4
                go_simp
              go_big_quiet_on
              repeat (first | go_big_quiet_skip | (go_big_quiet_want; go_big_quiet_op; first | go_big_quiet_on | (refine ⟨_, fun _ _ => rfl, ?_⟩; go_big_quiet_on) | go_big_quiet_call (first | (intro hC_; go_at_call 27; exact (api_Meta_26.cmp_ _ _ _).mono fun e w' h => ⟨by rw [h.1, ← HOD.out], below_step hC_ h.2⟩))))
              refine wpQuiet_nil ?_
              intro w9 hw9
              have HB9 := Aside0.mk hw9
              clear hw9
              have hdec : decide (od < 0) = false := decide_eq_false (by omega)
              have hdec2 : (!decide (od < 0)) = true := by rw [hdec]; rfl
              have hdec3 : decide (0 ≤ od) = true := decide_eq_true hord
              go_wp2_with fail
              all_goals first | exact ⟨⟨h + 1, by go_num, rfl, by omega, by omega, HB9⟩, by simp only [intOf]; omega⟩ | (exfalso; rename_i hx_; rw [hdec2] at hx_; cases hx_)
            · obtain rfl : k = mid := by omega
              have e1 : (k : Int) + (m : Int) - (k : Int) = (m : Int) := by omega
              have q1 : (k : Int) < (m : Int) := by omega
              have q2 : (m : Int) < (b : Int) := by omega
              have q3 : (a : Int) < (k : Int) := by omega
              go_wp2_with fail
              refine (HIH.out k m b wr (Kd.C_below HR.out HB.out) (by omega) (by omega) (by omega) hbn).mono ?_
              rintro e w5 ⟨rfl, hb5⟩
              have HB5 := Aside0.mk (below_step HB.out hb5)
              clear hb5
              go_wp2_with fail
              (first | go_end0 | ((try simp only [Exit.inBlock, Exit.then]); refine bodyPost_ret (results_none rfl _ _ _) rfl ?_))
              exact ⟨rfl, HB5.out⟩
        · skip
          have hc : ¬ mid < m := hc0
          have hc' : ¬ (m : Int) > (mid : Int) := by omega
          go_upto_region 33 with fail
          obtain ⟨p, hp⟩ : ∃ p : Nat, (p : Int) = (mid : Int) + (m : Int) - 1 := ⟨mid + m - 1, by omega⟩
          rw [← hp]
          have hp1 : p + 1 ≤ mid + m := by omega
          have hp2 : mid + m ≤ p + 1 := by omega
          clear hp
          obtain ⟨s0, hs0⟩ : ∃ s0 : Nat, s0 = a := ⟨_, rfl⟩
          go_loopw [20, 21] (fun i j wr => ∃ k : Nat, i = .int .i64 k ∧ j = .int .i64 m ∧ a ≤ k ∧ k ≤ m ∧ Aside0 (Below w.heap.size w wr)) (fun i _ _ => m - (intOf i).toNat)
          case atStart => exact ⟨a, rfl, rfl, Nat.le_refl _, by omega, HB0⟩
          case round =>
            clear HB0
            obtain ⟨k, rfl, rfl, hak, hkm, HB⟩ := hrel
            by_cases hlt : k < m
            · have hlt' : (k : Int) < (m : Int) := by omega
              go_upto_region 35 with fail
              obtain ⟨h, hh⟩ : ∃ h : Nat, (h : Int) = ((k : Int) + (m : Int)) / 2 := ⟨(k + m) / 2, by omega⟩
              rw [← hh]
              have hh1 : k ≤ h := by omega
              have hh2 : h < m := by omega
              obtain ⟨q, hq⟩ : ∃ q : Nat, (q : Int) = (p : Int) - (h : Int) := ⟨p - h, by omega⟩
              clear hh
              have hqh : h < q := by omega
              have hqb : q < b := by omega
              have HQ := Aside0.mk hq
              clear hq
              have hord := api_Meta_26.okP_at HS.out h q (by omega) (by have := HLEN.out; omega)
              obtain ⟨od, hod⟩ : ∃ od, od = version_Right.ord (rd_T35 l ((p : Int) - (h : Int))) (rd_T35 l ((h : Nat) : Int)) := ⟨_, rfl⟩
              rw [HQ.out, ← hod] at hord
              have HOD := Aside0.mk hod
              clear hod
              refine api_Meta_26.quiet_ (C := fun x => Below w.heap.size w x) (by kernel_rfl) (by kernel_rfl) (below_drew1 HB.out) ?_
              repeat (first | go_big_quiet_skip | (go_big_quiet_want; go_big_quiet_op; first | go_big_quiet_on | (refine ⟨_, fun _ _ => rfl, ?_⟩; go_big_quiet_on)))
              go_big_quiet_want
              go_big_quiet_op
              refine ⟨.agg #[.int .i64 (rd_T35 l ((p : Int) - (h : Int))).f0, .int .i64 (rd_T35 l ((p : Int) - (h : Int))).f1, .string (rd_T35 l ((p : Int) - (h : Int))).f2, .string (rd_T35 l ((p : Int) - (h : Int))).f3, .int .i64 (rd_T35 l ((p : Int) - (h : Int))).f4], fun w' hC => ?_, ?_⟩
              · obtain ⟨ad', e, x0, x1, x2, x3, x4⟩ := at_T35 (Kd.C_below HR.out hC) ((p : Int) - (h : Int)) (by omega) (by omega)
                injection e with e
                subst e
                rw [show ((p : Int) - (h : Int)).toNat = p - h by omega] at x0 x1 x2 x3 x4
                go_simp
              go_big_quiet_on
              repeat (first | go_big_quiet_skip | (go_big_quiet_want; go_big_quiet_op; first | go_big_quiet_on | (refine ⟨_, fun _ _ => rfl, ?_⟩; go_big_quiet_on)))
              go_big_quiet_want
              go_big_quiet_op
              refine ⟨.agg #[.int .i64 (rd_T35 l (h : Int)).f0, .int .i64 (rd_T35 l (h : Int)).f1, .string (rd_T35 l (h : Int)).f2, .string (rd_T35 l (h : Int)).f3, .int .i64 (rd_T35 l (h : Int)).f4], fun w' hC => ?_, ?_⟩
              · obtain ⟨ad', e, x0, x1, x2, x3, x4⟩ := at_T35 (Kd.C_below HR.out hC) (h : Int) (by omega) (by omega)
                injection e with e
                subst e
                rw [Int.toNat_natCast] at x0 x1 x2 x3 x4
                go_simp
              go_big_quiet_on
              repeat (first | go_big_quiet_skip | (go_big_quiet_want; go_big_quiet_op; first | go_big_quiet_on | (refine ⟨_, fun _ _ => rfl, ?_⟩; go_big_quiet_on) | go_big_quiet_call (first | (intro hC_; go_at_call 27; exact (api_Meta_26.cmp_ _ _ _).mono fun e w' h => ⟨by rw [h.1, ← HOD.out], below_step hC_ h.2⟩))))
              refine wpQuiet_nil ?_
              intro w9 hw9
              have HB9 := Aside0.mk hw9
              clear hw9
              have hdec : decide (od < 0) = false := decide_eq_false (by omega)
              have hdec2 : (!decide (od < 0)) = true := by rw [hdec]; rfl
              have hdec3 : decide (0 ≤ od) = true := decide_eq_true hord
              go_wp2_with fail
              all_goals first | exact ⟨⟨h + 1, by go_num, rfl, by omega, by omega, HB9⟩, by simp only [intOf]; omega⟩ | (exfalso; rename_i hx_; rw [hdec2] at hx_; cases hx_)
            · obtain rfl : k = m := by omega
              have e1 : (mid : Int) + (k : Int) - (k : Int) = (mid : Int) := by omega
              by_cases hmm : k < mid
              · have q1 : (k : Int) < (mid : Int) := by omega
                have q3 : (a : Int) < (k : Int) := by omega
                go_wp2_with fail
                refine (HIH.out a k mid wr (Kd.C_below HR.out HB.out) (by omega) (by omega) (by omega) (by omega)).mono ?_
                rintro e w5 ⟨rfl, hb5⟩
                have HB5 := Aside0.mk (below_step HB.out hb5)
                clear hb5
                go_wp2_with fail
                (first | go_end0 | ((try simp only [Exit.inBlock, Exit.then]); refine bodyPost_ret (results_none rfl _ _ _) rfl ?_))
                exact ⟨rfl, HB5.out⟩
              · obtain rfl : k = mid := by omega
                have q3 : (a : Int) < (k : Int) := by omega
                go_wp2_with fail
                (first | go_end0 | ((try simp only [Exit.inBlock, Exit.then]); refine bodyPost_ret (results_none rfl _ _ _) rfl ?_))
                exact ⟨rfl, HB.out⟩
theorem api_Meta_26.okP_okL {l : List S35} (h : api_Meta_26.okP l = true) : api_Meta_26.okL l = true := by
  unfold api_Meta_26.okL
  rw [List.all_eq_true]
  intro j hj
  have hj' := List.mem_range.1 hj
  by_cases h0 : j = 0
  · subst h0; rfl
  · have := api_Meta_26.okP_at h (j - 1) j (by omega) hj'
    rw [show ((j - 1 : Nat) : Int) = (j : Int) - 1 by omega] at this
    rw [decide_eq_true this, Bool.or_true]
set_option maxHeartbeats 4000000 in
set_option maxRecDepth 100000 in
/-- What stands in its order stays. -/
theorem api_Meta_26.stable_ (A : Option Addr) (n c : Nat) (l : List S35) (w : World) (hr : Kd.C k35 w A n l) (hs : api_Meta_26.okP l = true) (hn : n < 1000000) :
    Calls Try.prog 63 #[.slice A n c, .int .i64 n, .func (.func 27) #[] #[]] w fun e w' => e = .returned (.tuple #[]) ∧ Below w.heap.size w w' := by
  have HI := Lib.hid (fun a b W h1 h2 h3 => api_Meta_26.ins_ A n c l a b W h1 (api_Meta_26.okP_okL hs) h2 h3 (by omega))
  have HM := Lib.hid (api_Meta_26.sym_ A n c l hs (by omega))
  have HR := Aside0.mk hr
  have HB0 := Aside0.mk (Below.refl w.heap.size w)
  clear hr hs
  go_enter Try.func63, Try.ntmps63
  go_wp2_with fail
  go_loopw [7, 8] (fun a b wr => ∃ k : Nat, a = .int .i64 k ∧ b = .int .i64 ((k : Int) + 20) ∧ k ≤ n ∧ Aside0 (Below w.heap.size w wr)) (fun a _ _ => n - (intOf a).toNat)
  case atStart => exact ⟨0, rfl, rfl, Nat.zero_le _, HB0⟩
  case round =>
    clear HB0
    obtain ⟨k, rfl, rfl, hk, HB⟩ := hrel
    by_cases hlt : k + 20 ≤ n
    · have hlt' : (k : Int) + 20 ≤ (n : Int) := by omega
      obtain ⟨k2, hk2⟩ : ∃ k2 : Nat, (k2 : Int) = (k : Int) + 20 := ⟨k + 20, by omega⟩
      have hk3 : k2 ≤ n := by omega
      have hk4 : k < k2 := by omega
      rw [← hk2] at hlt' ⊢
      clear hk2
      go_wp2_with fail
      refine (HI.out k k2 wr (Kd.C_below HR.out HB.out) hk3 (by omega)).mono ?_
      rintro e w5 ⟨rfl, hb5⟩
      have HB5 := Aside0.mk (below_step HB.out hb5)
      clear hb5
      go_wp2_with fail
      exact ⟨⟨k2, rfl, by go_num, hk3, HB5⟩, by simp only [intOf]; omega⟩
    · have hlt' : ¬ (k : Int) + 20 ≤ (n : Int) := by omega
      go_wp2_with fail
      refine (HI.out k n wr (Kd.C_below HR.out HB.out) (Nat.le_refl _) hk).mono ?_
      rintro e w5 ⟨rfl, hb5⟩
      have HB5 := Aside0.mk (below_step HB.out hb5)
      clear hb5 HB
      go_wp2_with fail
      go_loopw [6, 7, 8, 9] (fun t _ _ _ wz => ∃ B : Nat, t = .int .i64 B ∧ 0 < B ∧ B ≤ 2 * n + 20 ∧ Aside0 (Below w.heap.size w wz)) (fun t _ _ _ _ => n - (intOf t).toNat)
      case atStart => exact ⟨20, rfl, by omega, by omega, HB5⟩
      case round =>
        clear HB5
        obtain ⟨B, rfl, hB0, hB1, HB⟩ := hrel
        by_cases hBn : B < n
        · have hBn' : (B : Int) < (n : Int) := by omega
          go_wp2_with fail
          go_loopw [7, 8] (fun a b wy => ∃ k : Nat, a = .int .i64 k ∧ b = .int .i64 ((k : Int) + 2 * (B : Int)) ∧ k ≤ n ∧ Aside0 (Below w.heap.size w wy)) (fun a _ _ => n - (intOf a).toNat)
          case atStart => exact ⟨0, rfl, by simp, Nat.zero_le _, HB⟩
          case round =>
            clear HB
            obtain ⟨q, rfl, rfl, hq, HB⟩ := hrel
            by_cases hl2 : q + 2 * B ≤ n
            · have hl2' : (q : Int) + 2 * (B : Int) ≤ (n : Int) := by omega
              obtain ⟨q2, hq2⟩ : ∃ q2 : Nat, (q2 : Int) = (q : Int) + 2 * (B : Int) := ⟨q + 2 * B, by omega⟩
              obtain ⟨q1, hq1⟩ : ∃ q1 : Nat, (q1 : Int) = (q : Int) + (B : Int) := ⟨q + B, by omega⟩
              have g1 : q < q1 := by omega
              have g2 : q1 < q2 := by omega
              have g3 : q2 ≤ n := by omega
              rw [← hq2] at hl2' ⊢
              have HQ := Aside0.mk hq1
              clear hq2 hq1
              go_wp2_with fail
              rw [← HQ.out]
              refine (HM.out (q2 - q) q q1 q2 _ (Kd.C_below HR.out HB.out) (Nat.le_refl _) g1 g2 g3).mono ?_
              rintro e w5 ⟨rfl, hb5⟩
              have HB5 := Aside0.mk (below_step HB.out hb5)
              clear hb5
              go_wp2_with fail
              exact ⟨⟨q2, rfl, by go_num, g3, HB5⟩, by simp only [intOf]; omega⟩
            · have hl2' : ¬ (q : Int) + 2 * (B : Int) ≤ (n : Int) := by omega
              by_cases hm : q + B < n
              · have hm' : (q : Int) + (B : Int) < (n : Int) := by omega
                obtain ⟨q1, hq1⟩ : ∃ q1 : Nat, (q1 : Int) = (q : Int) + (B : Int) := ⟨q + B, by omega⟩
                have g1 : q < q1 := by omega
                have g2 : q1 < n := by omega
                have HQ := Aside0.mk hq1
                clear hq1
                go_wp2_with fail
                rw [← HQ.out]
                refine (HM.out (n - q) q q1 n _ (Kd.C_below HR.out HB.out) (Nat.le_refl _) g1 g2 (Nat.le_refl _)).mono ?_
                rintro e w5 ⟨rfl, hb5⟩
                have HB5 := Aside0.mk (below_step HB.out hb5)
                clear hb5
                go_wp2_with fail
                exact ⟨⟨2 * B, by go_num, by omega, by omega, HB5⟩, by simp only [intOf]; omega⟩
              · have hm' : ¬ (q : Int) + (B : Int) < (n : Int) := by omega
                go_wp2_with fail
                exact ⟨⟨2 * B, by go_num, by omega, by omega, HB⟩, by simp only [intOf]; omega⟩
        · have hBn' : ¬ (B : Int) < (n : Int) := by omega
          go_wp2_with fail
          (first | go_end0 | ((try simp only [Exit.inBlock, Exit.then]); refine bodyPost_ret (results_none rfl _ _ _) rfl ?_))
          exact ⟨rfl, HB.out⟩
/-- The sort of what stands in its order. -/
theorem api_Meta_26.sort_ (A : Option Addr) (n c : Nat) (l : List S35) (w : World) (hr : Kd.C k35 w A n l) (hs : api_Meta_26.okP l = true) (hn : n < 1000000) :
    Calls Try.prog 26 #[.slice A n c, .func (.func 27) #[] #[]] w fun e w' => e = .returned (.tuple #[]) ∧ Below w.heap.size w w' := by
  have HI := Lib.hid (api_Meta_26.stable_ A n c l w hr hs hn)
  clear hr hs
  go_enter Try.func26, Try.ntmps26
  go_wp2_with (go_at_call 63; refine HI.out.mono ?_; rintro e w1 ⟨rfl, hb⟩; have HB := Aside0.mk hb; clear hb)
  go_end0
  exact ⟨rfl, HB.out⟩
def api_Meta_26.f (l0 : List S35) : Option Unit := if l0.length < 1000000 ∧ api_Meta_26.okP l0 = true then some () else none
theorem api_Meta_26.calls (A0 : Option Addr) (c0 : Nat) (l0 : List S35) {r : Unit} (w : World) (hr0 : Kd.C k35 w A0 l0.length l0) (hc0 : l0.length ≤ c0) (h : api_Meta_26.f l0 = some r) :
    Calls Try.prog 26 #[.slice A0 l0.length c0, .func (.func 27) #[] #[]] w fun e w' => e = .returned (.tuple #[]) ∧ Below w.heap.size w w' := by
  obtain ⟨h0, h1⟩ : l0.length < 1000000 ∧ api_Meta_26.okP l0 = true := by
    unfold api_Meta_26.f at h
    split at h
    · assumption
    · cases h
  exact api_Meta_26.sort_ A0 l0.length c0 l0 w hr0 h1 h0


end Go.Proofs.Ytokimlfagpddlaa.PD
