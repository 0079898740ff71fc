-- packed: PDx47 PDx1 PDx49 RtD
import Derived.Test.YticajnfmjapkgaaQK3
-- printed by gprint.py (own tool) over the kit's print
namespace Go.Proofs.Yticajnfmjapkgaa.PD
open Go.RowKit Go.Proofs.Yticajnfmjapkgaa Go.Proofs.YticajnfmjapkgaaW.PrintWords Go.Proofs.YticajnfmjapkgaaW.PrintLast Go.Proofs.YticajnfmjapkgaaW.PrintMore
attribute [local go_sem] max2_int min2_int max_two min_two max_three min_three max_four min_four   -- for this text's walks alone
set_option linter.unnecessarySimpa false
attribute [local go_sem] min2_str max2_str leq_str gtr_str geq_str
set_option linter.unusedVariables false
set_option linter.unusedSimpArgs false

/-! ### palinoderef06_Decode: function 18 -/
def palinoderef06_Decode.l0 : Nat → Int → List Int → Int → Int → Int → Int → List (S42) → Option (Int × Int × Int × (List (S42)) × Int)
  | 0, _, _, _, _, _, _, _ => none
  | k + 1, x0, x9, x13, x295000, x295001, x295002, x295003 => if x13 < (x9.length : Int) then (if 0 ≤ x13 then (if 0 ≤ (wrap64 (x13 + 1)) then (if (wrap64 (x13 + 1)) < (x9.length : Int) then (if 0 ≤ (wrap64 (x13 + 2)) then (if (wrap64 (x13 + 2)) < (x9.length : Int) then (if x295003.length < 5864062014805 then (palinoderef06_Decode.l0 k x0 x9 (wrap64 (x13 + 3)) x295000 x295001 x295002 (x295003 ++ [(⟨rd x9 x13, rd x9 (wrap64 (x13 + 1)), rd x9 (wrap64 (x13 + 2))⟩ : S42)])) else (none)) else (none)) else (none)) else (none)) else (none)) else (none)) else ((palinoderef06_Right.f k x0 x295000 x295001 x295002 x295003).bind fun t301 => (if t301 = true then (some (x295000, x295001, x295002, x295003, 0)) else (some (0, 0, 0, ([] : List (S42)), 1))))
def palinoderef06_Decode.f (k : Nat) (a0 : Int) (a1 : ByteArray) : Option (Int × Int × Int × (List (S42)) × Int) := if (a1.size : Int) > 512 then (some (0, 0, 0, ([] : List (S42)), 5)) else ((palinoderef06_numbers.f k a1 4).bind fun bt279 => (if bt279.2.2 = 0 then (if 3 < (bt279.1.length : Int) then (if (rd bt279.1 3) > 24 then (some (0, 0, 0, ([] : List (S42)), 5)) else ((palinoderef06_numbers.f k bt279.2.1 (wrap64 (3 * (rd bt279.1 3)))).bind fun bt286 => (if bt286.2.2 = 0 then (if bt286.2.1.toList = ([] : List UInt8) then (if 0 < (bt279.1.length : Int) then (if 1 < (bt279.1.length : Int) then (if 2 < (bt279.1.length : Int) then (palinoderef06_Decode.l0 k a0 bt286.1 0 (rd bt279.1 0) (rd bt279.1 1) (rd bt279.1 2) ([] : List (S42))) else (none)) else (none)) else (none)) else (some (0, 0, 0, ([] : List (S42)), 3))) else (some (0, 0, 0, ([] : List (S42)), bt286.2.2))))) else (none)) else (some (0, 0, 0, ([] : List (S42)), bt279.2.2))))
theorem palinoderef06_Decode.mono_l : ∀ k, (∀ y0 y1 y2 y3 y4 y5 y6, LeO (palinoderef06_Decode.l0 k y0 y1 y2 y3 y4 y5 y6) (palinoderef06_Decode.l0 (k + 1) y0 y1 y2 y3 y4 y5 y6))
  | 0 => fun _ _ _ _ _ _ _ r h => by simp [palinoderef06_Decode.l0] at h
  | k + 1 => by
    have ih0 := palinoderef06_Decode.mono_l k
    · intro y0 y1 y2 y3 y4 y5 y6
      unfold palinoderef06_Decode.l0
      repeat' first
      | (with_reducible exact ih0 _ _ _ _ _ _ _)
      | (with_reducible exact palinoderef06_Right.mono _ _ _ _ _ _)
      | (with_reducible exact palinoderef06_numbers.mono _ _ _)
      | (with_reducible exact LeO.refl _)
      | (with_reducible exact LeO.none _)
      | (with_reducible refine LeO.ite ?_ ?_)
      | (with_reducible refine LeO.bind ?_ (fun _ => ?_))
      | exact ih0 _ _ _ _ _ _ _
      | exact palinoderef06_Right.mono _ _ _ _ _ _
      | exact palinoderef06_numbers.mono _ _ _
      | exact LeO.none _
      | refine LeO.ite ?_ ?_
      | refine LeO.bind ?_ (fun _ => ?_)
theorem palinoderef06_Decode.mono : ∀ a0 a1 k, LeO (palinoderef06_Decode.f k a0 a1) (palinoderef06_Decode.f (k + 1) a0 a1) := by
  intro a0 a1 k
  have ih0 := palinoderef06_Decode.mono_l k
  unfold palinoderef06_Decode.f
  repeat' first
      | (with_reducible exact ih0 _ _ _ _ _ _ _)
      | (with_reducible exact palinoderef06_Right.mono _ _ _ _ _ _)
      | (with_reducible exact palinoderef06_numbers.mono _ _ _)
      | (with_reducible exact LeO.refl _)
      | (with_reducible exact LeO.none _)
      | (with_reducible refine LeO.ite ?_ ?_)
      | (with_reducible refine LeO.bind ?_ (fun _ => ?_))
      | exact ih0 _ _ _ _ _ _ _
      | exact palinoderef06_Right.mono _ _ _ _ _ _
      | exact palinoderef06_numbers.mono _ _ _
      | exact LeO.none _
      | refine LeO.ite ?_ ?_
      | refine LeO.bind ?_ (fun _ => ?_)
def palinoderef06_Decode.T13 : Bool × List (List Nat × List Nat) := (true, [([], []), ([0], [0]), ([1], [1]), ([], []), ([3], [3]), ([4], [4]), ([], []), ([6], [6]), ([7], [7]), ([2, 5, 8], [2, 5, 8]), ([], []), ([10, 9, 0, 1, 2, 3, 4, 5, 6, 7, 8, 9, 10], [9, 10])])
def palinoderef06_Decode.B13 : List Nat := [0, 1, 3, 0, 8, 24, 0, 64, 192, 511, 0, 2047]
theorem palinoderef06_Decode.tab13 : rtab .any (opsOf Try.f18 13) = palinoderef06_Decode.T13 := by kernel_rfl
theorem palinoderef06_Decode.bits13 : waitsOk palinoderef06_Decode.T13.2 palinoderef06_Decode.B13 = true := by kernel_rfl
def palinoderef06_Decode.T17 : Bool × List (List Nat × List Nat) := (true, [([], []), ([0], [0]), ([], []), ([], []), ([2, 3], [2, 3]), ([4], [4]), ([], []), ([], []), ([7], [7]), ([6, 8], [6, 8]), ([9], [9]), ([], []), ([], []), ([12], [12]), ([11, 13], [11, 13]), ([14], [14]), ([5, 10, 15], [5, 10, 15]), ([16], [16]), ([1, 17], [1, 17]), ([0, 1, 2, 3, 4, 5, 6, 7, 8, 9, 10, 11, 12, 13, 14, 15, 16, 17, 18], []), ([19, 18, 18, 0, 1, 2, 3, 4, 5, 6, 7, 8, 9, 10, 11, 12, 13, 14, 15, 16, 17, 18], [18, 19])])
def palinoderef06_Decode.B17 : List Nat := [0, 1, 0, 0, 12, 28, 0, 0, 128, 448, 960, 0, 0, 4096, 14336, 30720, 65532, 131068, 262143, 524287, 1048575]
theorem palinoderef06_Decode.tab17 : rtab .any (opsOf Try.f18 17) = palinoderef06_Decode.T17 := by kernel_rfl
theorem palinoderef06_Decode.bits17 : waitsOk palinoderef06_Decode.T17.2 palinoderef06_Decode.B17 = true := by kernel_rfl
set_option maxHeartbeats 8000000 in
set_option maxRecDepth 100000 in
theorem palinoderef06_Decode.calls (k : Nat) (a0 : Int) (a1 : ByteArray) (r1 : Int) (r2 : Int) (r3 : Int) (r4 : List (S42)) (r5 : Int) (w : World) (h : palinoderef06_Decode.f k a0 a1 = some (r1, r2, r3, r4, r5)) :
    Calls Try.prog 18 #[.int .i64 a0, .string a1] w fun e w' => ∃ v3_ : Value, e = .returned (.tuple #[.agg #[.int .i64 r1, .int .i64 r2, .int .i64 r3, v3_], .int .i64 r5]) ∧ Kd.R k42 42 w' w.heap.size (fun _ => True) v3_ r4 ∧ Below w.heap.size w w' := by
  have hu39 := Try.underlying39
  have hu42 := Try.underlying42
  have HB := Aside0.mk (Below.refl w.heap.size w)
  have H : (if (a1.size : Int) > 512 then (some (0, 0, 0, ([] : List (S42)), 5)) else ((palinoderef06_numbers.f k a1 4).bind fun bt279 => (if bt279.2.2 = 0 then (if 3 < (bt279.1.length : Int) then (if (rd bt279.1 3) > 24 then (some (0, 0, 0, ([] : List (S42)), 5)) else ((palinoderef06_numbers.f k bt279.2.1 (wrap64 (3 * (rd bt279.1 3)))).bind fun bt286 => (if bt286.2.2 = 0 then (if bt286.2.1.toList = ([] : List UInt8) then (if 0 < (bt279.1.length : Int) then (if 1 < (bt279.1.length : Int) then (if 2 < (bt279.1.length : Int) then (palinoderef06_Decode.l0 k a0 bt286.1 0 (rd bt279.1 0) (rd bt279.1 1) (rd bt279.1 2) ([] : List (S42))) else (none)) else (none)) else (none)) else (some (0, 0, 0, ([] : List (S42)), 3))) else (some (0, 0, 0, ([] : List (S42)), bt286.2.2))))) else (none)) else (some (0, 0, 0, ([] : List (S42)), bt279.2.2))))) = some (r1, r2, r3, r4, r5) := h
  clear h
  by_cases c3 : (a1.size : Int) > 512
  · rw [if_pos c3] at H
    have c3b0 : decide (512 < (a1.size : Int)) = true := decide_eq_true c3
    have c3b1 : decide (512 < a1.size) = true := decide_eq_true (by omega)
    clear c3
    simp only [Option.some.injEq, Prod.mk.injEq] at H
    obtain ⟨rfl, rfl, rfl, rfl, rfl⟩ := H
    go_enter Try.func18, Try.ntmps18
    go_wp2_with (first | ((with_reducible refine gate_dst (N := 4) rfl ?_); refine box_event ?hg (N := 4) ?hd (cs := #[.int .i64 0, .int .i64 0, .int .i64 0, .slice none 0 0]) (t := 39) ?hr ?_; (case hd => rfl); (case hg => rfl); (case hr => first | (go_simp; done) | (go_simp; rfl)); intro gb278 hg w4 hbox hb; have n0_ := Aside0.mk (below_step (by repeat (first | (with_reducible first | exact HB.out | apply below_alloc | apply pw_below_drewN | apply below_drew1) | exact HB.out)) hb); have n1_ := Aside0.mk (hbox); have n2_ := Aside0.mk ((by rw [hg]; exact (below_size (by repeat (first | (with_reducible first | exact HB.out | apply below_alloc | apply pw_below_drewN | apply below_drew1) | exact HB.out))) : w.heap.size ≤ gb278)); have n3_ := Aside0.mk ((by rw [hg]; exact (below_size (by repeat (first | (with_reducible first | exact HB.out | apply below_alloc | apply pw_below_drewN | apply below_drew1) | exact HB.out))) : w.heap.size ≤ gb278)); clear HB; have HB := n0_; have BK278 := n1_; have GW278 := n2_; have GE278 := n3_; clear n0_ n1_ n2_ n3_; clear hb hbox hg; have hcz5_0 : w4.cell? ⟨gb278, 0, none⟩ = some (.int .i64 0) := (blk_cell BK278.out 0).trans rfl; have hcz5_1 : w4.cell? ⟨gb278, 1, none⟩ = some (.int .i64 0) := (blk_cell BK278.out 1).trans rfl; have hcz5_2 : w4.cell? ⟨gb278, 2, none⟩ = some (.int .i64 0) := (blk_cell BK278.out 2).trans rfl; have hcz5_3 : w4.cell? ⟨gb278, 3, none⟩ = some (.slice none 0 0) := (blk_cell BK278.out 3).trans rfl; have hfz5_0 := blk_frozen BK278.out 0; have hfz5_1 := blk_frozen BK278.out 1; have hfz5_2 := blk_frozen BK278.out 2; have hfz5_3 := blk_frozen BK278.out 3))
    refine bodyPost_ret (results_ct rfl _ _ gb278 39 #[.int .i64 0, .int .i64 0, .int .i64 0, .slice none 0 0] (0, 0) _ rfl (by (with_reducible repeat (first | refine blk_drewN ?_ _ | refine blk_drew ?_ | refine blk_alloc ?_ _)); refine blk_put (cs := #[.int .i64 0, .int .i64 0, .int .i64 0, .slice none 0 0]) ?_ 3 _ rfl; (with_reducible repeat (first | refine blk_drewN ?_ _ | refine blk_drew ?_ | refine blk_alloc ?_ _)); refine blk_put (cs := #[.int .i64 0, .int .i64 0, .int .i64 0, .slice none 0 0]) ?_ 2 _ rfl; (with_reducible repeat (first | refine blk_drewN ?_ _ | refine blk_drew ?_ | refine blk_alloc ?_ _)); refine blk_put (cs := #[.int .i64 0, .int .i64 0, .int .i64 0, .slice none 0 0]) ?_ 1 _ rfl; (with_reducible repeat (first | refine blk_drewN ?_ _ | refine blk_drew ?_ | refine blk_alloc ?_ _)); refine blk_put (cs := #[.int .i64 0, .int .i64 0, .int .i64 0, .slice none 0 0]) ?_ 0 _ rfl; (with_reducible repeat (first | refine blk_drewN ?_ _ | refine blk_drew ?_ | refine blk_alloc ?_ _)); exact BK278.out) Try.underlying39 rfl (by kernel_rfl)) rfl ?_
    exact ⟨_, by first | rfl | (simp [errW_none, errW_some] <;> rfl) | (simp [*, errW_none, errW_some] <;> rfl), by first | exact Kd.R_nil _ _ _ _ _ | exact Kd.N_nil _ _ _ _ _ | exact Kd.V_nil _ _ _ _ _ | exact Kd.Q_nil _ _ _ _ _ | exact Kd.S_nil _ _ _ _ _, by repeat (first | (with_reducible first | exact HB.out | apply below_alloc | apply pw_below_drewN | apply below_drew1 | refine below_set ?_ GE278.out) | exact HB.out)⟩
  · rw [if_neg c3] at H
    have c3b0 : decide (512 < (a1.size : Int)) = false := decide_eq_false c3
    have c3b1 : decide (512 < a1.size) = false := decide_eq_false (by omega)
    clear c3
    replace H := Option.bind_eq_some_iff.mp H
    obtain ⟨⟨t279, t280, t281⟩, A60, H⟩ := H
    replace H : (if t281 = 0 then (if 3 < (t279.length : Int) then (if (rd t279 3) > 24 then (some (0, 0, 0, ([] : List (S42)), 5)) else ((palinoderef06_numbers.f k t280 (wrap64 (3 * (rd t279 3)))).bind fun bt286 => (if bt286.2.2 = 0 then (if bt286.2.1.toList = ([] : List UInt8) then (if 0 < (t279.length : Int) then (if 1 < (t279.length : Int) then (if 2 < (t279.length : Int) then (palinoderef06_Decode.l0 k a0 bt286.1 0 (rd t279 0) (rd t279 1) (rd t279 2) ([] : List (S42))) else (none)) else (none)) else (none)) else (some (0, 0, 0, ([] : List (S42)), 3))) else (some (0, 0, 0, ([] : List (S42)), bt286.2.2))))) else (none)) else (some (0, 0, 0, ([] : List (S42)), t281))) = some (r1, r2, r3, r4, r5) := H
    have A6 := Aside0.mk A60
    clear A60
    by_cases c7 : t281 = 0
    · rw [if_pos c7] at H
      have c7b0 : (t281 == 0) = true := beq_iff_eq.mpr c7
      have c7b1 : (t281 != 0) = false := bne_eq_false_iff_eq.mpr c7
      clear c7
      by_cases c8 : 3 < (t279.length : Int)
      · rw [if_pos c8] at H
        have c8b0 : decide (3 < (t279.length : Int)) = true := decide_eq_true c8
        have c8b1 : decide (3 < t279.length) = true := decide_eq_true (by omega)
        clear c8
        by_cases c9 : (rd t279 3) > 24
        · rw [if_pos c9] at H
          have c9b0 : decide (24 < (rd t279 3)) = true := decide_eq_true c9
          clear c9
          simp only [Option.some.injEq, Prod.mk.injEq] at H
          obtain ⟨rfl, rfl, rfl, rfl, rfl⟩ := H
          go_enter Try.func18, Try.ntmps18
          go_wp2_with (first | ((with_reducible refine gate_dst (N := 4) rfl ?_); refine box_event ?hg (N := 4) ?hd (cs := #[.int .i64 0, .int .i64 0, .int .i64 0, .slice none 0 0]) (t := 39) ?hr ?_; (case hd => rfl); (case hg => rfl); (case hr => first | (go_simp; done) | (go_simp; rfl)); intro gb278 hg w10 hbox hb; have n0_ := Aside0.mk (below_step (by repeat (first | (with_reducible first | exact HB.out | apply below_alloc | apply pw_below_drewN | apply below_drew1) | exact HB.out)) hb); have n1_ := Aside0.mk (hbox); have n2_ := Aside0.mk ((by rw [hg]; exact (below_size (by repeat (first | (with_reducible first | exact HB.out | apply below_alloc | apply pw_below_drewN | apply below_drew1) | exact HB.out))) : w.heap.size ≤ gb278)); have n3_ := Aside0.mk ((by rw [hg]; exact (below_size (by repeat (first | (with_reducible first | exact HB.out | apply below_alloc | apply pw_below_drewN | apply below_drew1) | exact HB.out))) : w.heap.size ≤ gb278)); clear HB; have HB := n0_; have BK278 := n1_; have GW278 := n2_; have GE278 := n3_; clear n0_ n1_ n2_ n3_; clear hb hbox hg) | ((with_reducible refine gate_callee (f := 27) rfl ?_); refine goesL_ (some 21) rfl rfl Try.func27 (by kernel_rfl) rfl #[.string a1, .int .i64 4] rfl (by (try simp only [List.map_toArray, List.map_cons, List.map_nil]); first | done | rfl | (simp only [List.length_drop, List.length_take]; rfl)) ?_; (with_reducible refine (palinoderef06_numbers.calls k a1 4 t279 t280 t281 _ A6.out).mono ?_); rintro e w11 ⟨v282, rfl, ho0, hb⟩; refine ⟨_, rfl, ?_⟩; have n0_ := Aside0.mk (Kd.R_lower ho0 (below_size (by repeat (first | (with_reducible first | exact HB.out | apply below_alloc | apply pw_below_drewN | apply below_drew1 | refine below_set ?_ GE278.out) | exact HB.out)))); have n1_ := Aside0.mk (blk_below (g := gb278) (o := .cells #[.int .i64 0, .int .i64 0, .int .i64 0, .slice none 0 0] 39 (0, 0)) (by (with_reducible repeat (first | refine blk_drewN ?_ _ | refine blk_drew ?_ | refine blk_alloc ?_ _)); exact BK278.out) hb); have n2_ := Aside0.mk (below_step (by repeat (first | (with_reducible first | exact HB.out | apply below_alloc | apply pw_below_drewN | apply below_drew1 | refine below_set ?_ GE278.out) | exact HB.out)) hb); clear BK278; clear HB; have HO283 := n0_; have BK278 := n1_; have HB := n2_; clear n0_ n1_ n2_; (try clear hb); (try clear hb2); (try clear hk); (try clear hi); (try clear ho0); obtain ⟨Ao12, co12, eo12⟩ := Kd.R_slice HO283.out; subst eo12; have p284 : 0 ≤ (3 : Int) := (by omega); have q284 : 3 < (t279.length : Int) := of_decide_eq_true (by first | (with_reducible assumption) | assumption); obtain ⟨ad284, e284, hx284_0⟩ := Kd.at_int (Kd.R_reads' HO283.out).2.2 3 p284 q284; cases e284; (try simp only [show (3 : Int).toNat = 3 from rfl, Nat.reduceMul, Nat.reduceEqDiff, Go.Addr.add, ↓reduceIte] at hx284_0); have qi284 : (3 < t279.length) = True := eq_true (by omega); (try rw [show ((3 : Int)).toNat = 3 from rfl] at hx284_0); replace p284 := eq_true p284; replace q284 := eq_true q284; have hcz13_0 : w11.cell? ⟨gb278, 0, none⟩ = some (.int .i64 0) := (blk_cell BK278.out 0).trans rfl; have hcz13_1 : w11.cell? ⟨gb278, 1, none⟩ = some (.int .i64 0) := (blk_cell BK278.out 1).trans rfl; have hcz13_2 : w11.cell? ⟨gb278, 2, none⟩ = some (.int .i64 0) := (blk_cell BK278.out 2).trans rfl; have hcz13_3 : w11.cell? ⟨gb278, 3, none⟩ = some (.slice none 0 0) := (blk_cell BK278.out 3).trans rfl; have hfz13_0 := blk_frozen BK278.out 0; have hfz13_1 := blk_frozen BK278.out 1; have hfz13_2 := blk_frozen BK278.out 2; have hfz13_3 := blk_frozen BK278.out 3))
          refine bodyPost_ret (results_ct rfl _ _ gb278 39 #[.int .i64 0, .int .i64 0, .int .i64 0, .slice none 0 0] (0, 0) _ rfl (by (with_reducible repeat (first | refine blk_drewN ?_ _ | refine blk_drew ?_ | refine blk_alloc ?_ _)); refine blk_put (cs := #[.int .i64 0, .int .i64 0, .int .i64 0, .slice none 0 0]) ?_ 3 _ rfl; (with_reducible repeat (first | refine blk_drewN ?_ _ | refine blk_drew ?_ | refine blk_alloc ?_ _)); refine blk_put (cs := #[.int .i64 0, .int .i64 0, .int .i64 0, .slice none 0 0]) ?_ 2 _ rfl; (with_reducible repeat (first | refine blk_drewN ?_ _ | refine blk_drew ?_ | refine blk_alloc ?_ _)); refine blk_put (cs := #[.int .i64 0, .int .i64 0, .int .i64 0, .slice none 0 0]) ?_ 1 _ rfl; (with_reducible repeat (first | refine blk_drewN ?_ _ | refine blk_drew ?_ | refine blk_alloc ?_ _)); refine blk_put (cs := #[.int .i64 0, .int .i64 0, .int .i64 0, .slice none 0 0]) ?_ 0 _ rfl; (with_reducible repeat (first | refine blk_drewN ?_ _ | refine blk_drew ?_ | refine blk_alloc ?_ _)); exact BK278.out) Try.underlying39 rfl (by kernel_rfl)) rfl ?_
          exact ⟨_, by first | rfl | (simp [errW_none, errW_some] <;> rfl) | (simp [*, errW_none, errW_some] <;> rfl), by first | exact Kd.R_nil _ _ _ _ _ | exact Kd.N_nil _ _ _ _ _ | exact Kd.V_nil _ _ _ _ _ | exact Kd.Q_nil _ _ _ _ _ | exact Kd.S_nil _ _ _ _ _, by repeat (first | (with_reducible first | exact HB.out | apply below_alloc | apply pw_below_drewN | apply below_drew1 | refine below_set ?_ GE278.out) | exact HB.out)⟩
        · rw [if_neg c9] at H
          have c9b0 : decide (24 < (rd t279 3)) = false := decide_eq_false c9
          clear c9
          replace H := Option.bind_eq_some_iff.mp H
          obtain ⟨⟨t286, t287, t288⟩, A140, H⟩ := H
          replace H : (if t288 = 0 then (if t287.toList = ([] : List UInt8) then (if 0 < (t279.length : Int) then (if 1 < (t279.length : Int) then (if 2 < (t279.length : Int) then (palinoderef06_Decode.l0 k a0 t286 0 (rd t279 0) (rd t279 1) (rd t279 2) ([] : List (S42))) else (none)) else (none)) else (none)) else (some (0, 0, 0, ([] : List (S42)), 3))) else (some (0, 0, 0, ([] : List (S42)), t288))) = some (r1, r2, r3, r4, r5) := H
          have A14 := Aside0.mk A140
          clear A140
          by_cases c15 : t288 = 0
          · rw [if_pos c15] at H
            have c15b0 : (t288 == 0) = true := beq_iff_eq.mpr c15
            have c15b1 : (t288 != 0) = false := bne_eq_false_iff_eq.mpr c15
            clear c15
            by_cases c16 : t287.toList = ([] : List UInt8)
            · rw [if_pos c16] at H
              have c16b0 : (t287.toList == ([] : List UInt8)) = true := beq_iff_eq.mpr c16
              have c16b1 : (t287.toList != ([] : List UInt8)) = false := bne_eq_false_iff_eq.mpr c16
              clear c16
              by_cases c17 : 0 < (t279.length : Int)
              · rw [if_pos c17] at H
                have c17b0 : decide (0 < (t279.length : Int)) = true := decide_eq_true c17
                have c17b1 : decide (0 < t279.length) = true := decide_eq_true (by omega)
                clear c17
                by_cases c18 : 1 < (t279.length : Int)
                · rw [if_pos c18] at H
                  have c18b0 : decide (1 < (t279.length : Int)) = true := decide_eq_true c18
                  have c18b1 : decide (1 < t279.length) = true := decide_eq_true (by omega)
                  clear c18
                  by_cases c19 : 2 < (t279.length : Int)
                  · rw [if_pos c19] at H
                    have c19b0 : decide (2 < (t279.length : Int)) = true := decide_eq_true c19
                    have c19b1 : decide (2 < t279.length) = true := decide_eq_true (by omega)
                    clear c19
                    have H' := Aside0.mk H
                    clear H
                    go_enter Try.func18, Try.ntmps18
                    try go_wp2_with (first | ((with_reducible refine gate_dst (N := 4) rfl ?_); refine box_event ?hg (N := 4) ?hd (cs := #[.int .i64 0, .int .i64 0, .int .i64 0, .slice none 0 0]) (t := 39) ?hr ?_; (case hd => rfl); (case hg => rfl); (case hr => first | (go_simp; done) | (go_simp; rfl)); intro gb278 hg w20 hbox hb; have n0_ := Aside0.mk (below_step (by repeat (first | (with_reducible first | exact HB.out | apply below_alloc | apply pw_below_drewN | apply below_drew1) | exact HB.out)) hb); have n1_ := Aside0.mk (hbox); have n2_ := Aside0.mk ((by rw [hg]; exact (below_size (by repeat (first | (with_reducible first | exact HB.out | apply below_alloc | apply pw_below_drewN | apply below_drew1) | exact HB.out))) : w.heap.size ≤ gb278)); have n3_ := Aside0.mk ((by rw [hg]; exact (below_size (by repeat (first | (with_reducible first | exact HB.out | apply below_alloc | apply pw_below_drewN | apply below_drew1) | exact HB.out))) : w.heap.size ≤ gb278)); clear HB; have HB := n0_; have BK278 := n1_; have GW278 := n2_; have GE278 := n3_; clear n0_ n1_ n2_ n3_; clear hb hbox hg) | ((with_reducible refine gate_callee (f := 27) rfl ?_); refine goesL_ (some 21) rfl rfl Try.func27 (by kernel_rfl) rfl #[.string a1, .int .i64 4] rfl (by (try simp only [List.map_toArray, List.map_cons, List.map_nil]); first | done | rfl | (simp only [List.length_drop, List.length_take]; rfl)) ?_; (with_reducible refine (palinoderef06_numbers.calls k a1 4 t279 t280 t281 _ A6.out).mono ?_); rintro e w21 ⟨v282, rfl, ho0, hb⟩; refine ⟨_, rfl, ?_⟩; have n0_ := Aside0.mk (Kd.R_lower ho0 (below_size (by repeat (first | (with_reducible first | exact HB.out | apply below_alloc | apply pw_below_drewN | apply below_drew1 | refine below_set ?_ GE278.out) | exact HB.out)))); have n1_ := Aside0.mk (blk_below (g := gb278) (o := .cells #[.int .i64 0, .int .i64 0, .int .i64 0, .slice none 0 0] 39 (0, 0)) (by (with_reducible repeat (first | refine blk_drewN ?_ _ | refine blk_drew ?_ | refine blk_alloc ?_ _)); exact BK278.out) hb); have n2_ := Aside0.mk (below_step (by repeat (first | (with_reducible first | exact HB.out | apply below_alloc | apply pw_below_drewN | apply below_drew1 | refine below_set ?_ GE278.out) | exact HB.out)) hb); clear BK278; clear HB; have HO283 := n0_; have BK278 := n1_; have HB := n2_; clear n0_ n1_ n2_; (try clear hb); (try clear hb2); (try clear hk); (try clear hi); (try clear ho0); obtain ⟨Ao22, co22, eo22⟩ := Kd.R_slice HO283.out; subst eo22; have p284 : 0 ≤ (3 : Int) := (by omega); have q284 : 3 < (t279.length : Int) := of_decide_eq_true (by first | (with_reducible assumption) | assumption); obtain ⟨ad284, e284, hx284_0⟩ := Kd.at_int (Kd.R_reads' HO283.out).2.2 3 p284 q284; cases e284; (try simp only [show (3 : Int).toNat = 3 from rfl, Nat.reduceMul, Nat.reduceEqDiff, Go.Addr.add, ↓reduceIte] at hx284_0); have qi284 : (3 < t279.length) = True := eq_true (by omega); (try rw [show ((3 : Int)).toNat = 3 from rfl] at hx284_0); replace p284 := eq_true p284; replace q284 := eq_true q284; have p285 : 0 ≤ (3 : Int) := (by omega); have q285 : 3 < (t279.length : Int) := of_decide_eq_true (by first | (with_reducible assumption) | assumption); obtain ⟨ad285, e285, hx285_0⟩ := Kd.at_int (Kd.R_reads' HO283.out).2.2 3 p285 q285; obtain rfl : ad284 = ad285 := (by injection e285); (try simp only [show (3 : Int).toNat = 3 from rfl, Nat.reduceMul, Nat.reduceEqDiff, Go.Addr.add, ↓reduceIte] at hx285_0); have qi285 : (3 < t279.length) = True := eq_true (by omega); (try rw [show ((3 : Int)).toNat = 3 from rfl] at hx285_0); replace p285 := eq_true p285; replace q285 := eq_true q285) | ((with_reducible refine gate_callee (f := 27) rfl ?_); refine goesL_ (some 40) rfl rfl Try.func27 (by kernel_rfl) rfl #[.string t280, .int .i64 (wrap64 (3 * (rd t279 3)))] rfl (by (try simp only [List.map_toArray, List.map_cons, List.map_nil]); first | done | rfl | (simp only [List.length_drop, List.length_take]; rfl)) ?_; (with_reducible refine (palinoderef06_numbers.calls k t280 (wrap64 (3 * (rd t279 3))) t286 t287 t288 _ A14.out).mono ?_); rintro e w23 ⟨v289, rfl, ho0, hb⟩; refine ⟨_, rfl, ?_⟩; have n0_ := Aside0.mk (Kd.R_elder' (by (with_reducible repeat (first | apply Kd.R_alloc | apply Kd.R_drewN | apply Kd.R_drew)); exact HO283.out) (Kd.R_base ho0) hb); have n1_ := Aside0.mk (Kd.R_lower (Kd.R_new' ho0 (Kd.R_lt (by (with_reducible repeat (first | apply Kd.R_alloc | apply Kd.R_drewN | apply Kd.R_drew)); exact HO283.out))) (below_size (by repeat (first | (with_reducible first | exact HB.out | apply below_alloc | apply pw_below_drewN | apply below_drew1 | refine below_set ?_ GE278.out) | exact HB.out)))); have n2_ := Aside0.mk (blk_below (g := gb278) (o := .cells #[.int .i64 0, .int .i64 0, .int .i64 0, .slice none 0 0] 39 (0, 0)) (by (with_reducible repeat (first | refine blk_drewN ?_ _ | refine blk_drew ?_ | refine blk_alloc ?_ _)); exact BK278.out) hb); have n3_ := Aside0.mk (below_step (by repeat (first | (with_reducible first | exact HB.out | apply below_alloc | apply pw_below_drewN | apply below_drew1 | refine below_set ?_ GE278.out) | exact HB.out)) hb); clear HO283; clear BK278; clear HB; have HO283 := n0_; have HO290 := n1_; have BK278 := n2_; have HB := n3_; clear n0_ n1_ n2_ n3_; (try clear hb); (try clear hb2); (try clear hk); (try clear hi); (try clear ho0)))
                    have n0_ := Aside0.mk (Kd.R_drew HO283.out)
                    have n1_ := Aside0.mk (Kd.R_drew HO290.out)
                    have n2_ := Aside0.mk (blk_drew BK278.out)
                    have n3_ := Aside0.mk (below_drew1 HB.out)
                    clear HO283
                    clear HO290
                    clear BK278
                    clear HB
                    have HO283 := n0_
                    have HO290 := n1_
                    have BK278 := n2_
                    have HB := n3_
                    clear n0_ n1_ n2_ n3_
                    have p291 : 0 ≤ (0 : Int) := (by omega)
                    have q291 : 0 < (t279.length : Int) := of_decide_eq_true (by first | (with_reducible assumption) | assumption)
                    obtain ⟨ad291, e291, hx291_0⟩ := Kd.at_int (Kd.R_reads' HO283.out).2.2 0 p291 q291
                    obtain rfl : ad284 = ad291 := (by injection e291)
                    have qi291 : (0 < t279.length) = True := eq_true (by omega)
                    (try rw [show ((0 : Int)).toNat = 0 from rfl] at hx291_0)
                    (try rw [Addr.add_zero'] at hx291_0)
                    replace p291 := eq_true p291
                    replace q291 := eq_true q291
                    have p292 : 0 ≤ (1 : Int) := (by omega)
                    have q292 : 1 < (t279.length : Int) := of_decide_eq_true (by first | (with_reducible assumption) | assumption)
                    obtain ⟨ad292, e292, hx292_0⟩ := Kd.at_int (Kd.R_reads' HO283.out).2.2 1 p292 q292
                    obtain rfl : ad284 = ad292 := (by injection e292)
                    (try simp only [show (1 : Int).toNat = 1 from rfl, Nat.reduceMul, Nat.reduceEqDiff, Go.Addr.add, ↓reduceIte] at hx292_0)
                    have qi292 : (1 < t279.length) = True := eq_true (by omega)
                    (try rw [show ((1 : Int)).toNat = 1 from rfl] at hx292_0)
                    replace p292 := eq_true p292
                    replace q292 := eq_true q292
                    have p293 : 0 ≤ (2 : Int) := (by omega)
                    have q293 : 2 < (t279.length : Int) := of_decide_eq_true (by first | (with_reducible assumption) | assumption)
                    obtain ⟨ad293, e293, hx293_0⟩ := Kd.at_int (Kd.R_reads' HO283.out).2.2 2 p293 q293
                    obtain rfl : ad284 = ad293 := (by injection e293)
                    (try simp only [show (2 : Int).toNat = 2 from rfl, Nat.reduceMul, Nat.reduceEqDiff, Go.Addr.add, ↓reduceIte] at hx293_0)
                    have qi293 : (2 < t279.length) = True := eq_true (by omega)
                    (try rw [show ((2 : Int)).toNat = 2 from rfl] at hx293_0)
                    replace p293 := eq_true p293
                    replace q293 := eq_true q293
                    refine start_ (n := 12) (S := fun w' => w'.cell? ad284 = some (.int .i64 (rd t279 0)) ∧ w'.cell? ⟨ad284.block, ad284.off + 1, none⟩ = some (.int .i64 (rd t279 1)) ∧ w'.cell? ⟨ad284.block, ad284.off + 2, none⟩ = some (.int .i64 (rd t279 2))) (ds := []) #[false, false, false, false, false, false, false, false, false, false, false, false] (by kernel_rfl) rfl rfl ⟨hx291_0, hx292_0, hx293_0⟩ (fun hHeld => ?_); refine with_tabW palinoderef06_Decode.tab13 palinoderef06_Decode.bits13 (fun HT_ HW_ => ?_)
                    generalize w23.drew = w24 at HO283 HO290 BK278 HB hx291_0 hx292_0 hx293_0 hHeld ⊢
                    refine pure_ (i := 0) (N := some 51) (v := ?_) (a' := ?_) #[true, false, false, false, false, false, false, false, false, false, false, false] rfl rfl (any_of HT_.out (by kernel_rfl)) (fun _ _ _ h => h) (Or.inl ⟨by rfl, ?_⟩) ?_ ?_
                    rotate_left
                    · intro w'
                      go_simp
                      with_reducible rfl
                    rotate_left
                    · simp only [Act.put, List.setIfInBounds_toArray, List.set_cons_zero, List.set_cons_succ, i64_w, i32_w]
                      rfl
                    refine pure_ (i := 1) (N := some 52) (v := ?_) (a' := ?_) #[true, true, false, false, false, false, false, false, false, false, false, false] rfl rfl (any_of HT_.out (by kernel_rfl)) (fun _ _ _ h => h) (Or.inl ⟨by rfl, ?_⟩) ?_ ?_
                    rotate_left
                    · intro w'
                      go_simp
                      with_reducible rfl
                    rotate_left
                    · simp only [Act.put, List.setIfInBounds_toArray, List.set_cons_zero, List.set_cons_succ, i64_w, i32_w]
                      rfl
                    refine pure_ (i := 3) (N := some 54) (v := ?_) (a' := ?_) #[true, true, false, true, false, false, false, false, false, false, false, false] rfl rfl (any_of HT_.out (by kernel_rfl)) (fun _ _ _ h => h) (Or.inl ⟨by rfl, ?_⟩) ?_ ?_
                    rotate_left
                    · intro w'
                      go_simp
                      with_reducible rfl
                    rotate_left
                    · simp only [Act.put, List.setIfInBounds_toArray, List.set_cons_zero, List.set_cons_succ, i64_w, i32_w]
                      rfl
                    refine pure_ (i := 4) (N := some 55) (v := ?_) (a' := ?_) #[true, true, false, true, true, false, false, false, false, false, false, false] rfl rfl (any_of HT_.out (by kernel_rfl)) (fun _ _ _ h => h) (Or.inl ⟨by rfl, ?_⟩) ?_ ?_
                    rotate_left
                    · intro w'
                      go_simp
                      with_reducible rfl
                    rotate_left
                    · simp only [Act.put, List.setIfInBounds_toArray, List.set_cons_zero, List.set_cons_succ, i64_w, i32_w]
                      rfl
                    refine pure_ (i := 6) (N := some 57) (v := ?_) (a' := ?_) #[true, true, false, true, true, false, true, false, false, false, false, false] rfl rfl (any_of HT_.out (by kernel_rfl)) (fun _ _ _ h => h) (Or.inl ⟨by rfl, ?_⟩) ?_ ?_
                    rotate_left
                    · intro w'
                      go_simp
                      with_reducible rfl
                    rotate_left
                    · simp only [Act.put, List.setIfInBounds_toArray, List.set_cons_zero, List.set_cons_succ, i64_w, i32_w]
                      rfl
                    refine pure_ (i := 7) (N := some 58) (v := ?_) (a' := ?_) #[true, true, false, true, true, false, true, true, false, false, false, false] rfl rfl (any_of HT_.out (by kernel_rfl)) (fun _ _ _ h => h) (Or.inl ⟨by rfl, ?_⟩) ?_ ?_
                    rotate_left
                    · intro w'
                      go_simp
                      with_reducible rfl
                    rotate_left
                    · simp only [Act.put, List.setIfInBounds_toArray, List.set_cons_zero, List.set_cons_succ, i64_w, i32_w]
                      rfl
                    refine take_ (i := 2) (N := some 53) (v := ?_) (a' := ?_) #[true, true, true, true, true, false, true, true, false, false, false, false] rfl rfl (take_ofW HT_.out HW_.out (by kernel_rfl)) (fun _ _ _ h => h) (Or.inl ⟨by rfl, ?_⟩) hHeld ?_ ?_
                    rotate_left
                    · rintro w' ⟨s0, s1, s2⟩
                      go_simp
                      with_reducible rfl
                    rotate_left
                    · simp only [Act.put, List.setIfInBounds_toArray, List.set_cons_zero, List.set_cons_succ, i64_w, i32_w]
                      rfl
                    refine take_ (i := 5) (N := some 56) (v := ?_) (a' := ?_) #[true, true, true, true, true, true, true, true, false, false, false, false] rfl rfl (take_ofW HT_.out HW_.out (by kernel_rfl)) (fun _ _ _ h => h) (Or.inl ⟨by rfl, ?_⟩) hHeld ?_ ?_
                    rotate_left
                    · rintro w' ⟨s0, s1, s2⟩
                      go_simp
                      with_reducible rfl
                    rotate_left
                    · simp only [Act.put, List.setIfInBounds_toArray, List.set_cons_zero, List.set_cons_succ, i64_w, i32_w]
                      rfl
                    refine take_ (i := 8) (N := some 59) (v := ?_) (a' := ?_) #[true, true, true, true, true, true, true, true, true, false, false, false] rfl rfl (take_ofW HT_.out HW_.out (by kernel_rfl)) (fun _ _ _ h => h) (Or.inl ⟨by rfl, ?_⟩) hHeld ?_ ?_
                    rotate_left
                    · rintro w' ⟨s0, s1, s2⟩
                      go_simp
                      with_reducible rfl
                    rotate_left
                    · simp only [Act.put, List.setIfInBounds_toArray, List.set_cons_zero, List.set_cons_succ, i64_w, i32_w]
                      rfl
                    refine pure_ (i := 9) (N := some 60) (v := ?_) (a' := ?_) #[true, true, true, true, true, true, true, true, true, true, false, false] rfl rfl (any_of HT_.out (by kernel_rfl)) (fun _ _ _ h => h) (Or.inl ⟨by rfl, ?_⟩) ?_ ?_
                    rotate_left
                    · intro w'
                      go_simp
                      with_reducible rfl
                    rotate_left
                    · simp only [Act.put, List.setIfInBounds_toArray, List.set_cons_zero, List.set_cons_succ, i64_w, i32_w]
                      rfl
                    refine one_ (i := 10) (N := some 12) #[true, true, true, true, true, true, true, true, true, true, true, false] rfl rfl (one_of HT_.out (by kernel_rfl)) (by decide) (fun K hK => ?_)
                    refine box_step ?hg (N := 12) ?hd (cs := #[.int .i64 0, .int .i64 0, .int .i64 0, .slice none 0 0]) (t := 39) ?hr ?_; (case hd => rfl); (case hg => rfl); (case hr => first | (go_simp; done) | (go_simp; rfl))
                    intro gb294 hg w25 hbox hb
                    have HS0_ := (hb.cell (World.block_lt_of_cell? _ _ (hHeld.1))).trans (hHeld.1)
                    have HS1_ := (hb.cell (World.block_lt_of_cell? _ _ (hHeld.2.1))).trans (hHeld.2.1)
                    have HS2_ := (hb.cell (World.block_lt_of_cell? _ _ (hHeld.2.2))).trans (hHeld.2.2)
                    have n0_ := Aside0.mk (Kd.R_below (by (with_reducible repeat (first | apply Kd.R_alloc | apply Kd.R_drewN | apply Kd.R_drew)); exact HO283.out) hb)
                    have n1_ := Aside0.mk (Kd.R_below (by (with_reducible repeat (first | apply Kd.R_alloc | apply Kd.R_drewN | apply Kd.R_drew)); exact HO290.out) hb)
                    have n2_ := Aside0.mk (blk_below (g := gb278) (o := .cells #[.int .i64 0, .int .i64 0, .int .i64 0, .slice none 0 0] 39 (0, 0)) (by (with_reducible repeat (first | refine blk_drewN ?_ _ | refine blk_drew ?_ | refine blk_alloc ?_ _)); exact BK278.out) hb)
                    have n3_ := Aside0.mk (below_step (by repeat (first | (with_reducible first | exact HB.out | apply below_alloc | apply pw_below_drewN | apply below_drew1 | refine below_set ?_ GE278.out) | exact HB.out)) hb)
                    have n4_ := Aside0.mk (hbox)
                    have n5_ := Aside0.mk ((by rw [hg]; exact (below_size (by repeat (first | (with_reducible first | exact HB.out | apply below_alloc | apply pw_below_drewN | apply below_drew1 | refine below_set ?_ GE278.out) | exact HB.out))) : w.heap.size ≤ gb294))
                    have n6_ := Aside0.mk ((by rw [hg]; exact (below_size (by repeat (first | (with_reducible first | exact HB.out | apply below_alloc | apply pw_below_drewN | apply below_drew1 | refine below_set ?_ GE278.out) | exact HB.out))) : w.heap.size ≤ gb294))
                    have n7_ := Aside0.mk ((by rw [hg]; exact Nat.ne_of_lt (blk_lt (g := gb278) (o := .cells #[.int .i64 0, .int .i64 0, .int .i64 0, .slice none 0 0] 39 (0, 0)) (by (with_reducible repeat (first | refine blk_drewN ?_ _ | refine blk_drew ?_ | refine blk_alloc ?_ _)); exact BK278.out)) : gb278 ≠ gb294))
                    have n8_ := Aside0.mk ((by rw [hg]; exact Nat.ne_of_gt (blk_lt (g := gb278) (o := .cells #[.int .i64 0, .int .i64 0, .int .i64 0, .slice none 0 0] 39 (0, 0)) (by (with_reducible repeat (first | refine blk_drewN ?_ _ | refine blk_drew ?_ | refine blk_alloc ?_ _)); exact BK278.out)) : gb294 ≠ gb278))
                    clear HO283
                    clear HO290
                    clear BK278
                    clear HB
                    have HO283 := n0_
                    have HO290 := n1_
                    have BK278 := n2_
                    have HB := n3_
                    have BK294 := n4_
                    have GW294 := n5_
                    have GE294 := n6_
                    have NB278_294 := n7_
                    have NB294_278 := n8_
                    clear n0_ n1_ n2_ n3_ n4_ n5_ n6_ n7_ n8_
                    clear hb hbox hg
                    refine hK.out _ _ ⟨HS0_, HS1_, HS2_⟩ (fun hHeld => ?_)
                    clear hK K
                    refine norm_ (a' := ?_) ?_ ?_
                    rotate_left
                    · show Act.put _ (some 12) _ = _
                      simp only [Act.put, List.setIfInBounds_toArray, List.set_cons_zero, List.set_cons_succ, i64_w, i32_w]
                      rfl
                    refine one_ (i := 11) (N := none) #[true, true, true, true, true, true, true, true, true, true, true, true] rfl rfl (one_of HT_.out (by kernel_rfl)) (by decide) (fun K hK => ?_)
                    have hs26 : w25.cell? ⟨gb294, 0, none⟩ = some (.int .i64 0) := (blk_cell BK294.out 0).trans rfl
                    have hfs26 := blk_frozen BK294.out 0
                    have hns26_0 := NB278_294.out
                    have hms26_0 := NB294_278.out
                    have hs27 : w25.cell? ⟨gb294, 1, none⟩ = some (.int .i64 0) := (blk_cell BK294.out 1).trans rfl
                    have hfs27 := blk_frozen BK294.out 1
                    have hns27_0 := NB278_294.out
                    have hms27_0 := NB294_278.out
                    have hs28 : w25.cell? ⟨gb294, 2, none⟩ = some (.int .i64 0) := (blk_cell BK294.out 2).trans rfl
                    have hfs28 := blk_frozen BK294.out 2
                    have hns28_0 := NB278_294.out
                    have hms28_0 := NB294_278.out
                    have hs29 : w25.cell? ⟨gb294, 3, none⟩ = some (.slice none 0 0) := (blk_cell BK294.out 3).trans rfl
                    have hfs29 := blk_frozen BK294.out 3
                    have hns29_0 := NB278_294.out
                    have hms29_0 := NB294_278.out
                    refine skip_ (w1 := ?_) (by rfl) rfl ?_ ?_
                    rotate_left
                    · go_simp
                      rfl
                    refine hK.out _ _ ⟨((cell_far (p := ⟨gb294, _, none⟩) (by first | exact Kd.own_blk (Kd.R_ne HO283.out BK294.out (by decide)) | (rw [add_block]; exact Kd.own_blk (Kd.R_ne HO283.out BK294.out (by decide))) | (show (Addr.add _ _).block ≠ _; rw [add_block]; exact Kd.own_blk (Kd.R_ne HO283.out BK294.out (by decide))) | (dsimp only; exact Kd.own_blk (Kd.R_ne HO283.out BK294.out (by decide)))) _).trans (((cell_far (p := ⟨gb294, _, none⟩) (by first | exact Kd.own_blk (Kd.R_ne HO283.out BK294.out (by decide)) | (rw [add_block]; exact Kd.own_blk (Kd.R_ne HO283.out BK294.out (by decide))) | (show (Addr.add _ _).block ≠ _; rw [add_block]; exact Kd.own_blk (Kd.R_ne HO283.out BK294.out (by decide))) | (dsimp only; exact Kd.own_blk (Kd.R_ne HO283.out BK294.out (by decide)))) _).trans (((cell_far (p := ⟨gb294, _, none⟩) (by first | exact Kd.own_blk (Kd.R_ne HO283.out BK294.out (by decide)) | (rw [add_block]; exact Kd.own_blk (Kd.R_ne HO283.out BK294.out (by decide))) | (show (Addr.add _ _).block ≠ _; rw [add_block]; exact Kd.own_blk (Kd.R_ne HO283.out BK294.out (by decide))) | (dsimp only; exact Kd.own_blk (Kd.R_ne HO283.out BK294.out (by decide)))) _).trans (((cell_far (p := ⟨gb294, _, none⟩) (by first | exact Kd.own_blk (Kd.R_ne HO283.out BK294.out (by decide)) | (rw [add_block]; exact Kd.own_blk (Kd.R_ne HO283.out BK294.out (by decide))) | (show (Addr.add _ _).block ≠ _; rw [add_block]; exact Kd.own_blk (Kd.R_ne HO283.out BK294.out (by decide))) | (dsimp only; exact Kd.own_blk (Kd.R_ne HO283.out BK294.out (by decide)))) _).trans (hHeld.1)))))))), ((cell_far (p := ⟨gb294, _, none⟩) (by first | exact Kd.own_blk (Kd.R_ne HO283.out BK294.out (by decide)) | (rw [add_block]; exact Kd.own_blk (Kd.R_ne HO283.out BK294.out (by decide))) | (show (Addr.add _ _).block ≠ _; rw [add_block]; exact Kd.own_blk (Kd.R_ne HO283.out BK294.out (by decide))) | (dsimp only; exact Kd.own_blk (Kd.R_ne HO283.out BK294.out (by decide)))) _).trans (((cell_far (p := ⟨gb294, _, none⟩) (by first | exact Kd.own_blk (Kd.R_ne HO283.out BK294.out (by decide)) | (rw [add_block]; exact Kd.own_blk (Kd.R_ne HO283.out BK294.out (by decide))) | (show (Addr.add _ _).block ≠ _; rw [add_block]; exact Kd.own_blk (Kd.R_ne HO283.out BK294.out (by decide))) | (dsimp only; exact Kd.own_blk (Kd.R_ne HO283.out BK294.out (by decide)))) _).trans (((cell_far (p := ⟨gb294, _, none⟩) (by first | exact Kd.own_blk (Kd.R_ne HO283.out BK294.out (by decide)) | (rw [add_block]; exact Kd.own_blk (Kd.R_ne HO283.out BK294.out (by decide))) | (show (Addr.add _ _).block ≠ _; rw [add_block]; exact Kd.own_blk (Kd.R_ne HO283.out BK294.out (by decide))) | (dsimp only; exact Kd.own_blk (Kd.R_ne HO283.out BK294.out (by decide)))) _).trans (((cell_far (p := ⟨gb294, _, none⟩) (by first | exact Kd.own_blk (Kd.R_ne HO283.out BK294.out (by decide)) | (rw [add_block]; exact Kd.own_blk (Kd.R_ne HO283.out BK294.out (by decide))) | (show (Addr.add _ _).block ≠ _; rw [add_block]; exact Kd.own_blk (Kd.R_ne HO283.out BK294.out (by decide))) | (dsimp only; exact Kd.own_blk (Kd.R_ne HO283.out BK294.out (by decide)))) _).trans (hHeld.2.1)))))))), ((cell_far (p := ⟨gb294, _, none⟩) (by first | exact Kd.own_blk (Kd.R_ne HO283.out BK294.out (by decide)) | (rw [add_block]; exact Kd.own_blk (Kd.R_ne HO283.out BK294.out (by decide))) | (show (Addr.add _ _).block ≠ _; rw [add_block]; exact Kd.own_blk (Kd.R_ne HO283.out BK294.out (by decide))) | (dsimp only; exact Kd.own_blk (Kd.R_ne HO283.out BK294.out (by decide)))) _).trans (((cell_far (p := ⟨gb294, _, none⟩) (by first | exact Kd.own_blk (Kd.R_ne HO283.out BK294.out (by decide)) | (rw [add_block]; exact Kd.own_blk (Kd.R_ne HO283.out BK294.out (by decide))) | (show (Addr.add _ _).block ≠ _; rw [add_block]; exact Kd.own_blk (Kd.R_ne HO283.out BK294.out (by decide))) | (dsimp only; exact Kd.own_blk (Kd.R_ne HO283.out BK294.out (by decide)))) _).trans (((cell_far (p := ⟨gb294, _, none⟩) (by first | exact Kd.own_blk (Kd.R_ne HO283.out BK294.out (by decide)) | (rw [add_block]; exact Kd.own_blk (Kd.R_ne HO283.out BK294.out (by decide))) | (show (Addr.add _ _).block ≠ _; rw [add_block]; exact Kd.own_blk (Kd.R_ne HO283.out BK294.out (by decide))) | (dsimp only; exact Kd.own_blk (Kd.R_ne HO283.out BK294.out (by decide)))) _).trans (((cell_far (p := ⟨gb294, _, none⟩) (by first | exact Kd.own_blk (Kd.R_ne HO283.out BK294.out (by decide)) | (rw [add_block]; exact Kd.own_blk (Kd.R_ne HO283.out BK294.out (by decide))) | (show (Addr.add _ _).block ≠ _; rw [add_block]; exact Kd.own_blk (Kd.R_ne HO283.out BK294.out (by decide))) | (dsimp only; exact Kd.own_blk (Kd.R_ne HO283.out BK294.out (by decide)))) _).trans (hHeld.2.2))))))))⟩ (fun hHeld => ?_)
                    clear hK K
                    refine done_ (done_of HT_.out (by kernel_rfl)) ?_
                    try go_wp2
                    go_loopg [13] k (fun kq v13 w' => ∃ (x13_1 : Int) (x295003_1 : List (S42)) (u295003 : Value), v13 = .int .i64 x13_1 ∧ Aside0 (palinoderef06_Decode.l0 kq a0 t286 x13_1 (rd t279 0) (rd t279 1) (rd t279 2) x295003_1 = some (r1, r2, r3, r4, r5)) ∧ Aside0 (kq ≤ k) ∧ Aside0 (Kd.R (Kd.int .i64) 3 w' w.heap.size (fun _ => True) v289 t286) ∧ Aside0 (Kd.R k42 42 w' w.heap.size (fun _ => True) u295003 x295003_1) ∧ Aside0 (w'.heap[gb278]? = some (.cells #[.int .i64 0, .int .i64 0, .int .i64 0, (.slice none 0 0)] 39 (0, 0))) ∧ Aside0 (w'.heap[gb294]? = some (.cells #[.int .i64 (rd t279 0), .int .i64 (rd t279 1), .int .i64 (rd t279 2), u295003] 39 (0, 0))) ∧ Aside0 (Below w.heap.size w w'))
                    case atStart => exact ⟨(0), (([] : List (S42))), (.slice none 0 0), (by first | rfl | (simp; done) | (simp [*]; done)), H', ⟨Nat.le_refl _⟩, ⟨by (with_reducible repeat (first | apply Kd.R_alloc | apply Kd.R_drewN | apply Kd.R_drew)); exact Kd.R_mono (Kd.R_far (p := ⟨gb294, 3, none⟩) (Kd.R_far (p := ⟨gb294, 2, none⟩) (Kd.R_far (p := ⟨gb294, 1, none⟩) (Kd.R_far (p := ⟨gb294, 0, none⟩) (Kd.R_types HO290.out BK294.out (by decide)) (fun _ hk => hk.2) (.int .i64 (rd t279 0))) (fun _ hk => hk.2) (.int .i64 (rd t279 1))) (fun _ hk => hk.2) (.int .i64 (rd t279 2))) (fun _ hk => hk.2) (.slice none 0 0)) (fun _ hk => trivial)⟩, ⟨by first | exact Kd.R_nil _ _ _ _ _ | exact Kd.N_nil _ _ _ _ _ | exact Kd.V_nil _ _ _ _ _ | exact Kd.Q_nil _ _ _ _ _ | exact Kd.S_nil _ _ _ _ _⟩, ⟨by (with_reducible repeat (first | refine blk_drewN ?_ _ | refine blk_drew ?_ | refine blk_alloc ?_ _)); refine blk_far ?_ NB278_294.out _; (with_reducible repeat (first | refine blk_drewN ?_ _ | refine blk_drew ?_ | refine blk_alloc ?_ _)); refine blk_far ?_ NB278_294.out _; (with_reducible repeat (first | refine blk_drewN ?_ _ | refine blk_drew ?_ | refine blk_alloc ?_ _)); refine blk_far ?_ NB278_294.out _; (with_reducible repeat (first | refine blk_drewN ?_ _ | refine blk_drew ?_ | refine blk_alloc ?_ _)); refine blk_far ?_ NB278_294.out _; (with_reducible repeat (first | refine blk_drewN ?_ _ | refine blk_drew ?_ | refine blk_alloc ?_ _)); exact BK278.out⟩, ⟨by (with_reducible repeat (first | refine blk_drewN ?_ _ | refine blk_drew ?_ | refine blk_alloc ?_ _)); refine blk_put (cs := #[.int .i64 (rd t279 0), .int .i64 (rd t279 1), .int .i64 (rd t279 2), .slice none 0 0]) ?_ 3 _ rfl; (with_reducible repeat (first | refine blk_drewN ?_ _ | refine blk_drew ?_ | refine blk_alloc ?_ _)); refine blk_put (cs := #[.int .i64 (rd t279 0), .int .i64 (rd t279 1), .int .i64 0, .slice none 0 0]) ?_ 2 _ rfl; (with_reducible repeat (first | refine blk_drewN ?_ _ | refine blk_drew ?_ | refine blk_alloc ?_ _)); refine blk_put (cs := #[.int .i64 (rd t279 0), .int .i64 0, .int .i64 0, .slice none 0 0]) ?_ 1 _ rfl; (with_reducible repeat (first | refine blk_drewN ?_ _ | refine blk_drew ?_ | refine blk_alloc ?_ _)); refine blk_put (cs := #[.int .i64 0, .int .i64 0, .int .i64 0, .slice none 0 0]) ?_ 0 _ rfl; (with_reducible repeat (first | refine blk_drewN ?_ _ | refine blk_drew ?_ | refine blk_alloc ?_ _)); exact BK294.out⟩, ⟨by repeat (first | (with_reducible first | exact HB.out | apply below_alloc | apply pw_below_drewN | apply below_drew1 | refine below_set ?_ GE278.out | refine below_set ?_ GE294.out) | exact HB.out)⟩⟩
                    case round =>
                      clear H'
                      try clear c1
                      try clear c2
                      try clear p2
                      try clear q2
                      try clear hx2
                      try clear qi2
                      try clear c3
                      try clear c3b0
                      try clear c3b1
                      try clear p6
                      try clear c7
                      try clear c7b0
                      try clear c7b1
                      try clear c8
                      try clear c8b0
                      try clear c8b1
                      try clear c9
                      try clear c9b0
                      try clear c15
                      try clear c15b0
                      try clear c15b1
                      try clear c16
                      try clear c16b0
                      try clear c16b1
                      try clear c17
                      try clear c17b0
                      try clear c17b1
                      try clear c18
                      try clear c18b0
                      try clear c18b1
                      try clear c19
                      try clear c19b0
                      try clear c19b1
                      try clear c27
                      try clear p28
                      try clear q28
                      try clear hx28
                      try clear qi28
                      try clear p29
                      try clear q29
                      try clear hx29
                      try clear qi29
                      try clear hcz13_0
                      try clear hcz13_1
                      try clear hcz13_2
                      try clear hcz13_3
                      try clear hcz5_0
                      try clear hcz5_1
                      try clear hcz5_2
                      try clear hcz5_3
                      try clear hfz13_0
                      try clear hfz13_1
                      try clear hfz13_2
                      try clear hfz13_3
                      try clear hfz5_0
                      try clear hfz5_1
                      try clear hfz5_2
                      try clear hfz5_3
                      try clear hx284_0
                      try clear hx285_0
                      try clear hx291_0
                      try clear hx292_0
                      try clear hx293_0
                      try clear p284
                      try clear p285
                      try clear p291
                      try clear p292
                      try clear p293
                      try clear q284
                      try clear q285
                      try clear q291
                      try clear q292
                      try clear q293
                      obtain ⟨x13_1, x295003_1, u295003, rfl, HA, HK1, HO_9, HO_295003, BK278, BK294, HB⟩ := hrel
                      cases gk with
                      | zero => exact absurd HA.out (by simp [palinoderef06_Decode.l0])
                      | succ k1 =>
                        have H := HA.out
                        clear HA
                        simp only [palinoderef06_Decode.l0] at H
                        by_cases c30 : x13_1 < (t286.length : Int)
                        · rw [if_pos c30] at H
                          have c30b0 : decide (x13_1 < (t286.length : Int)) = true := decide_eq_true c30
                          clear c30
                          by_cases c31 : 0 ≤ x13_1
                          · rw [if_pos c31] at H
                            have c31b0 : decide (0 ≤ x13_1) = true := decide_eq_true c31
                            clear c31
                            obtain ⟨ji32, hji32⟩ : ∃ j_ : Int, (wrap64 (x13_1 + 1)) = j_ := ⟨_, rfl⟩
                            replace H : (if 0 ≤ (ji32) then (if (ji32) < (t286.length : Int) then (if 0 ≤ (wrap64 (x13_1 + 2)) then (if (wrap64 (x13_1 + 2)) < (t286.length : Int) then (if x295003_1.length < 5864062014805 then (palinoderef06_Decode.l0 k1 a0 t286 (wrap64 (x13_1 + 3)) (rd t279 0) (rd t279 1) (rd t279 2) (x295003_1 ++ [(⟨rd t286 x13_1, rd t286 (ji32), rd t286 (wrap64 (x13_1 + 2))⟩ : S42)])) else (none)) else (none)) else (none)) else (none)) else (none)) = some (r1, r2, r3, r4, r5) := by first | (rw [hji32] at H; exact H) | (simp only [hji32] at H ⊢; exact H)
                            have hji32w : (IntKind.i64.wrap (x13_1 + 1)) = ji32 := (i64_w _).trans hji32
                            by_cases c33 : 0 ≤ (ji32)
                            · rw [if_pos c33] at H
                              have c33b0 : decide (0 ≤ (ji32)) = true := decide_eq_true c33
                              clear c33
                              by_cases c34 : (ji32) < (t286.length : Int)
                              · rw [if_pos c34] at H
                                have c34b0 : decide ((ji32) < (t286.length : Int)) = true := decide_eq_true c34
                                clear c34
                                obtain ⟨ji35, hji35⟩ : ∃ j_ : Int, (wrap64 (x13_1 + 2)) = j_ := ⟨_, rfl⟩
                                replace H : (if 0 ≤ (ji35) then (if (ji35) < (t286.length : Int) then (if x295003_1.length < 5864062014805 then (palinoderef06_Decode.l0 k1 a0 t286 (wrap64 (x13_1 + 3)) (rd t279 0) (rd t279 1) (rd t279 2) (x295003_1 ++ [(⟨rd t286 x13_1, rd t286 (ji32), rd t286 (ji35)⟩ : S42)])) else (none)) else (none)) else (none)) = some (r1, r2, r3, r4, r5) := by first | (rw [hji35] at H; exact H) | (simp only [hji35] at H ⊢; exact H)
                                have hji35w : (IntKind.i64.wrap (x13_1 + 2)) = ji35 := (i64_w _).trans hji35
                                by_cases c36 : 0 ≤ (ji35)
                                · rw [if_pos c36] at H
                                  have c36b0 : decide (0 ≤ (ji35)) = true := decide_eq_true c36
                                  clear c36
                                  by_cases c37 : (ji35) < (t286.length : Int)
                                  · rw [if_pos c37] at H
                                    have c37b0 : decide ((ji35) < (t286.length : Int)) = true := decide_eq_true c37
                                    clear c37
                                    by_cases c38 : x295003_1.length < 5864062014805
                                    · rw [if_pos c38] at H
                                      have LMc38 := Aside0.mk c38
                                      clear c38
                                      obtain ⟨y298, hy298⟩ : ∃ y_ : List (S42), y_ = (x295003_1 ++ [(⟨rd t286 x13_1, rd t286 (ji32), rd t286 (ji35)⟩ : S42)]) := ⟨_, rfl⟩
                                      replace H : (palinoderef06_Decode.l0 k1 a0 t286 (wrap64 (x13_1 + 3)) (rd t279 0) (rd t279 1) (rd t279 2) y298) = some (r1, r2, r3, r4, r5) := by first | (rw [hy298]; with_reducible exact H) | (have H2_ := (Option.bind_some _ _).symm.trans H; rw [hy298]; with_reducible exact H2_) | (have H2_ := (Option.bind_some _ _).symm.trans H; with_reducible exact H2_) | with_reducible exact H | (rw [hy298]; exact H) | exact H
                                      have Ny298 := Aside0.mk hy298
                                      clear hy298
                                      have H' := Aside0.mk H
                                      clear H
                                      obtain ⟨Ao39, co39, eo39⟩ := Kd.R_slice HO_9.out
                                      subst eo39
                                      try go_wp2
                                      have n0_ := Aside0.mk (Kd.R_drew HO_9.out)
                                      have n1_ := Aside0.mk (Kd.R_drew HO_295003.out)
                                      have n2_ := Aside0.mk (blk_drew BK278.out)
                                      have n3_ := Aside0.mk (blk_drew BK294.out)
                                      have n4_ := Aside0.mk (below_drew1 HB.out)
                                      clear HO_9
                                      clear HO_295003
                                      clear BK278
                                      clear BK294
                                      clear HB
                                      have HO_9 := n0_
                                      have HO_295003 := n1_
                                      have BK278 := n2_
                                      have BK294 := n3_
                                      have HB := n4_
                                      clear n0_ n1_ n2_ n3_ n4_
                                      have p295 : 0 ≤ (x13_1 : Int) := of_decide_eq_true (by first | (with_reducible assumption) | assumption)
                                      have q295 : x13_1 < (t286.length : Int) := of_decide_eq_true (by first | (with_reducible assumption) | assumption)
                                      obtain ⟨ad295, e295, hx295_0⟩ := Kd.at_int (Kd.R_reads' HO_9.out).2.2 x13_1 p295 q295
                                      cases e295
                                      replace p295 := eq_true p295
                                      replace q295 := eq_true q295
                                      have p296 : 0 ≤ ((ji32) : Int) := of_decide_eq_true (by first | (with_reducible assumption) | assumption)
                                      have q296 : (ji32) < (t286.length : Int) := of_decide_eq_true (by first | (with_reducible assumption) | assumption)
                                      obtain ⟨ad296, e296, hx296_0⟩ := Kd.at_int (Kd.R_reads' HO_9.out).2.2 (ji32) p296 q296
                                      obtain rfl : ad295 = ad296 := (by injection e296)
                                      replace p296 := eq_true p296
                                      replace q296 := eq_true q296
                                      have p297 : 0 ≤ ((ji35) : Int) := of_decide_eq_true (by first | (with_reducible assumption) | assumption)
                                      have q297 : (ji35) < (t286.length : Int) := of_decide_eq_true (by first | (with_reducible assumption) | assumption)
                                      obtain ⟨ad297, e297, hx297_0⟩ := Kd.at_int (Kd.R_reads' HO_9.out).2.2 (ji35) p297 q297
                                      obtain rfl : ad295 = ad297 := (by injection e297)
                                      replace p297 := eq_true p297
                                      replace q297 := eq_true q297
                                      refine start_ (n := 21) (S := fun w' => w'.cell? ⟨gb294, 0, none⟩ = some (.int .i64 (rd t279 0)) ∧ w'.cell? ⟨gb294, 1, none⟩ = some (.int .i64 (rd t279 1)) ∧ w'.cell? ⟨gb294, 2, none⟩ = some (.int .i64 (rd t279 2)) ∧ w'.cell? ⟨gb294, 3, none⟩ = some (u295003) ∧ w'.cell? (ad295.add (x13_1).toNat) = some (.int .i64 (rd t286 x13_1)) ∧ w'.cell? (ad295.add ((ji32)).toNat) = some (.int .i64 (rd t286 (ji32))) ∧ w'.cell? (ad295.add ((ji35)).toNat) = some (.int .i64 (rd t286 (ji35)))) (ds := [18, 20]) #[false, false, false, false, false, false, false, false, false, false, false, false, false, false, false, false, false, false, false, false, false] (by kernel_rfl) rfl rfl ⟨(blk_cell BK294.out 0).trans rfl, (blk_cell BK294.out 1).trans rfl, (blk_cell BK294.out 2).trans rfl, (blk_cell BK294.out 3).trans rfl, hx295_0, hx296_0, hx297_0⟩ (fun hHeld => ?_); refine with_tabW palinoderef06_Decode.tab17 palinoderef06_Decode.bits17 (fun HT_ HW_ => ?_)
                                      generalize wr.drew = w40 at HO_9 HO_295003 BK278 BK294 HB hx295_0 hx296_0 hx297_0 hHeld ⊢
                                      refine pure_ (i := 0) (N := some 67) (v := ?_) (a' := ?_) #[true, false, false, false, false, false, false, false, false, false, false, false, false, false, false, false, false, false, false, false, false] rfl rfl (any_of HT_.out (by kernel_rfl)) (fun _ _ _ h => h) (Or.inl ⟨by rfl, ?_⟩) ?_ ?_
                                      rotate_left
                                      · intro w'
                                        go_simp
                                        with_reducible rfl
                                      rotate_left
                                      · simp only [Act.put, List.setIfInBounds_toArray, List.set_cons_zero, List.set_cons_succ, i64_w, i32_w]
                                        rfl
                                      refine pure_ (i := 2) (N := some 69) (v := ?_) (a' := ?_) #[true, false, true, false, false, false, false, false, false, false, false, false, false, false, false, false, false, false, false, false, false] rfl rfl (any_of HT_.out (by kernel_rfl)) (fun _ _ _ h => h) (Or.inl ⟨by rfl, ?_⟩) ?_ ?_
                                      rotate_left
                                      · intro w'
                                        go_simp
                                        with_reducible rfl
                                      rotate_left
                                      · simp only [Act.put, List.setIfInBounds_toArray, List.set_cons_zero, List.set_cons_succ, i64_w, i32_w]
                                        rfl
                                      refine pure_ (i := 3) (N := some 70) (v := ?_) (a' := ?_) #[true, false, true, true, false, false, false, false, false, false, false, false, false, false, false, false, false, false, false, false, false] rfl rfl (any_of HT_.out (by kernel_rfl)) (fun _ _ _ h => h) (Or.inl ⟨by rfl, ?_⟩) ?_ ?_
                                      rotate_left
                                      · intro w'
                                        go_simp
                                        with_reducible rfl
                                      rotate_left
                                      · simp only [Act.put, List.setIfInBounds_toArray, List.set_cons_zero, List.set_cons_succ, i64_w, i32_w]
                                        rfl
                                      refine pure_ (i := 4) (N := some 71) (v := ?_) (a' := ?_) #[true, false, true, true, true, false, false, false, false, false, false, false, false, false, false, false, false, false, false, false, false] rfl rfl (any_of HT_.out (by kernel_rfl)) (fun _ _ _ h => h) (Or.inl ⟨by rfl, ?_⟩) ?_ ?_
                                      rotate_left
                                      · intro w'
                                        go_simp
                                        with_reducible rfl
                                      rotate_left
                                      · simp only [Act.put, List.setIfInBounds_toArray, List.set_cons_zero, List.set_cons_succ, i64_w, i32_w]
                                        rfl
                                      refine pure_ (i := 6) (N := some 73) (v := ?_) (a' := ?_) #[true, false, true, true, true, false, true, false, false, false, false, false, false, false, false, false, false, false, false, false, false] rfl rfl (any_of HT_.out (by kernel_rfl)) (fun _ _ _ h => h) (Or.inl ⟨by rfl, ?_⟩) ?_ ?_
                                      rotate_left
                                      · intro w'
                                        go_simp
                                        with_reducible rfl
                                      rotate_left
                                      · simp only [Act.put, List.setIfInBounds_toArray, List.set_cons_zero, List.set_cons_succ, i64_w, i32_w]
                                        rfl
                                      refine pure_ (i := 7) (N := some 74) (v := ?_) (a' := ?_) #[true, false, true, true, true, false, true, true, false, false, false, false, false, false, false, false, false, false, false, false, false] rfl rfl (any_of HT_.out (by kernel_rfl)) (fun _ _ _ h => h) (Or.inl ⟨by rfl, ?_⟩) ?_ ?_
                                      rotate_left
                                      · intro w'
                                        go_simp
                                        with_reducible rfl
                                      rotate_left
                                      · simp only [Act.put, List.setIfInBounds_toArray, List.set_cons_zero, List.set_cons_succ, i64_w, i32_w]
                                        rfl
                                      refine pure_ (i := 8) (N := some 75) (v := ?_) (a' := ?_) #[true, false, true, true, true, false, true, true, true, false, false, false, false, false, false, false, false, false, false, false, false] rfl rfl (any_of HT_.out (by kernel_rfl)) (fun _ _ _ h => h) (Or.inl ⟨by rfl, ?_⟩) ?_ ?_
                                      rotate_left
                                      · intro w'
                                        go_simp
                                        with_reducible rfl
                                      rotate_left
                                      · simp only [Act.put, List.setIfInBounds_toArray, List.set_cons_zero, List.set_cons_succ, i64_w, i32_w]
                                        rfl
                                      refine pure_ (i := 9) (N := some 76) (v := ?_) (a' := ?_) #[true, false, true, true, true, false, true, true, true, true, false, false, false, false, false, false, false, false, false, false, false] rfl rfl (any_of HT_.out (by kernel_rfl)) (fun _ _ _ h => h) (Or.inl ⟨by rfl, ?_⟩) ?_ ?_
                                      rotate_left
                                      · intro w'
                                        go_simp
                                        with_reducible rfl
                                      rotate_left
                                      · simp only [Act.put, List.setIfInBounds_toArray, List.set_cons_zero, List.set_cons_succ, i64_w, i32_w]
                                        rfl
                                      refine pure_ (i := 11) (N := some 78) (v := ?_) (a' := ?_) #[true, false, true, true, true, false, true, true, true, true, false, true, false, false, false, false, false, false, false, false, false] rfl rfl (any_of HT_.out (by kernel_rfl)) (fun _ _ _ h => h) (Or.inl ⟨by rfl, ?_⟩) ?_ ?_
                                      rotate_left
                                      · intro w'
                                        go_simp
                                        with_reducible rfl
                                      rotate_left
                                      · simp only [Act.put, List.setIfInBounds_toArray, List.set_cons_zero, List.set_cons_succ, i64_w, i32_w]
                                        rfl
                                      refine pure_ (i := 12) (N := some 79) (v := ?_) (a' := ?_) #[true, false, true, true, true, false, true, true, true, true, false, true, true, false, false, false, false, false, false, false, false] rfl rfl (any_of HT_.out (by kernel_rfl)) (fun _ _ _ h => h) (Or.inl ⟨by rfl, ?_⟩) ?_ ?_
                                      rotate_left
                                      · intro w'
                                        go_simp
                                        with_reducible rfl
                                      rotate_left
                                      · simp only [Act.put, List.setIfInBounds_toArray, List.set_cons_zero, List.set_cons_succ, i64_w, i32_w]
                                        rfl
                                      refine pure_ (i := 13) (N := some 80) (v := ?_) (a' := ?_) #[true, false, true, true, true, false, true, true, true, true, false, true, true, true, false, false, false, false, false, false, false] rfl rfl (any_of HT_.out (by kernel_rfl)) (fun _ _ _ h => h) (Or.inl ⟨by rfl, ?_⟩) ?_ ?_
                                      rotate_left
                                      · intro w'
                                        go_simp
                                        with_reducible rfl
                                      rotate_left
                                      · simp only [Act.put, List.setIfInBounds_toArray, List.set_cons_zero, List.set_cons_succ, i64_w, i32_w]
                                        rfl
                                      refine pure_ (i := 14) (N := some 81) (v := ?_) (a' := ?_) #[true, false, true, true, true, false, true, true, true, true, false, true, true, true, true, false, false, false, false, false, false] rfl rfl (any_of HT_.out (by kernel_rfl)) (fun _ _ _ h => h) (Or.inl ⟨by rfl, ?_⟩) ?_ ?_
                                      rotate_left
                                      · intro w'
                                        go_simp
                                        with_reducible rfl
                                      rotate_left
                                      · simp only [Act.put, List.setIfInBounds_toArray, List.set_cons_zero, List.set_cons_succ, i64_w, i32_w]
                                        rfl
                                      refine take_ (i := 1) (N := some 68) (v := ?_) (a' := ?_) #[true, true, true, true, true, false, true, true, true, true, false, true, true, true, true, false, false, false, false, false, false] rfl rfl (take_ofW HT_.out HW_.out (by kernel_rfl)) (fun _ _ _ h => h) (Or.inl ⟨by rfl, ?_⟩) hHeld ?_ ?_
                                      rotate_left
                                      · rintro w' ⟨s0, s1, s2, s3, s4, s5, s6⟩
                                        go_simp
                                        with_reducible rfl
                                      rotate_left
                                      · simp only [Act.put, List.setIfInBounds_toArray, List.set_cons_zero, List.set_cons_succ, i64_w, i32_w]
                                        rfl
                                      refine take_ (i := 5) (N := some 72) (v := ?_) (a' := ?_) #[true, true, true, true, true, true, true, true, true, true, false, true, true, true, true, false, false, false, false, false, false] rfl rfl (take_ofW HT_.out HW_.out (by kernel_rfl)) (fun _ _ _ h => h) (Or.inl ⟨by rfl, ?_⟩) hHeld ?_ ?_
                                      rotate_left
                                      · rintro w' ⟨s0, s1, s2, s3, s4, s5, s6⟩
                                        go_simp
                                        with_reducible rfl
                                      rotate_left
                                      · simp only [Act.put, List.setIfInBounds_toArray, List.set_cons_zero, List.set_cons_succ, i64_w, i32_w]
                                        rfl
                                      refine take_ (i := 10) (N := some 77) (v := ?_) (a' := ?_) #[true, true, true, true, true, true, true, true, true, true, true, true, true, true, true, false, false, false, false, false, false] rfl rfl (take_ofW HT_.out HW_.out (by kernel_rfl)) (fun _ _ _ h => h) (Or.inl ⟨by rfl, ?_⟩) hHeld ?_ ?_
                                      rotate_left
                                      · rintro w' ⟨s0, s1, s2, s3, s4, s5, s6⟩
                                        go_simp
                                        with_reducible rfl
                                      rotate_left
                                      · simp only [Act.put, List.setIfInBounds_toArray, List.set_cons_zero, List.set_cons_succ, i64_w, i32_w]
                                        rfl
                                      refine take_ (i := 15) (N := some 82) (v := ?_) (a' := ?_) #[true, true, true, true, true, true, true, true, true, true, true, true, true, true, true, true, false, false, false, false, false] rfl rfl (take_ofW HT_.out HW_.out (by kernel_rfl)) (fun _ _ _ h => h) (Or.inl ⟨by rfl, ?_⟩) hHeld ?_ ?_
                                      rotate_left
                                      · rintro w' ⟨s0, s1, s2, s3, s4, s5, s6⟩
                                        go_simp
                                        with_reducible rfl
                                      rotate_left
                                      · simp only [Act.put, List.setIfInBounds_toArray, List.set_cons_zero, List.set_cons_succ, i64_w, i32_w]
                                        rfl
                                      refine pure_ (i := 16) (N := some 83) (v := ?_) (a' := ?_) #[true, true, true, true, true, true, true, true, true, true, true, true, true, true, true, true, true, false, false, false, false] rfl rfl (any_of HT_.out (by kernel_rfl)) (fun _ _ _ h => h) (Or.inl ⟨by rfl, ?_⟩) ?_ ?_
                                      rotate_left
                                      · intro w'
                                        go_simp
                                        with_reducible rfl
                                      rotate_left
                                      · simp only [Act.put, List.setIfInBounds_toArray, List.set_cons_zero, List.set_cons_succ, i64_w, i32_w]
                                        rfl
                                      refine one_ (i := 17) (N := some 84) #[true, true, true, true, true, true, true, true, true, true, true, true, true, true, true, true, true, true, false, false, false] rfl rfl (one_of HT_.out (by kernel_rfl)) (by decide) (fun K hK => ?_)
                                      refine value_ (w1 := ?_) (v := ?_) (by rfl) rfl ?_ ?_
                                      rotate_left 2
                                      · go_simp
                                        constructor
                                        · rfl
                                        · rfl
                                      refine hK.out _ _ ⟨(blk_cell (blk_alloc BK294.out _) 0).trans rfl, (blk_cell (blk_alloc BK294.out _) 1).trans rfl, (blk_cell (blk_alloc BK294.out _) 2).trans rfl, (blk_cell (blk_alloc BK294.out _) 3).trans rfl, (World.cell?_alloc_lt _ _ _ (World.block_lt_of_cell? _ _ (hHeld.2.2.2.2.1))).trans (hHeld.2.2.2.2.1), (World.cell?_alloc_lt _ _ _ (World.block_lt_of_cell? _ _ (hHeld.2.2.2.2.2.1))).trans (hHeld.2.2.2.2.2.1), (World.cell?_alloc_lt _ _ _ (World.block_lt_of_cell? _ _ (hHeld.2.2.2.2.2.2))).trans (hHeld.2.2.2.2.2.2)⟩ (fun hHeld => ?_)
                                      clear hK K
                                      refine norm_ (a' := ?_) ?_ ?_
                                      rotate_left
                                      · show Act.put _ (some 84) _ = _
                                        simp only [Act.put, List.setIfInBounds_toArray, List.set_cons_zero, List.set_cons_succ, i64_w, i32_w]
                                        rfl
                                      refine last_ (i := 18) (N := some 85) #[true, true, true, true, true, true, true, true, true, true, true, true, true, true, true, true, true, true, true, false, false] rfl rfl (one_of HT_.out (by kernel_rfl)) (by decide) (fun K hK => ?_)
                                      refine Kd.R_append_step k42 (w0 := w) w.heap.size (by rfl) (.tmp 68) (.tmp 84) 37 42 (.agg #[(.int .i64 0), (.int .i64 0), (.int .i64 0)]) 24 rfl Try.underlying37 info42 rfl (by decide) (by omega) u295003 x295003_1 (⟨rd t286 x13_1, rd t286 (ji32), rd t286 (ji35)⟩ : S42) [.int .i64 (rd t286 x13_1), .int .i64 (rd t286 (ji32)), .int .i64 (rd t286 (ji35))] (fun _ => True) (fun _ => False) rfl rfl ?aP (fun _ hk => hk.elim) ?aF ?aO ?aB ?aS ?aL ?_
                                      (case aP => exact k42_mkM _ _ _ (⟨rd t286 x13_1, rd t286 (ji32), rd t286 (ji35)⟩ : S42))
                                      (case aB => exact (by repeat (first | (with_reducible first | exact HB.out | apply below_alloc | apply pw_below_drewN | apply below_drew1 | refine below_set ?_ GE278.out | refine below_set ?_ GE294.out) | exact HB.out)))
                                      (case aF => exact (fun _ _ => trivial))
                                      (case aO => exact (by (with_reducible repeat (first | apply Kd.R_alloc | apply Kd.R_drewN | apply Kd.R_drew)); exact HO_295003.out))
                                      (case aS => exact (below_size (by repeat (first | (with_reducible first | exact HB.out | apply below_alloc | apply pw_below_drewN | apply below_drew1 | refine below_set ?_ GE278.out | refine below_set ?_ GE294.out) | exact HB.out))))
                                      (case aL => have := LMc38.out; omega)
                                      intro v299 w41 ho hb hg hat
                                      rw [← Ny298.out] at ho
                                      have n0_ := Aside0.mk (Kd.R_over' (by (with_reducible repeat (first | apply Kd.R_alloc | apply Kd.R_drewN | apply Kd.R_drew)); exact HO_9.out) (Kd.R_typed (by (with_reducible repeat (first | apply Kd.R_alloc | apply Kd.R_drewN | apply Kd.R_drew)); exact HO_295003.out)) (by decide) hg)
                                      have n1_ := Aside0.mk (blk_grown (g := gb278) (o := .cells #[.int .i64 0, .int .i64 0, .int .i64 0, .slice none 0 0] 39 (0, 0)) (by (with_reducible repeat (first | refine blk_drewN ?_ _ | refine blk_drew ?_ | refine blk_alloc ?_ _)); exact BK278.out) hg (Kd.R_ne HO_295003.out BK278.out (by decide)))
                                      have n2_ := Aside0.mk (blk_grown (g := gb294) (o := .cells #[.int .i64 (rd t279 0), .int .i64 (rd t279 1), .int .i64 (rd t279 2), u295003] 39 (0, 0)) (by (with_reducible repeat (first | refine blk_drewN ?_ _ | refine blk_drew ?_ | refine blk_alloc ?_ _)); exact BK294.out) hg (Kd.R_ne HO_295003.out BK294.out (by decide)))
                                      have n3_ := Aside0.mk (hb)
                                      have n4_ := Aside0.mk (ho)
                                      clear HO_9
                                      clear BK278
                                      clear BK294
                                      clear HB
                                      clear HO_295003
                                      have HO_9 := n0_
                                      have BK278 := n1_
                                      have BK294 := n2_
                                      have HB := n3_
                                      have HO300 := n4_
                                      clear n0_ n1_ n2_ n3_ n4_
                                      clear ho hb hg hat
                                      obtain ⟨Ao42, co42, eo42⟩ := Kd.R_slice HO300.out
                                      (first | subst eo42 | (injection eo42 with f1_ f2_ f3_; have f4_ := f1_.symm; have f5_ := f3_.symm; clear f1_ f2_ f3_; subst f4_; subst f5_))
                                      refine hK.out _ _ ?_
                                      clear hK K
                                      refine norm_ (a' := ?_) ?_ ?_
                                      rotate_left
                                      · show Act.put _ (some 85) _ = _
                                        simp only [Act.put, List.setIfInBounds_toArray, List.set_cons_zero, List.set_cons_succ, i64_w, i32_w]
                                        rfl
                                      refine pure_ (i := 19) (N := some 86) (v := ?_) (a' := ?_) #[true, true, true, true, true, true, true, true, true, true, true, true, true, true, true, true, true, true, true, true, false] rfl rfl (any_of HT_.out (by kernel_rfl)) (fun _ _ _ h => h) (Or.inl ⟨by rfl, ?_⟩) ?_ ?_
                                      rotate_left
                                      · intro w'
                                        go_simp
                                        with_reducible rfl
                                      rotate_left
                                      · simp only [Act.put, List.setIfInBounds_toArray, List.set_cons_zero, List.set_cons_succ, i64_w, i32_w]
                                        rfl
                                      refine last_ (i := 20) (N := none) #[true, true, true, true, true, true, true, true, true, true, true, true, true, true, true, true, true, true, true, true, true] rfl rfl (one_of HT_.out (by kernel_rfl)) (by decide) (fun K hK => ?_)
                                      have hs43 : w41.cell? ⟨gb294, 3, none⟩ = some (u295003) := (blk_cell BK294.out 3).trans rfl
                                      have hfs43 := blk_frozen BK294.out 3
                                      have hns43_0 := NB278_294.out
                                      have hms43_0 := NB294_278.out
                                      refine skip_ (w1 := ?_) (by rfl) rfl ?_ ?_
                                      rotate_left
                                      · go_simp
                                        rfl
                                      refine hK.out _ _ ?_
                                      clear hK K
                                      refine done_ (done_of HT_.out (by kernel_rfl)) ?_
                                      try go_wp2
                                      go_roundg k1
                                      case measure => have := HK1.out; omega
                                      case rel => exact ⟨(wrap64 (x13_1 + 3)), (y298), (.slice Ao42 y298.length co42), (by first | rfl | (simp; done) | (simp [*]; done)), H', ⟨by have := HK1.out; omega⟩, ⟨by (with_reducible repeat (first | apply Kd.R_alloc | apply Kd.R_drewN | apply Kd.R_drew)); exact Kd.R_mono (Kd.R_far (p := ⟨gb294, 3, none⟩) (Kd.R_types HO_9.out BK294.out (by decide)) (fun _ hk => hk.2) (.slice Ao42 y298.length co42)) (fun _ hk => trivial)⟩, ⟨by (with_reducible repeat (first | apply Kd.R_alloc | apply Kd.R_drewN | apply Kd.R_drew)); exact Kd.R_mono (Kd.R_far (p := ⟨gb294, 3, none⟩) (Kd.R_types HO300.out BK294.out (by decide)) (fun _ hk => hk.2) (.slice Ao42 y298.length co42)) (fun _ hk => trivial)⟩, ⟨by (with_reducible repeat (first | refine blk_drewN ?_ _ | refine blk_drew ?_ | refine blk_alloc ?_ _)); refine blk_far ?_ NB278_294.out _; (with_reducible repeat (first | refine blk_drewN ?_ _ | refine blk_drew ?_ | refine blk_alloc ?_ _)); exact BK278.out⟩, ⟨by (with_reducible repeat (first | refine blk_drewN ?_ _ | refine blk_drew ?_ | refine blk_alloc ?_ _)); refine blk_put (cs := #[.int .i64 (rd t279 0), .int .i64 (rd t279 1), .int .i64 (rd t279 2), u295003]) ?_ 3 _ rfl; (with_reducible repeat (first | refine blk_drewN ?_ _ | refine blk_drew ?_ | refine blk_alloc ?_ _)); exact BK294.out⟩, ⟨by repeat (first | (with_reducible first | exact HB.out | apply below_alloc | apply pw_below_drewN | apply below_drew1 | refine below_set ?_ GE278.out | refine below_set ?_ GE294.out) | exact HB.out)⟩⟩
                                    · rw [if_neg c38] at H
                                      exact absurd H (by simp)
                                  · rw [if_neg c37] at H
                                    exact absurd H (by simp)
                                · rw [if_neg c36] at H
                                  exact absurd H (by simp)
                              · rw [if_neg c34] at H
                                exact absurd H (by simp)
                            · rw [if_neg c33] at H
                              exact absurd H (by simp)
                          · rw [if_neg c31] at H
                            exact absurd H (by simp)
                        · rw [if_neg c30] at H
                          have c30b0 : decide (x13_1 < (t286.length : Int)) = false := decide_eq_false c30
                          clear c30
                          replace H := Option.bind_eq_some_iff.mp H
                          obtain ⟨t301, A440, H⟩ := H
                          replace H : (if t301 = true then (some ((rd t279 0), (rd t279 1), (rd t279 2), x295003_1, 0)) else (some (0, 0, 0, ([] : List (S42)), 1))) = some (r1, r2, r3, r4, r5) := H
                          have A44 := Aside0.mk A440
                          clear A440
                          by_cases c45 : t301 = true
                          · subst c45
                            have H1 : (some ((rd t279 0), (rd t279 1), (rd t279 2), x295003_1, 0)) = some (r1, r2, r3, r4, r5) := by rw [if_pos rfl] at H; exact H
                            clear H
                            have H := H1
                            clear H1
                            simp only [Option.some.injEq, Prod.mk.injEq] at H
                            obtain ⟨rfl, rfl, rfl, rfl, rfl⟩ := H
                            obtain ⟨Ao46, co46, eo46⟩ := Kd.R_slice HO_9.out
                            subst eo46
                            have hnb47 := NB294_278.out
                            have hnc47 := NB278_294.out
                            have hcz48_0 : wr.cell? ⟨gb294, 0, none⟩ = some (.int .i64 (rd t279 0)) := (blk_cell BK294.out 0).trans rfl
                            have hcz48_1 : wr.cell? ⟨gb294, 1, none⟩ = some (.int .i64 (rd t279 1)) := (blk_cell BK294.out 1).trans rfl
                            have hcz48_2 : wr.cell? ⟨gb294, 2, none⟩ = some (.int .i64 (rd t279 2)) := (blk_cell BK294.out 2).trans rfl
                            have hcz48_3 : wr.cell? ⟨gb294, 3, none⟩ = some (u295003) := (blk_cell BK294.out 3).trans rfl
                            have hfz48_0 := blk_frozen BK294.out 0
                            have hfz48_1 := blk_frozen BK294.out 1
                            have hfz48_2 := blk_frozen BK294.out 2
                            have hfz48_3 := blk_frozen BK294.out 3
                            obtain ⟨Ao49, co49, eo49⟩ := Kd.R_slice HO_295003.out
                            subst eo49
                            go_wp2_with (first | ((with_reducible refine gate_callee (f := 21) rfl ?_); refine goesL_ (some 89) rfl rfl Try.func21 (by kernel_rfl) rfl #[.int .i64 a0, .agg #[.int .i64 (rd t279 0), .int .i64 (rd t279 1), .int .i64 (rd t279 2), .slice Ao49 x295003_1.length co49]] rfl (by (try simp only [List.map_toArray, List.map_cons, List.map_nil]); first | done | rfl | (simp only [List.length_drop, List.length_take]; rfl)) ?_; (with_reducible refine (palinoderef06_Right.calls k1 a0 (rd t279 0) (rd t279 1) (rd t279 2) _ _ x295003_1 true _ ?side1 ?side2 A44.out).mono ?_); (case side1 => repeat (first | exact (Kd.R_reads' HO_295003.out).2.2 | (with_reducible refine Kd.C_alloc ?_ _) | (with_reducible refine Kd.C_drewN ?_ _) | (with_reducible refine Kd.C_drew ?_))); (case side2 => exact (Kd.R_reads' HO_295003.out).2.1); rintro e w50 ⟨rfl, hb⟩; refine ⟨_, rfl, ?_⟩; have n0_ := Aside0.mk (Kd.R_below (by (with_reducible repeat (first | apply Kd.R_alloc | apply Kd.R_drewN | apply Kd.R_drew)); exact HO_9.out) hb); have n1_ := Aside0.mk (Kd.R_below (by (with_reducible repeat (first | apply Kd.R_alloc | apply Kd.R_drewN | apply Kd.R_drew)); exact HO_295003.out) hb); have n2_ := Aside0.mk (blk_below (g := gb278) (o := .cells #[.int .i64 0, .int .i64 0, .int .i64 0, .slice none 0 0] 39 (0, 0)) (by (with_reducible repeat (first | refine blk_drewN ?_ _ | refine blk_drew ?_ | refine blk_alloc ?_ _)); exact BK278.out) hb); have n3_ := Aside0.mk (blk_below (g := gb294) (o := .cells #[.int .i64 (rd t279 0), .int .i64 (rd t279 1), .int .i64 (rd t279 2), .slice Ao49 x295003_1.length co49] 39 (0, 0)) (by (with_reducible repeat (first | refine blk_drewN ?_ _ | refine blk_drew ?_ | refine blk_alloc ?_ _)); exact BK294.out) hb); have n4_ := Aside0.mk (below_step (by repeat (first | (with_reducible first | exact HB.out | apply below_alloc | apply pw_below_drewN | apply below_drew1 | refine below_set ?_ GE278.out | refine below_set ?_ GE294.out) | exact HB.out)) hb); clear HO_9; clear HO_295003; clear BK278; clear BK294; clear HB; have HO_9 := n0_; have HO_295003 := n1_; have BK278 := n2_; have BK294 := n3_; have HB := n4_; clear n0_ n1_ n2_ n3_ n4_; (try clear hb); (try clear hb2); (try clear hk); (try clear hi); have hcz51_0 : w50.cell? ⟨gb294, 0, none⟩ = some (.int .i64 (rd t279 0)) := (blk_cell BK294.out 0).trans rfl; have hcz51_1 : w50.cell? ⟨gb294, 1, none⟩ = some (.int .i64 (rd t279 1)) := (blk_cell BK294.out 1).trans rfl; have hcz51_2 : w50.cell? ⟨gb294, 2, none⟩ = some (.int .i64 (rd t279 2)) := (blk_cell BK294.out 2).trans rfl; have hcz51_3 : w50.cell? ⟨gb294, 3, none⟩ = some (.slice Ao49 x295003_1.length co49) := (blk_cell BK294.out 3).trans rfl; have hfz51_0 := blk_frozen BK294.out 0; have hfz51_1 := blk_frozen BK294.out 1; have hfz51_2 := blk_frozen BK294.out 2; have hfz51_3 := blk_frozen BK294.out 3; have hcz52_0 : w50.cell? ⟨gb278, 0, none⟩ = some (.int .i64 0) := (blk_cell BK278.out 0).trans rfl; have hcz52_1 : w50.cell? ⟨gb278, 1, none⟩ = some (.int .i64 0) := (blk_cell BK278.out 1).trans rfl; have hcz52_2 : w50.cell? ⟨gb278, 2, none⟩ = some (.int .i64 0) := (blk_cell BK278.out 2).trans rfl; have hcz52_3 : w50.cell? ⟨gb278, 3, none⟩ = some (.slice none 0 0) := (blk_cell BK278.out 3).trans rfl; have hfz52_0 := blk_frozen BK278.out 0; have hfz52_1 := blk_frozen BK278.out 1; have hfz52_2 := blk_frozen BK278.out 2; have hfz52_3 := blk_frozen BK278.out 3))
                            refine bodyPost_ret (results_ct rfl _ _ gb278 39 #[.int .i64 (rd t279 0), .int .i64 (rd t279 1), .int .i64 (rd t279 2), .slice Ao49 x295003_1.length co49] (0, 0) _ rfl (by (with_reducible repeat (first | refine blk_drewN ?_ _ | refine blk_drew ?_ | refine blk_alloc ?_ _)); refine blk_put (cs := #[.int .i64 (rd t279 0), .int .i64 (rd t279 1), .int .i64 (rd t279 2), .slice none 0 0]) ?_ 3 _ rfl; (with_reducible repeat (first | refine blk_drewN ?_ _ | refine blk_drew ?_ | refine blk_alloc ?_ _)); refine blk_put (cs := #[.int .i64 (rd t279 0), .int .i64 (rd t279 1), .int .i64 0, .slice none 0 0]) ?_ 2 _ rfl; (with_reducible repeat (first | refine blk_drewN ?_ _ | refine blk_drew ?_ | refine blk_alloc ?_ _)); refine blk_put (cs := #[.int .i64 (rd t279 0), .int .i64 0, .int .i64 0, .slice none 0 0]) ?_ 1 _ rfl; (with_reducible repeat (first | refine blk_drewN ?_ _ | refine blk_drew ?_ | refine blk_alloc ?_ _)); refine blk_put (cs := #[.int .i64 0, .int .i64 0, .int .i64 0, .slice none 0 0]) ?_ 0 _ rfl; (with_reducible repeat (first | refine blk_drewN ?_ _ | refine blk_drew ?_ | refine blk_alloc ?_ _)); exact BK278.out) Try.underlying39 rfl (by kernel_rfl)) rfl ?_
                            exact ⟨_, by first | rfl | (simp [errW_none, errW_some] <;> rfl) | (simp [*, errW_none, errW_some] <;> rfl), by (with_reducible repeat (first | apply Kd.R_alloc | apply Kd.R_drewN | apply Kd.R_drew)); exact Kd.R_mono (Kd.R_far (p := ⟨gb278, 3, none⟩) (Kd.R_far (p := ⟨gb278, 2, none⟩) (Kd.R_far (p := ⟨gb278, 1, none⟩) (Kd.R_far (p := ⟨gb278, 0, none⟩) (Kd.R_types HO_295003.out BK278.out (by decide)) (fun _ hk => hk.2) (.int .i64 (rd t279 0))) (fun _ hk => hk.2) (.int .i64 (rd t279 1))) (fun _ hk => hk.2) (.int .i64 (rd t279 2))) (fun _ hk => hk.2) (.slice Ao49 x295003_1.length co49)) (fun _ hk => trivial), by repeat (first | (with_reducible first | exact HB.out | apply below_alloc | apply pw_below_drewN | apply below_drew1 | refine below_set ?_ GE278.out | refine below_set ?_ GE294.out) | exact HB.out)⟩
                          · replace c45 := Bool.eq_false_iff.mpr c45
                            subst c45
                            have H1 : (some (0, 0, 0, ([] : List (S42)), 1)) = some (r1, r2, r3, r4, r5) := by rw [if_neg (show ¬ (false = true) by decide)] at H; exact H
                            clear H
                            have H := H1
                            clear H1
                            simp only [Option.some.injEq, Prod.mk.injEq] at H
                            obtain ⟨rfl, rfl, rfl, rfl, rfl⟩ := H
                            obtain ⟨Ao53, co53, eo53⟩ := Kd.R_slice HO_9.out
                            subst eo53
                            have hnb54 := NB294_278.out
                            have hnc54 := NB278_294.out
                            have hcz55_0 : wr.cell? ⟨gb294, 0, none⟩ = some (.int .i64 (rd t279 0)) := (blk_cell BK294.out 0).trans rfl
                            have hcz55_1 : wr.cell? ⟨gb294, 1, none⟩ = some (.int .i64 (rd t279 1)) := (blk_cell BK294.out 1).trans rfl
                            have hcz55_2 : wr.cell? ⟨gb294, 2, none⟩ = some (.int .i64 (rd t279 2)) := (blk_cell BK294.out 2).trans rfl
                            have hcz55_3 : wr.cell? ⟨gb294, 3, none⟩ = some (u295003) := (blk_cell BK294.out 3).trans rfl
                            have hfz55_0 := blk_frozen BK294.out 0
                            have hfz55_1 := blk_frozen BK294.out 1
                            have hfz55_2 := blk_frozen BK294.out 2
                            have hfz55_3 := blk_frozen BK294.out 3
                            obtain ⟨Ao56, co56, eo56⟩ := Kd.R_slice HO_295003.out
                            subst eo56
                            go_wp2_with (first | ((with_reducible refine gate_callee (f := 21) rfl ?_); refine goesL_ (some 89) rfl rfl Try.func21 (by kernel_rfl) rfl #[.int .i64 a0, .agg #[.int .i64 (rd t279 0), .int .i64 (rd t279 1), .int .i64 (rd t279 2), .slice Ao56 x295003_1.length co56]] rfl (by (try simp only [List.map_toArray, List.map_cons, List.map_nil]); first | done | rfl | (simp only [List.length_drop, List.length_take]; rfl)) ?_; (with_reducible refine (palinoderef06_Right.calls k1 a0 (rd t279 0) (rd t279 1) (rd t279 2) _ _ x295003_1 false _ ?side1 ?side2 A44.out).mono ?_); (case side1 => repeat (first | exact (Kd.R_reads' HO_295003.out).2.2 | (with_reducible refine Kd.C_alloc ?_ _) | (with_reducible refine Kd.C_drewN ?_ _) | (with_reducible refine Kd.C_drew ?_))); (case side2 => exact (Kd.R_reads' HO_295003.out).2.1); rintro e w57 ⟨rfl, hb⟩; refine ⟨_, rfl, ?_⟩; have n0_ := Aside0.mk (Kd.R_below (by (with_reducible repeat (first | apply Kd.R_alloc | apply Kd.R_drewN | apply Kd.R_drew)); exact HO_9.out) hb); have n1_ := Aside0.mk (Kd.R_below (by (with_reducible repeat (first | apply Kd.R_alloc | apply Kd.R_drewN | apply Kd.R_drew)); exact HO_295003.out) hb); have n2_ := Aside0.mk (blk_below (g := gb278) (o := .cells #[.int .i64 0, .int .i64 0, .int .i64 0, .slice none 0 0] 39 (0, 0)) (by (with_reducible repeat (first | refine blk_drewN ?_ _ | refine blk_drew ?_ | refine blk_alloc ?_ _)); exact BK278.out) hb); have n3_ := Aside0.mk (blk_below (g := gb294) (o := .cells #[.int .i64 (rd t279 0), .int .i64 (rd t279 1), .int .i64 (rd t279 2), .slice Ao56 x295003_1.length co56] 39 (0, 0)) (by (with_reducible repeat (first | refine blk_drewN ?_ _ | refine blk_drew ?_ | refine blk_alloc ?_ _)); exact BK294.out) hb); have n4_ := Aside0.mk (below_step (by repeat (first | (with_reducible first | exact HB.out | apply below_alloc | apply pw_below_drewN | apply below_drew1 | refine below_set ?_ GE278.out | refine below_set ?_ GE294.out) | exact HB.out)) hb); clear HO_9; clear HO_295003; clear BK278; clear BK294; clear HB; have HO_9 := n0_; have HO_295003 := n1_; have BK278 := n2_; have BK294 := n3_; have HB := n4_; clear n0_ n1_ n2_ n3_ n4_; (try clear hb); (try clear hb2); (try clear hk); (try clear hi); have hcz58_0 : w57.cell? ⟨gb278, 0, none⟩ = some (.int .i64 0) := (blk_cell BK278.out 0).trans rfl; have hcz58_1 : w57.cell? ⟨gb278, 1, none⟩ = some (.int .i64 0) := (blk_cell BK278.out 1).trans rfl; have hcz58_2 : w57.cell? ⟨gb278, 2, none⟩ = some (.int .i64 0) := (blk_cell BK278.out 2).trans rfl; have hcz58_3 : w57.cell? ⟨gb278, 3, none⟩ = some (.slice none 0 0) := (blk_cell BK278.out 3).trans rfl; have hfz58_0 := blk_frozen BK278.out 0; have hfz58_1 := blk_frozen BK278.out 1; have hfz58_2 := blk_frozen BK278.out 2; have hfz58_3 := blk_frozen BK278.out 3))
                            refine bodyPost_ret (results_ct rfl _ _ gb278 39 #[.int .i64 0, .int .i64 0, .int .i64 0, .slice none 0 0] (0, 0) _ rfl (by (with_reducible repeat (first | refine blk_drewN ?_ _ | refine blk_drew ?_ | refine blk_alloc ?_ _)); refine blk_put (cs := #[.int .i64 0, .int .i64 0, .int .i64 0, .slice none 0 0]) ?_ 3 _ rfl; (with_reducible repeat (first | refine blk_drewN ?_ _ | refine blk_drew ?_ | refine blk_alloc ?_ _)); refine blk_put (cs := #[.int .i64 0, .int .i64 0, .int .i64 0, .slice none 0 0]) ?_ 2 _ rfl; (with_reducible repeat (first | refine blk_drewN ?_ _ | refine blk_drew ?_ | refine blk_alloc ?_ _)); refine blk_put (cs := #[.int .i64 0, .int .i64 0, .int .i64 0, .slice none 0 0]) ?_ 1 _ rfl; (with_reducible repeat (first | refine blk_drewN ?_ _ | refine blk_drew ?_ | refine blk_alloc ?_ _)); refine blk_put (cs := #[.int .i64 0, .int .i64 0, .int .i64 0, .slice none 0 0]) ?_ 0 _ rfl; (with_reducible repeat (first | refine blk_drewN ?_ _ | refine blk_drew ?_ | refine blk_alloc ?_ _)); exact BK278.out) Try.underlying39 rfl (by kernel_rfl)) rfl ?_
                            exact ⟨_, by first | rfl | (simp [errW_none, errW_some] <;> rfl) | (simp [*, errW_none, errW_some] <;> rfl), by first | exact Kd.R_nil _ _ _ _ _ | exact Kd.N_nil _ _ _ _ _ | exact Kd.V_nil _ _ _ _ _ | exact Kd.Q_nil _ _ _ _ _ | exact Kd.S_nil _ _ _ _ _, by repeat (first | (with_reducible first | exact HB.out | apply below_alloc | apply pw_below_drewN | apply below_drew1 | refine below_set ?_ GE278.out | refine below_set ?_ GE294.out) | exact HB.out)⟩
                  · rw [if_neg c19] at H
                    exact absurd H (by simp)
                · rw [if_neg c18] at H
                  exact absurd H (by simp)
              · rw [if_neg c17] at H
                exact absurd H (by simp)
            · rw [if_neg c16] at H
              have c16b0 : (t287.toList == ([] : List UInt8)) = false := beq_eq_false_iff_ne.mpr c16
              have c16b1 : (t287.toList != ([] : List UInt8)) = true := bne_iff_ne.mpr c16
              simp only [Option.some.injEq, Prod.mk.injEq] at H
              obtain ⟨rfl, rfl, rfl, rfl, rfl⟩ := H
              go_enter Try.func18, Try.ntmps18
              go_wp2_with (first | ((with_reducible refine gate_dst (N := 4) rfl ?_); refine box_event ?hg (N := 4) ?hd (cs := #[.int .i64 0, .int .i64 0, .int .i64 0, .slice none 0 0]) (t := 39) ?hr ?_; (case hd => rfl); (case hg => rfl); (case hr => first | (go_simp; done) | (go_simp; rfl)); intro gb278 hg w59 hbox hb; have n0_ := Aside0.mk (below_step (by repeat (first | (with_reducible first | exact HB.out | apply below_alloc | apply pw_below_drewN | apply below_drew1) | exact HB.out)) hb); have n1_ := Aside0.mk (hbox); have n2_ := Aside0.mk ((by rw [hg]; exact (below_size (by repeat (first | (with_reducible first | exact HB.out | apply below_alloc | apply pw_below_drewN | apply below_drew1) | exact HB.out))) : w.heap.size ≤ gb278)); have n3_ := Aside0.mk ((by rw [hg]; exact (below_size (by repeat (first | (with_reducible first | exact HB.out | apply below_alloc | apply pw_below_drewN | apply below_drew1) | exact HB.out))) : w.heap.size ≤ gb278)); clear HB; have HB := n0_; have BK278 := n1_; have GW278 := n2_; have GE278 := n3_; clear n0_ n1_ n2_ n3_; clear hb hbox hg) | ((with_reducible refine gate_callee (f := 27) rfl ?_); refine goesL_ (some 21) rfl rfl Try.func27 (by kernel_rfl) rfl #[.string a1, .int .i64 4] rfl (by (try simp only [List.map_toArray, List.map_cons, List.map_nil]); first | done | rfl | (simp only [List.length_drop, List.length_take]; rfl)) ?_; (with_reducible refine (palinoderef06_numbers.calls k a1 4 t279 t280 t281 _ A6.out).mono ?_); rintro e w60 ⟨v282, rfl, ho0, hb⟩; refine ⟨_, rfl, ?_⟩; have n0_ := Aside0.mk (Kd.R_lower ho0 (below_size (by repeat (first | (with_reducible first | exact HB.out | apply below_alloc | apply pw_below_drewN | apply below_drew1 | refine below_set ?_ GE278.out) | exact HB.out)))); have n1_ := Aside0.mk (blk_below (g := gb278) (o := .cells #[.int .i64 0, .int .i64 0, .int .i64 0, .slice none 0 0] 39 (0, 0)) (by (with_reducible repeat (first | refine blk_drewN ?_ _ | refine blk_drew ?_ | refine blk_alloc ?_ _)); exact BK278.out) hb); have n2_ := Aside0.mk (below_step (by repeat (first | (with_reducible first | exact HB.out | apply below_alloc | apply pw_below_drewN | apply below_drew1 | refine below_set ?_ GE278.out) | exact HB.out)) hb); clear BK278; clear HB; have HO283 := n0_; have BK278 := n1_; have HB := n2_; clear n0_ n1_ n2_; (try clear hb); (try clear hb2); (try clear hk); (try clear hi); (try clear ho0); obtain ⟨Ao61, co61, eo61⟩ := Kd.R_slice HO283.out; subst eo61; have p284 : 0 ≤ (3 : Int) := (by omega); have q284 : 3 < (t279.length : Int) := of_decide_eq_true (by first | (with_reducible assumption) | assumption); obtain ⟨ad284, e284, hx284_0⟩ := Kd.at_int (Kd.R_reads' HO283.out).2.2 3 p284 q284; cases e284; (try simp only [show (3 : Int).toNat = 3 from rfl, Nat.reduceMul, Nat.reduceEqDiff, Go.Addr.add, ↓reduceIte] at hx284_0); have qi284 : (3 < t279.length) = True := eq_true (by omega); (try rw [show ((3 : Int)).toNat = 3 from rfl] at hx284_0); replace p284 := eq_true p284; replace q284 := eq_true q284; have p285 : 0 ≤ (3 : Int) := (by omega); have q285 : 3 < (t279.length : Int) := of_decide_eq_true (by first | (with_reducible assumption) | assumption); obtain ⟨ad285, e285, hx285_0⟩ := Kd.at_int (Kd.R_reads' HO283.out).2.2 3 p285 q285; obtain rfl : ad284 = ad285 := (by injection e285); (try simp only [show (3 : Int).toNat = 3 from rfl, Nat.reduceMul, Nat.reduceEqDiff, Go.Addr.add, ↓reduceIte] at hx285_0); have qi285 : (3 < t279.length) = True := eq_true (by omega); (try rw [show ((3 : Int)).toNat = 3 from rfl] at hx285_0); replace p285 := eq_true p285; replace q285 := eq_true q285) | ((with_reducible refine gate_callee (f := 27) rfl ?_); refine goesL_ (some 40) rfl rfl Try.func27 (by kernel_rfl) rfl #[.string t280, .int .i64 (wrap64 (3 * (rd t279 3)))] rfl (by (try simp only [List.map_toArray, List.map_cons, List.map_nil]); first | done | rfl | (simp only [List.length_drop, List.length_take]; rfl)) ?_; (with_reducible refine (palinoderef06_numbers.calls k t280 (wrap64 (3 * (rd t279 3))) t286 t287 t288 _ A14.out).mono ?_); rintro e w62 ⟨v289, rfl, ho0, hb⟩; refine ⟨_, rfl, ?_⟩; have n0_ := Aside0.mk (Kd.R_elder' (by (with_reducible repeat (first | apply Kd.R_alloc | apply Kd.R_drewN | apply Kd.R_drew)); exact HO283.out) (Kd.R_base ho0) hb); have n1_ := Aside0.mk (Kd.R_lower (Kd.R_new' ho0 (Kd.R_lt (by (with_reducible repeat (first | apply Kd.R_alloc | apply Kd.R_drewN | apply Kd.R_drew)); exact HO283.out))) (below_size (by repeat (first | (with_reducible first | exact HB.out | apply below_alloc | apply pw_below_drewN | apply below_drew1 | refine below_set ?_ GE278.out) | exact HB.out)))); have n2_ := Aside0.mk (blk_below (g := gb278) (o := .cells #[.int .i64 0, .int .i64 0, .int .i64 0, .slice none 0 0] 39 (0, 0)) (by (with_reducible repeat (first | refine blk_drewN ?_ _ | refine blk_drew ?_ | refine blk_alloc ?_ _)); exact BK278.out) hb); have n3_ := Aside0.mk (below_step (by repeat (first | (with_reducible first | exact HB.out | apply below_alloc | apply pw_below_drewN | apply below_drew1 | refine below_set ?_ GE278.out) | exact HB.out)) hb); clear HO283; clear BK278; clear HB; have HO283 := n0_; have HO290 := n1_; have BK278 := n2_; have HB := n3_; clear n0_ n1_ n2_ n3_; (try clear hb); (try clear hb2); (try clear hk); (try clear hi); (try clear ho0); have hcz63_0 : w62.cell? ⟨gb278, 0, none⟩ = some (.int .i64 0) := (blk_cell BK278.out 0).trans rfl; have hcz63_1 : w62.cell? ⟨gb278, 1, none⟩ = some (.int .i64 0) := (blk_cell BK278.out 1).trans rfl; have hcz63_2 : w62.cell? ⟨gb278, 2, none⟩ = some (.int .i64 0) := (blk_cell BK278.out 2).trans rfl; have hcz63_3 : w62.cell? ⟨gb278, 3, none⟩ = some (.slice none 0 0) := (blk_cell BK278.out 3).trans rfl; have hfz63_0 := blk_frozen BK278.out 0; have hfz63_1 := blk_frozen BK278.out 1; have hfz63_2 := blk_frozen BK278.out 2; have hfz63_3 := blk_frozen BK278.out 3))
              refine bodyPost_ret (results_ct rfl _ _ gb278 39 #[.int .i64 0, .int .i64 0, .int .i64 0, .slice none 0 0] (0, 0) _ rfl (by (with_reducible repeat (first | refine blk_drewN ?_ _ | refine blk_drew ?_ | refine blk_alloc ?_ _)); refine blk_put (cs := #[.int .i64 0, .int .i64 0, .int .i64 0, .slice none 0 0]) ?_ 3 _ rfl; (with_reducible repeat (first | refine blk_drewN ?_ _ | refine blk_drew ?_ | refine blk_alloc ?_ _)); refine blk_put (cs := #[.int .i64 0, .int .i64 0, .int .i64 0, .slice none 0 0]) ?_ 2 _ rfl; (with_reducible repeat (first | refine blk_drewN ?_ _ | refine blk_drew ?_ | refine blk_alloc ?_ _)); refine blk_put (cs := #[.int .i64 0, .int .i64 0, .int .i64 0, .slice none 0 0]) ?_ 1 _ rfl; (with_reducible repeat (first | refine blk_drewN ?_ _ | refine blk_drew ?_ | refine blk_alloc ?_ _)); refine blk_put (cs := #[.int .i64 0, .int .i64 0, .int .i64 0, .slice none 0 0]) ?_ 0 _ rfl; (with_reducible repeat (first | refine blk_drewN ?_ _ | refine blk_drew ?_ | refine blk_alloc ?_ _)); exact BK278.out) Try.underlying39 rfl (by kernel_rfl)) rfl ?_
              exact ⟨_, by first | rfl | (simp [errW_none, errW_some] <;> rfl) | (simp [*, errW_none, errW_some] <;> rfl), by first | exact Kd.R_nil _ _ _ _ _ | exact Kd.N_nil _ _ _ _ _ | exact Kd.V_nil _ _ _ _ _ | exact Kd.Q_nil _ _ _ _ _ | exact Kd.S_nil _ _ _ _ _, by repeat (first | (with_reducible first | exact HB.out | apply below_alloc | apply pw_below_drewN | apply below_drew1 | refine below_set ?_ GE278.out) | exact HB.out)⟩
          · rw [if_neg c15] at H
            have c15b0 : (t288 == 0) = false := beq_eq_false_iff_ne.mpr c15
            have c15b1 : (t288 != 0) = true := bne_iff_ne.mpr c15
            simp only [Option.some.injEq, Prod.mk.injEq] at H
            obtain ⟨rfl, rfl, rfl, rfl, rfl⟩ := H
            go_enter Try.func18, Try.ntmps18
            go_wp2_with (first | ((with_reducible refine gate_dst (N := 4) rfl ?_); refine box_event ?hg (N := 4) ?hd (cs := #[.int .i64 0, .int .i64 0, .int .i64 0, .slice none 0 0]) (t := 39) ?hr ?_; (case hd => rfl); (case hg => rfl); (case hr => first | (go_simp; done) | (go_simp; rfl)); intro gb278 hg w64 hbox hb; have n0_ := Aside0.mk (below_step (by repeat (first | (with_reducible first | exact HB.out | apply below_alloc | apply pw_below_drewN | apply below_drew1) | exact HB.out)) hb); have n1_ := Aside0.mk (hbox); have n2_ := Aside0.mk ((by rw [hg]; exact (below_size (by repeat (first | (with_reducible first | exact HB.out | apply below_alloc | apply pw_below_drewN | apply below_drew1) | exact HB.out))) : w.heap.size ≤ gb278)); have n3_ := Aside0.mk ((by rw [hg]; exact (below_size (by repeat (first | (with_reducible first | exact HB.out | apply below_alloc | apply pw_below_drewN | apply below_drew1) | exact HB.out))) : w.heap.size ≤ gb278)); clear HB; have HB := n0_; have BK278 := n1_; have GW278 := n2_; have GE278 := n3_; clear n0_ n1_ n2_ n3_; clear hb hbox hg) | ((with_reducible refine gate_callee (f := 27) rfl ?_); refine goesL_ (some 21) rfl rfl Try.func27 (by kernel_rfl) rfl #[.string a1, .int .i64 4] rfl (by (try simp only [List.map_toArray, List.map_cons, List.map_nil]); first | done | rfl | (simp only [List.length_drop, List.length_take]; rfl)) ?_; (with_reducible refine (palinoderef06_numbers.calls k a1 4 t279 t280 t281 _ A6.out).mono ?_); rintro e w65 ⟨v282, rfl, ho0, hb⟩; refine ⟨_, rfl, ?_⟩; have n0_ := Aside0.mk (Kd.R_lower ho0 (below_size (by repeat (first | (with_reducible first | exact HB.out | apply below_alloc | apply pw_below_drewN | apply below_drew1 | refine below_set ?_ GE278.out) | exact HB.out)))); have n1_ := Aside0.mk (blk_below (g := gb278) (o := .cells #[.int .i64 0, .int .i64 0, .int .i64 0, .slice none 0 0] 39 (0, 0)) (by (with_reducible repeat (first | refine blk_drewN ?_ _ | refine blk_drew ?_ | refine blk_alloc ?_ _)); exact BK278.out) hb); have n2_ := Aside0.mk (below_step (by repeat (first | (with_reducible first | exact HB.out | apply below_alloc | apply pw_below_drewN | apply below_drew1 | refine below_set ?_ GE278.out) | exact HB.out)) hb); clear BK278; clear HB; have HO283 := n0_; have BK278 := n1_; have HB := n2_; clear n0_ n1_ n2_; (try clear hb); (try clear hb2); (try clear hk); (try clear hi); (try clear ho0); obtain ⟨Ao66, co66, eo66⟩ := Kd.R_slice HO283.out; subst eo66; have p284 : 0 ≤ (3 : Int) := (by omega); have q284 : 3 < (t279.length : Int) := of_decide_eq_true (by first | (with_reducible assumption) | assumption); obtain ⟨ad284, e284, hx284_0⟩ := Kd.at_int (Kd.R_reads' HO283.out).2.2 3 p284 q284; cases e284; (try simp only [show (3 : Int).toNat = 3 from rfl, Nat.reduceMul, Nat.reduceEqDiff, Go.Addr.add, ↓reduceIte] at hx284_0); have qi284 : (3 < t279.length) = True := eq_true (by omega); (try rw [show ((3 : Int)).toNat = 3 from rfl] at hx284_0); replace p284 := eq_true p284; replace q284 := eq_true q284; have p285 : 0 ≤ (3 : Int) := (by omega); have q285 : 3 < (t279.length : Int) := of_decide_eq_true (by first | (with_reducible assumption) | assumption); obtain ⟨ad285, e285, hx285_0⟩ := Kd.at_int (Kd.R_reads' HO283.out).2.2 3 p285 q285; obtain rfl : ad284 = ad285 := (by injection e285); (try simp only [show (3 : Int).toNat = 3 from rfl, Nat.reduceMul, Nat.reduceEqDiff, Go.Addr.add, ↓reduceIte] at hx285_0); have qi285 : (3 < t279.length) = True := eq_true (by omega); (try rw [show ((3 : Int)).toNat = 3 from rfl] at hx285_0); replace p285 := eq_true p285; replace q285 := eq_true q285) | ((with_reducible refine gate_callee (f := 27) rfl ?_); refine goesL_ (some 40) rfl rfl Try.func27 (by kernel_rfl) rfl #[.string t280, .int .i64 (wrap64 (3 * (rd t279 3)))] rfl (by (try simp only [List.map_toArray, List.map_cons, List.map_nil]); first | done | rfl | (simp only [List.length_drop, List.length_take]; rfl)) ?_; (with_reducible refine (palinoderef06_numbers.calls k t280 (wrap64 (3 * (rd t279 3))) t286 t287 t288 _ A14.out).mono ?_); rintro e w67 ⟨v289, rfl, ho0, hb⟩; refine ⟨_, rfl, ?_⟩; have n0_ := Aside0.mk (Kd.R_elder' (by (with_reducible repeat (first | apply Kd.R_alloc | apply Kd.R_drewN | apply Kd.R_drew)); exact HO283.out) (Kd.R_base ho0) hb); have n1_ := Aside0.mk (Kd.R_lower (Kd.R_new' ho0 (Kd.R_lt (by (with_reducible repeat (first | apply Kd.R_alloc | apply Kd.R_drewN | apply Kd.R_drew)); exact HO283.out))) (below_size (by repeat (first | (with_reducible first | exact HB.out | apply below_alloc | apply pw_below_drewN | apply below_drew1 | refine below_set ?_ GE278.out) | exact HB.out)))); have n2_ := Aside0.mk (blk_below (g := gb278) (o := .cells #[.int .i64 0, .int .i64 0, .int .i64 0, .slice none 0 0] 39 (0, 0)) (by (with_reducible repeat (first | refine blk_drewN ?_ _ | refine blk_drew ?_ | refine blk_alloc ?_ _)); exact BK278.out) hb); have n3_ := Aside0.mk (below_step (by repeat (first | (with_reducible first | exact HB.out | apply below_alloc | apply pw_below_drewN | apply below_drew1 | refine below_set ?_ GE278.out) | exact HB.out)) hb); clear HO283; clear BK278; clear HB; have HO283 := n0_; have HO290 := n1_; have BK278 := n2_; have HB := n3_; clear n0_ n1_ n2_ n3_; (try clear hb); (try clear hb2); (try clear hk); (try clear hi); (try clear ho0); have hcz68_0 : w67.cell? ⟨gb278, 0, none⟩ = some (.int .i64 0) := (blk_cell BK278.out 0).trans rfl; have hcz68_1 : w67.cell? ⟨gb278, 1, none⟩ = some (.int .i64 0) := (blk_cell BK278.out 1).trans rfl; have hcz68_2 : w67.cell? ⟨gb278, 2, none⟩ = some (.int .i64 0) := (blk_cell BK278.out 2).trans rfl; have hcz68_3 : w67.cell? ⟨gb278, 3, none⟩ = some (.slice none 0 0) := (blk_cell BK278.out 3).trans rfl; have hfz68_0 := blk_frozen BK278.out 0; have hfz68_1 := blk_frozen BK278.out 1; have hfz68_2 := blk_frozen BK278.out 2; have hfz68_3 := blk_frozen BK278.out 3))
            refine bodyPost_ret (results_ct rfl _ _ gb278 39 #[.int .i64 0, .int .i64 0, .int .i64 0, .slice none 0 0] (0, 0) _ rfl (by (with_reducible repeat (first | refine blk_drewN ?_ _ | refine blk_drew ?_ | refine blk_alloc ?_ _)); refine blk_put (cs := #[.int .i64 0, .int .i64 0, .int .i64 0, .slice none 0 0]) ?_ 3 _ rfl; (with_reducible repeat (first | refine blk_drewN ?_ _ | refine blk_drew ?_ | refine blk_alloc ?_ _)); refine blk_put (cs := #[.int .i64 0, .int .i64 0, .int .i64 0, .slice none 0 0]) ?_ 2 _ rfl; (with_reducible repeat (first | refine blk_drewN ?_ _ | refine blk_drew ?_ | refine blk_alloc ?_ _)); refine blk_put (cs := #[.int .i64 0, .int .i64 0, .int .i64 0, .slice none 0 0]) ?_ 1 _ rfl; (with_reducible repeat (first | refine blk_drewN ?_ _ | refine blk_drew ?_ | refine blk_alloc ?_ _)); refine blk_put (cs := #[.int .i64 0, .int .i64 0, .int .i64 0, .slice none 0 0]) ?_ 0 _ rfl; (with_reducible repeat (first | refine blk_drewN ?_ _ | refine blk_drew ?_ | refine blk_alloc ?_ _)); exact BK278.out) Try.underlying39 rfl (by kernel_rfl)) rfl ?_
            exact ⟨_, by first | rfl | (simp [errW_none, errW_some] <;> rfl) | (simp [*, errW_none, errW_some] <;> rfl), by first | exact Kd.R_nil _ _ _ _ _ | exact Kd.N_nil _ _ _ _ _ | exact Kd.V_nil _ _ _ _ _ | exact Kd.Q_nil _ _ _ _ _ | exact Kd.S_nil _ _ _ _ _, by repeat (first | (with_reducible first | exact HB.out | apply below_alloc | apply pw_below_drewN | apply below_drew1 | refine below_set ?_ GE278.out) | exact HB.out)⟩
      · rw [if_neg c8] at H
        exact absurd H (by simp)
    · rw [if_neg c7] at H
      have c7b0 : (t281 == 0) = false := beq_eq_false_iff_ne.mpr c7
      have c7b1 : (t281 != 0) = true := bne_iff_ne.mpr c7
      simp only [Option.some.injEq, Prod.mk.injEq] at H
      obtain ⟨rfl, rfl, rfl, rfl, rfl⟩ := H
      go_enter Try.func18, Try.ntmps18
      go_wp2_with (first | ((with_reducible refine gate_dst (N := 4) rfl ?_); refine box_event ?hg (N := 4) ?hd (cs := #[.int .i64 0, .int .i64 0, .int .i64 0, .slice none 0 0]) (t := 39) ?hr ?_; (case hd => rfl); (case hg => rfl); (case hr => first | (go_simp; done) | (go_simp; rfl)); intro gb278 hg w69 hbox hb; have n0_ := Aside0.mk (below_step (by repeat (first | (with_reducible first | exact HB.out | apply below_alloc | apply pw_below_drewN | apply below_drew1) | exact HB.out)) hb); have n1_ := Aside0.mk (hbox); have n2_ := Aside0.mk ((by rw [hg]; exact (below_size (by repeat (first | (with_reducible first | exact HB.out | apply below_alloc | apply pw_below_drewN | apply below_drew1) | exact HB.out))) : w.heap.size ≤ gb278)); have n3_ := Aside0.mk ((by rw [hg]; exact (below_size (by repeat (first | (with_reducible first | exact HB.out | apply below_alloc | apply pw_below_drewN | apply below_drew1) | exact HB.out))) : w.heap.size ≤ gb278)); clear HB; have HB := n0_; have BK278 := n1_; have GW278 := n2_; have GE278 := n3_; clear n0_ n1_ n2_ n3_; clear hb hbox hg) | ((with_reducible refine gate_callee (f := 27) rfl ?_); refine goesL_ (some 21) rfl rfl Try.func27 (by kernel_rfl) rfl #[.string a1, .int .i64 4] rfl (by (try simp only [List.map_toArray, List.map_cons, List.map_nil]); first | done | rfl | (simp only [List.length_drop, List.length_take]; rfl)) ?_; (with_reducible refine (palinoderef06_numbers.calls k a1 4 t279 t280 t281 _ A6.out).mono ?_); rintro e w70 ⟨v282, rfl, ho0, hb⟩; refine ⟨_, rfl, ?_⟩; have n0_ := Aside0.mk (Kd.R_lower ho0 (below_size (by repeat (first | (with_reducible first | exact HB.out | apply below_alloc | apply pw_below_drewN | apply below_drew1 | refine below_set ?_ GE278.out) | exact HB.out)))); have n1_ := Aside0.mk (blk_below (g := gb278) (o := .cells #[.int .i64 0, .int .i64 0, .int .i64 0, .slice none 0 0] 39 (0, 0)) (by (with_reducible repeat (first | refine blk_drewN ?_ _ | refine blk_drew ?_ | refine blk_alloc ?_ _)); exact BK278.out) hb); have n2_ := Aside0.mk (below_step (by repeat (first | (with_reducible first | exact HB.out | apply below_alloc | apply pw_below_drewN | apply below_drew1 | refine below_set ?_ GE278.out) | exact HB.out)) hb); clear BK278; clear HB; have HO283 := n0_; have BK278 := n1_; have HB := n2_; clear n0_ n1_ n2_; (try clear hb); (try clear hb2); (try clear hk); (try clear hi); (try clear ho0); have hcz71_0 : w70.cell? ⟨gb278, 0, none⟩ = some (.int .i64 0) := (blk_cell BK278.out 0).trans rfl; have hcz71_1 : w70.cell? ⟨gb278, 1, none⟩ = some (.int .i64 0) := (blk_cell BK278.out 1).trans rfl; have hcz71_2 : w70.cell? ⟨gb278, 2, none⟩ = some (.int .i64 0) := (blk_cell BK278.out 2).trans rfl; have hcz71_3 : w70.cell? ⟨gb278, 3, none⟩ = some (.slice none 0 0) := (blk_cell BK278.out 3).trans rfl; have hfz71_0 := blk_frozen BK278.out 0; have hfz71_1 := blk_frozen BK278.out 1; have hfz71_2 := blk_frozen BK278.out 2; have hfz71_3 := blk_frozen BK278.out 3))
      refine bodyPost_ret (results_ct rfl _ _ gb278 39 #[.int .i64 0, .int .i64 0, .int .i64 0, .slice none 0 0] (0, 0) _ rfl (by (with_reducible repeat (first | refine blk_drewN ?_ _ | refine blk_drew ?_ | refine blk_alloc ?_ _)); refine blk_put (cs := #[.int .i64 0, .int .i64 0, .int .i64 0, .slice none 0 0]) ?_ 3 _ rfl; (with_reducible repeat (first | refine blk_drewN ?_ _ | refine blk_drew ?_ | refine blk_alloc ?_ _)); refine blk_put (cs := #[.int .i64 0, .int .i64 0, .int .i64 0, .slice none 0 0]) ?_ 2 _ rfl; (with_reducible repeat (first | refine blk_drewN ?_ _ | refine blk_drew ?_ | refine blk_alloc ?_ _)); refine blk_put (cs := #[.int .i64 0, .int .i64 0, .int .i64 0, .slice none 0 0]) ?_ 1 _ rfl; (with_reducible repeat (first | refine blk_drewN ?_ _ | refine blk_drew ?_ | refine blk_alloc ?_ _)); refine blk_put (cs := #[.int .i64 0, .int .i64 0, .int .i64 0, .slice none 0 0]) ?_ 0 _ rfl; (with_reducible repeat (first | refine blk_drewN ?_ _ | refine blk_drew ?_ | refine blk_alloc ?_ _)); exact BK278.out) Try.underlying39 rfl (by kernel_rfl)) rfl ?_
      exact ⟨_, by first | rfl | (simp [errW_none, errW_some] <;> rfl) | (simp [*, errW_none, errW_some] <;> rfl), by first | exact Kd.R_nil _ _ _ _ _ | exact Kd.N_nil _ _ _ _ _ | exact Kd.V_nil _ _ _ _ _ | exact Kd.Q_nil _ _ _ _ _ | exact Kd.S_nil _ _ _ _ _, by repeat (first | (with_reducible first | exact HB.out | apply below_alloc | apply pw_below_drewN | apply below_drew1 | refine below_set ?_ GE278.out) | exact HB.out)⟩

end Go.Proofs.Yticajnfmjapkgaa.PD

-- printed by gprint.py (own tool) over the kit's print
namespace Go.Proofs.Yticajnfmjapkgaa.PD
open Go.RowKit Go.Proofs.Yticajnfmjapkgaa Go.Proofs.YticajnfmjapkgaaW.PrintWords Go.Proofs.YticajnfmjapkgaaW.PrintLast Go.Proofs.YticajnfmjapkgaaW.PrintMore
attribute [local go_sem] max2_int min2_int max_two min_two max_three min_three max_four min_four   -- for this text's walks alone
set_option linter.unnecessarySimpa false
attribute [local go_sem] min2_str max2_str leq_str gtr_str geq_str
set_option linter.unusedVariables false
set_option linter.unusedSimpArgs false

theorem eqA42 (d : Nat) (w : World) (x0 y0 : Int) (x1 y1 : Int) (x2 y2 : Int) :
    (Op.equalIn (d + 2) 42 (.agg #[.int .i64 x0, .int .i64 x1, .int .i64 x2]) (.agg #[.int .i64 y0, .int .i64 y1, .int .i64 y2])).run Try.prog w = .ok (x0 == y0 && (x1 == y1 && (x2 == y2))) w := by
  refine eqA_of Try.underlying42 (by kernel_rfl) ?_
  refine eqf_cons (by rfl) (by go_simp; rfl) (by go_simp; rfl) (by go_simp) ?_
  refine eqf_cons (by rfl) (by go_simp; rfl) (by go_simp; rfl) (by go_simp) ?_
  exact eqf_last (by rfl) (by go_simp; rfl) (by go_simp; rfl) (by go_simp)
end Go.Proofs.Yticajnfmjapkgaa.PD

-- printed by gprint.py (own tool) over the kit's print
namespace Go.Proofs.Yticajnfmjapkgaa.PD
open Go.RowKit Go.Proofs.Yticajnfmjapkgaa Go.Proofs.YticajnfmjapkgaaW.PrintWords Go.Proofs.YticajnfmjapkgaaW.PrintLast Go.Proofs.YticajnfmjapkgaaW.PrintMore
attribute [local go_sem] max2_int min2_int max_two min_two max_three min_three max_four min_four   -- for this text's walks alone
set_option linter.unnecessarySimpa false
attribute [local go_sem] min2_str max2_str leq_str gtr_str geq_str
set_option linter.unusedVariables false
set_option linter.unusedSimpArgs false

attribute [local go_sem high] eqA42
/-! ### palinodelaw06_same: function 20 -/
mutual
def palinodelaw06_same.j0 : Nat → Bool → Int → Int → Int → List (S42) → Int → Int → Int → List (S42) → Option (Bool)
  | 0, _, _, _, _, _, _, _, _, _ => none
  | k + 1, x33, x303000, x303001, x303002, x303003, x304000, x304001, x304002, x304003 => if x33 = true then (some false) else (palinodelaw06_same.l0 k 0 x303000 x303001 x303002 x303003 x304000 x304001 x304002 x304003)
def palinodelaw06_same.l0 : Nat → Int → Int → Int → Int → List (S42) → Int → Int → Int → List (S42) → Option (Bool)
  | 0, _, _, _, _, _, _, _, _, _ => none
  | k + 1, x5, x303000, x303001, x303002, x303003, x304000, x304001, x304002, x304003 => if x5 < (x303003.length : Int) then (if 0 ≤ x5 then (if x5 < (x304003.length : Int) then (if (!(((rd_T42 x303003 x5).f0) == ((rd_T42 x304003 x5).f0)) || (!(((rd_T42 x303003 x5).f1) == ((rd_T42 x304003 x5).f1)) || (!(((rd_T42 x303003 x5).f2) == ((rd_T42 x304003 x5).f2))))) = true then (some false) else (palinodelaw06_same.l0 k (wrap64 (x5 + 1)) x303000 x303001 x303002 x303003 x304000 x304001 x304002 x304003)) else (none)) else (none)) else (some true)
end
def palinodelaw06_same.f (k : Nat) (a0_0 : Int) (a0_1 : Int) (a0_2 : Int) (l0_3 : List (S42)) (a1_0 : Int) (a1_1 : Int) (a1_2 : Int) (l1_3 : List (S42)) : Option (Bool) := if a0_0 = a1_0 then (if a0_1 = a1_1 then (if a0_2 = a1_2 then (palinodelaw06_same.j0 k ((l0_3.length : Int) != (l1_3.length : Int)) a0_0 a0_1 a0_2 l0_3 a1_0 a1_1 a1_2 l1_3) else (palinodelaw06_same.j0 k true a0_0 a0_1 a0_2 l0_3 a1_0 a1_1 a1_2 l1_3)) else (palinodelaw06_same.j0 k true a0_0 a0_1 a0_2 l0_3 a1_0 a1_1 a1_2 l1_3)) else (palinodelaw06_same.j0 k true a0_0 a0_1 a0_2 l0_3 a1_0 a1_1 a1_2 l1_3)
theorem palinodelaw06_same.mono_l : ∀ k, (∀ y0 y1 y2 y3 y4 y5 y6 y7 y8, LeO (palinodelaw06_same.j0 k y0 y1 y2 y3 y4 y5 y6 y7 y8) (palinodelaw06_same.j0 (k + 1) y0 y1 y2 y3 y4 y5 y6 y7 y8)) ∧ (∀ y0 y1 y2 y3 y4 y5 y6 y7 y8, LeO (palinodelaw06_same.l0 k y0 y1 y2 y3 y4 y5 y6 y7 y8) (palinodelaw06_same.l0 (k + 1) y0 y1 y2 y3 y4 y5 y6 y7 y8))
  | 0 => ⟨fun _ _ _ _ _ _ _ _ _ r h => by simp [palinodelaw06_same.j0] at h, fun _ _ _ _ _ _ _ _ _ r h => by simp [palinodelaw06_same.l0] at h⟩
  | k + 1 => by
    obtain ⟨ih0, ih1⟩ := palinodelaw06_same.mono_l k
    refine ⟨?_, ?_⟩
    · intro y0 y1 y2 y3 y4 y5 y6 y7 y8
      unfold palinodelaw06_same.j0
      repeat' first
      | (with_reducible exact ih0 _ _ _ _ _ _ _ _ _)
      | (with_reducible exact ih1 _ _ _ _ _ _ _ _ _)
      | (with_reducible exact LeO.refl _)
      | (with_reducible exact LeO.none _)
      | (with_reducible refine LeO.ite ?_ ?_)
      | (with_reducible refine LeO.bind ?_ (fun _ => ?_))
      | exact ih0 _ _ _ _ _ _ _ _ _
      | exact ih1 _ _ _ _ _ _ _ _ _
      | exact LeO.none _
      | refine LeO.ite ?_ ?_
      | refine LeO.bind ?_ (fun _ => ?_)
    · intro y0 y1 y2 y3 y4 y5 y6 y7 y8
      unfold palinodelaw06_same.l0
      repeat' first
      | (with_reducible exact ih0 _ _ _ _ _ _ _ _ _)
      | (with_reducible exact ih1 _ _ _ _ _ _ _ _ _)
      | (with_reducible exact LeO.refl _)
      | (with_reducible exact LeO.none _)
      | (with_reducible refine LeO.ite ?_ ?_)
      | (with_reducible refine LeO.bind ?_ (fun _ => ?_))
      | exact ih0 _ _ _ _ _ _ _ _ _
      | exact ih1 _ _ _ _ _ _ _ _ _
      | exact LeO.none _
      | refine LeO.ite ?_ ?_
      | refine LeO.bind ?_ (fun _ => ?_)
theorem palinodelaw06_same.mono : ∀ a0 a1 a2 a3 a4 a5 a6 a7 k, LeO (palinodelaw06_same.f k a0 a1 a2 a3 a4 a5 a6 a7) (palinodelaw06_same.f (k + 1) a0 a1 a2 a3 a4 a5 a6 a7) := by
  intro a0 a1 a2 a3 a4 a5 a6 a7 k
  obtain ⟨ih0, ih1⟩ := palinodelaw06_same.mono_l k
  unfold palinodelaw06_same.f
  repeat' first
      | (with_reducible exact ih0 _ _ _ _ _ _ _ _ _)
      | (with_reducible exact ih1 _ _ _ _ _ _ _ _ _)
      | (with_reducible exact LeO.refl _)
      | (with_reducible exact LeO.none _)
      | (with_reducible refine LeO.ite ?_ ?_)
      | (with_reducible refine LeO.bind ?_ (fun _ => ?_))
      | exact ih0 _ _ _ _ _ _ _ _ _
      | exact ih1 _ _ _ _ _ _ _ _ _
      | exact LeO.none _
      | refine LeO.ite ?_ ?_
      | refine LeO.bind ?_ (fun _ => ?_)
set_option maxHeartbeats 8000000 in
set_option maxRecDepth 100000 in
theorem palinodelaw06_same.calls (k : Nat) (a0_0 : Int) (a0_1 : Int) (a0_2 : Int) (A0_3 : Option Addr) (c0_3 : Nat) (l0_3 : List (S42)) (a1_0 : Int) (a1_1 : Int) (a1_2 : Int) (A1_3 : Option Addr) (c1_3 : Nat) (l1_3 : List (S42)) (r : Bool) (w : World) (hr0_3 : Kd.C k42 w A0_3 l0_3.length l0_3) (hc0_3 : l0_3.length ≤ c0_3) (hr1_3 : Kd.C k42 w A1_3 l1_3.length l1_3) (hc1_3 : l1_3.length ≤ c1_3) (h : palinodelaw06_same.f k a0_0 a0_1 a0_2 l0_3 a1_0 a1_1 a1_2 l1_3 = some r) :
    Calls Try.prog 20 #[.agg #[.int .i64 a0_0, .int .i64 a0_1, .int .i64 a0_2, .slice A0_3 l0_3.length c0_3], .agg #[.int .i64 a1_0, .int .i64 a1_1, .int .i64 a1_2, .slice A1_3 l1_3.length c1_3]] w fun e w' => e = .returned (.bool r) ∧ Below w.heap.size w w' := by
  have hu39 := Try.underlying39
  have hu42 := Try.underlying42
  have HR0_3 := Aside0.mk hr0_3
  have HC0_3 := Aside0.mk hc0_3
  clear hr0_3 hc0_3
  have HR1_3 := Aside0.mk hr1_3
  have HC1_3 := Aside0.mk hc1_3
  clear hr1_3 hc1_3
  have HB := Aside0.mk (Below.refl w.heap.size w)
  have H : (if a0_0 = a1_0 then (if a0_1 = a1_1 then (if a0_2 = a1_2 then (palinodelaw06_same.j0 k ((l0_3.length : Int) != (l1_3.length : Int)) a0_0 a0_1 a0_2 l0_3 a1_0 a1_1 a1_2 l1_3) else (palinodelaw06_same.j0 k true a0_0 a0_1 a0_2 l0_3 a1_0 a1_1 a1_2 l1_3)) else (palinodelaw06_same.j0 k true a0_0 a0_1 a0_2 l0_3 a1_0 a1_1 a1_2 l1_3)) else (palinodelaw06_same.j0 k true a0_0 a0_1 a0_2 l0_3 a1_0 a1_1 a1_2 l1_3)) = some r := h
  clear h
  have HC3 := Aside0.mk H
  clear H
  go_enter Try.func20, Try.ntmps20
  go_upto_region 1 with (first | ((with_reducible refine gate_dst (N := 2) rfl ?_); (try (refine gate_guard (by rfl) ?_; dsimp only)); refine box_event ?hg (N := 2) ?hd (cs := #[.int .i64 a0_0, .int .i64 a0_1, .int .i64 a0_2, .slice A0_3 l0_3.length c0_3]) (t := 39) ?hr ?_; (case hd => rfl); (case hg => rfl); (case hr => first | (go_simp; done) | (go_simp; rfl)); intro gb302 hg w4 hbox hb; have n0_ := Aside0.mk (below_step (by repeat (first | (with_reducible first | exact HB.out | apply below_alloc | apply pw_below_drewN | apply below_drew1) | exact HB.out)) hb); have n1_ := Aside0.mk (hbox); have n2_ := Aside0.mk ((by rw [hg]; exact (below_size (by repeat (first | (with_reducible first | exact HB.out | apply below_alloc | apply pw_below_drewN | apply below_drew1) | exact HB.out))) : w.heap.size ≤ gb302)); have n3_ := Aside0.mk ((by rw [hg]; exact (below_size (by repeat (first | (with_reducible first | exact HB.out | apply below_alloc | apply pw_below_drewN | apply below_drew1) | exact HB.out))) : w.heap.size ≤ gb302)); clear HB; have HB := n0_; have BK302 := n1_; have GW302 := n2_; have GE302 := n3_; clear n0_ n1_ n2_ n3_; clear hb hbox hg) | ((with_reducible refine gate_dst (N := 3) rfl ?_); (try (refine gate_guard (by rfl) ?_; dsimp only)); refine box_event ?hg (N := 3) ?hd (cs := #[.int .i64 a1_0, .int .i64 a1_1, .int .i64 a1_2, .slice A1_3 l1_3.length c1_3]) (t := 39) ?hr ?_; (case hd => rfl); (case hg => rfl); (case hr => first | (go_simp; done) | (go_simp; rfl)); intro gb303 hg w5 hbox hb; have n0_ := Aside0.mk (blk_below (g := gb302) (o := .cells #[.int .i64 a0_0, .int .i64 a0_1, .int .i64 a0_2, .slice A0_3 l0_3.length c0_3] 39 (0, 0)) (by (with_reducible repeat (first | refine blk_drewN ?_ _ | refine blk_drew ?_ | refine blk_alloc ?_ _)); exact BK302.out) hb); have n1_ := Aside0.mk (below_step (by repeat (first | (with_reducible first | exact HB.out | apply below_alloc | apply pw_below_drewN | apply below_drew1 | refine below_set ?_ GE302.out) | exact HB.out)) hb); have n2_ := Aside0.mk (hbox); have n3_ := Aside0.mk ((by rw [hg]; exact (below_size (by repeat (first | (with_reducible first | exact HB.out | apply below_alloc | apply pw_below_drewN | apply below_drew1 | refine below_set ?_ GE302.out) | exact HB.out))) : w.heap.size ≤ gb303)); have n4_ := Aside0.mk ((by rw [hg]; exact (below_size (by repeat (first | (with_reducible first | exact HB.out | apply below_alloc | apply pw_below_drewN | apply below_drew1 | refine below_set ?_ GE302.out) | exact HB.out))) : w.heap.size ≤ gb303)); have n5_ := Aside0.mk ((by rw [hg]; exact Nat.ne_of_lt (blk_lt (g := gb302) (o := .cells #[.int .i64 a0_0, .int .i64 a0_1, .int .i64 a0_2, .slice A0_3 l0_3.length c0_3] 39 (0, 0)) (by (with_reducible repeat (first | refine blk_drewN ?_ _ | refine blk_drew ?_ | refine blk_alloc ?_ _)); exact BK302.out)) : gb302 ≠ gb303)); have n6_ := Aside0.mk ((by rw [hg]; exact Nat.ne_of_gt (blk_lt (g := gb302) (o := .cells #[.int .i64 a0_0, .int .i64 a0_1, .int .i64 a0_2, .slice A0_3 l0_3.length c0_3] 39 (0, 0)) (by (with_reducible repeat (first | refine blk_drewN ?_ _ | refine blk_drew ?_ | refine blk_alloc ?_ _)); exact BK302.out)) : gb303 ≠ gb302)); clear BK302; clear HB; have BK302 := n0_; have HB := n1_; have BK303 := n2_; have GW303 := n3_; have GE303 := n4_; have NB302_303 := n5_; have NB303_302 := n6_; clear n0_ n1_ n2_ n3_ n4_ n5_ n6_; clear hb hbox hg))
  repeat (go_quiet (first | ((with_reducible refine gate_dst (N := 2) rfl ?_); (try (refine gate_guard (by rfl) ?_; dsimp only)); refine box_event ?hg (N := 2) ?hd (cs := #[.int .i64 a0_0, .int .i64 a0_1, .int .i64 a0_2, .slice A0_3 l0_3.length c0_3]) (t := 39) ?hr ?_; (case hd => rfl); (case hg => rfl); (case hr => first | (go_simp; done) | (go_simp; rfl)); intro gb302 hg w4 hbox hb; have n0_ := Aside0.mk (below_step (by repeat (first | (with_reducible first | exact HB.out | apply below_alloc | apply pw_below_drewN | apply below_drew1) | exact HB.out)) hb); have n1_ := Aside0.mk (hbox); have n2_ := Aside0.mk ((by rw [hg]; exact (below_size (by repeat (first | (with_reducible first | exact HB.out | apply below_alloc | apply pw_below_drewN | apply below_drew1) | exact HB.out))) : w.heap.size ≤ gb302)); have n3_ := Aside0.mk ((by rw [hg]; exact (below_size (by repeat (first | (with_reducible first | exact HB.out | apply below_alloc | apply pw_below_drewN | apply below_drew1) | exact HB.out))) : w.heap.size ≤ gb302)); clear HB; have HB := n0_; have BK302 := n1_; have GW302 := n2_; have GE302 := n3_; clear n0_ n1_ n2_ n3_; clear hb hbox hg) | ((with_reducible refine gate_dst (N := 3) rfl ?_); (try (refine gate_guard (by rfl) ?_; dsimp only)); refine box_event ?hg (N := 3) ?hd (cs := #[.int .i64 a1_0, .int .i64 a1_1, .int .i64 a1_2, .slice A1_3 l1_3.length c1_3]) (t := 39) ?hr ?_; (case hd => rfl); (case hg => rfl); (case hr => first | (go_simp; done) | (go_simp; rfl)); intro gb303 hg w5 hbox hb; have n0_ := Aside0.mk (blk_below (g := gb302) (o := .cells #[.int .i64 a0_0, .int .i64 a0_1, .int .i64 a0_2, .slice A0_3 l0_3.length c0_3] 39 (0, 0)) (by (with_reducible repeat (first | refine blk_drewN ?_ _ | refine blk_drew ?_ | refine blk_alloc ?_ _)); exact BK302.out) hb); have n1_ := Aside0.mk (below_step (by repeat (first | (with_reducible first | exact HB.out | apply below_alloc | apply pw_below_drewN | apply below_drew1 | refine below_set ?_ GE302.out) | exact HB.out)) hb); have n2_ := Aside0.mk (hbox); have n3_ := Aside0.mk ((by rw [hg]; exact (below_size (by repeat (first | (with_reducible first | exact HB.out | apply below_alloc | apply pw_below_drewN | apply below_drew1 | refine below_set ?_ GE302.out) | exact HB.out))) : w.heap.size ≤ gb303)); have n4_ := Aside0.mk ((by rw [hg]; exact (below_size (by repeat (first | (with_reducible first | exact HB.out | apply below_alloc | apply pw_below_drewN | apply below_drew1 | refine below_set ?_ GE302.out) | exact HB.out))) : w.heap.size ≤ gb303)); have n5_ := Aside0.mk ((by rw [hg]; exact Nat.ne_of_lt (blk_lt (g := gb302) (o := .cells #[.int .i64 a0_0, .int .i64 a0_1, .int .i64 a0_2, .slice A0_3 l0_3.length c0_3] 39 (0, 0)) (by (with_reducible repeat (first | refine blk_drewN ?_ _ | refine blk_drew ?_ | refine blk_alloc ?_ _)); exact BK302.out)) : gb302 ≠ gb303)); have n6_ := Aside0.mk ((by rw [hg]; exact Nat.ne_of_gt (blk_lt (g := gb302) (o := .cells #[.int .i64 a0_0, .int .i64 a0_1, .int .i64 a0_2, .slice A0_3 l0_3.length c0_3] 39 (0, 0)) (by (with_reducible repeat (first | refine blk_drewN ?_ _ | refine blk_drew ?_ | refine blk_alloc ?_ _)); exact BK302.out)) : gb303 ≠ gb302)); clear BK302; clear HB; have BK302 := n0_; have HB := n1_; have BK303 := n2_; have GW303 := n3_; have GE303 := n4_; have NB302_303 := n5_; have NB303_302 := n6_; clear n0_ n1_ n2_ n3_ n4_ n5_ n6_; clear hb hbox hg)); go_upto_region 1 with (first | ((with_reducible refine gate_dst (N := 2) rfl ?_); (try (refine gate_guard (by rfl) ?_; dsimp only)); refine box_event ?hg (N := 2) ?hd (cs := #[.int .i64 a0_0, .int .i64 a0_1, .int .i64 a0_2, .slice A0_3 l0_3.length c0_3]) (t := 39) ?hr ?_; (case hd => rfl); (case hg => rfl); (case hr => first | (go_simp; done) | (go_simp; rfl)); intro gb302 hg w4 hbox hb; have n0_ := Aside0.mk (below_step (by repeat (first | (with_reducible first | exact HB.out | apply below_alloc | apply pw_below_drewN | apply below_drew1) | exact HB.out)) hb); have n1_ := Aside0.mk (hbox); have n2_ := Aside0.mk ((by rw [hg]; exact (below_size (by repeat (first | (with_reducible first | exact HB.out | apply below_alloc | apply pw_below_drewN | apply below_drew1) | exact HB.out))) : w.heap.size ≤ gb302)); have n3_ := Aside0.mk ((by rw [hg]; exact (below_size (by repeat (first | (with_reducible first | exact HB.out | apply below_alloc | apply pw_below_drewN | apply below_drew1) | exact HB.out))) : w.heap.size ≤ gb302)); clear HB; have HB := n0_; have BK302 := n1_; have GW302 := n2_; have GE302 := n3_; clear n0_ n1_ n2_ n3_; clear hb hbox hg) | ((with_reducible refine gate_dst (N := 3) rfl ?_); (try (refine gate_guard (by rfl) ?_; dsimp only)); refine box_event ?hg (N := 3) ?hd (cs := #[.int .i64 a1_0, .int .i64 a1_1, .int .i64 a1_2, .slice A1_3 l1_3.length c1_3]) (t := 39) ?hr ?_; (case hd => rfl); (case hg => rfl); (case hr => first | (go_simp; done) | (go_simp; rfl)); intro gb303 hg w5 hbox hb; have n0_ := Aside0.mk (blk_below (g := gb302) (o := .cells #[.int .i64 a0_0, .int .i64 a0_1, .int .i64 a0_2, .slice A0_3 l0_3.length c0_3] 39 (0, 0)) (by (with_reducible repeat (first | refine blk_drewN ?_ _ | refine blk_drew ?_ | refine blk_alloc ?_ _)); exact BK302.out) hb); have n1_ := Aside0.mk (below_step (by repeat (first | (with_reducible first | exact HB.out | apply below_alloc | apply pw_below_drewN | apply below_drew1 | refine below_set ?_ GE302.out) | exact HB.out)) hb); have n2_ := Aside0.mk (hbox); have n3_ := Aside0.mk ((by rw [hg]; exact (below_size (by repeat (first | (with_reducible first | exact HB.out | apply below_alloc | apply pw_below_drewN | apply below_drew1 | refine below_set ?_ GE302.out) | exact HB.out))) : w.heap.size ≤ gb303)); have n4_ := Aside0.mk ((by rw [hg]; exact (below_size (by repeat (first | (with_reducible first | exact HB.out | apply below_alloc | apply pw_below_drewN | apply below_drew1 | refine below_set ?_ GE302.out) | exact HB.out))) : w.heap.size ≤ gb303)); have n5_ := Aside0.mk ((by rw [hg]; exact Nat.ne_of_lt (blk_lt (g := gb302) (o := .cells #[.int .i64 a0_0, .int .i64 a0_1, .int .i64 a0_2, .slice A0_3 l0_3.length c0_3] 39 (0, 0)) (by (with_reducible repeat (first | refine blk_drewN ?_ _ | refine blk_drew ?_ | refine blk_alloc ?_ _)); exact BK302.out)) : gb302 ≠ gb303)); have n6_ := Aside0.mk ((by rw [hg]; exact Nat.ne_of_gt (blk_lt (g := gb302) (o := .cells #[.int .i64 a0_0, .int .i64 a0_1, .int .i64 a0_2, .slice A0_3 l0_3.length c0_3] 39 (0, 0)) (by (with_reducible repeat (first | refine blk_drewN ?_ _ | refine blk_drew ?_ | refine blk_alloc ?_ _)); exact BK302.out)) : gb303 ≠ gb302)); clear BK302; clear HB; have BK302 := n0_; have HB := n1_; have BK303 := n2_; have GW303 := n3_; have GE303 := n4_; have NB302_303 := n5_; have NB303_302 := n6_; clear n0_ n1_ n2_ n3_ n4_ n5_ n6_; clear hb hbox hg)))
  (try simp only [Act.put, List.setIfInBounds_toArray, List.set_cons_zero, List.set_cons_succ])
  go_cut [33] (fun v33 wc => ∃ (kq : Nat) (x33_2 : Bool), v33 = .bool x33_2 ∧ Aside0 (palinodelaw06_same.j0 kq x33_2 a0_0 a0_1 a0_2 l0_3 a1_0 a1_1 a1_2 l1_3 = some r) ∧ Aside0 (kq ≤ k) ∧ Aside0 (wc.heap[gb302]? = some (.cells #[.int .i64 a0_0, .int .i64 a0_1, .int .i64 a0_2, (.slice A0_3 l0_3.length c0_3)] 39 (0, 0))) ∧ Aside0 (wc.heap[gb303]? = some (.cells #[.int .i64 a1_0, .int .i64 a1_1, .int .i64 a1_2, (.slice A1_3 l1_3.length c1_3)] 39 (0, 0))) ∧ Aside0 (Below w.heap.size w wc))
  case first =>
    have H := HC3.out
    clear HC3
    by_cases c6 : a0_0 = a1_0
    · rw [if_pos c6] at H
      have c6b0 : (a0_0 == a1_0) = true := beq_iff_eq.mpr c6
      have c6b1 : (a0_0 != a1_0) = false := bne_eq_false_iff_eq.mpr c6
      clear c6
      (first | rw [c6b0] | (simp only [i64_w, i32_w]; rw [c6b0]) | skip)
      by_cases c7 : a0_1 = a1_1
      · rw [if_pos c7] at H
        have c7b0 : (a0_1 == a1_1) = true := beq_iff_eq.mpr c7
        have c7b1 : (a0_1 != a1_1) = false := bne_eq_false_iff_eq.mpr c7
        clear c7
        by_cases c8 : a0_2 = a1_2
        · rw [if_pos c8] at H
          have c8b0 : (a0_2 == a1_2) = true := beq_iff_eq.mpr c8
          have c8b1 : (a0_2 != a1_2) = false := bne_eq_false_iff_eq.mpr c8
          clear c8
          have H' := Aside0.mk H
          clear H
          have hnb9 := NB302_303.out
          have hnc9 := NB303_302.out
          have hcz10_0 : w5.cell? ⟨gb302, 0, none⟩ = some (.int .i64 a0_0) := (blk_cell BK302.out 0).trans rfl
          have hcz10_1 : w5.cell? ⟨gb302, 1, none⟩ = some (.int .i64 a0_1) := (blk_cell BK302.out 1).trans rfl
          have hcz10_2 : w5.cell? ⟨gb302, 2, none⟩ = some (.int .i64 a0_2) := (blk_cell BK302.out 2).trans rfl
          have hcz10_3 : w5.cell? ⟨gb302, 3, none⟩ = some (.slice A0_3 l0_3.length c0_3) := (blk_cell BK302.out 3).trans rfl
          have hfz10_0 := blk_frozen BK302.out 0
          have hfz10_1 := blk_frozen BK302.out 1
          have hfz10_2 := blk_frozen BK302.out 2
          have hfz10_3 := blk_frozen BK302.out 3
          have hcz11_0 : w5.cell? ⟨gb303, 0, none⟩ = some (.int .i64 a1_0) := (blk_cell BK303.out 0).trans rfl
          have hcz11_1 : w5.cell? ⟨gb303, 1, none⟩ = some (.int .i64 a1_1) := (blk_cell BK303.out 1).trans rfl
          have hcz11_2 : w5.cell? ⟨gb303, 2, none⟩ = some (.int .i64 a1_2) := (blk_cell BK303.out 2).trans rfl
          have hcz11_3 : w5.cell? ⟨gb303, 3, none⟩ = some (.slice A1_3 l1_3.length c1_3) := (blk_cell BK303.out 3).trans rfl
          have hfz11_0 := blk_frozen BK303.out 0
          have hfz11_1 := blk_frozen BK303.out 1
          have hfz11_2 := blk_frozen BK303.out 2
          have hfz11_3 := blk_frozen BK303.out 3
          go_wp2
          repeat (go_quiet (fail); try go_wp2)
          go_meet
          case rel => exact ⟨_, (((l0_3.length : Int) != (l1_3.length : Int))), (by first | rfl | (simp; done) | (simp [*]; done)), H', ⟨by first | omega | exact Nat.le_refl _⟩, ⟨by (with_reducible repeat (first | refine blk_drewN ?_ _ | refine blk_drew ?_ | refine blk_alloc ?_ _)); exact BK302.out⟩, ⟨by (with_reducible repeat (first | refine blk_drewN ?_ _ | refine blk_drew ?_ | refine blk_alloc ?_ _)); exact BK303.out⟩, ⟨by repeat (first | (with_reducible first | exact HB.out | apply below_alloc | apply pw_below_drewN | apply below_drew1 | refine below_set ?_ GE302.out | refine below_set ?_ GE303.out) | exact HB.out)⟩⟩
        · rw [if_neg c8] at H
          have c8b0 : (a0_2 == a1_2) = false := beq_eq_false_iff_ne.mpr c8
          have c8b1 : (a0_2 != a1_2) = true := bne_iff_ne.mpr c8
          have H' := Aside0.mk H
          clear H
          have hnb12 := NB302_303.out
          have hnc12 := NB303_302.out
          have hcz13_0 : w5.cell? ⟨gb302, 0, none⟩ = some (.int .i64 a0_0) := (blk_cell BK302.out 0).trans rfl
          have hcz13_1 : w5.cell? ⟨gb302, 1, none⟩ = some (.int .i64 a0_1) := (blk_cell BK302.out 1).trans rfl
          have hcz13_2 : w5.cell? ⟨gb302, 2, none⟩ = some (.int .i64 a0_2) := (blk_cell BK302.out 2).trans rfl
          have hcz13_3 : w5.cell? ⟨gb302, 3, none⟩ = some (.slice A0_3 l0_3.length c0_3) := (blk_cell BK302.out 3).trans rfl
          have hfz13_0 := blk_frozen BK302.out 0
          have hfz13_1 := blk_frozen BK302.out 1
          have hfz13_2 := blk_frozen BK302.out 2
          have hfz13_3 := blk_frozen BK302.out 3
          have hcz14_0 : w5.cell? ⟨gb303, 0, none⟩ = some (.int .i64 a1_0) := (blk_cell BK303.out 0).trans rfl
          have hcz14_1 : w5.cell? ⟨gb303, 1, none⟩ = some (.int .i64 a1_1) := (blk_cell BK303.out 1).trans rfl
          have hcz14_2 : w5.cell? ⟨gb303, 2, none⟩ = some (.int .i64 a1_2) := (blk_cell BK303.out 2).trans rfl
          have hcz14_3 : w5.cell? ⟨gb303, 3, none⟩ = some (.slice A1_3 l1_3.length c1_3) := (blk_cell BK303.out 3).trans rfl
          have hfz14_0 := blk_frozen BK303.out 0
          have hfz14_1 := blk_frozen BK303.out 1
          have hfz14_2 := blk_frozen BK303.out 2
          have hfz14_3 := blk_frozen BK303.out 3
          go_wp2
          repeat (go_quiet (fail); try go_wp2)
          go_meet
          case rel => exact ⟨_, (true), (by first | rfl | (simp; done) | (simp [*]; done)), H', ⟨by first | omega | exact Nat.le_refl _⟩, ⟨by (with_reducible repeat (first | refine blk_drewN ?_ _ | refine blk_drew ?_ | refine blk_alloc ?_ _)); exact BK302.out⟩, ⟨by (with_reducible repeat (first | refine blk_drewN ?_ _ | refine blk_drew ?_ | refine blk_alloc ?_ _)); exact BK303.out⟩, ⟨by repeat (first | (with_reducible first | exact HB.out | apply below_alloc | apply pw_below_drewN | apply below_drew1 | refine below_set ?_ GE302.out | refine below_set ?_ GE303.out) | exact HB.out)⟩⟩
      · rw [if_neg c7] at H
        have c7b0 : (a0_1 == a1_1) = false := beq_eq_false_iff_ne.mpr c7
        have c7b1 : (a0_1 != a1_1) = true := bne_iff_ne.mpr c7
        have H' := Aside0.mk H
        clear H
        have hnb15 := NB302_303.out
        have hnc15 := NB303_302.out
        have hcz16_0 : w5.cell? ⟨gb302, 0, none⟩ = some (.int .i64 a0_0) := (blk_cell BK302.out 0).trans rfl
        have hcz16_1 : w5.cell? ⟨gb302, 1, none⟩ = some (.int .i64 a0_1) := (blk_cell BK302.out 1).trans rfl
        have hcz16_2 : w5.cell? ⟨gb302, 2, none⟩ = some (.int .i64 a0_2) := (blk_cell BK302.out 2).trans rfl
        have hcz16_3 : w5.cell? ⟨gb302, 3, none⟩ = some (.slice A0_3 l0_3.length c0_3) := (blk_cell BK302.out 3).trans rfl
        have hfz16_0 := blk_frozen BK302.out 0
        have hfz16_1 := blk_frozen BK302.out 1
        have hfz16_2 := blk_frozen BK302.out 2
        have hfz16_3 := blk_frozen BK302.out 3
        have hcz17_0 : w5.cell? ⟨gb303, 0, none⟩ = some (.int .i64 a1_0) := (blk_cell BK303.out 0).trans rfl
        have hcz17_1 : w5.cell? ⟨gb303, 1, none⟩ = some (.int .i64 a1_1) := (blk_cell BK303.out 1).trans rfl
        have hcz17_2 : w5.cell? ⟨gb303, 2, none⟩ = some (.int .i64 a1_2) := (blk_cell BK303.out 2).trans rfl
        have hcz17_3 : w5.cell? ⟨gb303, 3, none⟩ = some (.slice A1_3 l1_3.length c1_3) := (blk_cell BK303.out 3).trans rfl
        have hfz17_0 := blk_frozen BK303.out 0
        have hfz17_1 := blk_frozen BK303.out 1
        have hfz17_2 := blk_frozen BK303.out 2
        have hfz17_3 := blk_frozen BK303.out 3
        go_wp2
        repeat (go_quiet (fail); try go_wp2)
        go_meet
        case rel => exact ⟨_, (true), (by first | rfl | (simp; done) | (simp [*]; done)), H', ⟨by first | omega | exact Nat.le_refl _⟩, ⟨by (with_reducible repeat (first | refine blk_drewN ?_ _ | refine blk_drew ?_ | refine blk_alloc ?_ _)); exact BK302.out⟩, ⟨by (with_reducible repeat (first | refine blk_drewN ?_ _ | refine blk_drew ?_ | refine blk_alloc ?_ _)); exact BK303.out⟩, ⟨by repeat (first | (with_reducible first | exact HB.out | apply below_alloc | apply pw_below_drewN | apply below_drew1 | refine below_set ?_ GE302.out | refine below_set ?_ GE303.out) | exact HB.out)⟩⟩
    · rw [if_neg c6] at H
      have c6b0 : (a0_0 == a1_0) = false := beq_eq_false_iff_ne.mpr c6
      have c6b1 : (a0_0 != a1_0) = true := bne_iff_ne.mpr c6
      (first | rw [c6b0] | (simp only [i64_w, i32_w]; rw [c6b0]) | skip)
      have H' := Aside0.mk H
      clear H
      have hnb18 := NB302_303.out
      have hnc18 := NB303_302.out
      have hcz19_0 : w5.cell? ⟨gb302, 0, none⟩ = some (.int .i64 a0_0) := (blk_cell BK302.out 0).trans rfl
      have hcz19_1 : w5.cell? ⟨gb302, 1, none⟩ = some (.int .i64 a0_1) := (blk_cell BK302.out 1).trans rfl
      have hcz19_2 : w5.cell? ⟨gb302, 2, none⟩ = some (.int .i64 a0_2) := (blk_cell BK302.out 2).trans rfl
      have hcz19_3 : w5.cell? ⟨gb302, 3, none⟩ = some (.slice A0_3 l0_3.length c0_3) := (blk_cell BK302.out 3).trans rfl
      have hfz19_0 := blk_frozen BK302.out 0
      have hfz19_1 := blk_frozen BK302.out 1
      have hfz19_2 := blk_frozen BK302.out 2
      have hfz19_3 := blk_frozen BK302.out 3
      have hcz20_0 : w5.cell? ⟨gb303, 0, none⟩ = some (.int .i64 a1_0) := (blk_cell BK303.out 0).trans rfl
      have hcz20_1 : w5.cell? ⟨gb303, 1, none⟩ = some (.int .i64 a1_1) := (blk_cell BK303.out 1).trans rfl
      have hcz20_2 : w5.cell? ⟨gb303, 2, none⟩ = some (.int .i64 a1_2) := (blk_cell BK303.out 2).trans rfl
      have hcz20_3 : w5.cell? ⟨gb303, 3, none⟩ = some (.slice A1_3 l1_3.length c1_3) := (blk_cell BK303.out 3).trans rfl
      have hfz20_0 := blk_frozen BK303.out 0
      have hfz20_1 := blk_frozen BK303.out 1
      have hfz20_2 := blk_frozen BK303.out 2
      have hfz20_3 := blk_frozen BK303.out 3
      go_wp2
      repeat (go_quiet (fail); try go_wp2)
      go_meet
      case rel => exact ⟨_, (true), (by first | rfl | (simp; done) | (simp [*]; done)), H', ⟨by first | omega | exact Nat.le_refl _⟩, ⟨by (with_reducible repeat (first | refine blk_drewN ?_ _ | refine blk_drew ?_ | refine blk_alloc ?_ _)); exact BK302.out⟩, ⟨by (with_reducible repeat (first | refine blk_drewN ?_ _ | refine blk_drew ?_ | refine blk_alloc ?_ _)); exact BK303.out⟩, ⟨by repeat (first | (with_reducible first | exact HB.out | apply below_alloc | apply pw_below_drewN | apply below_drew1 | refine below_set ?_ GE302.out | refine below_set ?_ GE303.out) | exact HB.out)⟩⟩
  case rest =>
    clear HC3
    try clear c1
    try clear c2
    try clear p2
    try clear c6
    try clear c6b0
    try clear c6b1
    try clear c7
    try clear c7b0
    try clear c7b1
    try clear c8
    try clear c8b0
    try clear c8b1
    try clear c9
    try clear c12
    try clear c15
    try clear c18
    try clear c20
    try clear hcz10_0
    try clear hcz10_1
    try clear hcz10_2
    try clear hcz10_3
    try clear hcz11_0
    try clear hcz11_1
    try clear hcz11_2
    try clear hcz11_3
    try clear hcz13_0
    try clear hcz13_1
    try clear hcz13_2
    try clear hcz13_3
    try clear hcz14_0
    try clear hcz14_1
    try clear hcz14_2
    try clear hcz14_3
    try clear hcz16_0
    try clear hcz16_1
    try clear hcz16_2
    try clear hcz16_3
    try clear hcz17_0
    try clear hcz17_1
    try clear hcz17_2
    try clear hcz17_3
    try clear hcz19_0
    try clear hcz19_1
    try clear hcz19_2
    try clear hcz19_3
    try clear hcz20_0
    try clear hcz20_1
    try clear hcz20_2
    try clear hcz20_3
    try clear hfz10_0
    try clear hfz10_1
    try clear hfz10_2
    try clear hfz10_3
    try clear hfz11_0
    try clear hfz11_1
    try clear hfz11_2
    try clear hfz11_3
    try clear hfz13_0
    try clear hfz13_1
    try clear hfz13_2
    try clear hfz13_3
    try clear hfz14_0
    try clear hfz14_1
    try clear hfz14_2
    try clear hfz14_3
    try clear hfz16_0
    try clear hfz16_1
    try clear hfz16_2
    try clear hfz16_3
    try clear hfz17_0
    try clear hfz17_1
    try clear hfz17_2
    try clear hfz17_3
    try clear hfz19_0
    try clear hfz19_1
    try clear hfz19_2
    try clear hfz19_3
    try clear hfz20_0
    try clear hfz20_1
    try clear hfz20_2
    try clear hfz20_3
    obtain ⟨kq, x33_2, rfl, HA, HJ2, BK302, BK303, HB⟩ := hcut
    cases kq with
    | zero => exact absurd HA.out (by simp [palinodelaw06_same.j0])
    | succ kj2 =>
      have H := HA.out
      clear HA
      simp only [palinodelaw06_same.j0] at H
      by_cases c21 : x33_2 = true
      · subst c21
        have H1 : (some false) = some r := by rw [if_pos rfl] at H; exact H
        clear H
        have H := H1
        clear H1
        obtain rfl := Option.some.inj H
        go_wp2
        repeat (go_quiet (fail); try go_wp2)
        go_ret
        exact ⟨by first | rfl | (simp [errW_none, errW_some] <;> rfl) | (simp [*, errW_none, errW_some] <;> rfl), by repeat (first | (with_reducible first | exact HB.out | apply below_alloc | apply pw_below_drewN | apply below_drew1 | refine below_set ?_ GE302.out | refine below_set ?_ GE303.out) | exact HB.out)⟩
      · replace c21 := Bool.eq_false_iff.mpr c21
        subst c21
        have H1 : (palinodelaw06_same.l0 kj2 0 a0_0 a0_1 a0_2 l0_3 a1_0 a1_1 a1_2 l1_3) = some r := by rw [if_neg (show ¬ (false = true) by decide)] at H; exact H
        clear H
        have H := H1
        clear H1
        have H' := Aside0.mk H
        clear H
        go_wp2
        repeat (go_quiet (fail); try go_wp2)
        go_loopg [5] kj2 (fun kq v5 w' => ∃ (x5_2 : Int), v5 = .int .i64 x5_2 ∧ Aside0 (palinodelaw06_same.l0 kq x5_2 a0_0 a0_1 a0_2 l0_3 a1_0 a1_1 a1_2 l1_3 = some r) ∧ Aside0 (kq ≤ kj2) ∧ Aside0 (w'.heap[gb302]? = some (.cells #[.int .i64 a0_0, .int .i64 a0_1, .int .i64 a0_2, (.slice A0_3 l0_3.length c0_3)] 39 (0, 0))) ∧ Aside0 (w'.heap[gb303]? = some (.cells #[.int .i64 a1_0, .int .i64 a1_1, .int .i64 a1_2, (.slice A1_3 l1_3.length c1_3)] 39 (0, 0))) ∧ Aside0 (Below w.heap.size w w'))
        case atStart => exact ⟨(0), (by first | rfl | (simp; done) | (simp [*]; done)), H', ⟨Nat.le_refl _⟩, ⟨by (with_reducible repeat (first | refine blk_drewN ?_ _ | refine blk_drew ?_ | refine blk_alloc ?_ _)); exact BK302.out⟩, ⟨by (with_reducible repeat (first | refine blk_drewN ?_ _ | refine blk_drew ?_ | refine blk_alloc ?_ _)); exact BK303.out⟩, ⟨by repeat (first | (with_reducible first | exact HB.out | apply below_alloc | apply pw_below_drewN | apply below_drew1 | refine below_set ?_ GE302.out | refine below_set ?_ GE303.out) | exact HB.out)⟩⟩
        case round =>
          clear H'
          try clear c1
          try clear c2
          try clear p2
          try clear c6
          try clear c6b0
          try clear c6b1
          try clear c7
          try clear c7b0
          try clear c7b1
          try clear c8
          try clear c8b0
          try clear c8b1
          try clear c9
          try clear c12
          try clear c15
          try clear c18
          try clear c20
          try clear c21
          try clear hcz10_0
          try clear hcz10_1
          try clear hcz10_2
          try clear hcz10_3
          try clear hcz11_0
          try clear hcz11_1
          try clear hcz11_2
          try clear hcz11_3
          try clear hcz13_0
          try clear hcz13_1
          try clear hcz13_2
          try clear hcz13_3
          try clear hcz14_0
          try clear hcz14_1
          try clear hcz14_2
          try clear hcz14_3
          try clear hcz16_0
          try clear hcz16_1
          try clear hcz16_2
          try clear hcz16_3
          try clear hcz17_0
          try clear hcz17_1
          try clear hcz17_2
          try clear hcz17_3
          try clear hcz19_0
          try clear hcz19_1
          try clear hcz19_2
          try clear hcz19_3
          try clear hcz20_0
          try clear hcz20_1
          try clear hcz20_2
          try clear hcz20_3
          try clear hfz10_0
          try clear hfz10_1
          try clear hfz10_2
          try clear hfz10_3
          try clear hfz11_0
          try clear hfz11_1
          try clear hfz11_2
          try clear hfz11_3
          try clear hfz13_0
          try clear hfz13_1
          try clear hfz13_2
          try clear hfz13_3
          try clear hfz14_0
          try clear hfz14_1
          try clear hfz14_2
          try clear hfz14_3
          try clear hfz16_0
          try clear hfz16_1
          try clear hfz16_2
          try clear hfz16_3
          try clear hfz17_0
          try clear hfz17_1
          try clear hfz17_2
          try clear hfz17_3
          try clear hfz19_0
          try clear hfz19_1
          try clear hfz19_2
          try clear hfz19_3
          try clear hfz20_0
          try clear hfz20_1
          try clear hfz20_2
          try clear hfz20_3
          try clear p2
          obtain ⟨x5_2, rfl, HA, HK2, BK302, BK303, HB⟩ := hrel
          cases gk with
          | zero => exact absurd HA.out (by simp [palinodelaw06_same.l0])
          | succ k2 =>
            have H := HA.out
            clear HA
            simp only [palinodelaw06_same.l0] at H
            by_cases c22 : x5_2 < (l0_3.length : Int)
            · rw [if_pos c22] at H
              have c22b0 : decide (x5_2 < (l0_3.length : Int)) = true := decide_eq_true c22
              clear c22
              by_cases c23 : 0 ≤ x5_2
              · rw [if_pos c23] at H
                have c23b0 : decide (0 ≤ x5_2) = true := decide_eq_true c23
                clear c23
                by_cases c24 : x5_2 < (l1_3.length : Int)
                · rw [if_pos c24] at H
                  have c24b0 : decide (x5_2 < (l1_3.length : Int)) = true := decide_eq_true c24
                  clear c24
                  by_cases c25 : (!(((rd_T42 l0_3 x5_2).f0) == ((rd_T42 l1_3 x5_2).f0)) || (!(((rd_T42 l0_3 x5_2).f1) == ((rd_T42 l1_3 x5_2).f1)) || (!(((rd_T42 l0_3 x5_2).f2) == ((rd_T42 l1_3 x5_2).f2))))) = true
                  · rw [if_pos c25] at H
                    have c25b0 : (!(((rd_T42 l0_3 x5_2).f0) == ((rd_T42 l1_3 x5_2).f0)) || (!(((rd_T42 l0_3 x5_2).f1) == ((rd_T42 l1_3 x5_2).f1)) || (!(((rd_T42 l0_3 x5_2).f2) == ((rd_T42 l1_3 x5_2).f2))))) = true := c25
                    clear c25
                    obtain rfl := Option.some.inj H
                    have hnb26 := NB302_303.out
                    have hnc26 := NB303_302.out
                    have hcz27_0 : wr.cell? ⟨gb302, 0, none⟩ = some (.int .i64 a0_0) := (blk_cell BK302.out 0).trans rfl
                    have hcz27_1 : wr.cell? ⟨gb302, 1, none⟩ = some (.int .i64 a0_1) := (blk_cell BK302.out 1).trans rfl
                    have hcz27_2 : wr.cell? ⟨gb302, 2, none⟩ = some (.int .i64 a0_2) := (blk_cell BK302.out 2).trans rfl
                    have hcz27_3 : wr.cell? ⟨gb302, 3, none⟩ = some (.slice A0_3 l0_3.length c0_3) := (blk_cell BK302.out 3).trans rfl
                    have hfz27_0 := blk_frozen BK302.out 0
                    have hfz27_1 := blk_frozen BK302.out 1
                    have hfz27_2 := blk_frozen BK302.out 2
                    have hfz27_3 := blk_frozen BK302.out 3
                    have p304 : 0 ≤ (x5_2 : Int) := of_decide_eq_true (by first | (with_reducible assumption) | assumption)
                    have q304 : x5_2 < (l0_3.length : Int) := of_decide_eq_true (by first | (with_reducible assumption) | assumption)
                    obtain ⟨ad304, e304, hx304_0, hx304_1, hx304_2⟩ := at_T42 HR0_3.out x5_2 p304 q304
                    cases e304
                    replace hx304_0 := (HB.out.cell (World.block_lt_of_cell? w _ hx304_0)).trans hx304_0
                    replace hx304_1 := (HB.out.cell (World.block_lt_of_cell? w _ hx304_1)).trans hx304_1
                    replace hx304_2 := (HB.out.cell (World.block_lt_of_cell? w _ hx304_2)).trans hx304_2
                    replace p304 := eq_true p304
                    replace q304 := eq_true q304
                    have hcz28_0 : wr.cell? ⟨gb303, 0, none⟩ = some (.int .i64 a1_0) := (blk_cell BK303.out 0).trans rfl
                    have hcz28_1 : wr.cell? ⟨gb303, 1, none⟩ = some (.int .i64 a1_1) := (blk_cell BK303.out 1).trans rfl
                    have hcz28_2 : wr.cell? ⟨gb303, 2, none⟩ = some (.int .i64 a1_2) := (blk_cell BK303.out 2).trans rfl
                    have hcz28_3 : wr.cell? ⟨gb303, 3, none⟩ = some (.slice A1_3 l1_3.length c1_3) := (blk_cell BK303.out 3).trans rfl
                    have hfz28_0 := blk_frozen BK303.out 0
                    have hfz28_1 := blk_frozen BK303.out 1
                    have hfz28_2 := blk_frozen BK303.out 2
                    have hfz28_3 := blk_frozen BK303.out 3
                    have p305 : 0 ≤ (x5_2 : Int) := of_decide_eq_true (by first | (with_reducible assumption) | assumption)
                    have q305 : x5_2 < (l1_3.length : Int) := of_decide_eq_true (by first | (with_reducible assumption) | assumption)
                    obtain ⟨ad305, e305, hx305_0, hx305_1, hx305_2⟩ := at_T42 HR1_3.out x5_2 p305 q305
                    cases e305
                    replace hx305_0 := (HB.out.cell (World.block_lt_of_cell? w _ hx305_0)).trans hx305_0
                    replace hx305_1 := (HB.out.cell (World.block_lt_of_cell? w _ hx305_1)).trans hx305_1
                    replace hx305_2 := (HB.out.cell (World.block_lt_of_cell? w _ hx305_2)).trans hx305_2
                    replace p305 := eq_true p305
                    replace q305 := eq_true q305
                    go_wp2
                    repeat (go_quiet (fail); try go_wp2)
                    go_ret
                    exact ⟨by first | rfl | (simp [errW_none, errW_some] <;> rfl) | (simp [*, errW_none, errW_some] <;> rfl), by repeat (first | (with_reducible first | exact HB.out | apply below_alloc | apply pw_below_drewN | apply below_drew1 | refine below_set ?_ GE302.out | refine below_set ?_ GE303.out) | exact HB.out)⟩
                  · rw [if_neg c25] at H
                    have c25b0 : (!(((rd_T42 l0_3 x5_2).f0) == ((rd_T42 l1_3 x5_2).f0)) || (!(((rd_T42 l0_3 x5_2).f1) == ((rd_T42 l1_3 x5_2).f1)) || (!(((rd_T42 l0_3 x5_2).f2) == ((rd_T42 l1_3 x5_2).f2))))) = false := by simpa using c25
                    clear c25
                    have H' := Aside0.mk H
                    clear H
                    have hnb29 := NB302_303.out
                    have hnc29 := NB303_302.out
                    have hcz30_0 : wr.cell? ⟨gb302, 0, none⟩ = some (.int .i64 a0_0) := (blk_cell BK302.out 0).trans rfl
                    have hcz30_1 : wr.cell? ⟨gb302, 1, none⟩ = some (.int .i64 a0_1) := (blk_cell BK302.out 1).trans rfl
                    have hcz30_2 : wr.cell? ⟨gb302, 2, none⟩ = some (.int .i64 a0_2) := (blk_cell BK302.out 2).trans rfl
                    have hcz30_3 : wr.cell? ⟨gb302, 3, none⟩ = some (.slice A0_3 l0_3.length c0_3) := (blk_cell BK302.out 3).trans rfl
                    have hfz30_0 := blk_frozen BK302.out 0
                    have hfz30_1 := blk_frozen BK302.out 1
                    have hfz30_2 := blk_frozen BK302.out 2
                    have hfz30_3 := blk_frozen BK302.out 3
                    have p304 : 0 ≤ (x5_2 : Int) := of_decide_eq_true (by first | (with_reducible assumption) | assumption)
                    have q304 : x5_2 < (l0_3.length : Int) := of_decide_eq_true (by first | (with_reducible assumption) | assumption)
                    obtain ⟨ad304, e304, hx304_0, hx304_1, hx304_2⟩ := at_T42 HR0_3.out x5_2 p304 q304
                    cases e304
                    replace hx304_0 := (HB.out.cell (World.block_lt_of_cell? w _ hx304_0)).trans hx304_0
                    replace hx304_1 := (HB.out.cell (World.block_lt_of_cell? w _ hx304_1)).trans hx304_1
                    replace hx304_2 := (HB.out.cell (World.block_lt_of_cell? w _ hx304_2)).trans hx304_2
                    replace p304 := eq_true p304
                    replace q304 := eq_true q304
                    have hcz31_0 : wr.cell? ⟨gb303, 0, none⟩ = some (.int .i64 a1_0) := (blk_cell BK303.out 0).trans rfl
                    have hcz31_1 : wr.cell? ⟨gb303, 1, none⟩ = some (.int .i64 a1_1) := (blk_cell BK303.out 1).trans rfl
                    have hcz31_2 : wr.cell? ⟨gb303, 2, none⟩ = some (.int .i64 a1_2) := (blk_cell BK303.out 2).trans rfl
                    have hcz31_3 : wr.cell? ⟨gb303, 3, none⟩ = some (.slice A1_3 l1_3.length c1_3) := (blk_cell BK303.out 3).trans rfl
                    have hfz31_0 := blk_frozen BK303.out 0
                    have hfz31_1 := blk_frozen BK303.out 1
                    have hfz31_2 := blk_frozen BK303.out 2
                    have hfz31_3 := blk_frozen BK303.out 3
                    have p305 : 0 ≤ (x5_2 : Int) := of_decide_eq_true (by first | (with_reducible assumption) | assumption)
                    have q305 : x5_2 < (l1_3.length : Int) := of_decide_eq_true (by first | (with_reducible assumption) | assumption)
                    obtain ⟨ad305, e305, hx305_0, hx305_1, hx305_2⟩ := at_T42 HR1_3.out x5_2 p305 q305
                    cases e305
                    replace hx305_0 := (HB.out.cell (World.block_lt_of_cell? w _ hx305_0)).trans hx305_0
                    replace hx305_1 := (HB.out.cell (World.block_lt_of_cell? w _ hx305_1)).trans hx305_1
                    replace hx305_2 := (HB.out.cell (World.block_lt_of_cell? w _ hx305_2)).trans hx305_2
                    replace p305 := eq_true p305
                    replace q305 := eq_true q305
                    go_wp2
                    repeat (go_quiet (fail); try go_wp2)
                    go_roundg k2
                    case measure => have := HJ2.out; have := HK2.out; omega
                    case rel => exact ⟨(wrap64 (x5_2 + 1)), (by first | rfl | (simp; done) | (simp [*]; done)), H', ⟨by have := HJ2.out; have := HK2.out; omega⟩, ⟨by (with_reducible repeat (first | refine blk_drewN ?_ _ | refine blk_drew ?_ | refine blk_alloc ?_ _)); exact BK302.out⟩, ⟨by (with_reducible repeat (first | refine blk_drewN ?_ _ | refine blk_drew ?_ | refine blk_alloc ?_ _)); exact BK303.out⟩, ⟨by repeat (first | (with_reducible first | exact HB.out | apply below_alloc | apply pw_below_drewN | apply below_drew1 | refine below_set ?_ GE302.out | refine below_set ?_ GE303.out) | exact HB.out)⟩⟩
                · rw [if_neg c24] at H
                  exact absurd H (by simp)
              · rw [if_neg c23] at H
                exact absurd H (by simp)
            · rw [if_neg c22] at H
              have c22b0 : decide (x5_2 < (l0_3.length : Int)) = false := decide_eq_false c22
              clear c22
              obtain rfl := Option.some.inj H
              have hnb32 := NB302_303.out
              have hnc32 := NB303_302.out
              have hcz33_0 : wr.cell? ⟨gb302, 0, none⟩ = some (.int .i64 a0_0) := (blk_cell BK302.out 0).trans rfl
              have hcz33_1 : wr.cell? ⟨gb302, 1, none⟩ = some (.int .i64 a0_1) := (blk_cell BK302.out 1).trans rfl
              have hcz33_2 : wr.cell? ⟨gb302, 2, none⟩ = some (.int .i64 a0_2) := (blk_cell BK302.out 2).trans rfl
              have hcz33_3 : wr.cell? ⟨gb302, 3, none⟩ = some (.slice A0_3 l0_3.length c0_3) := (blk_cell BK302.out 3).trans rfl
              have hfz33_0 := blk_frozen BK302.out 0
              have hfz33_1 := blk_frozen BK302.out 1
              have hfz33_2 := blk_frozen BK302.out 2
              have hfz33_3 := blk_frozen BK302.out 3
              go_wp2
              repeat (go_quiet (fail); try go_wp2)
              go_ret
              exact ⟨by first | rfl | (simp [errW_none, errW_some] <;> rfl) | (simp [*, errW_none, errW_some] <;> rfl), by repeat (first | (with_reducible first | exact HB.out | apply below_alloc | apply pw_below_drewN | apply below_drew1 | refine below_set ?_ GE302.out | refine below_set ?_ GE303.out) | exact HB.out)⟩

end Go.Proofs.Yticajnfmjapkgaa.PD

/-
  Layer 6, the plain part of a root's bytes: Encode and Decode in closed form; and the document's own answers.
-/
set_option linter.unusedVariables false
set_option linter.unusedSimpArgs false
namespace Go.Proofs.Yticajnfmjapkgaa.PD
open Go.RowKit Go.Proofs.Yticajnfmjapkgaa Go.Proofs.YticajnfmjapkgaaW.PrintWords

/-- Some numbers of a text, and its rest; or the first one's error. -/
def nums : Nat → ByteArray → Except Int (List Int × ByteArray)
  | 0, b => .ok ([], b)
  | n + 1, b => match pack_ReadNum.tell b with
    | (x, r, none) => (match nums n r with
      | .ok (l, r') => .ok (x :: l, r')
      | .error e => .error e)
    | (_, _, some c) => .error c
theorem nums_add (m k : Nat) : ∀ b, nums (m + k) b = match nums m b with
    | .ok (l, r) => (match nums k r with
      | .ok (l', r') => .ok (l ++ l', r')
      | .error e => .error e)
    | .error e => .error e := by
  induction m with
  | zero => intro b; simp only [Nat.zero_add, nums, List.nil_append]; rcases nums k b with e | ⟨l, r⟩ <;> rfl
  | succ m ih =>
    intro b
    rw [show m + 1 + k = (m + k) + 1 by omega]
    simp only [nums]
    rcases pack_ReadNum.tell b with ⟨x, r, _ | c⟩
    · simp only [ih r]
      rcases nums m r with e | ⟨l, r1⟩
      · rfl
      · simp only
        rcases nums k r1 with e | ⟨l', r2⟩ <;> rfl
    · rfl
theorem nums_length : ∀ (n : Nat) (b r : ByteArray) (l : List Int), nums n b = .ok (l, r) → l.length = n := by
  intro n
  induction n with
  | zero => intro b r l h; simp only [nums] at h; injection h with h; injection h with h1 h2; subst h1; rfl
  | succ n ih =>
    intro b r l h
    simp only [nums] at h
    rcases hq : pack_ReadNum.tell b with ⟨x, r1, _ | c⟩
    · rw [hq] at h
      simp only at h
      rcases hn : nums n r1 with e | ⟨l', r2⟩
      · rw [hn] at h; simp at h
      · rw [hn] at h
        simp only at h
        injection h with h; injection h with h1 h2
        rw [← h1, List.length_cons, ih _ _ _ hn]
    · rw [hq] at h; simp at h
theorem nums_nonneg : ∀ (n : Nat) (b r : ByteArray) (l : List Int), nums n b = .ok (l, r) → ∀ x ∈ l, 0 ≤ x := by
  intro n
  induction n with
  | zero => intro b r l h; simp only [nums] at h; injection h with h; injection h with h1 h2; subst h1; simp
  | succ n ih =>
    intro b r l h
    simp only [nums] at h
    rcases hq : pack_ReadNum.tell b with ⟨x, r1, _ | c⟩
    · rw [hq] at h
      simp only at h
      rcases hn : nums n r1 with e | ⟨l', r2⟩
      · rw [hn] at h; simp at h
      · rw [hn] at h
        simp only at h
        injection h with h; injection h with h1 h2
        intro y hy
        rw [← h1] at hy
        rcases List.mem_cons.1 hy with rfl | hy
        · exact (tell_some hq).1
        · exact ih _ _ _ hn y hy
    · rw [hq] at h; simp at h
/-- Three numbers a file. -/
def files : List Int → List FileT
  | x :: y :: z :: r => ⟨x, y, z⟩ :: files r
  | _ => []
theorem files_length : ∀ (n : Nat) (l : List Int), l.length = 3 * n → (files l).length = n := by
  intro n
  induction n with
  | zero => intro l h; have : l = [] := List.length_eq_zero_iff.1 (by omega); subst this; rfl
  | succ n ih =>
    intro l h
    match l, h with
    | x :: y :: z :: r, h => simp only [files, List.length_cons]; rw [ih r (by simp at h; omega)]
    | [], h => simp at h
    | [_], h => simp at h; omega
    | [_, _], h => simp at h; omega
def flat : List FileT → List Int
  | [] => []
  | f :: l => f.f0 :: f.f1 :: f.f2 :: flat l
theorem flat_files : ∀ (n : Nat) (l : List Int), l.length = 3 * n → flat (files l) = l := by
  intro n
  induction n with
  | zero => intro l h; have : l = [] := List.length_eq_zero_iff.1 (by omega); subst this; rfl
  | succ n ih =>
    intro l h
    match l, h with
    | x :: y :: z :: r, h => simp only [files, flat]; rw [ih r (by simp at h; omega)]
    | [], h => simp at h
    | [_], h => simp at h; omega
    | [_, _], h => simp at h; omega
theorem files_flat (l : List FileT) : files (flat l) = l := by
  induction l with
  | nil => rfl
  | cons f l ih => simp only [flat, files, ih]
theorem flat_length (l : List FileT) : (flat l).length = 3 * l.length := by
  induction l with
  | nil => rfl
  | cons f l ih => simp only [flat, List.length_cons, ih]; omega
/-- The four numbers ahead. -/
theorem go4_4 (b : ByteArray) : match nums 4 b with
    | .ok (l, r) => ∃ x1 x2 x3 m, l = [x1, x2, x3, m] ∧ root_Decode.go4 ⟨0, 0, 0, 0, b, none⟩ 4 = ⟨x1, x2, x3, m, r, none⟩
    | .error e => (root_Decode.go4 ⟨0, 0, 0, 0, b, none⟩ 4).e = some e := by
  simp only [nums, root_Decode.go4, root_Decode.fs, root_Decode.rd]
  rcases h1 : pack_ReadNum.tell b with ⟨x1, b1, _ | c1⟩
  · simp only [Option.isNone_none, if_true, h1]
    rcases h2 : pack_ReadNum.tell b1 with ⟨x2, b2, _ | c2⟩
    · simp only [Option.isNone_none, if_true, h2]
      rcases h3 : pack_ReadNum.tell b2 with ⟨x3, b3, _ | c3⟩
      · simp only [Option.isNone_none, if_true, h3]
        rcases h4 : pack_ReadNum.tell b3 with ⟨x4, b4, _ | c4⟩
        · simp only [Option.isNone_none, if_true, h4]
          exact ⟨_, _, _, _, rfl, rfl⟩
        · simp [h4]
      · simp [h3]
    · simp [h2]
  · simp [h1]
theorem go4_3 (b : ByteArray) : match nums 3 b with
    | .ok (l, r) => ∃ x1 x2 x3, l = [x1, x2, x3] ∧ root_Decode.go4 ⟨0, 0, 0, 0, b, none⟩ 3 = ⟨x1, x2, x3, 0, r, none⟩
    | .error e => (root_Decode.go4 ⟨0, 0, 0, 0, b, none⟩ 3).e = some e := by
  simp only [nums, root_Decode.go4, root_Decode.fs, root_Decode.rd]
  rcases h1 : pack_ReadNum.tell b with ⟨x1, b1, _ | c1⟩
  · simp only [Option.isNone_none, if_true, h1]
    rcases h2 : pack_ReadNum.tell b1 with ⟨x2, b2, _ | c2⟩
    · simp only [Option.isNone_none, if_true, h2]
      rcases h3 : pack_ReadNum.tell b2 with ⟨x3, b3, _ | c3⟩
      · simp only [Option.isNone_none, if_true, h3]
        exact ⟨_, _, _, rfl, rfl⟩
      · simp [h3]
    · simp [h2]
  · simp [h1]
theorem rows_nums : ∀ (n : Nat) (b : ByteArray) (acc : List FileT), match nums (3 * n) b with
    | .ok (l, r) => root_Decode.rows n b none acc = (acc ++ files l, r, none)
    | .error e => ∃ l' b', root_Decode.rows n b none acc = (l', b', some e) := by
  intro n
  induction n with
  | zero => intro b acc; simp [nums, root_Decode.rows, files]
  | succ n ih =>
    intro b acc
    rw [show 3 * (n + 1) = 3 + 3 * n by omega, nums_add]
    have hg := go4_3 b
    simp only [root_Decode.rows, Option.isNone_none, if_true]
    rcases hn : nums 3 b with e | ⟨l, r⟩
    · rw [hn] at hg
      simp only at hg ⊢
      rw [hg, root_Decode.rows_some]
      exact ⟨_, _, rfl⟩
    · rw [hn] at hg
      simp only at hg ⊢
      obtain ⟨x1, x2, x3, rfl, hg⟩ := hg
      rw [hg]
      simp only
      have := ih r (acc ++ [⟨x1, x2, x3⟩])
      rcases hm : nums (3 * n) r with e | ⟨l', r'⟩
      · rw [hm] at this
        exact this
      · rw [hm] at this
        simp only at this ⊢
        rw [this]
        simp [files]
/-- What Decode answers. -/
def dec (total : Int) (b : ByteArray) : Int × Int × Int × List FileT × Option Int :=
  if 512 < b.size then (0, 0, 0, [], some 5) else
  match nums 4 b with
  | .ok ([x1, x2, x3, m], r) => if 24 < m then (0, 0, 0, [], some 5) else (match nums (3 * m.toNat) r with
    | .ok (l, r') => if r'.toList = [] then (if rgood total x1 x2 x3 (files l) = true then (x1, x2, x3, files l, none) else (0, 0, 0, [], some 1)) else (0, 0, 0, [], some 3)
    | .error e => (0, 0, 0, [], some e))
  | .ok _ => (0, 0, 0, [], none)
  | .error e => (0, 0, 0, [], some e)
theorem Dec_some (total : Int) (b : ByteArray) (k : Nat) (hk : 100 ≤ k) : root_Decode.f k total b = some (dec total b) := by
  unfold root_Decode.f dec
  by_cases hb : 512 < b.size
  · rw [if_pos hb, if_pos hb]
  rw [if_neg hb, if_neg hb]
  have hg := go4_4 b
  unfold root_Decode.pre
  rcases hn : nums 4 b with e | ⟨l, r⟩
  · rw [hn] at hg
    simp only at hg ⊢
    rw [hg]
    simp [root_Decode.rows_some, root_Decode.tellQ]
  · rw [hn] at hg
    simp only at hg ⊢
    obtain ⟨x1, x2, x3, m, rfl, hg⟩ := hg
    rw [hg]
    simp only [Option.isNone_none, true_and]
    by_cases hm : 24 < m
    · rw [if_pos hm, if_pos hm]
      simp [root_Decode.rows_some, root_Decode.tellQ]
    · rw [if_neg hm, if_neg hm]
      have hr := rows_nums m.toNat r []
      rcases hl : nums (3 * m.toNat) r with e | ⟨l, r'⟩
      · rw [hl] at hr
        simp only at hr ⊢
        obtain ⟨l', b', hr⟩ := hr
        rw [hr]
        rfl
      · rw [hl] at hr
        simp only at hr ⊢
        rw [hr]
        have hlen := files_length m.toNat l (nums_length _ _ _ _ hl)
        simp only [List.nil_append, root_Decode.tellQ]
        split
        · rw [rRight_some _ _ _ _ _ k (by omega) (by omega)]
          simp only [Option.bind_some]
          split <;> rfl
        · rfl
/-- The bytes of some numbers. -/
def numB (n : Int) : ByteArray := if n < 0 ∨ 9007199254740991 < n then ⟨#[]⟩ else pack_Num.bytes n
def encA (a : ByteArray) (l : List Int) : ByteArray := l.foldl (fun a n => a ++ numB n) a
theorem numB_size (n : Int) : (numB n).size ≤ 8 := by
  unfold numB
  split
  · exact Nat.zero_le _
  · have := pack_Num.sz_le 7 8 n (by omega)
    rw [bytes_size]; omega
theorem Num_bt (n : Int) : ∃ e, pack_Num.f n = some (numB n, e) := by
  rw [Num_some]
  unfold numB
  split
  · exact ⟨_, rfl⟩
  · exact ⟨_, rfl⟩
theorem rd_mid_int (pre rest : List Int) (x : Int) : rd (pre ++ x :: rest) (pre.length : Int) = x := by simp [rd, List.getD]
theorem Enc_l1 (xs : List Int) (hx : xs.length ≤ 1000) : ∀ (rest pre : List Int) (k : Nat) (a : ByteArray), xs = pre ++ rest → a.size + 8 * rest.length ≤ 100000 → rest.length + 1 ≤ k →
    root_Encode.l1 k a xs (xs.length : Int) (pre.length : Int) = some (encA a rest, none) := by
  intro rest
  induction rest with
  | nil =>
    intro pre k a he ha hk
    obtain ⟨k, rfl⟩ : ∃ q, k = q + 1 := ⟨k - 1, by omega⟩
    have hl : xs.length = pre.length := by rw [he]; simp
    simp only [root_Encode.l1]
    rw [if_neg (by omega)]
    rfl
  | cons x rest ih =>
    intro pre k a he ha hk
    obtain ⟨k, rfl⟩ : ∃ q, k = q + 1 := ⟨k - 1, by omega⟩
    have hl : xs.length = pre.length + (rest.length + 1) := by rw [he]; simp
    have hrd : rd xs (pre.length : Int) = x := by rw [he]; exact rd_mid_int pre rest x
    obtain ⟨e, hn⟩ := Num_bt x
    have hs := numB_size x
    have e1 : wrap64 ((pre.length : Int) + 1) = ((pre.length + 1 : Nat) : Int) := by rw [wrapS _ (by omega) (by omega)]; omega
    simp only [List.length_cons] at ha hk
    simp only [root_Encode.l1]
    rw [if_pos (by omega), if_pos (by omega), if_pos (by omega), hrd, hn]
    simp only [Option.bind_some]
    rw [if_pos (by omega), e1]
    have := ih (pre ++ [x]) k (a ++ numB x) (by rw [he]; simp) (by rw [ByteArray.size_append]; omega) (by omega)
    rw [List.length_append, List.length_singleton] at this
    rw [this]
    rfl
theorem Enc_l0 (xs : List FileT) (hx : xs.length ≤ 24) : ∀ (rest pre : List FileT) (k : Nat) (acc : List Int), xs = pre ++ rest → acc.length + 3 * rest.length ≤ 200 → rest.length + 400 ≤ k →
    root_Encode.l0 k acc xs (xs.length : Int) (pre.length : Int) = some (encA ⟨#[]⟩ (acc ++ flat rest), none) := by
  intro rest
  induction rest with
  | nil =>
    intro pre k acc he ha hk
    obtain ⟨k, rfl⟩ : ∃ q, k = q + 1 := ⟨k - 1, by omega⟩
    have hl : xs.length = pre.length := by rw [he]; simp
    simp only [List.length_nil] at ha hk
    simp only [root_Encode.l0]
    have := Enc_l1 acc (by omega) acc [] k ⟨#[]⟩ rfl (by rw [show (⟨#[]⟩ : ByteArray).size = 0 from rfl]; omega) (by omega)
    rw [List.length_nil, Int.natCast_zero] at this
    rw [if_neg (by omega), this]
    simp [flat]
  | cons f rest ih =>
    intro pre k acc he ha hk
    obtain ⟨k, rfl⟩ : ∃ q, k = q + 1 := ⟨k - 1, by omega⟩
    have hl : xs.length = pre.length + (rest.length + 1) := by rw [he]; simp
    have hrd : rd_T42 xs (pre.length : Int) = f := by rw [he]; exact rdF_mid pre rest f
    simp only [List.length_cons] at ha hk
    have e1 : wrap64 ((pre.length : Int) + 1) = ((pre.length + 1 : Nat) : Int) := by rw [wrapS _ (by omega) (by omega)]; omega
    simp only [root_Encode.l0]
    rw [if_pos (by omega), if_pos (by omega), if_pos (by omega), hrd, e1]
    simp only [Option.bind_some, List.length_cons, List.length_nil]
    have := ih (pre ++ [f]) k (acc ++ [f.f0, f.f1, f.f2]) (by rw [he]; simp) (by simp; omega) (by omega)
    rw [List.length_append, List.length_singleton] at this
    rw [if_pos (by omega), this]
    simp [flat]
def encR (s n c : Int) (l : List FileT) : ByteArray := encA ⟨#[]⟩ ([s, n, c, (l.length : Int)] ++ flat l)
theorem rgood_len {total s n c : Int} {l : List FileT} (h : rgood total s n c l = true) : l.length ≤ 24 := ((rgood_iff total s n c l).1 h).1.2.2.2.2
theorem Enc_some (total s n c : Int) (l : List FileT) (k : Nat) (hk : l.length + 1000 ≤ k) (hl : l.length ≤ 8796093022207) : root_Encode.f k total s n c l = some (if rgood total s n c l = true then (encR s n c l, none) else (⟨#[]⟩, some 1)) := by
  unfold root_Encode.f
  rw [rRight_some total s n c l k (by omega) hl]
  simp only [Option.bind_some]
  by_cases h : rgood total s n c l = true
  · have := Enc_l0 l (rgood_len h) l [] k [s, n, c, (l.length : Int)] rfl (by have := rgood_len h; simp; omega) (by omega)
    rw [List.length_nil, Int.natCast_zero] at this
    rw [if_pos h, if_pos h, this]
    rfl
  · rw [if_neg h, if_neg h]
theorem same_loop (s n c : Int) (xs : List FileT) (hx : xs.length ≤ 1000000) : ∀ (d j k : Nat), j + d = xs.length → d + 1 ≤ k → palinodelaw06_same.l0 k (j : Int) s n c xs s n c xs = some true := by
  intro d
  induction d with
  | zero =>
    intro j k hj hk
    obtain ⟨k, rfl⟩ : ∃ q, k = q + 1 := ⟨k - 1, by omega⟩
    simp only [palinodelaw06_same.l0]
    rw [if_neg (by omega)]
  | succ d ih =>
    intro j k hj hk
    obtain ⟨k, rfl⟩ : ∃ q, k = q + 1 := ⟨k - 1, by omega⟩
    have e1 : wrap64 ((j : Int) + 1) = ((j + 1 : Nat) : Int) := by rw [wrapS _ (by omega) (by omega)]; omega
    simp only [palinodelaw06_same.l0]
    rw [if_pos (by omega), if_pos (by omega), if_pos (by omega), if_neg (by simp), e1]
    exact ih (j + 1) k (by omega) (by omega)
theorem same_some (s n c : Int) (l : List FileT) (k : Nat) (hl : l.length ≤ 1000000) (hk : l.length + 3 ≤ k) : palinodelaw06_same.f k s n c l s n c l = some true := by
  obtain ⟨k, rfl⟩ : ∃ q, k = q + 1 := ⟨k - 1, by omega⟩
  unfold palinodelaw06_same.f
  rw [if_pos rfl, if_pos rfl, if_pos rfl, palinodelaw06_same.j0, if_neg (by simp)]
  exact same_loop s n c l hl l.length 0 k (by omega) (by omega)
end Go.Proofs.Yticajnfmjapkgaa.PD
