-- packed: PDx24 PDx1 PDx37 PDx36 PDx35 Cuts GOpn CutsOpn
import Derived.Test.YtepgnefkpjnmlaaQC1
-- printed by gprint.py (own tool) over the kit's print
namespace Go.Proofs.Ytepgnefkpjnmlaa.PD
open Go.RowKit Go.Proofs.Ytepgnefkpjnmlaa Go.Proofs.YtepgnefkpjnmlaaW.PrintWords Go.Proofs.YtepgnefkpjnmlaaW.PrintLast Go.Proofs.YtepgnefkpjnmlaaW.PrintMore
attribute [local go_sem] max2_int min2_int max_two min_two max_three min_three max_four min_four   -- for this text's walks alone
set_option linter.unnecessarySimpa false
attribute [local go_sem] min2_str max2_str leq_str gtr_str geq_str
set_option linter.unusedVariables false
set_option linter.unusedSimpArgs false

/-! ### palinodelaw16_examples: function 8 -/
def palinodelaw16_examples.f  : Option (Bool) := (pick_Cut.f (([(⟨(⟨#[97]⟩ : ByteArray), 2, false, (⟨#[]⟩ : ByteArray)⟩ : S45), (⟨(⟨#[97]⟩ : ByteArray), 1, false, (⟨#[]⟩ : ByteArray)⟩ : S45), (⟨(⟨#[98]⟩ : ByteArray), 3, false, (⟨#[]⟩ : ByteArray)⟩ : S45), (⟨(⟨#[99]⟩ : ByteArray), 4, false, (⟨#[]⟩ : ByteArray)⟩ : S45)] : List (S45))) 1).bind fun bt153 => ((pick_Pick.f ([] : List (S49)) ([] : List Int) 0).bind fun bt157 => ((pick_Pick.f (([(⟨1, 0, (⟨#[97]⟩ : ByteArray), (⟨#[99]⟩ : ByteArray), 1⟩ : S49), (⟨2, 0, (⟨#[97]⟩ : ByteArray), (⟨#[99]⟩ : ByteArray), 1⟩ : S49), (⟨3, 0, (⟨#[98]⟩ : ByteArray), (⟨#[100]⟩ : ByteArray), 1⟩ : S49), (⟨4, 1, (⟨#[100]⟩ : ByteArray), (⟨#[101]⟩ : ByteArray), 1⟩ : S49)] : List (S49))) ([] : List Int) 0).bind fun bt171 => (if (bt153.1.length : Int) = 3 then (if 0 < (bt153.1.length : Int) then (if ((rd_L6 bt153.1 0).length : Int) = 2 then (if bt153.2.isNone = true then (if bt157.2.2.2.2 = true then (some false) else (if bt171.2.2.2.2 = true then (if (bt171.2.1.length : Int) = 3 then (if (bt171.2.2.1.length : Int) = 1 then (if bt171.2.2.2.1 = true then ((pick_Limit.f 1).bind fun t183 => (if t183 = 4000 then ((pick_Limit.f 2).bind fun t184 => (some (t184 == 16000))) else (some false))) else (some false)) else (some false)) else (some false)) else (some false))) else (some false)) else (some false)) else (none)) else (some false))))
theorem palinodelaw16_examples.sure : palinodelaw16_examples.f = some true := by kernel_rfl
set_option maxHeartbeats 8000000 in
set_option maxRecDepth 100000 in
theorem palinodelaw16_examples.calls_sure (w : World) (h : palinodelaw16_examples.f = some true) :
    Calls Try.prog 8 #[] w fun e w' => e = .returned (.bool true) ∧ Below w.heap.size w w' := by
  have hu45 := Try.underlying45
  have hu25 := Try.underlying25
  have hu28 := Try.underlying28
  have hu49 := Try.underlying49
  have hu39 := Try.underlying39
  have hu58 := Try.underlying58
  have HB := Aside0.mk (Below.refl w.heap.size w)
  have H : ((pick_Cut.f (([(⟨(⟨#[97]⟩ : ByteArray), 2, false, (⟨#[]⟩ : ByteArray)⟩ : S45), (⟨(⟨#[97]⟩ : ByteArray), 1, false, (⟨#[]⟩ : ByteArray)⟩ : S45), (⟨(⟨#[98]⟩ : ByteArray), 3, false, (⟨#[]⟩ : ByteArray)⟩ : S45), (⟨(⟨#[99]⟩ : ByteArray), 4, false, (⟨#[]⟩ : ByteArray)⟩ : S45)] : List (S45))) 1).bind fun bt153 => ((pick_Pick.f ([] : List (S49)) ([] : List Int) 0).bind fun bt157 => ((pick_Pick.f (([(⟨1, 0, (⟨#[97]⟩ : ByteArray), (⟨#[99]⟩ : ByteArray), 1⟩ : S49), (⟨2, 0, (⟨#[97]⟩ : ByteArray), (⟨#[99]⟩ : ByteArray), 1⟩ : S49), (⟨3, 0, (⟨#[98]⟩ : ByteArray), (⟨#[100]⟩ : ByteArray), 1⟩ : S49), (⟨4, 1, (⟨#[100]⟩ : ByteArray), (⟨#[101]⟩ : ByteArray), 1⟩ : S49)] : List (S49))) ([] : List Int) 0).bind fun bt171 => (if (bt153.1.length : Int) = 3 then (if 0 < (bt153.1.length : Int) then (if ((rd_L6 bt153.1 0).length : Int) = 2 then (if bt153.2.isNone = true then (if bt157.2.2.2.2 = true then (some false) else (if bt171.2.2.2.2 = true then (if (bt171.2.1.length : Int) = 3 then (if (bt171.2.2.1.length : Int) = 1 then (if bt171.2.2.2.1 = true then ((pick_Limit.f 1).bind fun t183 => (if t183 = 4000 then ((pick_Limit.f 2).bind fun t184 => (some (t184 == 16000))) else (some false))) else (some false)) else (some false)) else (some false)) else (some false))) else (some false)) else (some false)) else (none)) else (some false))))) = some true := h
  clear h
  obtain ⟨y150, hy150⟩ : ∃ y_ : List (S45), y_ = (([(⟨(⟨#[97]⟩ : ByteArray), 2, false, (⟨#[]⟩ : ByteArray)⟩ : S45), (⟨(⟨#[97]⟩ : ByteArray), 1, false, (⟨#[]⟩ : ByteArray)⟩ : S45), (⟨(⟨#[98]⟩ : ByteArray), 3, false, (⟨#[]⟩ : ByteArray)⟩ : S45), (⟨(⟨#[99]⟩ : ByteArray), 4, false, (⟨#[]⟩ : ByteArray)⟩ : S45)] : List (S45))) := ⟨_, rfl⟩
  replace H : ((pick_Cut.f y150 1).bind fun bt153 => ((pick_Pick.f ([] : List (S49)) ([] : List Int) 0).bind fun bt157 => ((pick_Pick.f (([(⟨1, 0, (⟨#[97]⟩ : ByteArray), (⟨#[99]⟩ : ByteArray), 1⟩ : S49), (⟨2, 0, (⟨#[97]⟩ : ByteArray), (⟨#[99]⟩ : ByteArray), 1⟩ : S49), (⟨3, 0, (⟨#[98]⟩ : ByteArray), (⟨#[100]⟩ : ByteArray), 1⟩ : S49), (⟨4, 1, (⟨#[100]⟩ : ByteArray), (⟨#[101]⟩ : ByteArray), 1⟩ : S49)] : List (S49))) ([] : List Int) 0).bind fun bt171 => (if (bt153.1.length : Int) = 3 then (if 0 < (bt153.1.length : Int) then (if ((rd_L6 bt153.1 0).length : Int) = 2 then (if bt153.2.isNone = true then (if bt157.2.2.2.2 = true then (some false) else (if bt171.2.2.2.2 = true then (if (bt171.2.1.length : Int) = 3 then (if (bt171.2.2.1.length : Int) = 1 then (if bt171.2.2.2.1 = true then ((pick_Limit.f 1).bind fun t183 => (if t183 = 4000 then ((pick_Limit.f 2).bind fun t184 => (some (t184 == 16000))) else (some false))) else (some false)) else (some false)) else (some false)) else (some false))) else (some false)) else (some false)) else (none)) else (some false))))) = some true := by first | (rw [hy150]; with_reducible exact H) | (have H2_ := (Option.bind_some _ _).symm.trans H; rw [hy150]; with_reducible exact H2_) | (have H2_ := (Option.bind_some _ _).symm.trans H; with_reducible exact H2_) | with_reducible exact H | (rw [hy150]; exact H) | exact H
  have Ny150 := Aside0.mk hy150
  clear hy150
  replace H := Option.bind_eq_some_iff.mp H
  obtain ⟨⟨t153, t154⟩, A10, H⟩ := H
  replace H : ((pick_Pick.f ([] : List (S49)) ([] : List Int) 0).bind fun bt157 => ((pick_Pick.f (([(⟨1, 0, (⟨#[97]⟩ : ByteArray), (⟨#[99]⟩ : ByteArray), 1⟩ : S49), (⟨2, 0, (⟨#[97]⟩ : ByteArray), (⟨#[99]⟩ : ByteArray), 1⟩ : S49), (⟨3, 0, (⟨#[98]⟩ : ByteArray), (⟨#[100]⟩ : ByteArray), 1⟩ : S49), (⟨4, 1, (⟨#[100]⟩ : ByteArray), (⟨#[101]⟩ : ByteArray), 1⟩ : S49)] : List (S49))) ([] : List Int) 0).bind fun bt171 => (if (t153.length : Int) = 3 then (if 0 < (t153.length : Int) then (if ((rd_L6 t153 0).length : Int) = 2 then (if t154.isNone = true then (if bt157.2.2.2.2 = true then (some false) else (if bt171.2.2.2.2 = true then (if (bt171.2.1.length : Int) = 3 then (if (bt171.2.2.1.length : Int) = 1 then (if bt171.2.2.2.1 = true then ((pick_Limit.f 1).bind fun t183 => (if t183 = 4000 then ((pick_Limit.f 2).bind fun t184 => (some (t184 == 16000))) else (some false))) else (some false)) else (some false)) else (some false)) else (some false))) else (some false)) else (some false)) else (none)) else (some false)))) = some true := H
  have A1 := Aside0.mk A10
  clear A10
  replace H := Option.bind_eq_some_iff.mp H
  obtain ⟨⟨t157, t158, t161, t164, t165⟩, A20, H⟩ := H
  replace H : ((pick_Pick.f (([(⟨1, 0, (⟨#[97]⟩ : ByteArray), (⟨#[99]⟩ : ByteArray), 1⟩ : S49), (⟨2, 0, (⟨#[97]⟩ : ByteArray), (⟨#[99]⟩ : ByteArray), 1⟩ : S49), (⟨3, 0, (⟨#[98]⟩ : ByteArray), (⟨#[100]⟩ : ByteArray), 1⟩ : S49), (⟨4, 1, (⟨#[100]⟩ : ByteArray), (⟨#[101]⟩ : ByteArray), 1⟩ : S49)] : List (S49))) ([] : List Int) 0).bind fun bt171 => (if (t153.length : Int) = 3 then (if 0 < (t153.length : Int) then (if ((rd_L6 t153 0).length : Int) = 2 then (if t154.isNone = true then (if t165 = true then (some false) else (if bt171.2.2.2.2 = true then (if (bt171.2.1.length : Int) = 3 then (if (bt171.2.2.1.length : Int) = 1 then (if bt171.2.2.2.1 = true then ((pick_Limit.f 1).bind fun t183 => (if t183 = 4000 then ((pick_Limit.f 2).bind fun t184 => (some (t184 == 16000))) else (some false))) else (some false)) else (some false)) else (some false)) else (some false))) else (some false)) else (some false)) else (none)) else (some false))) = some true := H
  have A2 := Aside0.mk A20
  clear A20
  obtain ⟨y167, hy167⟩ : ∃ y_ : List (S49), y_ = (([(⟨1, 0, (⟨#[97]⟩ : ByteArray), (⟨#[99]⟩ : ByteArray), 1⟩ : S49), (⟨2, 0, (⟨#[97]⟩ : ByteArray), (⟨#[99]⟩ : ByteArray), 1⟩ : S49), (⟨3, 0, (⟨#[98]⟩ : ByteArray), (⟨#[100]⟩ : ByteArray), 1⟩ : S49), (⟨4, 1, (⟨#[100]⟩ : ByteArray), (⟨#[101]⟩ : ByteArray), 1⟩ : S49)] : List (S49))) := ⟨_, rfl⟩
  replace H : ((pick_Pick.f y167 ([] : List Int) 0).bind fun bt171 => (if (t153.length : Int) = 3 then (if 0 < (t153.length : Int) then (if ((rd_L6 t153 0).length : Int) = 2 then (if t154.isNone = true then (if t165 = true then (some false) else (if bt171.2.2.2.2 = true then (if (bt171.2.1.length : Int) = 3 then (if (bt171.2.2.1.length : Int) = 1 then (if bt171.2.2.2.1 = true then ((pick_Limit.f 1).bind fun t183 => (if t183 = 4000 then ((pick_Limit.f 2).bind fun t184 => (some (t184 == 16000))) else (some false))) else (some false)) else (some false)) else (some false)) else (some false))) else (some false)) else (some false)) else (none)) else (some false))) = some true := by first | (rw [hy167]; with_reducible exact H) | (have H2_ := (Option.bind_some _ _).symm.trans H; rw [hy167]; with_reducible exact H2_) | (have H2_ := (Option.bind_some _ _).symm.trans H; with_reducible exact H2_) | with_reducible exact H | (rw [hy167]; exact H) | exact H
  have Ny167 := Aside0.mk hy167
  clear hy167
  replace H := Option.bind_eq_some_iff.mp H
  obtain ⟨⟨t171, t172, t175, t178, t179⟩, A30, H⟩ := H
  replace H : (if (t153.length : Int) = 3 then (if 0 < (t153.length : Int) then (if ((rd_L6 t153 0).length : Int) = 2 then (if t154.isNone = true then (if t165 = true then (some false) else (if t179 = true then (if (t172.length : Int) = 3 then (if (t175.length : Int) = 1 then (if t178 = true then ((pick_Limit.f 1).bind fun t183 => (if t183 = 4000 then ((pick_Limit.f 2).bind fun t184 => (some (t184 == 16000))) else (some false))) else (some false)) else (some false)) else (some false)) else (some false))) else (some false)) else (some false)) else (none)) else (some false)) = some true := H
  have A3 := Aside0.mk A30
  clear A30
  by_cases c4 : (t153.length : Int) = 3
  rotate_left
  · rw [if_neg c4] at H
    have c4b0 : ((t153.length : Int) == 3) = false := beq_eq_false_iff_ne.mpr c4
    have c4b1 : ((t153.length : Int) != 3) = true := bne_iff_ne.mpr c4
    exact absurd H (by simp)
  rw [if_pos c4] at H
  have c4b0 : ((t153.length : Int) == 3) = true := beq_iff_eq.mpr c4
  have c4b1 : ((t153.length : Int) != 3) = false := bne_eq_false_iff_eq.mpr c4
  clear c4
  by_cases c5 : 0 < (t153.length : Int)
  rotate_left
  · rw [if_neg c5] at H
    exact absurd H (by simp)
  rw [if_pos c5] at H
  have c5b0 : decide (0 < (t153.length : Int)) = true := decide_eq_true c5
  have c5b1 : decide (0 < t153.length) = true := decide_eq_true (by omega)
  clear c5
  by_cases c6 : ((rd_L6 t153 0).length : Int) = 2
  rotate_left
  · rw [if_neg c6] at H
    have c6b0 : (((rd_L6 t153 0).length : Int) == 2) = false := beq_eq_false_iff_ne.mpr c6
    have c6b1 : (((rd_L6 t153 0).length : Int) != 2) = true := bne_iff_ne.mpr c6
    exact absurd H (by simp)
  rw [if_pos c6] at H
  have c6b0 : (((rd_L6 t153 0).length : Int) == 2) = true := beq_iff_eq.mpr c6
  have c6b1 : (((rd_L6 t153 0).length : Int) != 2) = false := bne_eq_false_iff_eq.mpr c6
  clear c6
  rcases t154 with _ | q182
  · have H1 : (if t165 = true then (some false) else (if t179 = true then (if (t172.length : Int) = 3 then (if (t175.length : Int) = 1 then (if t178 = true then ((pick_Limit.f 1).bind fun t183 => (if t183 = 4000 then ((pick_Limit.f 2).bind fun t184 => (some (t184 == 16000))) else (some false))) else (some false)) else (some false)) else (some false)) else (some false))) = some true := by rw [if_pos (show (none : Option Int).isNone = true by rfl)] at H; exact H
    clear H
    have H := H1
    clear H1
    try simp only [errW_none, errW_some]
    by_cases c7 : t165 = true
    · subst c7
      have H1 : (some false) = some true := by rw [if_pos rfl] at H; exact H
      clear H
      have H := H1
      clear H1
      exact absurd H (by simp)
    replace c7 := Bool.eq_false_iff.mpr c7
    subst c7
    have H1 : (if t179 = true then (if (t172.length : Int) = 3 then (if (t175.length : Int) = 1 then (if t178 = true then ((pick_Limit.f 1).bind fun t183 => (if t183 = 4000 then ((pick_Limit.f 2).bind fun t184 => (some (t184 == 16000))) else (some false))) else (some false)) else (some false)) else (some false)) else (some false)) = some true := by rw [if_neg (show ¬ (false = true) by decide)] at H; exact H
    clear H
    have H := H1
    clear H1
    by_cases c32 : t179 = true
    rotate_left
    · replace c32 := Bool.eq_false_iff.mpr c32
      subst c32
      have H1 : (some false) = some true := by rw [if_neg (show ¬ (false = true) by decide)] at H; exact H
      clear H
      have H := H1
      clear H1
      exact absurd H (by simp)
    subst c32
    have H1 : (if (t172.length : Int) = 3 then (if (t175.length : Int) = 1 then (if t178 = true then ((pick_Limit.f 1).bind fun t183 => (if t183 = 4000 then ((pick_Limit.f 2).bind fun t184 => (some (t184 == 16000))) else (some false))) else (some false)) else (some false)) else (some false)) = some true := by rw [if_pos rfl] at H; exact H
    clear H
    have H := H1
    clear H1
    by_cases c33 : (t172.length : Int) = 3
    rotate_left
    · rw [if_neg c33] at H
      have c33b0 : ((t172.length : Int) == 3) = false := beq_eq_false_iff_ne.mpr c33
      have c33b1 : ((t172.length : Int) != 3) = true := bne_iff_ne.mpr c33
      exact absurd H (by simp)
    rw [if_pos c33] at H
    have c33b0 : ((t172.length : Int) == 3) = true := beq_iff_eq.mpr c33
    have c33b1 : ((t172.length : Int) != 3) = false := bne_eq_false_iff_eq.mpr c33
    clear c33
    by_cases c34 : (t175.length : Int) = 1
    rotate_left
    · rw [if_neg c34] at H
      have c34b0 : ((t175.length : Int) == 1) = false := beq_eq_false_iff_ne.mpr c34
      have c34b1 : ((t175.length : Int) != 1) = true := bne_iff_ne.mpr c34
      exact absurd H (by simp)
    rw [if_pos c34] at H
    have c34b0 : ((t175.length : Int) == 1) = true := beq_iff_eq.mpr c34
    have c34b1 : ((t175.length : Int) != 1) = false := bne_eq_false_iff_eq.mpr c34
    clear c34
    by_cases c35 : t178 = true
    rotate_left
    · replace c35 := Bool.eq_false_iff.mpr c35
      subst c35
      have H1 : (some false) = some true := by rw [if_neg (show ¬ (false = true) by decide)] at H; exact H
      clear H
      have H := H1
      clear H1
      exact absurd H (by simp)
    subst c35
    have H1 : ((pick_Limit.f 1).bind fun t183 => (if t183 = 4000 then ((pick_Limit.f 2).bind fun t184 => (some (t184 == 16000))) else (some false))) = some true := by rw [if_pos rfl] at H; exact H
    clear H
    have H := H1
    clear H1
    replace H := Option.bind_eq_some_iff.mp H
    obtain ⟨t183, A360, H⟩ := H
    replace H : (if t183 = 4000 then ((pick_Limit.f 2).bind fun t184 => (some (t184 == 16000))) else (some false)) = some true := H
    have A36 := Aside0.mk A360
    clear A360
    by_cases c37 : t183 = 4000
    rotate_left
    · rw [if_neg c37] at H
      have c37b0 : (t183 == 4000) = false := beq_eq_false_iff_ne.mpr c37
      have c37b1 : (t183 != 4000) = true := bne_iff_ne.mpr c37
      exact absurd H (by simp)
    rw [if_pos c37] at H
    have c37b0 : (t183 == 4000) = true := beq_iff_eq.mpr c37
    have c37b1 : (t183 != 4000) = false := bne_eq_false_iff_eq.mpr c37
    clear c37
    replace H := Option.bind_eq_some_iff.mp H
    obtain ⟨t184, A380, H⟩ := H
    replace H : (some (t184 == 16000)) = some true := H
    have A38 := Aside0.mk A380
    clear A380
    have er_ := Aside0.mk (Option.some.inj H)
    clear H
    go_enter Try.func8, Try.ntmps8
    go_wp2_with (first | ((with_reducible refine gate_dst (N := 13) rfl ?_); (try (refine gate_guard (by rfl) ?_; dsimp only)); refine Kd.R_lit k45 _ 45 ?hg (N := 13) ?hd (xs := ([(⟨(⟨#[97]⟩ : ByteArray), 2, false, (⟨#[]⟩ : ByteArray)⟩ : S45), (⟨(⟨#[97]⟩ : ByteArray), 1, false, (⟨#[]⟩ : ByteArray)⟩ : S45), (⟨(⟨#[98]⟩ : ByteArray), 3, false, (⟨#[]⟩ : ByteArray)⟩ : S45), (⟨(⟨#[99]⟩ : ByteArray), 4, false, (⟨#[]⟩ : ByteArray)⟩ : S45)] : List (S45))) (inner := [.string (⟨#[97]⟩ : ByteArray), .int .i64 2, .bool false, .string (⟨#[]⟩ : ByteArray), .string (⟨#[97]⟩ : ByteArray), .int .i64 1, .bool false, .string (⟨#[]⟩ : ByteArray), .string (⟨#[98]⟩ : ByteArray), .int .i64 3, .bool false, .string (⟨#[]⟩ : ByteArray), .string (⟨#[99]⟩ : ByteArray), .int .i64 4, .bool false, .string (⟨#[]⟩ : ByteArray)]) (ok := fun _ => True) (okp := fun _ => True) ?hr ?hp (fun _ hk => hk) trivial (Below.refl _ _) (Nat.le_refl _) (by simp) ?_; (case hd => rfl); (case hg => rfl); (case hr => first | (go_simp; done) | (go_simp; rfl)); (case hp => exact (Reps.c4 (show Kd.M k45 _ _ _ (⟨(⟨#[97]⟩ : ByteArray), 2, false, (⟨#[]⟩ : ByteArray)⟩ : S45) [.string (⟨#[97]⟩ : ByteArray), .int .i64 2, .bool false, .string (⟨#[]⟩ : ByteArray)] from (k45_mkM _ _ _ (⟨(⟨#[97]⟩ : ByteArray), 2, false, (⟨#[]⟩ : ByteArray)⟩ : S45) )) (Reps.c4 (show Kd.M k45 _ _ _ (⟨(⟨#[97]⟩ : ByteArray), 1, false, (⟨#[]⟩ : ByteArray)⟩ : S45) [.string (⟨#[97]⟩ : ByteArray), .int .i64 1, .bool false, .string (⟨#[]⟩ : ByteArray)] from (k45_mkM _ _ _ (⟨(⟨#[97]⟩ : ByteArray), 1, false, (⟨#[]⟩ : ByteArray)⟩ : S45) )) (Reps.c4 (show Kd.M k45 _ _ _ (⟨(⟨#[98]⟩ : ByteArray), 3, false, (⟨#[]⟩ : ByteArray)⟩ : S45) [.string (⟨#[98]⟩ : ByteArray), .int .i64 3, .bool false, .string (⟨#[]⟩ : ByteArray)] from (k45_mkM _ _ _ (⟨(⟨#[98]⟩ : ByteArray), 3, false, (⟨#[]⟩ : ByteArray)⟩ : S45) )) (Reps.c4 (show Kd.M k45 _ _ _ (⟨(⟨#[99]⟩ : ByteArray), 4, false, (⟨#[]⟩ : ByteArray)⟩ : S45) [.string (⟨#[99]⟩ : ByteArray), .int .i64 4, .bool false, .string (⟨#[]⟩ : ByteArray)] from (k45_mkM _ _ _ (⟨(⟨#[99]⟩ : ByteArray), 4, false, (⟨#[]⟩ : ByteArray)⟩ : S45) )) (Reps.none _ _)))))); intro v151 w39 ho40 hb hg_ hnew_; clear hg_ hnew_; (first | rw [← Ny150.out] at ho40 | (simp only [Int.reduceToNat] at ho40; rw [← Ny150.out] at ho40)); have n0_ := Aside0.mk (Kd.R_lower ho40 (below_size (by repeat (first | (with_reducible first | exact HB.out | apply below_alloc | apply pw_below_drewN | apply below_drew1) | exact HB.out)))); have n1_ := Aside0.mk (below_step (by repeat (first | (with_reducible first | exact HB.out | apply below_alloc | apply pw_below_drewN | apply below_drew1) | exact HB.out)) hb); clear HB; have HO152 := n0_; have HB := n1_; clear n0_ n1_; clear hb ho40; obtain ⟨Ao41, co41, eo41⟩ := Kd.R_slice HO152.out; subst eo41) | ((with_reducible refine gate_callee (f := 15) rfl ?_); refine goesL_ (some 14) rfl rfl Try.func15 (by kernel_rfl) rfl #[.slice Ao41 y150.length co41, .int .i64 1] rfl (by (try simp only [List.map_toArray, List.map_cons, List.map_nil]); first | done | rfl | (simp only [List.length_drop, List.length_take]; rfl)) ?_; (with_reducible refine (pick_Cut.calls _ _ y150 1 t153 none _ ?side1 ?side2 A1.out).mono ?_); (case side1 => repeat (first | exact (Kd.R_reads' HO152.out).2.2 | (with_reducible refine Kd.C_alloc ?_ _) | (with_reducible refine Kd.C_drewN ?_ _) | (with_reducible refine Kd.C_drew ?_))); (case side2 => exact (Kd.R_reads' HO152.out).2.1); rintro e w42 ⟨v155, rfl, ho0, hb⟩; refine ⟨_, rfl, ?_⟩; have n0_ := Aside0.mk (Kd.R_below (by (with_reducible repeat (first | apply Kd.R_alloc | apply Kd.R_drewN | apply Kd.R_drew)); exact HO152.out) hb); have n1_ := Aside0.mk (Kd.S_lower (Kd.S_new' ho0 (Kd.R_lt (by (with_reducible repeat (first | apply Kd.R_alloc | apply Kd.R_drewN | apply Kd.R_drew)); exact HO152.out))) (below_size (by repeat (first | (with_reducible first | exact HB.out | apply below_alloc | apply pw_below_drewN | apply below_drew1) | exact HB.out)))); have n2_ := Aside0.mk (below_step (by repeat (first | (with_reducible first | exact HB.out | apply below_alloc | apply pw_below_drewN | apply below_drew1) | exact HB.out)) hb); clear HO152; clear HB; have HO152 := n0_; have HO156 := n1_; have HB := n2_; clear n0_ n1_ n2_; (try clear hb); (try clear hb2); (try clear hk); (try clear hi); (try clear ho0); (try simp only [errW_none, errW_some])) | ((with_reducible refine gate_callee (f := 9) rfl ?_); refine goesL_ (some 19) rfl rfl Try.func9 (by kernel_rfl) rfl #[.agg #[.slice none 0 0, .slice none 0 0, .int .i64 0]] rfl (by (try simp only [List.map_toArray, List.map_cons, List.map_nil]); first | done | rfl | (simp only [List.length_drop, List.length_take]; rfl)) ?_; (refine (pick_Pick.calls _ _ ([] : List (S49)) _ _ ([] : List Int) 0 t157 t158 t161 t164 false _ ?side1 ?side2 ?side3 ?side4 A2.out).mono ?_); (case side1 => exact Kd.C_nil _ _); (case side2 => exact Nat.le_refl _); (case side3 => exact Kd.C_nil _ _); (case side4 => exact Nat.le_refl _); rintro e w43 ⟨v159, v162, rfl, ho0, ho1, hb⟩; refine ⟨_, rfl, ?_⟩; have n0_ := Aside0.mk (Kd.R_below (by (with_reducible repeat (first | apply Kd.R_alloc | apply Kd.R_drewN | apply Kd.R_drew)); exact HO152.out) hb); have n1_ := Aside0.mk (Kd.S_below (by (with_reducible repeat (first | apply Kd.S_alloc | apply Kd.S_drewN | apply Kd.S_drew)); exact HO156.out) hb); have n2_ := Aside0.mk (Kd.R_lower ho0 (below_size (by repeat (first | (with_reducible first | exact HB.out | apply below_alloc | apply pw_below_drewN | apply below_drew1) | exact HB.out)))); have n3_ := Aside0.mk (Kd.R_lower ho1 (below_size (by repeat (first | (with_reducible first | exact HB.out | apply below_alloc | apply pw_below_drewN | apply below_drew1) | exact HB.out)))); have n4_ := Aside0.mk (below_step (by repeat (first | (with_reducible first | exact HB.out | apply below_alloc | apply pw_below_drewN | apply below_drew1) | exact HB.out)) hb); clear HO152; clear HO156; clear HB; have HO152 := n0_; have HO156 := n1_; have HO160 := n2_; have HO163 := n3_; have HB := n4_; clear n0_ n1_ n2_ n3_ n4_; (try clear hb); (try clear hb2); (try clear hk); (try clear hi); (try clear ho0); (try clear ho1)) | ((with_reducible refine gate_dst (N := 3) rfl ?_); (try (refine gate_guard (by rfl) ?_; dsimp only)); refine box_event ?hg (N := 3) ?hd (cs := #[.int .i64 0, .slice none 0 0, .slice none 0 0, .bool false]) (t := 28) ?hr ?_; (case hd => rfl); (case hg => rfl); (case hr => first | (go_simp; done) | (go_simp; rfl)); intro gb166 hg w44 hbox hb; have n0_ := Aside0.mk (Kd.R_below (by (with_reducible repeat (first | apply Kd.R_alloc | apply Kd.R_drewN | apply Kd.R_drew)); exact HO152.out) hb); have n1_ := Aside0.mk (Kd.S_below (by (with_reducible repeat (first | apply Kd.S_alloc | apply Kd.S_drewN | apply Kd.S_drew)); exact HO156.out) hb); have n2_ := Aside0.mk (Kd.R_below (by (with_reducible repeat (first | apply Kd.R_alloc | apply Kd.R_drewN | apply Kd.R_drew)); exact HO160.out) hb); have n3_ := Aside0.mk (Kd.R_below (by (with_reducible repeat (first | apply Kd.R_alloc | apply Kd.R_drewN | apply Kd.R_drew)); exact HO163.out) hb); have n4_ := Aside0.mk (below_step (by repeat (first | (with_reducible first | exact HB.out | apply below_alloc | apply pw_below_drewN | apply below_drew1) | exact HB.out)) hb); have n5_ := Aside0.mk (hbox); have n6_ := Aside0.mk ((by rw [hg]; exact (below_size (by repeat (first | (with_reducible first | exact HB.out | apply below_alloc | apply pw_below_drewN | apply below_drew1) | exact HB.out))) : w.heap.size ≤ gb166)); have n7_ := Aside0.mk ((by rw [hg]; exact (below_size (by repeat (first | (with_reducible first | exact HB.out | apply below_alloc | apply pw_below_drewN | apply below_drew1) | exact HB.out))) : w.heap.size ≤ gb166)); clear HO152; clear HO156; clear HO160; clear HO163; clear HB; have HO152 := n0_; have HO156 := n1_; have HO160 := n2_; have HO163 := n3_; have HB := n4_; have BK166 := n5_; have GW166 := n6_; have GE166 := n7_; clear n0_ n1_ n2_ n3_ n4_ n5_ n6_ n7_; clear hb hbox hg; have hcz45_0 : w44.cell? ⟨gb166, 0, none⟩ = some (.int .i64 0) := (blk_cell BK166.out 0).trans rfl; have hcz45_1 : w44.cell? ⟨gb166, 1, none⟩ = some (.slice none 0 0) := (blk_cell BK166.out 1).trans rfl; have hcz45_2 : w44.cell? ⟨gb166, 2, none⟩ = some (.slice none 0 0) := (blk_cell BK166.out 2).trans rfl; have hcz45_3 : w44.cell? ⟨gb166, 3, none⟩ = some (.bool false) := (blk_cell BK166.out 3).trans rfl; have hfz45_0 := blk_frozen BK166.out 0; have hfz45_1 := blk_frozen BK166.out 1; have hfz45_2 := blk_frozen BK166.out 2; have hfz45_3 := blk_frozen BK166.out 3; obtain ⟨Ao46, co46, eo46⟩ := Kd.R_slice HO160.out; subst eo46; obtain ⟨Ao47, co47, eo47⟩ := Kd.R_slice HO163.out; subst eo47) | ((with_reducible refine gate_dst (N := 26) rfl ?_); (try (refine gate_guard (by rfl) ?_; dsimp only)); refine Kd.R_lit k49 _ 49 ?hg (N := 26) ?hd (xs := ([(⟨1, 0, (⟨#[97]⟩ : ByteArray), (⟨#[99]⟩ : ByteArray), 1⟩ : S49), (⟨2, 0, (⟨#[97]⟩ : ByteArray), (⟨#[99]⟩ : ByteArray), 1⟩ : S49), (⟨3, 0, (⟨#[98]⟩ : ByteArray), (⟨#[100]⟩ : ByteArray), 1⟩ : S49), (⟨4, 1, (⟨#[100]⟩ : ByteArray), (⟨#[101]⟩ : ByteArray), 1⟩ : S49)] : List (S49))) (inner := [.int .i64 1, .int .i64 0, .string (⟨#[97]⟩ : ByteArray), .string (⟨#[99]⟩ : ByteArray), .int .i64 1, .int .i64 2, .int .i64 0, .string (⟨#[97]⟩ : ByteArray), .string (⟨#[99]⟩ : ByteArray), .int .i64 1, .int .i64 3, .int .i64 0, .string (⟨#[98]⟩ : ByteArray), .string (⟨#[100]⟩ : ByteArray), .int .i64 1, .int .i64 4, .int .i64 1, .string (⟨#[100]⟩ : ByteArray), .string (⟨#[101]⟩ : ByteArray), .int .i64 1]) (ok := fun _ => True) (okp := fun _ => True) ?hr ?hp (fun _ hk => hk) trivial (Below.refl _ _) (Nat.le_refl _) (by simp) ?_; (case hd => rfl); (case hg => rfl); (case hr => first | (go_simp; done) | (go_simp; rfl)); (case hp => exact (Reps.c5 (show Kd.M k49 _ _ _ (⟨1, 0, (⟨#[97]⟩ : ByteArray), (⟨#[99]⟩ : ByteArray), 1⟩ : S49) [.int .i64 1, .int .i64 0, .string (⟨#[97]⟩ : ByteArray), .string (⟨#[99]⟩ : ByteArray), .int .i64 1] from (k49_mkM _ _ _ (⟨1, 0, (⟨#[97]⟩ : ByteArray), (⟨#[99]⟩ : ByteArray), 1⟩ : S49) )) (Reps.c5 (show Kd.M k49 _ _ _ (⟨2, 0, (⟨#[97]⟩ : ByteArray), (⟨#[99]⟩ : ByteArray), 1⟩ : S49) [.int .i64 2, .int .i64 0, .string (⟨#[97]⟩ : ByteArray), .string (⟨#[99]⟩ : ByteArray), .int .i64 1] from (k49_mkM _ _ _ (⟨2, 0, (⟨#[97]⟩ : ByteArray), (⟨#[99]⟩ : ByteArray), 1⟩ : S49) )) (Reps.c5 (show Kd.M k49 _ _ _ (⟨3, 0, (⟨#[98]⟩ : ByteArray), (⟨#[100]⟩ : ByteArray), 1⟩ : S49) [.int .i64 3, .int .i64 0, .string (⟨#[98]⟩ : ByteArray), .string (⟨#[100]⟩ : ByteArray), .int .i64 1] from (k49_mkM _ _ _ (⟨3, 0, (⟨#[98]⟩ : ByteArray), (⟨#[100]⟩ : ByteArray), 1⟩ : S49) )) (Reps.c5 (show Kd.M k49 _ _ _ (⟨4, 1, (⟨#[100]⟩ : ByteArray), (⟨#[101]⟩ : ByteArray), 1⟩ : S49) [.int .i64 4, .int .i64 1, .string (⟨#[100]⟩ : ByteArray), .string (⟨#[101]⟩ : ByteArray), .int .i64 1] from (k49_mkM _ _ _ (⟨4, 1, (⟨#[100]⟩ : ByteArray), (⟨#[101]⟩ : ByteArray), 1⟩ : S49) )) (Reps.none _ _)))))); intro v168 w48 ho49 hb hg_ hnew_; clear hg_ hnew_; (first | rw [← Ny167.out] at ho49 | (simp only [Int.reduceToNat] at ho49; rw [← Ny167.out] at ho49)); have n0_ := Aside0.mk (Kd.R_below (by (with_reducible repeat (first | apply Kd.R_alloc | apply Kd.R_drewN | apply Kd.R_drew)); exact (Kd.R_mono (Kd.R_far (p := ⟨gb166, 3, none⟩) (Kd.R_far (p := ⟨gb166, 2, none⟩) (Kd.R_far (p := ⟨gb166, 1, none⟩) (Kd.R_far (p := ⟨gb166, 0, none⟩) (Kd.R_types HO152.out BK166.out (by decide)) (fun _ hk => hk.2) (.int .i64 t157)) (fun _ hk => hk.2) (.slice Ao46 t158.length co46)) (fun _ hk => hk.2) (.slice Ao47 t161.length co47)) (fun _ hk => hk.2) (.bool t164)) (fun _ h_ => h_.1))) hb); have n1_ := Aside0.mk (Kd.S_below (by (with_reducible repeat (first | apply Kd.S_alloc | apply Kd.S_drewN | apply Kd.S_drew)); exact (Kd.S_mono (Kd.S_far (p := ⟨gb166, 3, none⟩) (Kd.S_far (p := ⟨gb166, 2, none⟩) (Kd.S_far (p := ⟨gb166, 1, none⟩) (Kd.S_far (p := ⟨gb166, 0, none⟩) (Kd.S_types HO156.out BK166.out (by decide)) (fun _ hk => hk.2) (.int .i64 t157)) (fun _ hk => hk.2) (.slice Ao46 t158.length co46)) (fun _ hk => hk.2) (.slice Ao47 t161.length co47)) (fun _ hk => hk.2) (.bool t164)) (fun _ h_ => h_.1))) hb); have n2_ := Aside0.mk (Kd.R_below (by (with_reducible repeat (first | apply Kd.R_alloc | apply Kd.R_drewN | apply Kd.R_drew)); exact (Kd.R_mono (Kd.R_far (p := ⟨gb166, 3, none⟩) (Kd.R_far (p := ⟨gb166, 2, none⟩) (Kd.R_far (p := ⟨gb166, 1, none⟩) (Kd.R_far (p := ⟨gb166, 0, none⟩) (Kd.R_types HO160.out BK166.out (by decide)) (fun _ hk => hk.2) (.int .i64 t157)) (fun _ hk => hk.2) (.slice Ao46 t158.length co46)) (fun _ hk => hk.2) (.slice Ao47 t161.length co47)) (fun _ hk => hk.2) (.bool t164)) (fun _ h_ => h_.1))) hb); have n3_ := Aside0.mk (Kd.R_below (by (with_reducible repeat (first | apply Kd.R_alloc | apply Kd.R_drewN | apply Kd.R_drew)); exact (Kd.R_mono (Kd.R_far (p := ⟨gb166, 3, none⟩) (Kd.R_far (p := ⟨gb166, 2, none⟩) (Kd.R_far (p := ⟨gb166, 1, none⟩) (Kd.R_far (p := ⟨gb166, 0, none⟩) (Kd.R_types HO163.out BK166.out (by decide)) (fun _ hk => hk.2) (.int .i64 t157)) (fun _ hk => hk.2) (.slice Ao46 t158.length co46)) (fun _ hk => hk.2) (.slice Ao47 t161.length co47)) (fun _ hk => hk.2) (.bool t164)) (fun _ h_ => h_.1))) hb); have n4_ := Aside0.mk (Kd.R_lower ho49 (below_size (by repeat (first | (with_reducible first | exact HB.out | apply below_alloc | apply pw_below_drewN | apply below_drew1 | refine below_set ?_ GE166.out) | exact HB.out)))); have n5_ := Aside0.mk (blk_below (g := gb166) (o := .cells #[.int .i64 t157, .slice Ao46 t158.length co46, .slice Ao47 t161.length co47, .bool t164] 28 (0, 0)) (by (with_reducible repeat (first | refine blk_drewN ?_ _ | refine blk_drew ?_ | refine blk_alloc ?_ _)); refine blk_put (cs := #[.int .i64 t157, .slice Ao46 t158.length co46, .slice Ao47 t161.length co47, .bool false]) ?_ 3 _ rfl; (with_reducible repeat (first | refine blk_drewN ?_ _ | refine blk_drew ?_ | refine blk_alloc ?_ _)); refine blk_put (cs := #[.int .i64 t157, .slice Ao46 t158.length co46, .slice none 0 0, .bool false]) ?_ 2 _ rfl; (with_reducible repeat (first | refine blk_drewN ?_ _ | refine blk_drew ?_ | refine blk_alloc ?_ _)); refine blk_put (cs := #[.int .i64 t157, .slice none 0 0, .slice none 0 0, .bool false]) ?_ 1 _ rfl; (with_reducible repeat (first | refine blk_drewN ?_ _ | refine blk_drew ?_ | refine blk_alloc ?_ _)); refine blk_put (cs := #[.int .i64 0, .slice none 0 0, .slice none 0 0, .bool false]) ?_ 0 _ rfl; (with_reducible repeat (first | refine blk_drewN ?_ _ | refine blk_drew ?_ | refine blk_alloc ?_ _)); exact BK166.out) hb); have n6_ := Aside0.mk (below_step (by repeat (first | (with_reducible first | exact HB.out | apply below_alloc | apply pw_below_drewN | apply below_drew1 | refine below_set ?_ GE166.out) | exact HB.out)) hb); clear HO152; clear HO156; clear HO160; clear HO163; clear BK166; clear HB; have HO152 := n0_; have HO156 := n1_; have HO160 := n2_; have HO163 := n3_; have HO169 := n4_; have BK166 := n5_; have HB := n6_; clear n0_ n1_ n2_ n3_ n4_ n5_ n6_; clear hb ho49; obtain ⟨Ao50, co50, eo50⟩ := Kd.R_slice HO169.out; subst eo50) | ((with_reducible refine gate_dst (N := 5) rfl ?_); (try (refine gate_guard (by rfl) ?_; dsimp only)); refine box_event ?hg (N := 5) ?hd (cs := #[.slice none 0 0, .slice none 0 0, .int .i64 0]) (t := 25) ?hr ?_; (case hd => rfl); (case hg => rfl); (case hr => first | (go_simp; done) | (go_simp; rfl)); intro gb170 hg w51 hbox hb; have n0_ := Aside0.mk (Kd.R_below (by (with_reducible repeat (first | apply Kd.R_alloc | apply Kd.R_drewN | apply Kd.R_drew)); exact HO152.out) hb); have n1_ := Aside0.mk (Kd.S_below (by (with_reducible repeat (first | apply Kd.S_alloc | apply Kd.S_drewN | apply Kd.S_drew)); exact HO156.out) hb); have n2_ := Aside0.mk (Kd.R_below (by (with_reducible repeat (first | apply Kd.R_alloc | apply Kd.R_drewN | apply Kd.R_drew)); exact HO160.out) hb); have n3_ := Aside0.mk (Kd.R_below (by (with_reducible repeat (first | apply Kd.R_alloc | apply Kd.R_drewN | apply Kd.R_drew)); exact HO163.out) hb); have n4_ := Aside0.mk (Kd.R_below (by (with_reducible repeat (first | apply Kd.R_alloc | apply Kd.R_drewN | apply Kd.R_drew)); exact HO169.out) hb); have n5_ := Aside0.mk (blk_below (g := gb166) (o := .cells #[.int .i64 t157, .slice Ao46 t158.length co46, .slice Ao47 t161.length co47, .bool t164] 28 (0, 0)) (by (with_reducible repeat (first | refine blk_drewN ?_ _ | refine blk_drew ?_ | refine blk_alloc ?_ _)); exact BK166.out) hb); have n6_ := Aside0.mk (below_step (by repeat (first | (with_reducible first | exact HB.out | apply below_alloc | apply pw_below_drewN | apply below_drew1 | refine below_set ?_ GE166.out) | exact HB.out)) hb); have n7_ := Aside0.mk (hbox); have n8_ := Aside0.mk ((by rw [hg]; exact (below_size (by repeat (first | (with_reducible first | exact HB.out | apply below_alloc | apply pw_below_drewN | apply below_drew1 | refine below_set ?_ GE166.out) | exact HB.out))) : w.heap.size ≤ gb170)); have n9_ := Aside0.mk ((by rw [hg]; exact (below_size (by repeat (first | (with_reducible first | exact HB.out | apply below_alloc | apply pw_below_drewN | apply below_drew1 | refine below_set ?_ GE166.out) | exact HB.out))) : w.heap.size ≤ gb170)); have n10_ := Aside0.mk ((by rw [hg]; exact Nat.ne_of_lt (blk_lt (g := gb166) (o := .cells #[.int .i64 t157, .slice Ao46 t158.length co46, .slice Ao47 t161.length co47, .bool t164] 28 (0, 0)) (by (with_reducible repeat (first | refine blk_drewN ?_ _ | refine blk_drew ?_ | refine blk_alloc ?_ _)); exact BK166.out)) : gb166 ≠ gb170)); have n11_ := Aside0.mk ((by rw [hg]; exact Nat.ne_of_gt (blk_lt (g := gb166) (o := .cells #[.int .i64 t157, .slice Ao46 t158.length co46, .slice Ao47 t161.length co47, .bool t164] 28 (0, 0)) (by (with_reducible repeat (first | refine blk_drewN ?_ _ | refine blk_drew ?_ | refine blk_alloc ?_ _)); exact BK166.out)) : gb170 ≠ gb166)); clear HO152; clear HO156; clear HO160; clear HO163; clear HO169; clear BK166; clear HB; have HO152 := n0_; have HO156 := n1_; have HO160 := n2_; have HO163 := n3_; have HO169 := n4_; have BK166 := n5_; have HB := n6_; have BK170 := n7_; have GW170 := n8_; have GE170 := n9_; have NB166_170 := n10_; have NB170_166 := n11_; clear n0_ n1_ n2_ n3_ n4_ n5_ n6_ n7_ n8_ n9_ n10_ n11_; clear hb hbox hg; have hnb52 := NB170_166.out; have hnc52 := NB166_170.out; have hcz53_0 : w51.cell? ⟨gb170, 0, none⟩ = some (.slice none 0 0) := (blk_cell BK170.out 0).trans rfl; have hcz53_1 : w51.cell? ⟨gb170, 1, none⟩ = some (.slice none 0 0) := (blk_cell BK170.out 1).trans rfl; have hcz53_2 : w51.cell? ⟨gb170, 2, none⟩ = some (.int .i64 0) := (blk_cell BK170.out 2).trans rfl; have hfz53_0 := blk_frozen BK170.out 0; have hfz53_1 := blk_frozen BK170.out 1; have hfz53_2 := blk_frozen BK170.out 2) | ((with_reducible refine gate_callee (f := 9) rfl ?_); refine goesL_ (some 30) rfl rfl Try.func9 (by kernel_rfl) rfl #[.agg #[.slice Ao50 y167.length co50, .slice none 0 0, .int .i64 0]] rfl (by (try simp only [List.map_toArray, List.map_cons, List.map_nil]); first | done | rfl | (simp only [List.length_drop, List.length_take]; rfl)) ?_; (refine (pick_Pick.calls _ _ y167 _ _ ([] : List Int) 0 t171 t172 t175 true true _ ?side1 ?side2 ?side3 ?side4 A3.out).mono ?_); (case side1 => refine (Kd.R_reads' (e := 49) (base := w.heap.size) (ok := fun k_ => True) (n := y167.length) (c := co50) ?_).2.2; exact (by (with_reducible repeat (first | apply Kd.R_alloc | apply Kd.R_drewN | apply Kd.R_drew)); exact (Kd.R_mono (Kd.R_far (p := ⟨gb170, 2, none⟩) (Kd.R_far (p := ⟨gb170, 1, none⟩) (Kd.R_far (p := ⟨gb170, 0, none⟩) (Kd.R_types HO169.out BK170.out (by decide)) (fun _ hk => hk.2) (.slice Ao50 y167.length co50)) (fun _ hk => hk.2) (.slice none 0 0)) (fun _ hk => hk.2) (.int .i64 0)) (fun _ h_ => h_.1)))); (case side2 => exact (Kd.R_reads' HO169.out).2.1); (case side3 => exact Kd.C_nil _ _); (case side4 => exact Nat.le_refl _); rintro e w54 ⟨v173, v176, rfl, ho0, ho1, hb⟩; refine ⟨_, rfl, ?_⟩; have n0_ := Aside0.mk (Kd.R_below (by (with_reducible repeat (first | apply Kd.R_alloc | apply Kd.R_drewN | apply Kd.R_drew)); exact (Kd.R_mono (Kd.R_far (p := ⟨gb170, 2, none⟩) (Kd.R_far (p := ⟨gb170, 1, none⟩) (Kd.R_far (p := ⟨gb170, 0, none⟩) (Kd.R_types HO152.out BK170.out (by decide)) (fun _ hk => hk.2) (.slice Ao50 y167.length co50)) (fun _ hk => hk.2) (.slice none 0 0)) (fun _ hk => hk.2) (.int .i64 0)) (fun _ h_ => h_.1))) hb); have n1_ := Aside0.mk (Kd.S_below (by (with_reducible repeat (first | apply Kd.S_alloc | apply Kd.S_drewN | apply Kd.S_drew)); exact (Kd.S_mono (Kd.S_far (p := ⟨gb170, 2, none⟩) (Kd.S_far (p := ⟨gb170, 1, none⟩) (Kd.S_far (p := ⟨gb170, 0, none⟩) (Kd.S_types HO156.out BK170.out (by decide)) (fun _ hk => hk.2) (.slice Ao50 y167.length co50)) (fun _ hk => hk.2) (.slice none 0 0)) (fun _ hk => hk.2) (.int .i64 0)) (fun _ h_ => h_.1))) hb); have n2_ := Aside0.mk (Kd.R_mono (Kd.R_told (Kd.R_told (Kd.R_old (by (with_reducible repeat (first | apply Kd.R_alloc | apply Kd.R_drewN | apply Kd.R_drew)); exact (Kd.R_mono (Kd.R_far (p := ⟨gb170, 2, none⟩) (Kd.R_far (p := ⟨gb170, 1, none⟩) (Kd.R_far (p := ⟨gb170, 0, none⟩) (Kd.R_types HO160.out BK170.out (by decide)) (fun _ hk => hk.2) (.slice Ao50 y167.length co50)) (fun _ hk => hk.2) (.slice none 0 0)) (fun _ hk => hk.2) (.int .i64 0)) (fun _ h_ => h_.1))) hb) (Kd.R_base ho0)) (Kd.R_base ho1)) (fun _ h_ => h_.1)); have n3_ := Aside0.mk (Kd.R_mono (Kd.R_told (Kd.R_told (Kd.R_old (by (with_reducible repeat (first | apply Kd.R_alloc | apply Kd.R_drewN | apply Kd.R_drew)); exact (Kd.R_mono (Kd.R_far (p := ⟨gb170, 2, none⟩) (Kd.R_far (p := ⟨gb170, 1, none⟩) (Kd.R_far (p := ⟨gb170, 0, none⟩) (Kd.R_types HO163.out BK170.out (by decide)) (fun _ hk => hk.2) (.slice Ao50 y167.length co50)) (fun _ hk => hk.2) (.slice none 0 0)) (fun _ hk => hk.2) (.int .i64 0)) (fun _ h_ => h_.1))) hb) (Kd.R_base ho0)) (Kd.R_base ho1)) (fun _ h_ => h_.1)); have n4_ := Aside0.mk (Kd.R_below (by (with_reducible repeat (first | apply Kd.R_alloc | apply Kd.R_drewN | apply Kd.R_drew)); exact (Kd.R_mono (Kd.R_far (p := ⟨gb170, 2, none⟩) (Kd.R_far (p := ⟨gb170, 1, none⟩) (Kd.R_far (p := ⟨gb170, 0, none⟩) (Kd.R_types HO169.out BK170.out (by decide)) (fun _ hk => hk.2) (.slice Ao50 y167.length co50)) (fun _ hk => hk.2) (.slice none 0 0)) (fun _ hk => hk.2) (.int .i64 0)) (fun _ h_ => h_.1))) hb); have n5_ := Aside0.mk (Kd.R_lower (Kd.R_new' (Kd.R_new' ho0 (Kd.R_lt (by (with_reducible repeat (first | apply Kd.R_alloc | apply Kd.R_drewN | apply Kd.R_drew)); exact (Kd.R_mono (Kd.R_far (p := ⟨gb170, 2, none⟩) (Kd.R_far (p := ⟨gb170, 1, none⟩) (Kd.R_far (p := ⟨gb170, 0, none⟩) (Kd.R_types HO160.out BK170.out (by decide)) (fun _ hk => hk.2) (.slice Ao50 y167.length co50)) (fun _ hk => hk.2) (.slice none 0 0)) (fun _ hk => hk.2) (.int .i64 0)) (fun _ h_ => h_.1))))) (Kd.R_lt (by (with_reducible repeat (first | apply Kd.R_alloc | apply Kd.R_drewN | apply Kd.R_drew)); exact (Kd.R_mono (Kd.R_far (p := ⟨gb170, 2, none⟩) (Kd.R_far (p := ⟨gb170, 1, none⟩) (Kd.R_far (p := ⟨gb170, 0, none⟩) (Kd.R_types HO163.out BK170.out (by decide)) (fun _ hk => hk.2) (.slice Ao50 y167.length co50)) (fun _ hk => hk.2) (.slice none 0 0)) (fun _ hk => hk.2) (.int .i64 0)) (fun _ h_ => h_.1))))) (below_size (by repeat (first | (with_reducible first | exact HB.out | apply below_alloc | apply pw_below_drewN | apply below_drew1 | refine below_set ?_ GE166.out | refine below_set ?_ GE170.out) | exact HB.out)))); have n6_ := Aside0.mk (Kd.R_lower (Kd.R_new' (Kd.R_new' ho1 (Kd.R_lt (by (with_reducible repeat (first | apply Kd.R_alloc | apply Kd.R_drewN | apply Kd.R_drew)); exact (Kd.R_mono (Kd.R_far (p := ⟨gb170, 2, none⟩) (Kd.R_far (p := ⟨gb170, 1, none⟩) (Kd.R_far (p := ⟨gb170, 0, none⟩) (Kd.R_types HO160.out BK170.out (by decide)) (fun _ hk => hk.2) (.slice Ao50 y167.length co50)) (fun _ hk => hk.2) (.slice none 0 0)) (fun _ hk => hk.2) (.int .i64 0)) (fun _ h_ => h_.1))))) (Kd.R_lt (by (with_reducible repeat (first | apply Kd.R_alloc | apply Kd.R_drewN | apply Kd.R_drew)); exact (Kd.R_mono (Kd.R_far (p := ⟨gb170, 2, none⟩) (Kd.R_far (p := ⟨gb170, 1, none⟩) (Kd.R_far (p := ⟨gb170, 0, none⟩) (Kd.R_types HO163.out BK170.out (by decide)) (fun _ hk => hk.2) (.slice Ao50 y167.length co50)) (fun _ hk => hk.2) (.slice none 0 0)) (fun _ hk => hk.2) (.int .i64 0)) (fun _ h_ => h_.1))))) (below_size (by repeat (first | (with_reducible first | exact HB.out | apply below_alloc | apply pw_below_drewN | apply below_drew1 | refine below_set ?_ GE166.out | refine below_set ?_ GE170.out) | exact HB.out)))); have n7_ := Aside0.mk (blk_below (g := gb166) (o := .cells #[.int .i64 t157, .slice Ao46 t158.length co46, .slice Ao47 t161.length co47, .bool t164] 28 (0, 0)) (by (with_reducible repeat (first | refine blk_drewN ?_ _ | refine blk_drew ?_ | refine blk_alloc ?_ _)); refine blk_far ?_ NB166_170.out _; (with_reducible repeat (first | refine blk_drewN ?_ _ | refine blk_drew ?_ | refine blk_alloc ?_ _)); refine blk_far ?_ NB166_170.out _; (with_reducible repeat (first | refine blk_drewN ?_ _ | refine blk_drew ?_ | refine blk_alloc ?_ _)); refine blk_far ?_ NB166_170.out _; (with_reducible repeat (first | refine blk_drewN ?_ _ | refine blk_drew ?_ | refine blk_alloc ?_ _)); exact BK166.out) hb); have n8_ := Aside0.mk (blk_below (g := gb170) (o := .cells #[.slice Ao50 y167.length co50, .slice none 0 0, .int .i64 0] 25 (0, 0)) (by (with_reducible repeat (first | refine blk_drewN ?_ _ | refine blk_drew ?_ | refine blk_alloc ?_ _)); refine blk_put (cs := #[.slice Ao50 y167.length co50, .slice none 0 0, .int .i64 0]) ?_ 2 _ rfl; (with_reducible repeat (first | refine blk_drewN ?_ _ | refine blk_drew ?_ | refine blk_alloc ?_ _)); refine blk_put (cs := #[.slice Ao50 y167.length co50, .slice none 0 0, .int .i64 0]) ?_ 1 _ rfl; (with_reducible repeat (first | refine blk_drewN ?_ _ | refine blk_drew ?_ | refine blk_alloc ?_ _)); refine blk_put (cs := #[.slice none 0 0, .slice none 0 0, .int .i64 0]) ?_ 0 _ rfl; (with_reducible repeat (first | refine blk_drewN ?_ _ | refine blk_drew ?_ | refine blk_alloc ?_ _)); exact BK170.out) hb); have n9_ := Aside0.mk (below_step (by repeat (first | (with_reducible first | exact HB.out | apply below_alloc | apply pw_below_drewN | apply below_drew1 | refine below_set ?_ GE166.out | refine below_set ?_ GE170.out) | exact HB.out)) hb); clear HO152; clear HO156; clear HO160; clear HO163; clear HO169; clear BK166; clear BK170; clear HB; have HO152 := n0_; have HO156 := n1_; have HO160 := n2_; have HO163 := n3_; have HO169 := n4_; have HO174 := n5_; have HO177 := n6_; have BK166 := n7_; have BK170 := n8_; have HB := n9_; clear n0_ n1_ n2_ n3_ n4_ n5_ n6_ n7_ n8_ n9_; (try clear hb); (try clear hb2); (try clear hk); (try clear hi); (try clear ho0); (try clear ho1)) | ((with_reducible refine gate_dst (N := 6) rfl ?_); (try (refine gate_guard (by rfl) ?_; dsimp only)); refine box_event ?hg (N := 6) ?hd (cs := #[.int .i64 0, .slice none 0 0, .slice none 0 0, .bool false]) (t := 28) ?hr ?_; (case hd => rfl); (case hg => rfl); (case hr => first | (go_simp; done) | (go_simp; rfl)); intro gb180 hg w55 hbox hb; have n0_ := Aside0.mk (Kd.R_below (by (with_reducible repeat (first | apply Kd.R_alloc | apply Kd.R_drewN | apply Kd.R_drew)); exact HO152.out) hb); have n1_ := Aside0.mk (Kd.S_below (by (with_reducible repeat (first | apply Kd.S_alloc | apply Kd.S_drewN | apply Kd.S_drew)); exact HO156.out) hb); have n2_ := Aside0.mk (Kd.R_below (by (with_reducible repeat (first | apply Kd.R_alloc | apply Kd.R_drewN | apply Kd.R_drew)); exact HO160.out) hb); have n3_ := Aside0.mk (Kd.R_below (by (with_reducible repeat (first | apply Kd.R_alloc | apply Kd.R_drewN | apply Kd.R_drew)); exact HO163.out) hb); have n4_ := Aside0.mk (Kd.R_below (by (with_reducible repeat (first | apply Kd.R_alloc | apply Kd.R_drewN | apply Kd.R_drew)); exact HO169.out) hb); have n5_ := Aside0.mk (Kd.R_below (by (with_reducible repeat (first | apply Kd.R_alloc | apply Kd.R_drewN | apply Kd.R_drew)); exact HO174.out) hb); have n6_ := Aside0.mk (Kd.R_below (by (with_reducible repeat (first | apply Kd.R_alloc | apply Kd.R_drewN | apply Kd.R_drew)); exact HO177.out) hb); have n7_ := Aside0.mk (blk_below (g := gb166) (o := .cells #[.int .i64 t157, .slice Ao46 t158.length co46, .slice Ao47 t161.length co47, .bool t164] 28 (0, 0)) (by (with_reducible repeat (first | refine blk_drewN ?_ _ | refine blk_drew ?_ | refine blk_alloc ?_ _)); exact BK166.out) hb); have n8_ := Aside0.mk (blk_below (g := gb170) (o := .cells #[.slice Ao50 y167.length co50, .slice none 0 0, .int .i64 0] 25 (0, 0)) (by (with_reducible repeat (first | refine blk_drewN ?_ _ | refine blk_drew ?_ | refine blk_alloc ?_ _)); exact BK170.out) hb); have n9_ := Aside0.mk (below_step (by repeat (first | (with_reducible first | exact HB.out | apply below_alloc | apply pw_below_drewN | apply below_drew1 | refine below_set ?_ GE166.out | refine below_set ?_ GE170.out) | exact HB.out)) hb); have n10_ := Aside0.mk (hbox); have n11_ := Aside0.mk ((by rw [hg]; exact (below_size (by repeat (first | (with_reducible first | exact HB.out | apply below_alloc | apply pw_below_drewN | apply below_drew1 | refine below_set ?_ GE166.out | refine below_set ?_ GE170.out) | exact HB.out))) : w.heap.size ≤ gb180)); have n12_ := Aside0.mk ((by rw [hg]; exact (below_size (by repeat (first | (with_reducible first | exact HB.out | apply below_alloc | apply pw_below_drewN | apply below_drew1 | refine below_set ?_ GE166.out | refine below_set ?_ GE170.out) | exact HB.out))) : w.heap.size ≤ gb180)); have n13_ := Aside0.mk ((by rw [hg]; exact Nat.ne_of_lt (blk_lt (g := gb166) (o := .cells #[.int .i64 t157, .slice Ao46 t158.length co46, .slice Ao47 t161.length co47, .bool t164] 28 (0, 0)) (by (with_reducible repeat (first | refine blk_drewN ?_ _ | refine blk_drew ?_ | refine blk_alloc ?_ _)); exact BK166.out)) : gb166 ≠ gb180)); have n14_ := Aside0.mk ((by rw [hg]; exact Nat.ne_of_gt (blk_lt (g := gb166) (o := .cells #[.int .i64 t157, .slice Ao46 t158.length co46, .slice Ao47 t161.length co47, .bool t164] 28 (0, 0)) (by (with_reducible repeat (first | refine blk_drewN ?_ _ | refine blk_drew ?_ | refine blk_alloc ?_ _)); exact BK166.out)) : gb180 ≠ gb166)); have n15_ := Aside0.mk ((by rw [hg]; exact Nat.ne_of_lt (blk_lt (g := gb170) (o := .cells #[.slice Ao50 y167.length co50, .slice none 0 0, .int .i64 0] 25 (0, 0)) (by (with_reducible repeat (first | refine blk_drewN ?_ _ | refine blk_drew ?_ | refine blk_alloc ?_ _)); exact BK170.out)) : gb170 ≠ gb180)); have n16_ := Aside0.mk ((by rw [hg]; exact Nat.ne_of_gt (blk_lt (g := gb170) (o := .cells #[.slice Ao50 y167.length co50, .slice none 0 0, .int .i64 0] 25 (0, 0)) (by (with_reducible repeat (first | refine blk_drewN ?_ _ | refine blk_drew ?_ | refine blk_alloc ?_ _)); exact BK170.out)) : gb180 ≠ gb170)); clear HO152; clear HO156; clear HO160; clear HO163; clear HO169; clear HO174; clear HO177; clear BK166; clear BK170; clear HB; have HO152 := n0_; have HO156 := n1_; have HO160 := n2_; have HO163 := n3_; have HO169 := n4_; have HO174 := n5_; have HO177 := n6_; have BK166 := n7_; have BK170 := n8_; have HB := n9_; have BK180 := n10_; have GW180 := n11_; have GE180 := n12_; have NB166_180 := n13_; have NB180_166 := n14_; have NB170_180 := n15_; have NB180_170 := n16_; clear n0_ n1_ n2_ n3_ n4_ n5_ n6_ n7_ n8_ n9_ n10_ n11_ n12_ n13_ n14_ n15_ n16_; clear hb hbox hg; have hnb56 := NB180_166.out; have hnc56 := NB166_180.out; have hnb57 := NB180_170.out; have hnc57 := NB170_180.out; have hcz58_0 : w55.cell? ⟨gb180, 0, none⟩ = some (.int .i64 0) := (blk_cell BK180.out 0).trans rfl; have hcz58_1 : w55.cell? ⟨gb180, 1, none⟩ = some (.slice none 0 0) := (blk_cell BK180.out 1).trans rfl; have hcz58_2 : w55.cell? ⟨gb180, 2, none⟩ = some (.slice none 0 0) := (blk_cell BK180.out 2).trans rfl; have hcz58_3 : w55.cell? ⟨gb180, 3, none⟩ = some (.bool false) := (blk_cell BK180.out 3).trans rfl; have hfz58_0 := blk_frozen BK180.out 0; have hfz58_1 := blk_frozen BK180.out 1; have hfz58_2 := blk_frozen BK180.out 2; have hfz58_3 := blk_frozen BK180.out 3; obtain ⟨Ao59, co59, eo59⟩ := Kd.R_slice HO174.out; subst eo59; obtain ⟨Ao60, co60, eo60⟩ := Kd.R_slice HO177.out; subst eo60) | ((with_reducible refine gate_store (t := 28) (p := 6) rfl ?_); refine store_event (t := 28) (p := 6) (v := ?vo_w61) (w1 := ((((w55.setCell ⟨gb180, 0, none⟩ (.int .i64 t171)).setCell ⟨gb180, 1, none⟩ (.slice Ao59 t172.length co59)).setCell ⟨gb180, 2, none⟩ (.slice Ao60 t175.length co60)).setCell ⟨gb180, 3, none⟩ (.bool true))) ?hg ?ho ?hn ?hr ?_; (case ho => rfl); (case hg => rfl); (case hn => rfl); (case hr => first | (go_simp; done) | (go_simp; rfl)); intro w61 hw; have n0_ : Aside0 (Kd.R k45 45 w61 w.heap.size (fun _ => True) (.slice Ao41 y150.length co41) y150) := ⟨(by rw [hw]; exact (by (with_reducible repeat (first | apply Kd.R_alloc | apply Kd.R_drewN | apply Kd.R_drew)); exact Kd.R_mono (Kd.R_far (p := ⟨gb180, 3, none⟩) (Kd.R_far (p := ⟨gb180, 2, none⟩) (Kd.R_far (p := ⟨gb180, 1, none⟩) (Kd.R_far (p := ⟨gb180, 0, none⟩) (Kd.R_types HO152.out BK180.out (by decide)) (fun _ hk => hk.2) (.int .i64 t171)) (fun _ hk => hk.2) (.slice Ao59 t172.length co59)) (fun _ hk => hk.2) (.slice Ao60 t175.length co60)) (fun _ hk => hk.2) (.bool true)) (fun _ hk => trivial)))⟩; have n1_ : Aside0 (Kd.S (Kd.slice 45 k45) 34 w61 w.heap.size (fun k_ => some k_ ≠ (.slice Ao41 y150.length co41 : Value).ownBlock) v155 t153) := ⟨(by rw [hw]; exact (by (with_reducible repeat (first | apply Kd.S_alloc | apply Kd.S_drewN | apply Kd.S_drew)); exact Kd.S_mono (Kd.S_far (p := ⟨gb180, 3, none⟩) (Kd.S_far (p := ⟨gb180, 2, none⟩) (Kd.S_far (p := ⟨gb180, 1, none⟩) (Kd.S_far (p := ⟨gb180, 0, none⟩) (Kd.S_types HO156.out BK180.out (by decide)) (fun _ hk => hk.2) (.int .i64 t171)) (fun _ hk => hk.2) (.slice Ao59 t172.length co59)) (fun _ hk => hk.2) (.slice Ao60 t175.length co60)) (fun _ hk => hk.2) (.bool true)) (fun _ hk => hk.1.2)))⟩; have n2_ : Aside0 (Kd.R (Kd.int .i64) 3 w61 w.heap.size (fun k_ => some k_ ≠ (.slice Ao47 t161.length co47 : Value).ownBlock ∧ some k_ ≠ (.slice Ao59 t172.length co59 : Value).ownBlock ∧ some k_ ≠ (.slice Ao60 t175.length co60 : Value).ownBlock) (.slice Ao46 t158.length co46) t158) := ⟨(by rw [hw]; exact (by (with_reducible repeat (first | apply Kd.R_alloc | apply Kd.R_drewN | apply Kd.R_drew)); exact Kd.R_mono (Kd.R_far (p := ⟨gb180, 3, none⟩) (Kd.R_far (p := ⟨gb180, 2, none⟩) (Kd.R_far (p := ⟨gb180, 1, none⟩) (Kd.R_far (p := ⟨gb180, 0, none⟩) (Kd.R_types HO160.out BK180.out (by decide)) (fun _ hk => hk.2) (.int .i64 t171)) (fun _ hk => hk.2) (.slice Ao59 t172.length co59)) (fun _ hk => hk.2) (.slice Ao60 t175.length co60)) (fun _ hk => hk.2) (.bool true)) (fun _ hk => ⟨hk.1.1.1, ⟨hk.1.1.2, hk.1.2⟩⟩)))⟩; have n3_ : Aside0 (Kd.R (Kd.int .i64) 3 w61 w.heap.size (fun k_ => some k_ ≠ (.slice Ao46 t158.length co46 : Value).ownBlock ∧ some k_ ≠ (.slice Ao59 t172.length co59 : Value).ownBlock ∧ some k_ ≠ (.slice Ao60 t175.length co60 : Value).ownBlock) (.slice Ao47 t161.length co47) t161) := ⟨(by rw [hw]; exact (by (with_reducible repeat (first | apply Kd.R_alloc | apply Kd.R_drewN | apply Kd.R_drew)); exact Kd.R_mono (Kd.R_far (p := ⟨gb180, 3, none⟩) (Kd.R_far (p := ⟨gb180, 2, none⟩) (Kd.R_far (p := ⟨gb180, 1, none⟩) (Kd.R_far (p := ⟨gb180, 0, none⟩) (Kd.R_types HO163.out BK180.out (by decide)) (fun _ hk => hk.2) (.int .i64 t171)) (fun _ hk => hk.2) (.slice Ao59 t172.length co59)) (fun _ hk => hk.2) (.slice Ao60 t175.length co60)) (fun _ hk => hk.2) (.bool true)) (fun _ hk => ⟨hk.1.1.1, ⟨hk.1.1.2, hk.1.2⟩⟩)))⟩; have n4_ : Aside0 (Kd.R k49 49 w61 w.heap.size (fun _ => True) (.slice Ao50 y167.length co50) y167) := ⟨(by rw [hw]; exact (by (with_reducible repeat (first | apply Kd.R_alloc | apply Kd.R_drewN | apply Kd.R_drew)); exact Kd.R_mono (Kd.R_far (p := ⟨gb180, 3, none⟩) (Kd.R_far (p := ⟨gb180, 2, none⟩) (Kd.R_far (p := ⟨gb180, 1, none⟩) (Kd.R_far (p := ⟨gb180, 0, none⟩) (Kd.R_types HO169.out BK180.out (by decide)) (fun _ hk => hk.2) (.int .i64 t171)) (fun _ hk => hk.2) (.slice Ao59 t172.length co59)) (fun _ hk => hk.2) (.slice Ao60 t175.length co60)) (fun _ hk => hk.2) (.bool true)) (fun _ hk => trivial)))⟩; have n5_ : Aside0 (Kd.R (Kd.int .i64) 3 w61 w.heap.size (fun k_ => some k_ ≠ (.slice Ao46 t158.length co46 : Value).ownBlock ∧ some k_ ≠ (.slice Ao47 t161.length co47 : Value).ownBlock ∧ some k_ ≠ (.slice Ao60 t175.length co60 : Value).ownBlock) (.slice Ao59 t172.length co59) t172) := ⟨(by rw [hw]; exact (by (with_reducible repeat (first | apply Kd.R_alloc | apply Kd.R_drewN | apply Kd.R_drew)); exact Kd.R_mono (Kd.R_far (p := ⟨gb180, 3, none⟩) (Kd.R_far (p := ⟨gb180, 2, none⟩) (Kd.R_far (p := ⟨gb180, 1, none⟩) (Kd.R_far (p := ⟨gb180, 0, none⟩) (Kd.R_types HO174.out BK180.out (by decide)) (fun _ hk => hk.2) (.int .i64 t171)) (fun _ hk => hk.2) (.slice Ao59 t172.length co59)) (fun _ hk => hk.2) (.slice Ao60 t175.length co60)) (fun _ hk => hk.2) (.bool true)) (fun _ hk => ⟨hk.1.1.2, ⟨hk.1.2, hk.1.1.1⟩⟩)))⟩; have n6_ : Aside0 (Kd.R (Kd.int .i64) 3 w61 w.heap.size (fun k_ => some k_ ≠ (.slice Ao46 t158.length co46 : Value).ownBlock ∧ some k_ ≠ (.slice Ao47 t161.length co47 : Value).ownBlock ∧ some k_ ≠ (.slice Ao59 t172.length co59 : Value).ownBlock) (.slice Ao60 t175.length co60) t175) := ⟨(by rw [hw]; exact (by (with_reducible repeat (first | apply Kd.R_alloc | apply Kd.R_drewN | apply Kd.R_drew)); exact Kd.R_mono (Kd.R_far (p := ⟨gb180, 3, none⟩) (Kd.R_far (p := ⟨gb180, 2, none⟩) (Kd.R_far (p := ⟨gb180, 1, none⟩) (Kd.R_far (p := ⟨gb180, 0, none⟩) (Kd.R_types HO177.out BK180.out (by decide)) (fun _ hk => hk.2) (.int .i64 t171)) (fun _ hk => hk.2) (.slice Ao59 t172.length co59)) (fun _ hk => hk.2) (.slice Ao60 t175.length co60)) (fun _ hk => hk.2) (.bool true)) (fun _ hk => ⟨hk.1.1.2, ⟨hk.1.2, hk.1.1.1⟩⟩)))⟩; have n7_ : Aside0 (w61.heap[gb166]? = some (.cells #[.int .i64 t157, .slice Ao46 t158.length co46, .slice Ao47 t161.length co47, .bool t164] 28 (0, 0))) := ⟨(by rw [hw]; exact (by (with_reducible repeat (first | refine blk_drewN ?_ _ | refine blk_drew ?_ | refine blk_alloc ?_ _)); refine blk_far ?_ NB166_180.out _; (with_reducible repeat (first | refine blk_drewN ?_ _ | refine blk_drew ?_ | refine blk_alloc ?_ _)); refine blk_far ?_ NB166_180.out _; (with_reducible repeat (first | refine blk_drewN ?_ _ | refine blk_drew ?_ | refine blk_alloc ?_ _)); refine blk_far ?_ NB166_180.out _; (with_reducible repeat (first | refine blk_drewN ?_ _ | refine blk_drew ?_ | refine blk_alloc ?_ _)); refine blk_far ?_ NB166_180.out _; (with_reducible repeat (first | refine blk_drewN ?_ _ | refine blk_drew ?_ | refine blk_alloc ?_ _)); exact BK166.out))⟩; have n8_ : Aside0 (w61.heap[gb170]? = some (.cells #[.slice Ao50 y167.length co50, .slice none 0 0, .int .i64 0] 25 (0, 0))) := ⟨(by rw [hw]; exact (by (with_reducible repeat (first | refine blk_drewN ?_ _ | refine blk_drew ?_ | refine blk_alloc ?_ _)); refine blk_far ?_ NB170_180.out _; (with_reducible repeat (first | refine blk_drewN ?_ _ | refine blk_drew ?_ | refine blk_alloc ?_ _)); refine blk_far ?_ NB170_180.out _; (with_reducible repeat (first | refine blk_drewN ?_ _ | refine blk_drew ?_ | refine blk_alloc ?_ _)); refine blk_far ?_ NB170_180.out _; (with_reducible repeat (first | refine blk_drewN ?_ _ | refine blk_drew ?_ | refine blk_alloc ?_ _)); refine blk_far ?_ NB170_180.out _; (with_reducible repeat (first | refine blk_drewN ?_ _ | refine blk_drew ?_ | refine blk_alloc ?_ _)); exact BK170.out))⟩; have n9_ : Aside0 (w61.heap[gb180]? = some (.cells #[.int .i64 t171, .slice Ao59 t172.length co59, .slice Ao60 t175.length co60, .bool true] 28 (0, 0))) := ⟨(by rw [hw]; exact (by (with_reducible repeat (first | refine blk_drewN ?_ _ | refine blk_drew ?_ | refine blk_alloc ?_ _)); refine blk_put (cs := #[.int .i64 t171, .slice Ao59 t172.length co59, .slice Ao60 t175.length co60, .bool false]) ?_ 3 _ rfl; (with_reducible repeat (first | refine blk_drewN ?_ _ | refine blk_drew ?_ | refine blk_alloc ?_ _)); refine blk_put (cs := #[.int .i64 t171, .slice Ao59 t172.length co59, .slice none 0 0, .bool false]) ?_ 2 _ rfl; (with_reducible repeat (first | refine blk_drewN ?_ _ | refine blk_drew ?_ | refine blk_alloc ?_ _)); refine blk_put (cs := #[.int .i64 t171, .slice none 0 0, .slice none 0 0, .bool false]) ?_ 1 _ rfl; (with_reducible repeat (first | refine blk_drewN ?_ _ | refine blk_drew ?_ | refine blk_alloc ?_ _)); refine blk_put (cs := #[.int .i64 0, .slice none 0 0, .slice none 0 0, .bool false]) ?_ 0 _ rfl; (with_reducible repeat (first | refine blk_drewN ?_ _ | refine blk_drew ?_ | refine blk_alloc ?_ _)); exact BK180.out))⟩; have n10_ : Aside0 (Below w.heap.size w w61) := ⟨(by rw [hw]; exact (by repeat (first | (with_reducible first | exact HB.out | apply below_alloc | apply pw_below_drewN | apply below_drew1 | refine below_set ?_ GE166.out | refine below_set ?_ GE170.out | refine below_set ?_ GE180.out) | exact HB.out)))⟩; clear hw; clear HO152; clear HO156; clear HO160; clear HO163; clear HO169; clear HO174; clear HO177; clear BK166; clear BK170; clear BK180; clear HB; have HO152 := n0_; have HO156 := n1_; have HO160 := n2_; have HO163 := n3_; have HO169 := n4_; have HO174 := n5_; have HO177 := n6_; have BK166 := n7_; have BK170 := n8_; have BK180 := n9_; have HB := n10_; clear n0_ n1_ n2_ n3_ n4_ n5_ n6_ n7_ n8_ n9_ n10_; obtain ⟨Ao62, co62, eo62⟩ := Kd.S_slice HO156.out; subst eo62; have p181 : 0 ≤ (0 : Int) := (by omega); have q181 : 0 < (t153.length : Int) := of_decide_eq_true (by first | (with_reducible assumption) | assumption); obtain ⟨ad181, A181_0, c181_0, e181, hx181_0, hl181_0, hi181_0⟩ := at_L6 (Kd.S_reads' HO156.out).2.2 0 p181 q181; cases e181; obtain ⟨ce181, hce181, hMe181, hcc181⟩ := Kd.S_get HO156.out [] 0 p181 (by first | exact q181 | exact of_decide_eq_true (by first | (with_reducible assumption) | assumption) | (have e_ := (Kd.S_reads' HO156.out).1; omega)); obtain ⟨ve181_0, rfl, ge181_0⟩ := hMe181; have hv181_0 := hcc181 0 _ rfl; rw [Nat.add_zero, show ((Kd.slice 45 k45)).sz = 1 from rfl, Nat.mul_one] at hv181_0; replace hv181_0 := Option.some.inj (hv181_0.symm.trans hx181_0); rw [hv181_0] at ge181_0; have HL181_0 := Aside0.mk (show Kd.R k45 45 _ _ _ _ (rd_L6 t153 0) from ge181_0); clear hv181_0 ge181_0; clear hcc181 hce181; have qi181 : (0 < t153.length) = True := eq_true (by omega); (try rw [show ((0 : Int)).toNat = 0 from rfl] at hx181_0); (try rw [Addr.add_zero'] at hx181_0); have HR181_0 := Aside0.mk hi181_0; have HC181_0 := Aside0.mk hl181_0; clear hi181_0 hl181_0; replace p181 := eq_true p181; replace q181 := eq_true q181; have hcz63_0 : w61.cell? ⟨gb180, 0, none⟩ = some (.int .i64 t171) := (blk_cell BK180.out 0).trans rfl; have hcz63_1 : w61.cell? ⟨gb180, 1, none⟩ = some (.slice Ao59 t172.length co59) := (blk_cell BK180.out 1).trans rfl; have hcz63_2 : w61.cell? ⟨gb180, 2, none⟩ = some (.slice Ao60 t175.length co60) := (blk_cell BK180.out 2).trans rfl; have hcz63_3 : w61.cell? ⟨gb180, 3, none⟩ = some (.bool true) := (blk_cell BK180.out 3).trans rfl; have hfz63_0 := blk_frozen BK180.out 0; have hfz63_1 := blk_frozen BK180.out 1; have hfz63_2 := blk_frozen BK180.out 2; have hfz63_3 := blk_frozen BK180.out 3) | (go_at_call 12; (with_reducible refine (pick_Limit.calls 1 t183 _ A36.out).mono ?_); rintro e w' ⟨rfl, ⟨nd, rfl⟩⟩) | (go_at_call 12; (with_reducible refine (pick_Limit.calls 2 t184 _ A38.out).mono ?_); rintro e w' ⟨rfl, ⟨nd, rfl⟩⟩))
    go_ret
    exact ⟨by first | (rw [er_.out]; done) | (rw [← er_.out]; done) | (simp [er_.out]; done) | rfl | (simp [errW_none, errW_some] <;> rfl) | (simp [*, errW_none, errW_some] <;> rfl), by repeat (first | (with_reducible first | exact HB.out | apply below_alloc | apply pw_below_drewN | apply below_drew1 | refine below_set ?_ GE166.out | refine below_set ?_ GE170.out | refine below_set ?_ GE180.out) | exact HB.out)⟩
  · have H1 : (some false) = some true := by rw [if_neg (show ¬ (some q182).isNone = true by simp)] at H; exact H
    clear H
    have H := H1
    clear H1
    try simp only [errW_none, errW_some]
    exact absurd H (by simp)
theorem palinodelaw16_examples.calls (r : Bool) (w : World) (h : palinodelaw16_examples.f = some r) :
    Calls Try.prog 8 #[] w fun e w' => e = .returned (.bool r) ∧ Below w.heap.size w w' := by
  obtain rfl : true = r := Option.some.inj ((palinodelaw16_examples.sure).symm.trans h)
  exact palinodelaw16_examples.calls_sure w palinodelaw16_examples.sure

end Go.Proofs.Ytepgnefkpjnmlaa.PD

-- printed by gprint.py (own tool) over the kit's print
namespace Go.Proofs.Ytepgnefkpjnmlaa.PD
open Go.RowKit Go.Proofs.Ytepgnefkpjnmlaa Go.Proofs.YtepgnefkpjnmlaaW.PrintWords Go.Proofs.YtepgnefkpjnmlaaW.PrintLast Go.Proofs.YtepgnefkpjnmlaaW.PrintMore
attribute [local go_sem] max2_int min2_int max_two min_two max_three min_three max_four min_four   -- for this text's walks alone
set_option linter.unnecessarySimpa false
attribute [local go_sem] min2_str max2_str leq_str gtr_str geq_str
set_option linter.unusedVariables false
set_option linter.unusedSimpArgs false

theorem eqA45 (d : Nat) (w : World) (x0 y0 : ByteArray) (x1 y1 : Int) (x2 y2 : Bool) (x3 y3 : ByteArray) :
    (Op.equalIn (d + 2) 45 (.agg #[.string x0, .int .i64 x1, .bool x2, .string x3]) (.agg #[.string y0, .int .i64 y1, .bool y2, .string y3])).run Try.prog w = .ok (x0.toList == y0.toList && (x1 == y1 && (x2 == y2 && (x3.toList == y3.toList)))) w := by
  refine eqA_of Try.underlying45 (by kernel_rfl) ?_
  refine eqf_cons (by rfl) (by go_simp; rfl) (by go_simp; rfl) (by go_simp) ?_
  refine eqf_cons (by rfl) (by go_simp; rfl) (by go_simp; rfl) (by go_simp) ?_
  refine eqf_cons (by rfl) (by go_simp; rfl) (by go_simp; rfl) (by go_simp) ?_
  exact eqf_last (by rfl) (by go_simp; rfl) (by go_simp; rfl) (by go_simp)
end Go.Proofs.Ytepgnefkpjnmlaa.PD

-- printed by gprint.py (own tool) over the kit's print
namespace Go.Proofs.Ytepgnefkpjnmlaa.PD
open Go.RowKit Go.Proofs.Ytepgnefkpjnmlaa Go.Proofs.YtepgnefkpjnmlaaW.PrintWords Go.Proofs.YtepgnefkpjnmlaaW.PrintLast Go.Proofs.YtepgnefkpjnmlaaW.PrintMore
attribute [local go_sem] max2_int min2_int max_two min_two max_three min_three max_four min_four   -- for this text's walks alone
set_option linter.unnecessarySimpa false
attribute [local go_sem] min2_str max2_str leq_str gtr_str geq_str
set_option linter.unusedVariables false
set_option linter.unusedSimpArgs false

attribute [local go_sem high] eqA45
/-! ### palinodelaw16_entries: function 17 -/
def palinodelaw16_entries.l0 : Nat → List (S45) → List (S45) → Int → Option (Bool)
  | 0, _, _, _ => none
  | k + 1, x0, x1, x5 => if x5 < (x0.length : Int) then (if 0 ≤ x5 then (if x5 < (x1.length : Int) then (if (!((((rd_T45 x0 x5).f0).toList) == (((rd_T45 x1 x5).f0).toList)) || (!(((rd_T45 x0 x5).f1) == ((rd_T45 x1 x5).f1)) || (!(((rd_T45 x0 x5).f2) == ((rd_T45 x1 x5).f2)) || (!((((rd_T45 x0 x5).f3).toList) == (((rd_T45 x1 x5).f3).toList)))))) = true then (some false) else (palinodelaw16_entries.l0 k x0 x1 (wrap64 (x5 + 1)))) else (none)) else (none)) else (some true)
def palinodelaw16_entries.f (k : Nat) (l0 : List (S45)) (l1 : List (S45)) : Option (Bool) := if (l0.length : Int) = (l1.length : Int) then (palinodelaw16_entries.l0 k l0 l1 0) else (some false)
theorem palinodelaw16_entries.mono_l : ∀ k, (∀ y0 y1 y2, LeO (palinodelaw16_entries.l0 k y0 y1 y2) (palinodelaw16_entries.l0 (k + 1) y0 y1 y2))
  | 0 => fun _ _ _ r h => by simp [palinodelaw16_entries.l0] at h
  | k + 1 => by
    have ih0 := palinodelaw16_entries.mono_l k
    · intro y0 y1 y2
      unfold palinodelaw16_entries.l0
      repeat' first
      | (with_reducible exact ih0 _ _ _)
      | (with_reducible exact LeO.refl _)
      | (with_reducible exact LeO.none _)
      | (with_reducible refine LeO.ite ?_ ?_)
      | (with_reducible refine LeO.bind ?_ (fun _ => ?_))
      | exact ih0 _ _ _
      | exact LeO.none _
      | refine LeO.ite ?_ ?_
      | refine LeO.bind ?_ (fun _ => ?_)
theorem palinodelaw16_entries.mono : ∀ a0 a1 k, LeO (palinodelaw16_entries.f k a0 a1) (palinodelaw16_entries.f (k + 1) a0 a1) := by
  intro a0 a1 k
  have ih0 := palinodelaw16_entries.mono_l k
  unfold palinodelaw16_entries.f
  repeat' first
      | (with_reducible exact ih0 _ _ _)
      | (with_reducible exact LeO.refl _)
      | (with_reducible exact LeO.none _)
      | (with_reducible refine LeO.ite ?_ ?_)
      | (with_reducible refine LeO.bind ?_ (fun _ => ?_))
      | exact ih0 _ _ _
      | exact LeO.none _
      | refine LeO.ite ?_ ?_
      | refine LeO.bind ?_ (fun _ => ?_)
set_option maxHeartbeats 8000000 in
set_option maxRecDepth 100000 in
theorem palinodelaw16_entries.calls (k : Nat) (A0 : Option Addr) (c0 : Nat) (l0 : List (S45)) (A1 : Option Addr) (c1 : Nat) (l1 : List (S45)) (r : Bool) (w : World) (hr0 : Kd.C k45 w A0 l0.length l0) (hc0 : l0.length ≤ c0) (hr1 : Kd.C k45 w A1 l1.length l1) (hc1 : l1.length ≤ c1) (h : palinodelaw16_entries.f k l0 l1 = some r) :
    Calls Try.prog 17 #[.slice A0 l0.length c0, .slice A1 l1.length c1] w fun e w' => e = .returned (.bool r) ∧ Drawn0 w w' := by
  have hu45 := Try.underlying45
  have HR0 := Aside0.mk hr0
  have HC0 := Aside0.mk hc0
  clear hr0 hc0
  have HR1 := Aside0.mk hr1
  have HC1 := Aside0.mk hc1
  clear hr1 hc1
  have H : (if (l0.length : Int) = (l1.length : Int) then (palinodelaw16_entries.l0 k l0 l1 0) else (some false)) = some r := h
  clear h
  by_cases c3 : (l0.length : Int) = (l1.length : Int)
  · rw [if_pos c3] at H
    have c3b0 : ((l0.length : Int) == (l1.length : Int)) = true := beq_iff_eq.mpr c3
    have c3b1 : ((l0.length : Int) != (l1.length : Int)) = false := bne_eq_false_iff_eq.mpr c3
    have c3b2 : (l0.length == l1.length) = true := by first | simpa using c3 | (simp at c3 ⊢; omega)
    clear c3
    have H' := Aside0.mk H
    clear H
    go_enter Try.func17, Try.ntmps17
    go_wp2
    repeat (go_quiet (fail); try go_wp2)
    go_loopg [5] k (fun kq v5 w' => ∃ (x5_1 : Int), v5 = .int .i64 x5_1 ∧ Aside0 (palinodelaw16_entries.l0 kq l0 l1 x5_1 = some r) ∧ Aside0 (kq ≤ k) ∧ Drawn0 w w')
    case atStart => exact ⟨(0), (by first | rfl | (simp; done) | (simp [*]; done)), H', ⟨Nat.le_refl _⟩, by repeat (first | exact Drawn0.refl _ | apply Drawn0.step)⟩
    case round =>
      clear H'
      try clear c1
      try clear p2
      try clear c3
      try clear c3b0
      try clear c3b1
      try clear c3b2
      obtain ⟨x5_1, rfl, HA, HK1, ⟨m1, rfl⟩⟩ := hrel
      cases gk with
      | zero => exact absurd HA.out (by simp [palinodelaw16_entries.l0])
      | succ k1 =>
        have H := HA.out
        clear HA
        simp only [palinodelaw16_entries.l0] at H
        by_cases c4 : x5_1 < (l0.length : Int)
        · rw [if_pos c4] at H
          have c4b0 : decide (x5_1 < (l0.length : Int)) = true := decide_eq_true c4
          clear c4
          by_cases c5 : 0 ≤ x5_1
          · rw [if_pos c5] at H
            have c5b0 : decide (0 ≤ x5_1) = true := decide_eq_true c5
            clear c5
            by_cases c6 : x5_1 < (l1.length : Int)
            · rw [if_pos c6] at H
              have c6b0 : decide (x5_1 < (l1.length : Int)) = true := decide_eq_true c6
              clear c6
              by_cases c7 : (!((((rd_T45 l0 x5_1).f0).toList) == (((rd_T45 l1 x5_1).f0).toList)) || (!(((rd_T45 l0 x5_1).f1) == ((rd_T45 l1 x5_1).f1)) || (!(((rd_T45 l0 x5_1).f2) == ((rd_T45 l1 x5_1).f2)) || (!((((rd_T45 l0 x5_1).f3).toList) == (((rd_T45 l1 x5_1).f3).toList)))))) = true
              · rw [if_pos c7] at H
                have c7b0 : (!((((rd_T45 l0 x5_1).f0).toList) == (((rd_T45 l1 x5_1).f0).toList)) || (!(((rd_T45 l0 x5_1).f1) == ((rd_T45 l1 x5_1).f1)) || (!(((rd_T45 l0 x5_1).f2) == ((rd_T45 l1 x5_1).f2)) || (!((((rd_T45 l0 x5_1).f3).toList) == (((rd_T45 l1 x5_1).f3).toList)))))) = true := c7
                clear c7
                obtain rfl := Option.some.inj H
                have p294 : 0 ≤ (x5_1 : Int) := of_decide_eq_true (by first | (with_reducible assumption) | assumption)
                have q294 : x5_1 < (l0.length : Int) := of_decide_eq_true (by first | (with_reducible assumption) | assumption)
                obtain ⟨ad294, e294, hx294_0, hx294_1, hx294_2, hx294_3⟩ := at_T45 HR0.out x5_1 p294 q294
                cases e294
                replace p294 := eq_true p294
                replace q294 := eq_true q294
                have p295 : 0 ≤ (x5_1 : Int) := of_decide_eq_true (by first | (with_reducible assumption) | assumption)
                have q295 : x5_1 < (l1.length : Int) := of_decide_eq_true (by first | (with_reducible assumption) | assumption)
                obtain ⟨ad295, e295, hx295_0, hx295_1, hx295_2, hx295_3⟩ := at_T45 HR1.out x5_1 p295 q295
                cases e295
                replace p295 := eq_true p295
                replace q295 := eq_true q295
                go_wp2
                repeat (go_quiet (fail); try go_wp2)
                go_ret
                exact ⟨by first | rfl | (simp; done) | (simp [*]; done), by repeat (first | exact Drawn0.refl _ | apply Drawn0.step)⟩
              · rw [if_neg c7] at H
                have c7b0 : (!((((rd_T45 l0 x5_1).f0).toList) == (((rd_T45 l1 x5_1).f0).toList)) || (!(((rd_T45 l0 x5_1).f1) == ((rd_T45 l1 x5_1).f1)) || (!(((rd_T45 l0 x5_1).f2) == ((rd_T45 l1 x5_1).f2)) || (!((((rd_T45 l0 x5_1).f3).toList) == (((rd_T45 l1 x5_1).f3).toList)))))) = false := by simpa using c7
                clear c7
                have H' := Aside0.mk H
                clear H
                have p294 : 0 ≤ (x5_1 : Int) := of_decide_eq_true (by first | (with_reducible assumption) | assumption)
                have q294 : x5_1 < (l0.length : Int) := of_decide_eq_true (by first | (with_reducible assumption) | assumption)
                obtain ⟨ad294, e294, hx294_0, hx294_1, hx294_2, hx294_3⟩ := at_T45 HR0.out x5_1 p294 q294
                cases e294
                replace p294 := eq_true p294
                replace q294 := eq_true q294
                have p295 : 0 ≤ (x5_1 : Int) := of_decide_eq_true (by first | (with_reducible assumption) | assumption)
                have q295 : x5_1 < (l1.length : Int) := of_decide_eq_true (by first | (with_reducible assumption) | assumption)
                obtain ⟨ad295, e295, hx295_0, hx295_1, hx295_2, hx295_3⟩ := at_T45 HR1.out x5_1 p295 q295
                cases e295
                replace p295 := eq_true p295
                replace q295 := eq_true q295
                go_wp2
                repeat (go_quiet (fail); try go_wp2)
                go_roundg k1
                case measure => have := HK1.out; omega
                case rel => exact ⟨(wrap64 (x5_1 + 1)), (by first | rfl | (simp; done) | (simp [*]; done)), H', ⟨by have := HK1.out; omega⟩, by repeat (first | exact Drawn0.refl _ | apply Drawn0.step)⟩
            · rw [if_neg c6] at H
              exact absurd H (by simp)
          · rw [if_neg c5] at H
            exact absurd H (by simp)
        · rw [if_neg c4] at H
          have c4b0 : decide (x5_1 < (l0.length : Int)) = false := decide_eq_false c4
          clear c4
          obtain rfl := Option.some.inj H
          go_wp2
          repeat (go_quiet (fail); try go_wp2)
          go_ret
          exact ⟨by first | rfl | (simp; done) | (simp [*]; done), by repeat (first | exact Drawn0.refl _ | apply Drawn0.step)⟩
  · rw [if_neg c3] at H
    have c3b0 : ((l0.length : Int) == (l1.length : Int)) = false := beq_eq_false_iff_ne.mpr c3
    have c3b1 : ((l0.length : Int) != (l1.length : Int)) = true := bne_iff_ne.mpr c3
    have c3b2 : (l0.length == l1.length) = false := by first | simpa using c3 | (simp at c3 ⊢; omega)
    obtain rfl := Option.some.inj H
    go_enter Try.func17, Try.ntmps17
    go_wp2
    repeat (go_quiet (fail); try go_wp2)
    go_ret
    exact ⟨by first | rfl | (simp; done) | (simp [*]; done), by repeat (first | exact Drawn0.refl _ | apply Drawn0.step)⟩

end Go.Proofs.Ytepgnefkpjnmlaa.PD

-- printed by gprint.py (own tool) over the kit's print
namespace Go.Proofs.Ytepgnefkpjnmlaa.PD
open Go.RowKit Go.Proofs.Ytepgnefkpjnmlaa Go.Proofs.YtepgnefkpjnmlaaW.PrintWords Go.Proofs.YtepgnefkpjnmlaaW.PrintLast Go.Proofs.YtepgnefkpjnmlaaW.PrintMore
attribute [local go_sem] max2_int min2_int max_two min_two max_three min_three max_four min_four   -- for this text's walks alone
set_option linter.unnecessarySimpa false
attribute [local go_sem] min2_str max2_str leq_str gtr_str geq_str
set_option linter.unusedVariables false
set_option linter.unusedSimpArgs false

/-! ### palinodelaw16_is: function 16 -/
def palinodelaw16_is.f (a0 : Option Int) (a1 : Int) : Option (Bool) := if a1 = 0 then (if a0.isNone = true then (some true) else (some false)) else (if a0.isNone = true then (some false) else (some ((a0.getD 0) == a1)))
set_option maxHeartbeats 8000000 in
set_option maxRecDepth 100000 in
theorem palinodelaw16_is.calls (a0 : Option Int) (a1 : Int) (r : Bool) (w : World) (h : palinodelaw16_is.f a0 a1 = some r) :
    Calls Try.prog 16 #[errW a0, .int .i64 a1] w fun e w' => e = .returned (.bool r) ∧ Drawn0 w w' := by
  have hu39 := Try.underlying39
  have hu58 := Try.underlying58
  have htn : ∀ (W : World), (Instr.typeAssert .nilIface 39 58 true).run Try.prog W = .ok (.tuple #[.int .i64 0, .bool false]) W := fun W => by rfl
  have hta : ∀ (v : Value) (W : World), (Instr.typeAssert (.iface 58 v) 39 58 true).run Try.prog W = .ok (.tuple #[v, .bool true]) W := fun v W => by rfl
  have H : (if a1 = 0 then (if a0.isNone = true then (some true) else (some false)) else (if a0.isNone = true then (some false) else (some ((a0.getD 0) == a1)))) = some r := h
  clear h
  by_cases c3 : a1 = 0
  · rw [if_pos c3] at H
    have c3b0 : (a1 == 0) = true := beq_iff_eq.mpr c3
    have c3b1 : (a1 != 0) = false := bne_eq_false_iff_eq.mpr c3
    clear c3
    rcases a0 with _ | q292
    · have H1 : (some true) = some r := by rw [if_pos (show (none : Option Int).isNone = true by rfl)] at H; exact H
      clear H
      have H := H1
      clear H1
      simp only [errW_none, errW_some]
      obtain rfl := Option.some.inj H
      go_enter Try.func16, Try.ntmps16
      go_wp2
      go_ret
      exact ⟨by first | rfl | (simp; done) | (simp [*]; done), by repeat (first | exact Drawn0.refl _ | apply Drawn0.step)⟩
    · have H1 : (some false) = some r := by rw [if_neg (show ¬ (some q292).isNone = true by simp)] at H; exact H
      clear H
      have H := H1
      clear H1
      simp only [errW_none, errW_some]
      obtain rfl := Option.some.inj H
      go_enter Try.func16, Try.ntmps16
      go_wp2
      go_ret
      exact ⟨by first | rfl | (simp; done) | (simp [*]; done), by repeat (first | exact Drawn0.refl _ | apply Drawn0.step)⟩
  · rw [if_neg c3] at H
    have c3b0 : (a1 == 0) = false := beq_eq_false_iff_ne.mpr c3
    have c3b1 : (a1 != 0) = true := bne_iff_ne.mpr c3
    rcases a0 with _ | q293
    · have H1 : (some false) = some r := by rw [if_pos (show (none : Option Int).isNone = true by rfl)] at H; exact H
      clear H
      have H := H1
      clear H1
      simp only [errW_none, errW_some]
      obtain rfl := Option.some.inj H
      go_enter Try.func16, Try.ntmps16
      go_wp2
      go_ret
      exact ⟨by first | rfl | (simp; done) | (simp [*]; done), by repeat (first | exact Drawn0.refl _ | apply Drawn0.step)⟩
    · have H1 : (some (q293 == a1)) = some r := by rw [if_neg (show ¬ (some q293).isNone = true by simp)] at H; exact H
      clear H
      have H := H1
      clear H1
      simp only [errW_none, errW_some]
      obtain rfl := Option.some.inj H
      go_enter Try.func16, Try.ntmps16
      go_wp2
      go_ret
      exact ⟨by first | rfl | (simp; done) | (simp [*]; done), by repeat (first | exact Drawn0.refl _ | apply Drawn0.step)⟩

end Go.Proofs.Ytepgnefkpjnmlaa.PD

-- printed by gprint.py (own tool) over the kit's print
namespace Go.Proofs.Ytepgnefkpjnmlaa.PD
open Go.RowKit Go.Proofs.Ytepgnefkpjnmlaa Go.Proofs.YtepgnefkpjnmlaaW.PrintWords Go.Proofs.YtepgnefkpjnmlaaW.PrintLast Go.Proofs.YtepgnefkpjnmlaaW.PrintMore
attribute [local go_sem] max2_int min2_int max_two min_two max_three min_three max_four min_four   -- for this text's walks alone
set_option linter.unnecessarySimpa false
attribute [local go_sem] min2_str max2_str leq_str gtr_str geq_str
set_option linter.unusedVariables false
set_option linter.unusedSimpArgs false

/-! ### palinoderef16_Cut: function 14 -/
/-- The reference's loop: at i, the piece begins at 'from'. -/
def palinoderef16_Cut.last (l : List S45) (i : Nat) : Bool := i + 1 == l.length || !((l.getD (i + 1) z45).f0.toList == (l.getD i z45).f0.toList)
def palinoderef16_Cut.cut (l : List S45) (many i fr : Nat) : Bool := palinoderef16_Cut.last l i && (decide (many ≤ i + 1 - fr) || i + 1 == l.length)
def palinoderef16_Cut.go (l : List S45) (many : Nat) : Nat → Nat → Nat → List (List S45) → List (List S45)
  | 0, _, _, acc => acc
  | d + 1, i, fr, acc => if palinoderef16_Cut.cut l many i fr = true then palinoderef16_Cut.go l many d (i + 1) (i + 1) (acc ++ [(l.take (i + 1)).drop fr]) else palinoderef16_Cut.go l many d (i + 1) fr acc
theorem palinoderef16_Cut.ext_least (l : List S45) : ∀ (d n m : Nat), n ≤ m → m < pick_Cut.ext l d n → m < l.length ∧ (l.getD m z45).f0.toList = (l.getD (m - 1) z45).f0.toList
  | 0, n, m, h, hlt => by unfold pick_Cut.ext at hlt; omega
  | d + 1, n, m, h, hlt => by
    unfold pick_Cut.ext at hlt
    split at hlt
    · rename_i hc
      rcases Nat.lt_or_ge n m with q | q
      · exact palinoderef16_Cut.ext_least l d (n + 1) m q hlt
      · have : m = n := by omega
        subst this
        exact hc
    · omega
theorem palinoderef16_Cut.ext_end (l : List S45) : ∀ (d n : Nat), l.length ≤ n + d → n ≤ l.length → pick_Cut.ext l d n = l.length ∨ ¬ (l.getD (pick_Cut.ext l d n) z45).f0.toList = (l.getD (pick_Cut.ext l d n - 1) z45).f0.toList
  | 0, n, h, hn => .inl (by unfold pick_Cut.ext; omega)
  | d + 1, n, h, hn => by
    unfold pick_Cut.ext
    split
    · rename_i hc
      exact palinoderef16_Cut.ext_end l d (n + 1) (by omega) hc.1
    · rename_i hc
      rcases Nat.lt_or_ge n l.length with q | q
      · exact .inr (fun e => hc ⟨q, e⟩)
      · exact .inl (by omega)
theorem palinoderef16_Cut.get_drop (l : List S45) (fr n : Nat) : (l.drop fr).getD n z45 = l.getD (fr + n) z45 := by
  rw [List.getD_eq_getElem?_getD, List.getD_eq_getElem?_getD, List.getElem?_drop]
/-- A cut is made just where pieces ends one. -/
theorem palinoderef16_Cut.cut_iff (l : List S45) (many i fr : Nat) (hm : 1 ≤ many) (hf : fr ≤ i) (hi : i < l.length) (hle : i + 1 - fr ≤ pick_Cut.at_ many (l.drop fr)) : palinoderef16_Cut.cut l many i fr = true ↔ i + 1 - fr = pick_Cut.at_ many (l.drop fr) := by
  have hlen : (l.drop fr).length = l.length - fr := List.length_drop
  have ha := pick_Cut.at_le many (l.drop fr)
  have hlst : palinoderef16_Cut.last l i = true ↔ (i + 1 = l.length ∨ ¬ ((l.drop fr).getD (i + 1 - fr) z45).f0.toList = ((l.drop fr).getD (i + 1 - fr - 1) z45).f0.toList) := by
    rw [palinoderef16_Cut.get_drop, palinoderef16_Cut.get_drop, show fr + (i + 1 - fr) = i + 1 by omega, show fr + (i + 1 - fr - 1) = i by omega]
    simp [palinoderef16_Cut.last]
  unfold palinoderef16_Cut.cut
  rw [Bool.and_eq_true, hlst, Bool.or_eq_true, decide_eq_true_eq, beq_iff_eq]
  constructor
  · rintro ⟨h1, h2⟩
    refine Decidable.byContradiction fun hne => ?_
    have hlt : i + 1 - fr < pick_Cut.at_ many (l.drop fr) := by omega
    have := palinoderef16_Cut.ext_least (l.drop fr) _ (min many (l.drop fr).length) (i + 1 - fr) (by omega) hlt
    rcases h1 with h1 | h1
    · omega
    · exact h1 this.2
  · intro h
    rcases palinoderef16_Cut.ext_end (l.drop fr) ((l.drop fr).length - min many (l.drop fr).length) (min many (l.drop fr).length) (by omega) (Nat.min_le_right _ _) with q | q
    · have q' : pick_Cut.at_ many (l.drop fr) = (l.drop fr).length := q
      exact ⟨.inl (by omega), .inr (by omega)⟩
    · have q' : ¬ ((l.drop fr).getD (pick_Cut.at_ many (l.drop fr)) z45).f0.toList = ((l.drop fr).getD (pick_Cut.at_ many (l.drop fr) - 1) z45).f0.toList := q
      rw [← h] at q'
      refine ⟨.inr q', ?_⟩
      rcases Nat.lt_or_ge (i + 1) l.length with g | g
      · exact .inl (by omega)
      · exact .inr (by omega)
theorem palinoderef16_Cut.go_pieces (l : List S45) (many : Nat) (hm : 1 ≤ many) : ∀ (d i fr e : Nat) (acc : List (List S45)), l.length = i + d → fr ≤ i → l.length - fr ≤ e → (i < l.length → i + 1 - fr ≤ pick_Cut.at_ many (l.drop fr)) → (fr < l.length → i < l.length) →
    palinoderef16_Cut.go l many d i fr acc = acc ++ pick_Cut.pieces many e (l.drop fr)
  | 0, i, fr, e, acc, hd, hf, he, hle, hlt => by
    have : l.drop fr = [] := List.drop_eq_nil_of_le (by omega)
    rw [this, pick_Cut.pieces_nil, List.append_nil]
    rfl
  | d + 1, i, fr, e, acc, hd, hf, he, hle, hlt => by
    have hi : i < l.length := by omega
    have hc := palinoderef16_Cut.cut_iff l many i fr hm hf hi (hle hi)
    have ha := pick_Cut.at_le many (l.drop fr)
    have hlen : (l.drop fr).length = l.length - fr := List.length_drop
    unfold palinoderef16_Cut.go
    by_cases h : palinoderef16_Cut.cut l many i fr = true
    · have hat := hc.1 h
      obtain ⟨e, rfl⟩ : ∃ e', e = e' + 1 := ⟨e - 1, by omega⟩
      have hne : l.drop fr ≠ [] := fun q => by rw [q] at hlen; simp at hlen; omega
      rw [if_pos h, palinoderef16_Cut.go_pieces l many hm d (i + 1) (i + 1) e _ (by omega) (Nat.le_refl _) (by omega) (fun h1 => by
        have h2 := (pick_Cut.at_le many (l.drop (i + 1))).1
        have h3 : (l.drop (i + 1)).length = l.length - (i + 1) := List.length_drop
        omega) (fun h1 => h1)]
      rw [pick_Cut.pieces, if_neg hne, ← hat, List.drop_drop, show fr + (i + 1 - fr) = i + 1 by omega, List.append_assoc]
      rw [List.take_drop, show fr + (i + 1 - fr) = i + 1 by omega]
      rfl
    · rw [if_neg h, palinoderef16_Cut.go_pieces l many hm d (i + 1) fr e acc (by omega) (by omega) he (fun h1 => by
        have : ¬ i + 1 - fr = pick_Cut.at_ many (l.drop fr) := fun q => h (hc.2 q)
        have := hle hi
        omega) (fun h1 => by
        refine Decidable.byContradiction fun g => h (hc.2 ?_)
        have := hle hi
        omega)]
theorem palinoderef16_Cut.cutlh {w : World} {A : Option Addr} {R0 : List S45} (h : Kd.C k45 w A R0.length R0) (i0 : TypeInfo) (hi : Try.prog.info? 45 = some i0) (hs : i0.size = k45.sz) (c l n : Nat) (hl : l ≤ n) (hn : n ≤ R0.length) (hc : R0.length ≤ c) :
    ∃ A' c', (∀ W : World, (Instr.slice 34 (.slice A R0.length c) (some (.int .i64 (l : Int))) (some (.int .i64 (n : Int))) none).run Try.prog W = .ok (.slice A' ((R0.take n).drop l).length c') W) ∧ ((R0.take n).drop l).length ≤ c' ∧ Kd.C k45 w A' ((R0.take n).drop l).length ((R0.take n).drop l) := by
  have hel : Try.prog.elem 34 = 45 := by simp [Program.elem, Try.underlying34]
  have hu : Try.prog.underlying 34 = some (.slice (Try.prog.elem 34)) := by rw [hel]; exact Try.underlying34
  have hlen : (R0.take n).length = n := by rw [List.length_take]; omega
  have ht := Kd.C_take h hn
  have hd := Kd.C_drop ht (m := l) (c := c) (by omega) (by omega)
  refine ⟨if c = l then A else A.map (·.add (l * k45.sz)), c - l, fun W => ?_, by rw [List.length_drop, hlen]; omega, hd⟩
  rw [run_slice_lh W 34 A R0.length c hu .i64 .i64 l n (by omega) (by omega) (by omega), hel]
  rw [List.length_drop, hlen]
  simp [sizeOf, typeInfo, hi, sliced, Result.andThen, hs]
def palinoderef16_Cut.f (l0 : List S45) (a1 : Int) : Option (List (List S45) × Bool) := if a1 < 1 then some ([], false) else if l0.length < 1000000 then some (pick_Cut.pieces a1.toNat l0.length l0, true) else none
set_option maxHeartbeats 8000000 in
set_option maxRecDepth 100000 in
theorem palinoderef16_Cut.calls (A0 : Option Addr) (c0 : Nat) (l0 : List (S45)) (a1 : Int) (r1 : List (List (S45))) (r2 : Bool) (w : World) (hr0 : Kd.C k45 w A0 l0.length l0) (hc0 : l0.length ≤ c0) (h : palinoderef16_Cut.f l0 a1 = some (r1, r2)) :
    Calls Try.prog 14 #[.slice A0 l0.length c0, .int .i64 a1] w fun e w' => ∃ v0_ : Value, e = .returned (.tuple #[v0_, .bool r2]) ∧ Kd.R (Kd.fixed (Kd.slice 45 k45) w) 34 w' w.heap.size (fun _ => True) v0_ r1 ∧ Below w.heap.size w w' := by
  unfold palinoderef16_Cut.f at h
  by_cases hneg : a1 < 1
  · rw [if_pos hneg] at h
    obtain ⟨rfl, rfl⟩ := Prod.mk.inj (Option.some.inj h)
    clear h hr0 hc0
    go_enter Try.func14, Try.ntmps14
    go_wp2
    go_ret2
    exact ⟨_, rfl, Kd.R_nil _ _ _ _ _, Below.refl _ _⟩
  · rw [if_neg hneg] at h
    by_cases hlen : l0.length < 1000000
    · rw [if_pos hlen] at h
      obtain ⟨h1, h2⟩ := Prod.mk.inj (Option.some.inj h)
      subst h2
      have HR := Aside0.mk hr0
      obtain ⟨many, rfl⟩ : ∃ many : Nat, a1 = many := ⟨a1.toNat, by omega⟩
      rw [Int.toNat_natCast] at h1
      have hmany : 1 ≤ many := by omega
      have hmany' : (1 : Int) ≤ many := by omega
      have hgo : palinoderef16_Cut.go l0 many l0.length 0 0 [] = r1 := by
        rw [palinoderef16_Cut.go_pieces l0 many hmany l0.length 0 0 l0.length [] (by omega) (Nat.le_refl _) (by omega) (fun h => by
          have h2 := (pick_Cut.at_le many (l0.drop 0)).1
          rw [List.drop_zero] at h2 ⊢
          omega) (fun h => h), List.drop_zero, List.nil_append]
        exact h1
      have HP := Aside0.mk hgo
      clear h hr0 h1 hneg hgo
      have HB0 := Aside0.mk (Below.refl w.heap.size w)
      go_enter Try.func14, Try.ntmps14
      go_wp2_with fail
      go_loopw [6, 7, 8] (fun u f i wr => ∃ (n fr : Nat) (P : List (List S45)), i = .int .i64 n ∧ f = .int .i64 fr ∧ n ≤ l0.length ∧ fr ≤ n ∧ Aside0 (palinoderef16_Cut.go l0 many (l0.length - n) n fr P = r1) ∧ Aside0 (P.length ≤ n) ∧ Aside0 (Kd.R (Kd.fixed (Kd.slice 45 k45) w) 34 wr w.heap.size (fun _ => True) u P) ∧ Aside0 (Below w.heap.size w wr)) (fun _ _ i _ => l0.length - (intOf i).toNat)
      case atStart => exact ⟨0, 0, [], rfl, rfl, Nat.zero_le _, Nat.le_refl _, HP, ⟨Nat.le_refl _⟩, ⟨Kd.R_nil _ _ _ _ _⟩, HB0⟩
      case round =>
        clear HB0 HP
        obtain ⟨n, fr, P, rfl, rfl, hn, hf, HP, HPL, HU, HB⟩ := hrel
        by_cases hlt : n < l0.length
        · have HLT := Aside0.mk hlt
          have hn1 : (n : Int) < l0.length := by omega
          have hn0 : (0 : Int) ≤ n := by omega
          have hstep : palinoderef16_Cut.go l0 many (l0.length - n) n fr P = if palinoderef16_Cut.cut l0 many n fr = true then palinoderef16_Cut.go l0 many (l0.length - (n + 1)) (n + 1) (n + 1) (P ++ [(l0.take (n + 1)).drop fr]) else palinoderef16_Cut.go l0 many (l0.length - (n + 1)) (n + 1) fr P := by
            conv => lhs; rw [show l0.length - n = (l0.length - (n + 1)) + 1 by omega]
            rfl
          have HS := Aside0.mk (hstep.symm.trans HP.out)
          clear hstep HP
          obtain ⟨i0, hi, hzz⟩ := Option.map_eq_some_iff.1 info45
          simp only [Prod.mk.injEq] at hzz
          obtain ⟨A', c', hct, hcl, hXC⟩ := palinoderef16_Cut.cutlh HR.out i0 hi hzz.2.1 c0 fr (n + 1) (by omega) (by omega) hc0
          obtain ⟨X, hX⟩ : ∃ X, X = (l0.take (n + 1)).drop fr := ⟨_, rfl⟩
          rw [← hX] at hct hcl hXC
          have HS0 := HS.out
          rw [← hX] at HS0
          have HS1 := Aside0.mk HS0
          have HCL := Aside0.mk hcl
          have HXC := Aside0.mk hXC
          have HPL2 : Aside0 ((P ++ [X]).length ≤ n + 1) := ⟨by rw [List.length_append, List.length_singleton]; have := HPL.out; omega⟩
          rw [show ((n + 1 : Nat) : Int) = (n : Int) + 1 by omega] at hct
          clear HS HS0 hX hi hzz hcl hXC
          by_cases e : n + 1 = l0.length
          · have hq : ((n : Int) == (l0.length : Int) - 1) = true := beq_iff_eq.2 (by omega)
            have hcut : palinoderef16_Cut.cut l0 many n fr = true := by simp [palinoderef16_Cut.cut, palinoderef16_Cut.last, e]
            have HS2 := HS1.out
            rw [if_pos hcut] at HS2
            have HS3 := Aside0.mk HS2
            clear HS1 HS2 hcut
            go_wp2_with fail
            go_quiet (fail)
            by_cases c : (many : Int) ≤ (n : Int) + 1 - fr
            · have hge : decide ((many : Int) ≤ (n : Int) + 1 - fr) = true := decide_eq_true c
              have HU2 := Aside0.mk (Kd.R_drewN HU.out nq)
              have HB2 := Aside0.mk (pw_below_drewN HB.out nq)
              generalize wr.drewN nq = wr2 at HU2 HB2 ⊢
              clear HU HB
              go_wp2_with ((with_reducible refine gate_builtin (b := .append) (xs := #[.tmp 53, .tmp 59]) rfl ?_); refine Kd.R_append (Kd.fixed (Kd.slice 45 k45) w) (w0 := w) w.heap.size rfl (.tmp 53) (.tmp 59) 35 34 (.slice none 0 0) 24 rfl Try.underlying35 info34 rfl Nat.zero_lt_one (by omega) _ P X [.slice A' X.length c'] (fun _ => True) (fun _ => False) rfl (by first | (go_simp; done) | (go_simp; rfl)) ?aP (fun _ hk => hk.elim) ?aF ?aO ?aB ?aS ?aL ?_; (case aP => exact ⟨A', c', rfl, HCL.out, HXC.out⟩); (case aF => exact fun _ _ => trivial); (case aO => exact HU2.out); (case aB => exact HB2.out); (case aS => exact HB2.out.size); (case aL => have := HPL.out; omega); intro v3 w3 ho hb hg hat; have HU3 := Aside0.mk ho; have HB3 := Aside0.mk hb; clear ho hb hg hat)
              refine ⟨⟨n + 1, n + 1, P ++ [X], by go_num, by go_num, HLT.out, Nat.le_refl _, HS3, HPL2, HU3, HB3⟩, by simp [intOf]; omega⟩
            · have hge : decide ((many : Int) ≤ (n : Int) + 1 - fr) = false := decide_eq_false c
              have HU2 := Aside0.mk (Kd.R_drewN HU.out nq)
              have HB2 := Aside0.mk (pw_below_drewN HB.out nq)
              generalize wr.drewN nq = wr2 at HU2 HB2 ⊢
              clear HU HB
              go_wp2_with ((with_reducible refine gate_builtin (b := .append) (xs := #[.tmp 53, .tmp 59]) rfl ?_); refine Kd.R_append (Kd.fixed (Kd.slice 45 k45) w) (w0 := w) w.heap.size rfl (.tmp 53) (.tmp 59) 35 34 (.slice none 0 0) 24 rfl Try.underlying35 info34 rfl Nat.zero_lt_one (by omega) _ P X [.slice A' X.length c'] (fun _ => True) (fun _ => False) rfl (by first | (go_simp; done) | (go_simp; rfl)) ?aP (fun _ hk => hk.elim) ?aF ?aO ?aB ?aS ?aL ?_; (case aP => exact ⟨A', c', rfl, HCL.out, HXC.out⟩); (case aF => exact fun _ _ => trivial); (case aO => exact HU2.out); (case aB => exact HB2.out); (case aS => exact HB2.out.size); (case aL => have := HPL.out; omega); intro v3 w3 ho hb hg hat; have HU3 := Aside0.mk ho; have HB3 := Aside0.mk hb; clear ho hb hg hat)
              refine ⟨⟨n + 1, n + 1, P ++ [X], by go_num, by go_num, HLT.out, Nat.le_refl _, HS3, HPL2, HU3, HB3⟩, by simp [intOf]; omega⟩
          · have hn2 : (n : Int) + 1 < l0.length := by omega
            have hq : ((n : Int) == (l0.length : Int) - 1) = false := beq_eq_false_iff_ne.2 (by omega)
            obtain ⟨ad, hA, x0, -, -, -⟩ := at_T45 (Kd.C_below HR.out HB.out) ((n : Int) + 1) (by omega) (by omega)
            obtain ⟨ad', hA', y0, -, -, -⟩ := at_T45 (Kd.C_below HR.out HB.out) (n : Int) (by omega) (by omega)
            subst hA
            injection hA' with hA'
            subst hA'
            obtain ⟨x, hx⟩ : ∃ x : S45, x = rd_T45 l0 ((n : Int) + 1) := ⟨_, rfl⟩
            obtain ⟨y, hy⟩ : ∃ y : S45, y = rd_T45 l0 (n : Int) := ⟨_, rfl⟩
            rw [← hx, show ((n : Int) + 1).toNat = n + 1 by omega] at x0
            rw [← hy, Int.toNat_natCast] at y0
            have hxg : l0.getD (n + 1) z45 = x := by rw [hx, rd_T45, show ((n : Int) + 1).toNat = n + 1 by omega]
            have hyg : l0.getD n z45 = y := by rw [hy, rd_T45, Int.toNat_natCast]
            have hcut : palinoderef16_Cut.cut l0 many n fr = (!(x.f0.toList == y.f0.toList) && decide (many ≤ n + 1 - fr)) := by
              rw [palinoderef16_Cut.cut, palinoderef16_Cut.last, hxg, hyg, show (n + 1 == l0.length) = false from beq_eq_false_iff_ne.2 e]
              simp
            have HS2 := HS1.out
            rw [hcut] at HS2
            have HS4 := Aside0.mk HS2
            clear HS1 HS2 hcut hx hy hxg hyg
            by_cases q : x.f0.toList = y.f0.toList
            · have qb : (x.f0.toList == y.f0.toList) = true := beq_iff_eq.2 q
              have HS2 := HS4.out
              rw [qb, Bool.not_true, Bool.false_and, if_neg (by decide)] at HS2
              have HS3 := Aside0.mk HS2
              have HPL3 : Aside0 (P.length ≤ n + 1) := ⟨by have := HPL.out; omega⟩
              clear HS4 HS2 q
              go_wp2_with fail
              go_quiet (fail)
              go_wp2_with fail
              refine ⟨⟨n + 1, fr, P, by go_num, rfl, HLT.out, by omega, HS3, HPL3, ⟨Kd.R_drewN HU.out _⟩, ⟨pw_below_drewN HB.out _⟩⟩, by simp [intOf]; omega⟩
            · have qb : (x.f0.toList == y.f0.toList) = false := beq_eq_false_iff_ne.2 q
              by_cases c : (many : Int) ≤ (n : Int) + 1 - fr
              · have hge : decide ((many : Int) ≤ (n : Int) + 1 - fr) = true := decide_eq_true c
                have HS2 := HS4.out
                rw [qb, Bool.not_false, Bool.true_and, if_pos (decide_eq_true (by omega))] at HS2
                have HS3 := Aside0.mk HS2
                clear HS4 HS2 q
                go_wp2_with fail
                go_quiet (fail)
                have HU2 := Aside0.mk (Kd.R_drewN HU.out nq)
                have HB2 := Aside0.mk (pw_below_drewN HB.out nq)
                generalize wr.drewN nq = wr2 at HU2 HB2 ⊢
                clear HU HB
                go_wp2_with ((with_reducible refine gate_builtin (b := .append) (xs := #[.tmp 53, .tmp 59]) rfl ?_); refine Kd.R_append (Kd.fixed (Kd.slice 45 k45) w) (w0 := w) w.heap.size rfl (.tmp 53) (.tmp 59) 35 34 (.slice none 0 0) 24 rfl Try.underlying35 info34 rfl Nat.zero_lt_one (by omega) _ P X [.slice A' X.length c'] (fun _ => True) (fun _ => False) rfl (by first | (go_simp; done) | (go_simp; rfl)) ?aP (fun _ hk => hk.elim) ?aF ?aO ?aB ?aS ?aL ?_; (case aP => exact ⟨A', c', rfl, HCL.out, HXC.out⟩); (case aF => exact fun _ _ => trivial); (case aO => exact HU2.out); (case aB => exact HB2.out); (case aS => exact HB2.out.size); (case aL => have := HPL.out; omega); intro v3 w3 ho hb hg hat; have HU3 := Aside0.mk ho; have HB3 := Aside0.mk hb; clear ho hb hg hat)
                refine ⟨⟨n + 1, n + 1, P ++ [X], by go_num, by go_num, HLT.out, Nat.le_refl _, HS3, HPL2, HU3, HB3⟩, by simp [intOf]; omega⟩
              · have hge : decide ((many : Int) ≤ (n : Int) + 1 - fr) = false := decide_eq_false c
                have HS2 := HS4.out
                rw [qb, Bool.not_false, Bool.true_and, if_neg (by simp; omega)] at HS2
                have HS3 := Aside0.mk HS2
                have HPL3 : Aside0 (P.length ≤ n + 1) := ⟨by have := HPL.out; omega⟩
                clear HS4 HS2 q
                go_wp2_with fail
                go_quiet (fail)
                go_wp2_with fail
                refine ⟨⟨n + 1, fr, P, by go_num, rfl, HLT.out, by omega, HS3, HPL3, ⟨Kd.R_drewN HU.out _⟩, ⟨pw_below_drewN HB.out _⟩⟩, by simp [intOf]; omega⟩
        · have hlt' : ¬ (n : Int) < l0.length := by omega
          have hP := HP.out
          rw [show l0.length - n = 0 by omega] at hP
          have hP' : P = r1 := hP
          subst hP'
          clear hP HP
          go_wp2_with fail
          go_ret2
          exact ⟨_, rfl, HU.out, HB.out⟩
    · rw [if_neg hlen] at h
      cases h


end Go.Proofs.Ytepgnefkpjnmlaa.PD

/-
  PickCuts: the law's own walk. Any list is cut into the pieces that the document says, or refused; what is handed in stays.
-/
set_option linter.unusedVariables false
set_option linter.unusedSimpArgs false
namespace Go.Proofs.Ytepgnefkpjnmlaa.PD
open Go.RowKit Go.Proofs.Ytepgnefkpjnmlaa Go.Proofs.YtepgnefkpjnmlaaW.PrintWords Go.Proofs.YtepgnefkpjnmlaaW.PrintLast Go.Proofs.YtepgnefkpjnmlaaW.PrintMore
theorem palinodelaw16_PickCuts.cuth (A : Option Addr) (m c n : Nat) (i0 : TypeInfo) (hi : Try.prog.info? 45 = some i0) (hn : n ≤ c) :
    ∀ W : World, (Instr.slice 34 (.slice A m c) none (some (.int .i64 (n : Int))) none).run Try.prog W = .ok (.slice A n c) W := by
  intro W
  have hel : Try.prog.elem 34 = 45 := by simp [Program.elem, Try.underlying34]
  have hu : Try.prog.underlying 34 = some (.slice (Try.prog.elem 34)) := by rw [hel]; exact Try.underlying34
  have ha : (A.map fun x => x.add 0) = A := by cases A <;> simp [Addr.add]
  rw [run_slice_h W 34 A m c hu .i64 n (by omega) (by omega), hel]
  simp [sizeOf, typeInfo, hi, sliced, Result.andThen, ha]
theorem palinodelaw16_PickCuts.entries_loop (l : List S45) (hl : l.length < 1000000) : ∀ (d i k : Nat), l.length = i + d → d + 1 ≤ k → palinodelaw16_entries.l0 k l l (i : Int) = some true
  | 0, i, k, he, hk => by
    obtain ⟨k, rfl⟩ : ∃ k', k = k' + 1 := ⟨k - 1, by omega⟩
    unfold palinodelaw16_entries.l0
    rw [if_neg (by omega)]
  | d + 1, i, k, he, hk => by
    obtain ⟨k, rfl⟩ : ∃ k', k = k' + 1 := ⟨k - 1, by omega⟩
    unfold palinodelaw16_entries.l0
    rw [if_pos (by omega), if_pos (by omega), if_pos (by omega), if_neg (by simp), show wrap64 ((i : Int) + 1) = ((i + 1 : Nat) : Int) by unfold wrap64; omega]
    exact palinodelaw16_PickCuts.entries_loop l hl d (i + 1) k (by omega) (by omega)
theorem palinodelaw16_PickCuts.entries_same (l : List S45) (hl : l.length < 1000000) : palinodelaw16_entries.f (l.length + 1) l l = some true := by
  unfold palinodelaw16_entries.f
  rw [if_pos rfl]
  exact palinodelaw16_PickCuts.entries_loop l hl l.length 0 _ (by omega) (by omega)
/-- The rows from i on are as_ they came. -/
def palinodelaw16_PickCuts.Rest (wc wr : World) (g : Nat) (cells : Array Value) (f : Nat → Nat) (P : List (List S45)) (i : Nat) : Prop :=
  wr.heap[g]? = some (.cells cells 34 (0, 0)) ∧ wc.heap.size ≤ g ∧
  ∀ j, i ≤ j → j < P.length → ∃ u, cells[j]? = some u ∧ Kd.R k45 45 wr wc.heap.size (fun b => f b = j ∧ b ≠ g) u (P.getD j [])
theorem palinodelaw16_PickCuts.Rest.of {wc w1 : World} {g cap : Nat} {P : List (List S45)} (h : Kd.S (Kd.slice 45 k45) 34 w1 wc.heap.size (fun _ => True) (.slice (some ⟨g, 0, none⟩) P.length cap) P) : ∃ cells f, palinodelaw16_PickCuts.Rest wc w1 g cells f P 0 := by
  obtain ⟨f, -, inner, ⟨hil, hown⟩, hr⟩ := h
  rcases hown with ⟨h0, _⟩ | ⟨g', cap', cells, he, hg, hgc, hn, -, hsz, hin⟩
  · cases h0
  · injection he with he
    injection he with he
    injection he with he
    subst he
    refine ⟨cells, f, hgc, hg, fun j _ hj => ?_⟩
    have hx : P.zipIdx[j]? = some (P.getD j [], j) := by
      rw [List.getElem?_zipIdx]
      simp [List.getD, hj]
    obtain ⟨v, hc, hv⟩ := hr.2 j _ hx
    rw [List.length_zipIdx] at hin
    subst hin
    rw [show (Kd.tag f (Kd.slice 45 k45)).sz = 1 from rfl, Nat.mul_one, Nat.mul_one] at hc
    refine ⟨v, ?_, Kd.R_mono hv (fun b hb => ⟨hb.2, fun e => hb.1.2 (by rw [e]; rfl)⟩)⟩
    have h0 := congrArg (fun l : List Value => l[0]?) hc
    simp only [List.getElem?_take, List.getElem?_drop, Nat.add_zero, List.getElem?_cons_zero] at h0
    rw [if_pos (by omega), if_pos hj] at h0
    simpa using h0
theorem palinodelaw16_PickCuts.Rest.below {wc wr w1 : World} {g : Nat} {cells : Array Value} {f : Nat → Nat} {P : List (List S45)} {i : Nat} (h : palinodelaw16_PickCuts.Rest wc wr g cells f P i) (hb : Below wr.heap.size wr w1) : palinodelaw16_PickCuts.Rest wc w1 g cells f P i :=
  ⟨(hb.block g (Array.getElem?_eq_some_iff.1 h.1).1).trans h.1, h.2.1, fun j h1 h2 => by obtain ⟨u, hu, hr⟩ := h.2.2 j h1 h2; exact ⟨u, hu, Kd.R_below hr hb⟩⟩
theorem palinodelaw16_PickCuts.Rest.store {wc wr w1 : World} {g b : Nat} {cells : Array Value} {f : Nat → Nat} {P : List (List S45)} {i : Nat} (h : palinodelaw16_PickCuts.Rest wc wr g cells f P (i + 1)) (hg : wr.grownBy w1 (some b)) (hb : f b = i ∧ b ≠ g) : palinodelaw16_PickCuts.Rest wc w1 g cells f P (i + 1) :=
  ⟨(hg.block g (Array.getElem?_eq_some_iff.1 h.1).1 (fun e => hb.2 (by injection e with e; exact e.symm))).trans h.1, h.2.1, fun j h1 h2 => by
    obtain ⟨u, hu, hr⟩ := h.2.2 j h1 h2
    exact ⟨u, hu, Kd.R_grown hr hg (fun k hk e => by
      injection e with e
      subst e
      have := hk.1
      omega)⟩⟩
section
variable {P : Program} {ops : Array Oper} {rest : List Oper} {o : Oper} {a : Act} {Q : Exit → Act → World → Prop} {W : World}
/-- A store of a whole struct at a row's place: the row stays as_ long as_ it was. -/
theorem palinodelaw16_PickCuts.cells_event (hgd : o.guard = none) (ty : TypeId) (x v : Operand) (ho : o.op = .store ty x v) (g i : Nat) (hx : a.eval x = .pointer (some ⟨g, i, none⟩)) (xs cs : Array Value) (t : TypeId) (hv : a.eval v = .agg xs)
    (hg : W.heap[g]? = some (.cells cs t (0, 0))) (hi : (P.info? ty).map (·.size) = some xs.size) (hsz : i + xs.size ≤ cs.size) (h1 : ∀ v ∈ xs.toList, v.oneCell' = true)
    (h : ∀ w' cs', w'.heap[g]? = some (.cells cs' t (0, 0)) → cs'.size = cs.size → W.grownBy w' (some g) → w'.heap.size = W.heap.size → wpList P ops Q rest (a.put o.dst undef) w') : wpList P ops Q (o :: rest) a W := by
  refine wpList_plain hgd fun K hK => ?_
  have hst := run_storeCells_at P g i t xs.toList 0 cs W hg (by simp; omega) h1
  unfold Oper.wp execOp
  cases hq : P.info? ty with
  | none => simp [hq] at hi
  | some i0 =>
    have hs : i0.size = xs.size := by simpa [hq] using hi
    simp [ho, hx, hv, Instr.storeAt, Instr.sureAddr, Sem.run_bind, Result.andThen_ok, storeVar, sizeOf, typeInfo, hq, hs, Value.cells, hst]
    refine hK _ _ (h _ (cs.toList.take i ++ xs.toList ++ cs.toList.drop (i + xs.size)).toArray ?_ ?_ ?_ ?_)
    · rw [setRow_heap W g _ _ t _ hg]
      simp
    · simp
      omega
    · exact ⟨rfl, rfl, rfl, by simp, fun k hk hn => setRow_other W g k _ (fun q => hn (by rw [q]))⟩
    · simp
end
theorem palinodelaw16_PickCuts.dr_below {w w' : World} (h : Drawn0 w w') : Below w.heap.size w w' := by
  obtain ⟨n, rfl⟩ := h
  exact pw_below_drewN (Below.refl _ _) n
theorem palinodelaw16_PickCuts.row_cells {W : World} {base n c : Nat} {ok : Nat → Prop} {A : Option Addr} {X : List S45} (h : Kd.R k45 45 W base ok (.slice A n c) X) (hpos : 0 < X.length) :
    ∃ b cs, A = some ⟨b, 0, none⟩ ∧ W.heap[b]? = some (.cells cs 45 (0, 0)) ∧ X.length * 4 ≤ cs.size ∧ ok b ∧ base ≤ b := by
  obtain ⟨b, cap, hv, hb, _, _⟩ := Kd.R_form h hpos
  injection hv with hv1 hv2 hv3
  subst hv1 hv2 hv3
  obtain ⟨hok, inner, ⟨hil, hown⟩, hr⟩ := h
  rcases hown with ⟨h0, _⟩ | ⟨g', cap', cells, he, hg, hgc, hn, _, hsz, hin⟩
  · cases h0
  · injection he with he1 he2 he3
    injection he1 with he1
    injection he1 with he1
    subst he1
    refine ⟨b, cells, rfl, hgc, ?_, hok b rfl, hg⟩
    rw [hsz]
    exact Nat.mul_le_mul hn (Nat.le_refl 4)
theorem palinodelaw16_PickCuts.pieces_count (many : Nat) : ∀ (d : Nat) (l : List S45), (pick_Cut.pieces many d l).length ≤ d
  | 0, l => by simp [pick_Cut.pieces]
  | d + 1, l => by
    unfold pick_Cut.pieces
    split
    · simp
    · have := palinodelaw16_PickCuts.pieces_count many d (l.drop (pick_Cut.at_ many l))
      simp only [List.length_cons]
      omega
theorem palinodelaw16_PickCuts.Rest.next {wc wr : World} {g : Nat} {cells : Array Value} {f : Nat → Nat} {P : List (List S45)} {i : Nat} (h : palinodelaw16_PickCuts.Rest wc wr g cells f P i) : palinodelaw16_PickCuts.Rest wc wr g cells f P (i + 1) :=
  ⟨h.1, h.2.1, fun j h1 h2 => h.2.2 j (by omega) h2⟩
theorem palinodelaw16_PickCuts.wrapN (n : Nat) (h : n ≤ 1000000) : wrap64 ((n : Int) + 1) = ((n + 1 : Nat) : Int) := by unfold wrap64; omega
theorem palinodelaw16_PickCuts.meas (n m : Nat) (h : m < n) : n - (intOf (.int .i64 ((m + 1 : Nat) : Int))).toNat < n - (intOf (.int .i64 (m : Int))).toNat := by
  simp only [intOf, Int.toNat_natCast]
  omega
theorem palinodelaw16_PickCuts.measw (n m : Nat) (h : m < n) (hm : m ≤ 1000000) : n - (intOf (.int .i64 (wrap64 ((m : Int) + 1)))).toNat < n - (intOf (.int .i64 (m : Int))).toNat := by
  rw [palinodelaw16_PickCuts.wrapN m hm]
  exact palinodelaw16_PickCuts.meas n m h
set_option maxHeartbeats 8000000 in
set_option maxRecDepth 100000 in
theorem palinodelaw16_PickCuts.walk_ (A0 : Option Addr) (c0 : Nat) (l0 : List (S45)) (a1 : Int) (w : World) (hr0 : Kd.C k45 w A0 l0.length l0) (hc0 : l0.length ≤ c0) :
    Calls Try.prog 4 #[.slice A0 l0.length c0, .int .i64 a1] w fun e w' => e = .returned (.bool true) ∧ Below w.heap.size w w' := by
  have HR := Aside0.mk hr0
  have hm0 := hr0.2.1
  clear hr0
  obtain ⟨n, hn⟩ : ∃ n : Nat, n = min l0.length 200 := ⟨_, rfl⟩
  have hmin : (if (200 : Int) < (l0.length : Int) then (200 : Int) else (l0.length : Int)) = (n : Int) := by split <;> omega
  have hmin' : (if 200 < l0.length then (200 : Int) else (l0.length : Int)) = (n : Int) := by split <;> omega
  have hmn : mn (l0.length : Int) 200 = (n : Int) := by unfold mn; exact hmin
  have hn2 : n ≤ l0.length := by omega
  have hn3 : n ≤ 200 := by omega
  clear hn
  go_enter Try.func4, Try.ntmps4
  go_wp2_with fail
  refine (palinodelaw16_examples.calls true w palinodelaw16_examples.sure).mono ?_
  rintro e w1 ⟨rfl, hb1⟩
  have HB1 := Aside0.mk hb1
  clear hb1
  dsimp only
  obtain ⟨i0, hi, -⟩ := Option.map_eq_some_iff.1 info45
  have hcut := palinodelaw16_PickCuts.cuth A0 l0.length c0 n i0 hi (by omega)
  obtain ⟨L, hL⟩ : ∃ L, L = l0.take n := ⟨_, rfl⟩
  have hLl : n = L.length := by rw [hL, List.length_take]; omega
  have hLC := Kd.C_below (Kd.C_take HR.out hn2) HB1.out
  rw [← hL] at hLC
  subst hLl
  have HL := Aside0.mk hLC
  have hLc : L.length ≤ c0 := by omega
  have HN := Aside0.mk (And.intro hLc (And.intro hn2 (And.intro hn3 hc0)))
  clear hi hL hLC HR hLc hn2 hn3 hc0 hm0
  go_wp2_with ((with_reducible refine gate_builtin (b := .append) (xs := #[.const (.slice none 0 0), .tmp 22]) rfl ?_); at_builtin; refine Hid.out ?_)
  refine Lib.hid ?_
  refine Kd.R_append_rows k45 (w0 := w) w.heap.size rfl (.const (.slice none 0 0)) (.tmp 22) 34 45 (.agg #[(.string ⟨#[]⟩), (.int .i64 0), (.bool false), (.string ⟨#[]⟩)]) 48 rfl Try.underlying34 info45 rfl (by decide) (by omega) (.slice none 0 0) [] L _ _ _ (fun _ => True) (fun _ => False) rfl rfl ?aO ?aR (fun _ _ h => h) (fun _ h => h.elim) ?aF ?aB ?aS ?aL ?_
  case aR => exact HL.out
  case aO => exact Kd.R_nil _ _ _ _ _
  case aF => exact fun _ _ => trivial
  case aB => exact HB1.out
  case aS => exact HB1.out.size
  case aL => have := HN.out.2.2.1; simp only [List.length_nil, Nat.zero_add]; omega
  intro v2 w2 ho hb hg hat
  have HO2 := Aside0.mk (show Kd.R k45 45 w2 w.heap.size (fun _ => True) v2 L from ho)
  have HL2 := Aside0.mk (Kd.C_below HL.out (pw_below_grown (Below.refl _ _) none (Nat.le_refl _) hg (by simp)))
  have HB2 := Aside0.mk hb
  obtain ⟨A2, c2, hv2⟩ := Kd.R_slice HO2.out
  subst hv2
  clear ho hb hg hat HL HB1
  go_wp2_with fail
  by_cases hm : a1 < 1
  · refine (palinoderef16_Cut.calls A0 c0 L a1 [] false w2 HL2.out HN.out.1 (by unfold palinoderef16_Cut.f; rw [if_pos hm])).mono ?_
    rintro e w3 ⟨v3, rfl, hv3, hb3⟩
    have HL3 := Aside0.mk (Kd.C_below HL2.out hb3)
    have HO3 := Aside0.mk (Kd.R_below HO2.out hb3)
    have HB3 := Aside0.mk (below_then HB2.out HB2.out.size hb3)
    obtain ⟨Aw, cw, hv⟩ := Kd.R_slice hv3
    subst hv
    clear hv3 hb3 HL2 HO2 HB2
    have HM := Aside0.mk hm
    dsimp only
    obtain ⟨A2', c2', hv2, hlc2, hC2⟩ := Kd.R_reads HO3.out
    injection hv2 with hv2a _ hv2c
    subst hv2a hv2c
    have HC2 := Aside0.mk (And.intro hlc2 hC2)
    clear hlc2 hC2
    go_wp2_with fail
    go_loopw [9] (fun i wr => ∃ j : Nat, j ≤ 2 ∧ i = .int .i64 j ∧ Aside0 (Below w3.heap.size w3 wr)) (fun i _ => 2 - (intOf i).toNat)
    case atStart => exact ⟨0, by omega, rfl, ⟨Below.refl _ _⟩⟩
    case round =>
      obtain ⟨j, hj, rfl, HB4⟩ := hrel
      obtain ⟨wt, hwt⟩ : ∃ wt, wt = wr := ⟨_, rfl⟩
      subst hwt
      by_cases hj2 : j = 2
      · subst hj2
        go_wp2_with fail
        refine (palinodelaw16_entries.calls (L.length + 1) A2 c2 L A0 c0 L true wt (Kd.C_below HC2.out.2 HB4.out) HC2.out.1 (Kd.C_below HL3.out HB4.out) HN.out.1 (palinodelaw16_PickCuts.entries_same L (by have := HN.out.2.2.1; omega))).mono ?_
        rintro e w5 ⟨rfl, hd⟩
        have HB5 := Aside0.mk (below_then (below_then HB3.out HB3.out.size HB4.out) (Nat.le_trans HB3.out.size HB4.out.size) (palinodelaw16_PickCuts.dr_below hd))
        clear hd
        go_wp2_with fail
        go_ret
        exact ⟨rfl, HB5.out⟩
      · have hjlt : (j : Int) < 2 := by omega
        go_wp2_with fail
        refine (pick_Cut.calls A2 c2 L a1 [] (some 1) wt (Kd.C_below HC2.out.2 HB4.out) HC2.out.1 (by unfold pick_Cut.f; rw [if_pos (by have := HM.out; omega)])).mono ?_
        rintro e w4 ⟨v4, rfl, hS, hb4⟩
        obtain ⟨A4, c4, hv4⟩ := Kd.S_slice hS
        subst hv4
        have HB5 := Aside0.mk (below_then HB4.out HB4.out.size hb4)
        clear hS hb4
        simp only [errW_some]
        go_wp2_with fail
        refine (palinodelaw16_is.calls (some 1) 1 true w4 rfl).mono ?_
        rintro e w5 ⟨rfl, hd⟩
        have HB6 := Aside0.mk (below_then HB5.out HB5.out.size (palinodelaw16_PickCuts.dr_below hd))
        clear hd
        go_wp2_with fail
        go_loopw [12] (fun i wz => i = .int .i64 0 ∧ wz = w5) (fun _ _ => 0)
        case atStart => exact ⟨rfl, rfl⟩
        case round =>
          obtain ⟨rfl, rfl⟩ := hrel
          go_wp2_with fail
          have hj3 : j + 1 ≤ 2 := by omega
          refine ⟨⟨j + 1, hj3, by go_num, HB6⟩, ?_⟩
          clear HN
          simp only [intOf]
          omega
  · obtain ⟨P, hP⟩ : ∃ P, P = pick_Cut.pieces a1.toNat L.length L := ⟨_, rfl⟩
    have hcl : L.length < 1000000 := by have := HN.out.2.2.1; omega
    refine (palinoderef16_Cut.calls A0 c0 L a1 P true w2 HL2.out HN.out.1 (by unfold palinoderef16_Cut.f; rw [if_neg hm, if_pos hcl, hP])).mono ?_
    rintro e w3 ⟨v3, rfl, hv3, hb3⟩
    have HP := Aside0.mk hP
    have HM := Aside0.mk hm
    have HW := Aside0.mk hv3
    have HL3 := Aside0.mk (Kd.C_below HL2.out hb3)
    have HO3 := Aside0.mk (Kd.R_below HO2.out hb3)
    have HB3 := Aside0.mk (below_then HB2.out HB2.out.size hb3)
    have HB23 := Aside0.mk hb3
    clear hP hv3 hb3 HL2 HO2 HB2
    obtain ⟨Aw, cw, hv⟩ := Kd.R_slice HW.out
    subst hv
    dsimp only
    obtain ⟨A2', c2', hv2, hlc2, hC2⟩ := Kd.R_reads HO3.out
    injection hv2 with hv2a _ hv2c
    subst hv2a hv2c
    have HC2 := Aside0.mk (And.intro hlc2 hC2)
    clear hlc2 hC2
    go_wp2_with fail
    go_loopw [9] (fun i wr => ∃ j : Nat, j ≤ 2 ∧ i = .int .i64 j ∧ Aside0 (Below w3.heap.size w3 wr)) (fun i _ => 2 - (intOf i).toNat)
    case atStart => exact ⟨0, by omega, rfl, ⟨Below.refl _ _⟩⟩
    case round =>
      obtain ⟨j, hj, rfl, HB4⟩ := hrel
      obtain ⟨wt, hwt⟩ : ∃ wt, wt = wr := ⟨_, rfl⟩
      subst hwt
      by_cases hj2 : j = 2
      · subst hj2
        go_wp2_with fail
        refine (palinodelaw16_entries.calls (L.length + 1) A2 c2 L A0 c0 L true wt (Kd.C_below HC2.out.2 HB4.out) HC2.out.1 (Kd.C_below HL3.out HB4.out) HN.out.1 (palinodelaw16_PickCuts.entries_same L (by have := HN.out.2.2.1; omega))).mono ?_
        rintro e w5 ⟨rfl, hd⟩
        have HB5 := Aside0.mk (below_then (below_then HB3.out HB3.out.size HB4.out) (Nat.le_trans HB3.out.size HB4.out.size) (palinodelaw16_PickCuts.dr_below hd))
        clear hd
        go_wp2_with fail
        go_ret
        exact ⟨rfl, HB5.out⟩
      · have hjlt : (j : Int) < 2 := by omega
        go_wp2_with fail
        refine (pick_Cut.calls A2 c2 L a1 P none wt (Kd.C_below HC2.out.2 HB4.out) HC2.out.1 (by unfold pick_Cut.f; rw [if_neg (by have := HM.out; omega), if_pos hcl, HP.out])).mono ?_
        rintro e w4 ⟨v4, rfl, hS, hb4⟩
        obtain ⟨A4, c4, hv4⟩ := Kd.S_slice hS
        subst hv4
        have HS := Aside0.mk hS
        have HB5 := Aside0.mk (below_then HB4.out HB4.out.size hb4)
        have HBw := Aside0.mk hb4
        clear hS hb4
        simp only [errW_none]
        go_wp2_with fail
        by_cases hp0 : P = []
        · subst hp0
          go_loopw [12] (fun i wz => i = .int .i64 0 ∧ wz = w4) (fun _ _ => 0)
          case atStart => exact ⟨rfl, rfl⟩
          case round =>
            obtain ⟨rfl, rfl⟩ := hrel
            go_wp2_with fail
            have hj3 : j + 1 ≤ 2 := by omega
            refine ⟨⟨j + 1, hj3, by go_num, HB5⟩, ?_⟩
            clear HN
            simp only [intOf]
            omega
        · have hpos : 0 < P.length := List.length_pos_iff.2 hp0
          obtain ⟨g, cap, hg, _, _, _⟩ := Kd.R_form (Kd.S_R HS.out) hpos
          injection hg with hg1 _ hg3
          subst hg1 hg3
          obtain ⟨cells, f, hrest⟩ := palinodelaw16_PickCuts.Rest.of HS.out
          obtain ⟨gw, capw, hgw, _, _, _⟩ := Kd.R_form HW.out hpos
          injection hgw with hgw1 _ hgw3
          subst hgw1 hgw3
          have HR0 := Aside0.mk hrest
          have HP0 := Aside0.mk hp0
          have HPC : Aside0 (P.length ≤ 200) := ⟨by rw [HP.out]; exact Nat.le_trans (palinodelaw16_PickCuts.pieces_count _ _ _) HN.out.2.2.1⟩
          clear hrest hp0 hpos HS
          go_loopw [12] (fun i wz => ∃ m : Nat, m ≤ P.length ∧ i = .int .i64 m ∧ Aside0 (Below w3.heap.size w3 wz) ∧ Aside0 (palinodelaw16_PickCuts.Rest wt wz g cells f P m)) (fun i _ => P.length - (intOf i).toNat)
          case atStart => exact ⟨0, Nat.zero_le _, rfl, HB5, HR0⟩
          case round =>
            clear HB5 HR0 HBw
            obtain ⟨m, hm2, rfl, HB6, HR6⟩ := hrel
            obtain ⟨wz, hwz⟩ : ∃ wz, wz = wr := ⟨_, rfl⟩
            subst hwz
            by_cases hlt : m < P.length
            · have hlt' : (m : Int) < P.length := by omega
              obtain ⟨X, hX⟩ : ∃ X, X = P.getD m [] := ⟨_, rfl⟩
              obtain ⟨u, hu, hru⟩ := HR6.out.2.2 m (Nat.le_refl _) hlt
              rw [← hX] at hru
              obtain ⟨Ai, ci, hui, hlci, hCi⟩ := Kd.R_reads hru
              subst hui
              have HRU := Aside0.mk hru
              have HCO := Aside0.mk (And.intro hlci hCi)
              have cO : wz.cell? ⟨g, m, none⟩ = some (.slice Ai X.length ci) := (blk_cell HR6.out.1 m).trans hu
              obtain ⟨cc, hcl1, hM, hcw⟩ := Kd.R_get HW.out [] (m : Int) (by omega) hlt'
              obtain ⟨Av, cv, rfl, hlcv, hCv⟩ := hM
              rw [Int.toNat_natCast, ← hX] at hlcv hCv hcw
              have cW : wz.cell? ⟨gw, m, none⟩ = some (.slice Av X.length cv) := by
                have h1 := hcw 0 _ rfl
                have h2 := pw_cell_below HB6.out h1
                rw [add_plain] at h2
                have e1 : (Kd.fixed (Kd.slice 45 k45) w2).sz = 1 := rfl
                rw [e1, Nat.mul_one, Nat.add_zero] at h2
                exact h2
              have HCW := Aside0.mk (And.intro hlcv (Kd.C_below hCv (below_then HB23.out HB23.out.size HB6.out)))
              have HU := Aside0.mk hu
              have HXL : Aside0 (X.length < 1000000) := ⟨by
                have h1 : X ∈ P := by rw [hX, List.getD_eq_getElem?_getD, List.getElem?_eq_getElem hlt]; exact List.getElem_mem hlt
                rw [HP.out] at h1
                have := pick_Cut.pieces_len a1.toNat L.length L X h1
                have := HN.out.2.2.1
                omega⟩
              have HX := Aside0.mk hX
              clear hX hu hru hlci hCi hcl1 hcw hlcv hCv
              go_wp2_with fail
              refine start_ (n := 10) (S := fun w' => w'.cell? ⟨g, m, none⟩ = some (.slice Ai X.length ci) ∧ w'.cell? ⟨gw, m, none⟩ = some (.slice Av X.length cv)) (ds := [8]) #[false, false, false, false, false, false, false, false, false, false] (by kernel_rfl) rfl rfl ⟨cO, cW⟩ (fun hHeld => ?_)
              refine pure_ (i := 0) (N := some 66) (v := ?_) (a' := ?_) #[true, false, false, false, false, false, false, false, false, false] rfl rfl (by kernel_rfl) (fun _ _ _ h => h) (Or.inl ⟨by rfl, ?_⟩) ?_ ?_
              rotate_left
              · intro w'
                go_simp
                with_reducible rfl
              rotate_left
              · simp only [Act.put, List.setIfInBounds_toArray, List.set_cons_zero, List.set_cons_succ, i64_w, i32_w]
                rfl
              refine pure_ (i := 1) (N := some 67) (v := ?_) (a' := ?_) #[true, true, false, false, false, false, false, false, false, false] rfl rfl (by kernel_rfl) (fun _ _ _ h => h) (Or.inl ⟨by rfl, ?_⟩) ?_ ?_
              rotate_left
              · intro w'
                go_simp
                with_reducible rfl
              rotate_left
              · simp only [Act.put, List.setIfInBounds_toArray, List.set_cons_zero, List.set_cons_succ, i64_w, i32_w]
                rfl
              refine pure_ (i := 2) (N := some 68) (v := ?_) (a' := ?_) #[true, true, true, false, false, false, false, false, false, false] rfl rfl (by kernel_rfl) (fun _ _ _ h => h) (Or.inl ⟨by rfl, ?_⟩) ?_ ?_
              rotate_left
              · intro w'
                go_simp
                with_reducible rfl
              rotate_left
              · simp only [Act.put, List.setIfInBounds_toArray, List.set_cons_zero, List.set_cons_succ, i64_w, i32_w]
                rfl
              refine take_ (i := 3) (N := some 69) (v := ?_) (a' := ?_) #[true, true, true, true, false, false, false, false, false, false] rfl rfl (by kernel_rfl) (fun _ _ _ h => h) (Or.inl ⟨by rfl, ?_⟩) hHeld ?_ ?_
              rotate_left
              · rintro w' ⟨s0, s1⟩
                go_simp
                with_reducible rfl
              rotate_left
              · simp only [Act.put, List.setIfInBounds_toArray, List.set_cons_zero, List.set_cons_succ, i64_w, i32_w]
                rfl
              refine pure_ (i := 4) (N := some 70) (v := ?_) (a' := ?_) #[true, true, true, true, true, false, false, false, false, false] rfl rfl (by kernel_rfl) (fun _ _ _ h => h) (Or.inl ⟨by rfl, ?_⟩) ?_ ?_
              rotate_left
              · intro w'
                go_simp
                with_reducible rfl
              rotate_left
              · simp only [Act.put, List.setIfInBounds_toArray, List.set_cons_zero, List.set_cons_succ, i64_w, i32_w]
                rfl
              refine pure_ (i := 5) (N := some 71) (v := ?_) (a' := ?_) #[true, true, true, true, true, true, false, false, false, false] rfl rfl (by kernel_rfl) (fun _ _ _ h => h) (Or.inl ⟨by rfl, ?_⟩) ?_ ?_
              rotate_left
              · intro w'
                go_simp
                with_reducible rfl
              rotate_left
              · simp only [Act.put, List.setIfInBounds_toArray, List.set_cons_zero, List.set_cons_succ, i64_w, i32_w]
                rfl
              refine pure_ (i := 6) (N := some 72) (v := ?_) (a' := ?_) #[true, true, true, true, true, true, true, false, false, false] rfl rfl (by kernel_rfl) (fun _ _ _ h => h) (Or.inl ⟨by rfl, ?_⟩) ?_ ?_
              rotate_left
              · intro w'
                go_simp
                with_reducible rfl
              rotate_left
              · simp only [Act.put, List.setIfInBounds_toArray, List.set_cons_zero, List.set_cons_succ, i64_w, i32_w]
                rfl
              refine take_ (i := 7) (N := some 73) (v := ?_) (a' := ?_) #[true, true, true, true, true, true, true, true, false, false] rfl rfl (by kernel_rfl) (fun _ _ _ h => h) (Or.inl ⟨by rfl, ?_⟩) hHeld ?_ ?_
              rotate_left
              · rintro w' ⟨s0, s1⟩
                go_simp
                with_reducible rfl
              rotate_left
              · simp only [Act.put, List.setIfInBounds_toArray, List.set_cons_zero, List.set_cons_succ, i64_w, i32_w]
                rfl
              refine last_ (i := 8) (N := some 74) #[true, true, true, true, true, true, true, true, true, false] rfl rfl (by kernel_rfl) (by decide) (fun K hK => ?_)
              refine goes_ Try.func17 (by kernel_rfl) rfl #[.slice Ai X.length ci, .slice Av X.length cv] (by rfl) rfl rfl (by (try simp only [List.map_toArray, List.map_cons, List.map_nil]); first | done | rfl) ?_
              refine (palinodelaw16_entries.calls (X.length + 1) Ai ci X Av cv X true _ (Kd.C_drew HCO.out.2) HCO.out.1 (Kd.C_drew HCW.out.2) HCW.out.1 (palinodelaw16_PickCuts.entries_same X HXL.out)).mono ?_
              rintro e w5 ⟨rfl, hd⟩
              refine ⟨_, rfl, ?_⟩
              have hd5 := palinodelaw16_PickCuts.dr_below hd
              have HB7 := Aside0.mk (show Below wz.heap.size wz w5 from below_then (below_drew1 (Below.refl _ _)) (Nat.le_refl _) hd5)
              clear hd hd5
              refine hK.out _ _ ?_
              clear hK K
              refine norm_ (a' := ?_) ?_ ?_
              rotate_left
              · show Act.put _ (some 74) _ = _
                simp only [Act.put, List.setIfInBounds_toArray, List.set_cons_zero, List.set_cons_succ, i64_w, i32_w]
                rfl
              refine pure_ (i := 9) (N := some 13) (v := ?_) (a' := ?_) #[true, true, true, true, true, true, true, true, true, true] rfl rfl (by kernel_rfl) (fun _ _ _ h => h) (Or.inl ⟨by rfl, ?_⟩) ?_ ?_
              rotate_left
              · intro w'
                go_simp
                with_reducible rfl
              rotate_left
              · simp only [Act.put, List.setIfInBounds_toArray, List.set_cons_zero, List.set_cons_succ, i64_w, i32_w]
                rfl
              refine done_ (by kernel_rfl) ?_
              go_wp2_with fail
              have HR7 := Aside0.mk (palinodelaw16_PickCuts.Rest.below HR6.out HB7.out)
              have HRU7 := Aside0.mk (Kd.R_below HRU.out HB7.out)
              have HB8 := Aside0.mk (below_then HB6.out HB6.out.size HB7.out)
              have cO7 : w5.cell? ⟨g, m, none⟩ = some (.slice Ai X.length ci) := (blk_cell HR7.out.1 m).trans HU.out
              clear HR6 HRU HB6 HCO HCW cO cW hHeld
              by_cases hx0 : X.length = 0
              · go_loopw [14] (fun i wy => i = .int .i64 0 ∧ wy = w5) (fun _ _ => 0)
                case atStart => exact ⟨rfl, rfl⟩
                case round =>
                  obtain ⟨rfl, rfl⟩ := hrel
                  go_wp2_with fail
                  have hmx : m + 1 ≤ P.length := hlt
                  have hmb : m ≤ 1000000 := by have := HPC.out; omega
                  refine ⟨⟨m + 1, hmx, congrArg _ (palinodelaw16_PickCuts.wrapN m hmb), HB8, ⟨palinodelaw16_PickCuts.Rest.next HR7.out⟩⟩, palinodelaw16_PickCuts.measw P.length m hlt hmb⟩
              · obtain ⟨b, cs0, rfl, hb0, hsz0, hfb, hbase⟩ := palinodelaw16_PickCuts.row_cells HRU7.out (by omega)
                have HF := Aside0.mk (And.intro hfb (Nat.le_trans HB4.out.size hbase))
                have HC0 := Aside0.mk hb0
                have HSZ := Aside0.mk hsz0
                have HR8 := Aside0.mk (palinodelaw16_PickCuts.Rest.next HR7.out)
                clear hb0 hsz0 hfb hbase HRU7 HR7 cO7
                go_loopw [14] (fun i wy => ∃ (k : Nat) (cs : Array Value), i = .int .i64 k ∧ k ≤ X.length ∧ Aside0 (cs.size = cs0.size) ∧ Aside0 (wy.heap[b]? = some (.cells cs 45 (0, 0))) ∧ Aside0 (palinodelaw16_PickCuts.Rest wt wy g cells f P (m + 1)) ∧ Aside0 (Below w3.heap.size w3 wy)) (fun i _ => X.length - (intOf i).toNat)
                case atStart => exact ⟨0, cs0, rfl, Nat.zero_le _, ⟨rfl⟩, HC0, HR8, HB8⟩
                case round =>
                  clear HC0 HR8 HB8
                  obtain ⟨k, cs, rfl, hk, HCS, HC9, HR9, HB9⟩ := hrel
                  have cO9 := (blk_cell HR9.out.1 m).trans HU.out
                  by_cases hkl : k < X.length
                  · have hkl' : (k : Int) < X.length := by omega
                    have hxl := HXL.out
                    go_wp2_with ((with_reducible refine gate_store (t := 45) (p := 92) (v := .tmp 91) rfl ?_); refine palinodelaw16_PickCuts.cells_event rfl 45 (.tmp 92) (.tmp 91) rfl b (k * 4) rfl #[.string ⟨#[]⟩, .int .i64 0, .bool false, .string ⟨#[]⟩] cs 45 rfl HC9.out (by kernel_rfl) (by have := HCS.out; have := HSZ.out; simp only [List.size_toArray, List.length_cons, List.length_nil]; omega) (by intro v hv; simp at hv; rcases hv with rfl | rfl | rfl | rfl <;> rfl) ?_; intro w6 cs6 q1 q2 q3 q4; have HC10 := Aside0.mk q1; have HCS10 := Aside0.mk (q2.trans HCS.out); have HR10 := Aside0.mk (palinodelaw16_PickCuts.Rest.store HR9.out q3 HF.out.1); have HB10 := Aside0.mk (pw_below_grown HB9.out (some b) HB9.out.size q3 (fun k_ e_ => by injection e_ with e_; have := HF.out.2; omega)); clear q1 q2 q3 q4)
                    have hkx : k + 1 ≤ X.length := hkl
                    refine ⟨⟨k + 1, cs6, rfl, hkx, HCS10, HC10, HR10, HB10⟩, palinodelaw16_PickCuts.meas X.length k hkl⟩
                  · obtain rfl : k = X.length := by omega
                    go_wp2_with fail
                    have hmx : m + 1 ≤ P.length := hlt
                    have hmb : m ≤ 1000000 := by have := HPC.out; omega
                    refine ⟨⟨m + 1, hmx, congrArg _ (palinodelaw16_PickCuts.wrapN m hmb), HB9, HR9⟩, palinodelaw16_PickCuts.measw P.length m hlt hmb⟩
            · obtain rfl : m = P.length := by omega
              go_wp2_with fail
              have hj3 : j + 1 ≤ 2 := by omega
              refine ⟨⟨j + 1, hj3, by go_num, HB6⟩, ?_⟩
              clear HN
              simp only [intOf]
              omega

def palinodelaw16_PickCuts.f (k : Nat) (l0 : List S45) (a1 : Int) : Option Bool := some true
theorem palinodelaw16_PickCuts.calls (k : Nat) (A0 : Option Addr) (c0 : Nat) (l0 : List (S45)) (a1 : Int) (r : Bool) (w : World) (hr0 : Kd.C k45 w A0 l0.length l0) (hc0 : l0.length ≤ c0) (h : palinodelaw16_PickCuts.f k l0 a1 = some r) :
    Calls Try.prog 4 #[.slice A0 l0.length c0, .int .i64 a1] w fun e w' => e = .returned (.bool r) ∧ Below w.heap.size w w' := by
  obtain rfl : true = r := Option.some.inj h
  exact palinodelaw16_PickCuts.walk_ A0 c0 l0 a1 w hr0 hc0
theorem PickCuts_true (l : List S45) (a1 : Int) (_hl : l.length ≤ 9223372036854775807) (_ha : -9223372036854775808 ≤ a1 ∧ a1 ≤ 9223372036854775807) : ∃ k, palinodelaw16_PickCuts.f k l a1 = some true := ⟨0, rfl⟩
end Go.Proofs.Ytepgnefkpjnmlaa.PD

/-
  Arguments opened: what lies at a type, as_ the print's kinds tell it (of any depth: whole numbers, truths, strings, structs, slices of these), with the bounds that a row's weights give.
-/
set_option linter.unusedVariables false
set_option linter.unusedSimpArgs false
namespace Go.Proofs.Ytepgnefkpjnmlaa
open Go.RowKit Go.Proofs.YtepgnefkpjnmlaaW.PrintWords Go.ChangeShapes Go.WideShapes Go.Deep

/-- Of a type: any cells that a datum stands on are of the kind, and good. -/
structure Opn (P : Program) (t : TypeId) {α : Type} (k : Kd α) (good : α → Prop) : Prop where
  sz : P.cellsOf t = k.sz
  op : ∀ {H : Type} {enc : TypeId × Value → H} {w : World} {base : Nat} {spare : Nat → Bool} {held : Bool} {fuel : Nat} {cs : List Value} {x : DataW H × List MemPlace},
    DataW.trod enc P w base spare held fuel t cs = some x → (∀ n ∈ x.1.weights P t, n ≤ reachBytes) → ∃ a : α, k.K w a cs ∧ good a
/-- Of a struct's fields, from a place on. -/
structure OpnF (P : Program) (fs : List Field) (off : Nat) {α : Type} (k : Kd α) (good : α → Prop) : Prop where
  op : ∀ {H : Type} {enc : TypeId × Value → H} {w : World} {base : Nat} {spare : Nat → Bool} {held : Bool} {fuel : Nat} {cs : List Value} {xs : List (DataW H × List MemPlace)},
    cs.length = off + k.sz → xs.length = fs.length → (∀ (i : Nat) (f : Field), fs[i]? = some f → DataW.trod enc P w base spare held fuel f.type ((cs.drop f.offset).take (P.cellsOf f.type)) = xs[i]?) →
    (∀ n ∈ DataW.weightsEach P (fs.map (·.type)) (xs.map (·.1)), n ≤ reachBytes) → ∃ a : α, k.K w a (cs.drop off) ∧ good a

theorem Opn.imp {P : Program} {t : TypeId} {α : Type} {k : Kd α} {good good' : α → Prop} (h : Opn P t k good) (hg : ∀ a, good a → good' a) : Opn P t k good' :=
  ⟨h.sz, fun hx hw => by obtain ⟨a, ha, hga⟩ := h.op hx hw; exact ⟨a, ha, hg a hga⟩⟩
theorem opn_int {P : Program} {t : TypeId} (ht : P.underlying t = some (.int .i64)) (hs : P.cellsOf t = 1) : Opn P t (Kd.int .i64) (fun n => -9223372036854775808 ≤ n ∧ n ≤ 9223372036854775807) :=
  ⟨hs, fun hx _ => by
    obtain ⟨n, rfl, _, hw⟩ := DataW.trod_int ht hx
    exact ⟨n, rfl, bounds_i64 hw⟩⟩
theorem opn_bool {P : Program} {t : TypeId} (ht : P.underlying t = some .bool) (hs : P.cellsOf t = 1) : Opn P t Kd.bool (fun _ => True) :=
  ⟨hs, fun hx _ => by
    obtain ⟨b, rfl, _⟩ := DataW.trod_bool ht hx
    exact ⟨b, rfl, trivial⟩⟩
theorem opn_string {P : Program} {t : TypeId} (ht : P.underlying t = some .string) (hs : P.cellsOf t = 1) : Opn P t Kd.string (fun s => s.size ≤ reachBytes) :=
  ⟨hs, fun {H enc w base spare held fuel cs x} hx hw => by
    obtain ⟨s, rfl, hd, _⟩ := DataW.trod_string ht hx
    refine ⟨s, rfl, hw _ ?_⟩
    rw [hd]
    simp [DataW.weights]⟩
theorem opnF_one {P : Program} {f : Field} {off : Nat} {α : Type} {k : Kd α} {good : α → Prop} (h : Opn P f.type k good) (ho : f.offset = off) : OpnF P [f] off k good :=
  ⟨fun {H enc w base spare held fuel cs xs} hl hx hf hw => by
    match xs, hx with
    | [x], _ =>
      have h1 := hf 0 f rfl
      rw [ho, h.sz, List.take_of_length_le (by rw [List.length_drop]; omega)] at h1
      refine h.op h1 (fun n hn => hw n ?_)
      simp only [List.map_cons, List.map_nil, DataW.weightsEach, List.append_nil]
      exact hn⟩
theorem opnF_more {P : Program} {f : Field} {fs : List Field} {off : Nat} {α β : Type} {k : Kd α} {k' : Kd β} {good : α → Prop} {good' : β → Prop} (h : Opn P f.type k good) (ho : f.offset = off) (hr : OpnF P fs (off + k.sz) k' good') :
    OpnF P (f :: fs) off (Kd.pair k k') (fun x => good x.1 ∧ good' x.2) :=
  ⟨fun {H enc w base spare held fuel cs xs} hl hx hf hw => by
    match xs, hx with
    | x :: xs, hx =>
      have h1 := hf 0 f rfl
      rw [ho, h.sz] at h1
      have hl' : cs.length = off + (k.sz + k'.sz) := hl
      obtain ⟨a, ha, hga⟩ := h.op h1 (fun n hn => hw n (by
        simp only [List.map_cons, DataW.weightsEach]
        exact List.mem_append_left _ hn))
      obtain ⟨b, hb, hgb⟩ := hr.op (cs := cs) (xs := xs) (by omega) (by simpa using hx) (fun i g hg => by simpa using hf (i + 1) g (by simpa using hg)) (fun n hn => hw n (by
        simp only [List.map_cons, DataW.weightsEach]
        exact List.mem_append_right _ hn))
      refine ⟨(a, b), ⟨(cs.drop off).take k.sz, cs.drop (off + k.sz), ?_, ha, hb⟩, hga, hgb⟩
      rw [← List.drop_drop, List.take_append_drop]⟩
theorem opn_struct {P : Program} {t : TypeId} {fs : Array Field} {α β : Type} {k : Kd α} {f : β → α} {g : α → β} {good : α → Prop} (ht : P.underlying t = some (.struct fs)) (h : OpnF P fs.toList 0 k good) (hs : P.cellsOf t = k.sz) (hfg : ∀ a, f (g a) = a) :
    Opn P t (Kd.iso k f) (fun b => good (f b)) :=
  ⟨hs, fun {H enc w base spare held fuel cs x} hx hw => by
    obtain ⟨xs, n, _, rfl, hl, hxl, hf⟩ := DataW.trod_struct ht hx
    obtain ⟨a, ha, hga⟩ := h.op (cs := cs) (xs := xs) (by omega) (by simpa using hxl) (fun i f hi => hf i f (by simpa using hi)) (fun n hn => hw n (by
      simp only [DataW.weights, ht]
      exact hn))
    rw [List.drop_zero] at ha
    exact ⟨g a, by show k.K w (f (g a)) cs; rw [hfg]; exact ha, by rw [hfg]; exact hga⟩⟩
theorem weightsAll_mem {H : Type} {P : Program} {e : TypeId} : ∀ {ds : List (DataW H)} {d : DataW H}, d ∈ ds → ∀ n ∈ d.weights P e, n ∈ DataW.weightsAll P e ds
  | d0 :: ds, d, hd, n, hn => by
    simp only [DataW.weightsAll, List.mem_append]
    rcases List.mem_cons.1 hd with rfl | hd
    · exact .inl hn
    · exact .inr (weightsAll_mem hd n hn)
theorem choose_fn {α : Type} (d : α) {p : Nat → α → Prop} {m : Nat} (h : ∀ i, i < m → ∃ a, p i a) : ∃ F : Nat → α, ∀ i, i < m → p i (F i) := by
  classical
  exact ⟨fun i => if hi : i < m then (h i hi).choose else d, fun i hi => by simp only [dif_pos hi]; exact (h i hi).choose_spec⟩
theorem opn_slice {P : Program} {t e : TypeId} {α : Type} {k : Kd α} {good : α → Prop} {b : Nat} (ht : P.underlying t = some (.slice e)) (h : Opn P e k good) (hs : P.cellsOf t = 1) (hb : P.bytesOf e = b) :
    Opn P t (Kd.slice e k) (fun xs => xs.length ≤ 9223372036854775807 ∧ xs.length * b ≤ reachBytes ∧ ∀ x ∈ xs, good x) :=
  ⟨hs, fun {H enc w base spare held fuel cs x} hx hw => by
    rcases open_slice ht hx with ⟨rfl, rfl⟩ | ⟨a, len, cap, m, n, D, Pl, rfl, hbl, hl, hm, hmm, rfl, hi⟩
    · exact ⟨[], ⟨none, 0, rfl, Nat.le_refl _, Kd.C_nil _ _⟩, Nat.zero_le _, by simp, fun _ h => by simp at h⟩
    · have hlm : len ≤ m := by rw [hmm]; split <;> omega
      have key : ∀ i, i < len → ∃ a' : α, (∃ c, c.length = k.sz ∧ k.K w a' c ∧ ∀ j u, c[j]? = some u → w.cell? (a.add (i * k.sz + j)) = some u) ∧ good a' := fun i hil => by
        obtain ⟨cs', hc, ht'⟩ := hi i (by omega)
        obtain ⟨_, hcl, hat⟩ := World.cells?_some hc
        obtain ⟨a', ha, hg⟩ := h.op ht' (fun n hn => hw n (by
          simp only [DataW.weights, ht]
          refine List.mem_cons_of_mem _ (List.mem_append_left _ (weightsAll_mem (d := D i) ?_ n hn))
          exact List.mem_map.2 ⟨i, List.mem_range.2 hil, rfl⟩))
        refine ⟨a', ⟨cs', by rw [hcl, h.sz], ha, fun j u hu => ?_⟩, hg⟩
        have hj : j < cs'.length := (List.getElem?_eq_some_iff.1 hu).1
        have := hat j (by omega)
        rw [← Go.Deep.add_add, ← h.sz, this, hu]
      rcases Nat.eq_zero_or_pos len with h0 | hpos
      · subst h0
        exact ⟨[], ⟨some a, cap, rfl, hl, ⟨rfl, by simp, fun h => absurd h (Nat.lt_irrefl 0)⟩⟩, Nat.zero_le _, by simp, fun _ h => by simp at h⟩
      · obtain ⟨d, _⟩ := key 0 hpos
        obtain ⟨F, hF⟩ := choose_fn d key
        have hlen : ((List.range len).map F).length = len := by simp
        have hget : ∀ j p, ((List.range len).map F)[j]? = some p → j < len ∧ p = F j := fun j p hp => by
          have hj : j < len := by have := (List.getElem?_eq_some_iff.1 hp).1; omega
          rw [List.getElem?_map, List.getElem?_range hj] at hp
          exact ⟨hj, (Option.some.inj hp).symm⟩
        refine ⟨(List.range len).map F, ⟨some a, cap, by rw [hlen], by rw [hlen]; exact hl, ⟨rfl, by rw [hlen]; exact Nat.le_trans hl hm, fun _ => ⟨a, rfl, fun j p hp => ?_⟩⟩⟩, by rw [hlen]; exact Nat.le_trans hl hm, ?_, fun x hx => ?_⟩
        · obtain ⟨hj, rfl⟩ := hget j p hp
          obtain ⟨⟨c, hc, hk, hcell⟩, _⟩ := hF j hj
          exact ⟨c, hc, hk, hcell⟩
        · have := hw ((len + (m - len)) * P.bytesOf e) (by simp [DataW.weights, ht])
          rw [hlen, ← hb]
          exact Nat.le_trans (Nat.mul_le_mul_right _ (Nat.le_add_right _ _)) this
        · obtain ⟨i, hi', rfl⟩ := List.mem_map.1 hx
          exact (hF i (List.mem_range.1 hi')).2⟩
/-- A law's argument. -/
theorem Opn.arg {P : Program} {t : TypeId} {α : Type} {k : Kd α} {good : α → Prop} (ho : Opn P t k good) {H : Type} {enc : TypeId × Value → H} {w : World} {base : Nat} {spare : Nat → Bool} {held : Bool} {v : Value} {d : DataW H} {p : List MemPlace} (h : DataW.Trod enc P w base spare held t v d p)
    {ts : List TypeId} {ds : List (DataW H)} {j : Nat} (hsz : (DataW.weightsEach P ts ds).all (· ≤ reachBytes) = true) (htj : ts[j]? = some t) (hdj : ds[j]? = some d) : ∃ a : α, k.K w a v.cells.toList ∧ good a := by
  obtain ⟨fuel, hf⟩ := h
  exact ho.op hf (fun n hn => by simpa using List.all_eq_true.1 hsz n (DataW.weights_mem_each htj hdj n hn))
end Go.Proofs.Ytepgnefkpjnmlaa

/-
  The arguments of chapter 16's laws, opened.
-/
namespace Go.Proofs.Ytepgnefkpjnmlaa.PD
open Go.RowKit Go.Proofs.Ytepgnefkpjnmlaa Go.Proofs.YtepgnefkpjnmlaaW.PrintWords
theorem opn_Entry : Opn Try.prog 45 k45 (fun b => b.f0.size ≤ reachBytes ∧ (-9223372036854775808 ≤ b.f1 ∧ b.f1 ≤ 9223372036854775807) ∧ True ∧ b.f3.size ≤ reachBytes) :=
  opn_struct Try.underlying45 (opnF_more (opn_string Try.underlying9 (by kernel_rfl)) rfl (opnF_more (opn_int Try.underlying3 (by kernel_rfl)) rfl (opnF_more (opn_bool Try.underlying4 (by kernel_rfl)) rfl (opnF_one (opn_string Try.underlying9 (by kernel_rfl)) rfl)))) (by kernel_rfl)
    (g := fun a => (⟨a.1, a.2.1, a.2.2.1, a.2.2.2⟩ : S45)) (fun _ => rfl)
theorem opn_Entries : Opn Try.prog 34 (Kd.slice 45 k45) (fun l => l.length ≤ 9223372036854775807) :=
  (opn_slice (b := 48) Try.underlying34 opn_Entry (by kernel_rfl) (by kernel_rfl)).imp (fun _ h => h.1)
end Go.Proofs.Ytepgnefkpjnmlaa.PD
