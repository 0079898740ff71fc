-- packed: PDx51 PDx58 PDx59 VsA VsLive GOpn VsOpn
import Derived.Test.YtokimlfagpddlaaVL1
-- printed by gprint.py (own tool) over the kit's print
namespace Go.Proofs.Ytokimlfagpddlaa.PD
open Go.RowKit Go.Proofs.Ytokimlfagpddlaa Go.Proofs.YtokimlfagpddlaaW.PrintWords Go.Proofs.YtokimlfagpddlaaW.PrintLast Go.Proofs.YtokimlfagpddlaaW.PrintMore
attribute [local go_sem] max2_int min2_int max_two min_two max_three min_three max_four min_four   -- for this text's walks alone
set_option linter.unnecessarySimpa false
attribute [local go_sem] min2_str max2_str leq_str gtr_str geq_str
set_option linter.unusedVariables false
set_option linter.unusedSimpArgs false

/-! ### palinodelaw14_examples: function 9 -/
def palinodelaw14_examples.f (k : Nat)  : Option (Bool) := (version_Apply.f k ([] : List (S35)) ([] : List Int) 0 (([(⟨3, 1, (⟨#[97]⟩ : ByteArray), (⟨#[99]⟩ : ByteArray), 1⟩ : S35), (⟨4, 1, (⟨#[98]⟩ : ByteArray), (⟨#[100]⟩ : ByteArray), 1⟩ : S35)] : List (S35))) ([] : List Int) ([] : List Int) ([] : List Int) 0).bind fun bt283 => ((version_Apply.f k ([] : List (S35)) ([] : List Int) 0 ([] : List (S35)) (([1] : List Int)) ([] : List Int) ([] : List Int) 0).bind fun bt295 => ((version_Apply.f k ([] : List (S35)) ([] : List Int) 0 (([(⟨3, 0, (⟨#[97]⟩ : ByteArray), (⟨#[99]⟩ : ByteArray), 1⟩ : S35)] : List (S35))) ([] : List Int) (([5] : List Int)) ([] : List Int) 9).bind fun bt310 => ((version_Live.f bt310.1 bt310.2.1 bt310.2.2.1).bind fun t319 => ((palinodelaw14_is.f bt283.2.2.2 1).bind fun t322 => (if t322 = true then ((palinodelaw14_is.f bt295.2.2.2 8).bind fun t323 => (if t323 = true then (if bt310.2.2.2.isNone = true then (if bt310.2.2.1 = 9 then (if (bt310.1.length : Int) = 1 then (if (t319.length : Int) = 2 then (if 1 < (t319.length : Int) then (if (rd t319 1) = 5 then ((version_Right.f bt310.1 bt310.2.1 bt310.2.2.1).bind fun t326 => (some t326)) else (some false)) else (none)) else (some false)) else (some false)) else (some false)) else (some false)) else (some false))) else (some false))))))
theorem palinodelaw14_examples.mono : ∀ k, LeO (palinodelaw14_examples.f k ) (palinodelaw14_examples.f (k + 1) ) := by
  intro  k
  unfold palinodelaw14_examples.f
  repeat' first
      | (with_reducible exact version_Apply.mono _ _ _ _ _ _ _ _ _)
      | (with_reducible exact LeO.refl _)
      | (with_reducible exact LeO.none _)
      | (with_reducible refine LeO.ite ?_ ?_)
      | (with_reducible refine LeO.bind ?_ (fun _ => ?_))
      | exact version_Apply.mono _ _ _ _ _ _ _ _ _
      | exact LeO.none _
      | refine LeO.ite ?_ ?_
      | refine LeO.bind ?_ (fun _ => ?_)
theorem palinodelaw14_examples.sure : palinodelaw14_examples.f 12 = some true := by kernel_rfl
set_option maxHeartbeats 8000000 in
set_option maxRecDepth 100000 in
theorem palinodelaw14_examples.calls_sure (k : Nat) (w : World) (h : palinodelaw14_examples.f k = some true) :
    Calls Try.prog 9 #[] w fun e w' => e = .returned (.bool true) ∧ Below w.heap.size w w' := by
  have hu25 := Try.underlying25
  have hu35 := Try.underlying35
  have hu32 := Try.underlying32
  have hu28 := Try.underlying28
  have hu53 := Try.underlying53
  have HB := Aside0.mk (Below.refl w.heap.size w)
  have H : ((version_Apply.f k ([] : List (S35)) ([] : List Int) 0 (([(⟨3, 1, (⟨#[97]⟩ : ByteArray), (⟨#[99]⟩ : ByteArray), 1⟩ : S35), (⟨4, 1, (⟨#[98]⟩ : ByteArray), (⟨#[100]⟩ : ByteArray), 1⟩ : S35)] : List (S35))) ([] : List Int) ([] : List Int) ([] : List Int) 0).bind fun bt283 => ((version_Apply.f k ([] : List (S35)) ([] : List Int) 0 ([] : List (S35)) (([1] : List Int)) ([] : List Int) ([] : List Int) 0).bind fun bt295 => ((version_Apply.f k ([] : List (S35)) ([] : List Int) 0 (([(⟨3, 0, (⟨#[97]⟩ : ByteArray), (⟨#[99]⟩ : ByteArray), 1⟩ : S35)] : List (S35))) ([] : List Int) (([5] : List Int)) ([] : List Int) 9).bind fun bt310 => ((version_Live.f bt310.1 bt310.2.1 bt310.2.2.1).bind fun t319 => ((palinodelaw14_is.f bt283.2.2.2 1).bind fun t322 => (if t322 = true then ((palinodelaw14_is.f bt295.2.2.2 8).bind fun t323 => (if t323 = true then (if bt310.2.2.2.isNone = true then (if bt310.2.2.1 = 9 then (if (bt310.1.length : Int) = 1 then (if (t319.length : Int) = 2 then (if 1 < (t319.length : Int) then (if (rd t319 1) = 5 then ((version_Right.f bt310.1 bt310.2.1 bt310.2.2.1).bind fun t326 => (some t326)) else (some false)) else (none)) else (some false)) else (some false)) else (some false)) else (some false)) else (some false))) else (some false))))))) = some true := h
  clear h
  obtain ⟨y280, hy280⟩ : ∃ y_ : List (S35), y_ = (([(⟨3, 1, (⟨#[97]⟩ : ByteArray), (⟨#[99]⟩ : ByteArray), 1⟩ : S35), (⟨4, 1, (⟨#[98]⟩ : ByteArray), (⟨#[100]⟩ : ByteArray), 1⟩ : S35)] : List (S35))) := ⟨_, rfl⟩
  replace H : ((version_Apply.f k ([] : List (S35)) ([] : List Int) 0 y280 ([] : List Int) ([] : List Int) ([] : List Int) 0).bind fun bt283 => ((version_Apply.f k ([] : List (S35)) ([] : List Int) 0 ([] : List (S35)) (([1] : List Int)) ([] : List Int) ([] : List Int) 0).bind fun bt295 => ((version_Apply.f k ([] : List (S35)) ([] : List Int) 0 (([(⟨3, 0, (⟨#[97]⟩ : ByteArray), (⟨#[99]⟩ : ByteArray), 1⟩ : S35)] : List (S35))) ([] : List Int) (([5] : List Int)) ([] : List Int) 9).bind fun bt310 => ((version_Live.f bt310.1 bt310.2.1 bt310.2.2.1).bind fun t319 => ((palinodelaw14_is.f bt283.2.2.2 1).bind fun t322 => (if t322 = true then ((palinodelaw14_is.f bt295.2.2.2 8).bind fun t323 => (if t323 = true then (if bt310.2.2.2.isNone = true then (if bt310.2.2.1 = 9 then (if (bt310.1.length : Int) = 1 then (if (t319.length : Int) = 2 then (if 1 < (t319.length : Int) then (if (rd t319 1) = 5 then ((version_Right.f bt310.1 bt310.2.1 bt310.2.2.1).bind fun t326 => (some t326)) else (some false)) else (none)) else (some false)) else (some false)) else (some false)) else (some false)) else (some false))) else (some false))))))) = some true := by first | (rw [hy280]; with_reducible exact H) | (have H2_ := (Option.bind_some _ _).symm.trans H; rw [hy280]; with_reducible exact H2_) | (have H2_ := (Option.bind_some _ _).symm.trans H; with_reducible exact H2_) | with_reducible exact H | (rw [hy280]; exact H) | exact H
  have Ny280 := Aside0.mk hy280
  clear hy280
  replace H := Option.bind_eq_some_iff.mp H
  obtain ⟨⟨t283, t286, t289, t290⟩, A10, H⟩ := H
  replace H : ((version_Apply.f k ([] : List (S35)) ([] : List Int) 0 ([] : List (S35)) (([1] : List Int)) ([] : List Int) ([] : List Int) 0).bind fun bt295 => ((version_Apply.f k ([] : List (S35)) ([] : List Int) 0 (([(⟨3, 0, (⟨#[97]⟩ : ByteArray), (⟨#[99]⟩ : ByteArray), 1⟩ : S35)] : List (S35))) ([] : List Int) (([5] : List Int)) ([] : List Int) 9).bind fun bt310 => ((version_Live.f bt310.1 bt310.2.1 bt310.2.2.1).bind fun t319 => ((palinodelaw14_is.f t290 1).bind fun t322 => (if t322 = true then ((palinodelaw14_is.f bt295.2.2.2 8).bind fun t323 => (if t323 = true then (if bt310.2.2.2.isNone = true then (if bt310.2.2.1 = 9 then (if (bt310.1.length : Int) = 1 then (if (t319.length : Int) = 2 then (if 1 < (t319.length : Int) then (if (rd t319 1) = 5 then ((version_Right.f bt310.1 bt310.2.1 bt310.2.2.1).bind fun t326 => (some t326)) else (some false)) else (none)) else (some false)) else (some false)) else (some false)) else (some false)) else (some false))) else (some false)))))) = some true := H
  have A1 := Aside0.mk A10
  clear A10
  obtain ⟨y292, hy292⟩ : ∃ y_ : List Int, y_ = (([1] : List Int)) := ⟨_, rfl⟩
  replace H : ((version_Apply.f k ([] : List (S35)) ([] : List Int) 0 ([] : List (S35)) y292 ([] : List Int) ([] : List Int) 0).bind fun bt295 => ((version_Apply.f k ([] : List (S35)) ([] : List Int) 0 (([(⟨3, 0, (⟨#[97]⟩ : ByteArray), (⟨#[99]⟩ : ByteArray), 1⟩ : S35)] : List (S35))) ([] : List Int) (([5] : List Int)) ([] : List Int) 9).bind fun bt310 => ((version_Live.f bt310.1 bt310.2.1 bt310.2.2.1).bind fun t319 => ((palinodelaw14_is.f t290 1).bind fun t322 => (if t322 = true then ((palinodelaw14_is.f bt295.2.2.2 8).bind fun t323 => (if t323 = true then (if bt310.2.2.2.isNone = true then (if bt310.2.2.1 = 9 then (if (bt310.1.length : Int) = 1 then (if (t319.length : Int) = 2 then (if 1 < (t319.length : Int) then (if (rd t319 1) = 5 then ((version_Right.f bt310.1 bt310.2.1 bt310.2.2.1).bind fun t326 => (some t326)) else (some false)) else (none)) else (some false)) else (some false)) else (some false)) else (some false)) else (some false))) else (some false)))))) = some true := by first | (rw [hy292]; with_reducible exact H) | (have H2_ := (Option.bind_some _ _).symm.trans H; rw [hy292]; with_reducible exact H2_) | (have H2_ := (Option.bind_some _ _).symm.trans H; with_reducible exact H2_) | with_reducible exact H | (rw [hy292]; exact H) | exact H
  have Ny292 := Aside0.mk hy292
  clear hy292
  replace H := Option.bind_eq_some_iff.mp H
  obtain ⟨⟨t295, t298, t301, t302⟩, A20, H⟩ := H
  replace H : ((version_Apply.f k ([] : List (S35)) ([] : List Int) 0 (([(⟨3, 0, (⟨#[97]⟩ : ByteArray), (⟨#[99]⟩ : ByteArray), 1⟩ : S35)] : List (S35))) ([] : List Int) (([5] : List Int)) ([] : List Int) 9).bind fun bt310 => ((version_Live.f bt310.1 bt310.2.1 bt310.2.2.1).bind fun t319 => ((palinodelaw14_is.f t290 1).bind fun t322 => (if t322 = true then ((palinodelaw14_is.f t302 8).bind fun t323 => (if t323 = true then (if bt310.2.2.2.isNone = true then (if bt310.2.2.1 = 9 then (if (bt310.1.length : Int) = 1 then (if (t319.length : Int) = 2 then (if 1 < (t319.length : Int) then (if (rd t319 1) = 5 then ((version_Right.f bt310.1 bt310.2.1 bt310.2.2.1).bind fun t326 => (some t326)) else (some false)) else (none)) else (some false)) else (some false)) else (some false)) else (some false)) else (some false))) else (some false))))) = some true := H
  have A2 := Aside0.mk A20
  clear A20
  obtain ⟨y304, hy304⟩ : ∃ y_ : List (S35), y_ = (([(⟨3, 0, (⟨#[97]⟩ : ByteArray), (⟨#[99]⟩ : ByteArray), 1⟩ : S35)] : List (S35))) := ⟨_, rfl⟩
  replace H : ((version_Apply.f k ([] : List (S35)) ([] : List Int) 0 y304 ([] : List Int) (([5] : List Int)) ([] : List Int) 9).bind fun bt310 => ((version_Live.f bt310.1 bt310.2.1 bt310.2.2.1).bind fun t319 => ((palinodelaw14_is.f t290 1).bind fun t322 => (if t322 = true then ((palinodelaw14_is.f t302 8).bind fun t323 => (if t323 = true then (if bt310.2.2.2.isNone = true then (if bt310.2.2.1 = 9 then (if (bt310.1.length : Int) = 1 then (if (t319.length : Int) = 2 then (if 1 < (t319.length : Int) then (if (rd t319 1) = 5 then ((version_Right.f bt310.1 bt310.2.1 bt310.2.2.1).bind fun t326 => (some t326)) else (some false)) else (none)) else (some false)) else (some false)) else (some false)) else (some false)) else (some false))) else (some false))))) = some true := by first | (rw [hy304]; with_reducible exact H) | (have H2_ := (Option.bind_some _ _).symm.trans H; rw [hy304]; with_reducible exact H2_) | (have H2_ := (Option.bind_some _ _).symm.trans H; with_reducible exact H2_) | with_reducible exact H | (rw [hy304]; exact H) | exact H
  have Ny304 := Aside0.mk hy304
  clear hy304
  obtain ⟨y307, hy307⟩ : ∃ y_ : List Int, y_ = (([5] : List Int)) := ⟨_, rfl⟩
  replace H : ((version_Apply.f k ([] : List (S35)) ([] : List Int) 0 y304 ([] : List Int) y307 ([] : List Int) 9).bind fun bt310 => ((version_Live.f bt310.1 bt310.2.1 bt310.2.2.1).bind fun t319 => ((palinodelaw14_is.f t290 1).bind fun t322 => (if t322 = true then ((palinodelaw14_is.f t302 8).bind fun t323 => (if t323 = true then (if bt310.2.2.2.isNone = true then (if bt310.2.2.1 = 9 then (if (bt310.1.length : Int) = 1 then (if (t319.length : Int) = 2 then (if 1 < (t319.length : Int) then (if (rd t319 1) = 5 then ((version_Right.f bt310.1 bt310.2.1 bt310.2.2.1).bind fun t326 => (some t326)) else (some false)) else (none)) else (some false)) else (some false)) else (some false)) else (some false)) else (some false))) else (some false))))) = some true := by first | (rw [hy307]; with_reducible exact H) | (have H2_ := (Option.bind_some _ _).symm.trans H; rw [hy307]; with_reducible exact H2_) | (have H2_ := (Option.bind_some _ _).symm.trans H; with_reducible exact H2_) | with_reducible exact H | (rw [hy307]; exact H) | exact H
  have Ny307 := Aside0.mk hy307
  clear hy307
  replace H := Option.bind_eq_some_iff.mp H
  obtain ⟨⟨t310, t313, t316, t317⟩, A30, H⟩ := H
  replace H : ((version_Live.f t310 t313 t316).bind fun t319 => ((palinodelaw14_is.f t290 1).bind fun t322 => (if t322 = true then ((palinodelaw14_is.f t302 8).bind fun t323 => (if t323 = true then (if t317.isNone = true then (if t316 = 9 then (if (t310.length : Int) = 1 then (if (t319.length : Int) = 2 then (if 1 < (t319.length : Int) then (if (rd t319 1) = 5 then ((version_Right.f t310 t313 t316).bind fun t326 => (some t326)) else (some false)) else (none)) else (some false)) else (some false)) else (some false)) else (some false)) else (some false))) else (some false)))) = some true := H
  have A3 := Aside0.mk A30
  clear A30
  replace H := Option.bind_eq_some_iff.mp H
  obtain ⟨t319, A40, H⟩ := H
  replace H : ((palinodelaw14_is.f t290 1).bind fun t322 => (if t322 = true then ((palinodelaw14_is.f t302 8).bind fun t323 => (if t323 = true then (if t317.isNone = true then (if t316 = 9 then (if (t310.length : Int) = 1 then (if (t319.length : Int) = 2 then (if 1 < (t319.length : Int) then (if (rd t319 1) = 5 then ((version_Right.f t310 t313 t316).bind fun t326 => (some t326)) else (some false)) else (none)) else (some false)) else (some false)) else (some false)) else (some false)) else (some false))) else (some false))) = some true := H
  have A4 := Aside0.mk A40
  clear A40
  replace H := Option.bind_eq_some_iff.mp H
  obtain ⟨t322, A50, H⟩ := H
  replace H : (if t322 = true then ((palinodelaw14_is.f t302 8).bind fun t323 => (if t323 = true then (if t317.isNone = true then (if t316 = 9 then (if (t310.length : Int) = 1 then (if (t319.length : Int) = 2 then (if 1 < (t319.length : Int) then (if (rd t319 1) = 5 then ((version_Right.f t310 t313 t316).bind fun t326 => (some t326)) else (some false)) else (none)) else (some false)) else (some false)) else (some false)) else (some false)) else (some false))) else (some false)) = some true := H
  have A5 := Aside0.mk A50
  clear A50
  by_cases c6 : t322 = true
  rotate_left
  · replace c6 := Bool.eq_false_iff.mpr c6
    subst c6
    have H1 : (some false) = some true := by rw [if_neg (show ¬ (false = true) by decide)] at H; exact H
    clear H
    have H := H1
    clear H1
    exact absurd H (by simp)
  subst c6
  have H1 : ((palinodelaw14_is.f t302 8).bind fun t323 => (if t323 = true then (if t317.isNone = true then (if t316 = 9 then (if (t310.length : Int) = 1 then (if (t319.length : Int) = 2 then (if 1 < (t319.length : Int) then (if (rd t319 1) = 5 then ((version_Right.f t310 t313 t316).bind fun t326 => (some t326)) else (some false)) else (none)) else (some false)) else (some false)) else (some false)) else (some false)) else (some false))) = some true := by rw [if_pos rfl] at H; exact H
  clear H
  have H := H1
  clear H1
  replace H := Option.bind_eq_some_iff.mp H
  obtain ⟨t323, A70, H⟩ := H
  replace H : (if t323 = true then (if t317.isNone = true then (if t316 = 9 then (if (t310.length : Int) = 1 then (if (t319.length : Int) = 2 then (if 1 < (t319.length : Int) then (if (rd t319 1) = 5 then ((version_Right.f t310 t313 t316).bind fun t326 => (some t326)) else (some false)) else (none)) else (some false)) else (some false)) else (some false)) else (some false)) else (some false)) = some true := H
  have A7 := Aside0.mk A70
  clear A70
  by_cases c8 : t323 = true
  rotate_left
  · replace c8 := Bool.eq_false_iff.mpr c8
    subst c8
    have H1 : (some false) = some true := by rw [if_neg (show ¬ (false = true) by decide)] at H; exact H
    clear H
    have H := H1
    clear H1
    exact absurd H (by simp)
  subst c8
  have H1 : (if t317.isNone = true then (if t316 = 9 then (if (t310.length : Int) = 1 then (if (t319.length : Int) = 2 then (if 1 < (t319.length : Int) then (if (rd t319 1) = 5 then ((version_Right.f t310 t313 t316).bind fun t326 => (some t326)) else (some false)) else (none)) else (some false)) else (some false)) else (some false)) else (some false)) = some true := by rw [if_pos rfl] at H; exact H
  clear H
  have H := H1
  clear H1
  rcases t317 with _ | q324
  · have H1 : (if t316 = 9 then (if (t310.length : Int) = 1 then (if (t319.length : Int) = 2 then (if 1 < (t319.length : Int) then (if (rd t319 1) = 5 then ((version_Right.f t310 t313 t316).bind fun t326 => (some t326)) else (some false)) else (none)) else (some false)) else (some false)) else (some false)) = some true := by rw [if_pos (show (none : Option Int).isNone = true by rfl)] at H; exact H
    clear H
    have H := H1
    clear H1
    try simp only [errW_none, errW_some]
    by_cases c9 : t316 = 9
    rotate_left
    · rw [if_neg c9] at H
      have c9b0 : (t316 == 9) = false := beq_eq_false_iff_ne.mpr c9
      have c9b1 : (t316 != 9) = true := bne_iff_ne.mpr c9
      exact absurd H (by simp)
    rw [if_pos c9] at H
    have c9b0 : (t316 == 9) = true := beq_iff_eq.mpr c9
    have c9b1 : (t316 != 9) = false := bne_eq_false_iff_eq.mpr c9
    clear c9
    by_cases c10 : (t310.length : Int) = 1
    rotate_left
    · rw [if_neg c10] at H
      have c10b0 : ((t310.length : Int) == 1) = false := beq_eq_false_iff_ne.mpr c10
      have c10b1 : ((t310.length : Int) != 1) = true := bne_iff_ne.mpr c10
      exact absurd H (by simp)
    rw [if_pos c10] at H
    have c10b0 : ((t310.length : Int) == 1) = true := beq_iff_eq.mpr c10
    have c10b1 : ((t310.length : Int) != 1) = false := bne_eq_false_iff_eq.mpr c10
    clear c10
    by_cases c11 : (t319.length : Int) = 2
    rotate_left
    · rw [if_neg c11] at H
      have c11b0 : ((t319.length : Int) == 2) = false := beq_eq_false_iff_ne.mpr c11
      have c11b1 : ((t319.length : Int) != 2) = true := bne_iff_ne.mpr c11
      exact absurd H (by simp)
    rw [if_pos c11] at H
    have c11b0 : ((t319.length : Int) == 2) = true := beq_iff_eq.mpr c11
    have c11b1 : ((t319.length : Int) != 2) = false := bne_eq_false_iff_eq.mpr c11
    clear c11
    by_cases c12 : 1 < (t319.length : Int)
    rotate_left
    · rw [if_neg c12] at H
      exact absurd H (by simp)
    rw [if_pos c12] at H
    have c12b0 : decide (1 < (t319.length : Int)) = true := decide_eq_true c12
    have c12b1 : decide (1 < t319.length) = true := decide_eq_true (by omega)
    clear c12
    by_cases c13 : (rd t319 1) = 5
    rotate_left
    · rw [if_neg c13] at H
      have c13b0 : ((rd t319 1) == 5) = false := beq_eq_false_iff_ne.mpr c13
      have c13b1 : ((rd t319 1) != 5) = true := bne_iff_ne.mpr c13
      exact absurd H (by simp)
    rw [if_pos c13] at H
    have c13b0 : ((rd t319 1) == 5) = true := beq_iff_eq.mpr c13
    have c13b1 : ((rd t319 1) != 5) = false := bne_eq_false_iff_eq.mpr c13
    clear c13
    replace H := Option.bind_eq_some_iff.mp H
    obtain ⟨t326, A140, H⟩ := H
    replace H : (some t326) = some true := H
    have A14 := Aside0.mk A140
    clear A140
    have er_ := Aside0.mk (Option.some.inj H)
    clear H
    go_enter Try.func9, Try.ntmps9
    go_wp2_with (first | ((with_reducible refine gate_dst (N := 12) rfl ?_); (try (refine gate_guard (by rfl) ?_; dsimp only)); refine Kd.R_lit k35 _ 35 ?hg (N := 12) ?hd (xs := ([(⟨3, 1, (⟨#[97]⟩ : ByteArray), (⟨#[99]⟩ : ByteArray), 1⟩ : S35), (⟨4, 1, (⟨#[98]⟩ : ByteArray), (⟨#[100]⟩ : ByteArray), 1⟩ : S35)] : List (S35))) (inner := [.int .i64 3, .int .i64 1, .string (⟨#[97]⟩ : ByteArray), .string (⟨#[99]⟩ : ByteArray), .int .i64 1, .int .i64 4, .int .i64 1, .string (⟨#[98]⟩ : ByteArray), .string (⟨#[100]⟩ : ByteArray), .int .i64 1]) (ok := fun _ => True) (okp := fun _ => True) ?hr ?hp (fun _ hk => hk) trivial (Below.refl _ _) (Nat.le_refl _) (by simp) ?_; (case hd => rfl); (case hg => rfl); (case hr => first | (go_simp; done) | (go_simp; rfl)); (case hp => exact (Reps.c5 (show Kd.M k35 _ _ _ (⟨3, 1, (⟨#[97]⟩ : ByteArray), (⟨#[99]⟩ : ByteArray), 1⟩ : S35) [.int .i64 3, .int .i64 1, .string (⟨#[97]⟩ : ByteArray), .string (⟨#[99]⟩ : ByteArray), .int .i64 1] from (k35_mkM _ _ _ (⟨3, 1, (⟨#[97]⟩ : ByteArray), (⟨#[99]⟩ : ByteArray), 1⟩ : S35) )) (Reps.c5 (show Kd.M k35 _ _ _ (⟨4, 1, (⟨#[98]⟩ : ByteArray), (⟨#[100]⟩ : ByteArray), 1⟩ : S35) [.int .i64 4, .int .i64 1, .string (⟨#[98]⟩ : ByteArray), .string (⟨#[100]⟩ : ByteArray), .int .i64 1] from (k35_mkM _ _ _ (⟨4, 1, (⟨#[98]⟩ : ByteArray), (⟨#[100]⟩ : ByteArray), 1⟩ : S35) )) (Reps.none _ _)))); intro v281 w15 ho16 hb hg_ hnew_; clear hg_ hnew_; (first | rw [← Ny280.out] at ho16 | (simp only [Int.reduceToNat] at ho16; rw [← Ny280.out] at ho16)); have n0_ := Aside0.mk (Kd.R_lower ho16 (below_size (by repeat (first | (with_reducible first | exact HB.out | apply below_alloc | apply pw_below_drewN | apply below_drew1) | exact HB.out)))); have n1_ := Aside0.mk (below_step (by repeat (first | (with_reducible first | exact HB.out | apply below_alloc | apply pw_below_drewN | apply below_drew1) | exact HB.out)) hb); clear HB; have HO282 := n0_; have HB := n1_; clear n0_ n1_; clear hb ho16; obtain ⟨Ao17, co17, eo17⟩ := Kd.R_slice HO282.out; subst eo17) | ((with_reducible refine gate_callee (f := 10) rfl ?_); refine goesL_ (some 14) rfl rfl Try.func10 (by kernel_rfl) rfl #[.agg #[.slice none 0 0, .slice none 0 0, .int .i64 0], .agg #[.slice Ao17 y280.length co17, .slice none 0 0, .slice none 0 0, .slice none 0 0, .int .i64 0]] rfl (by (try simp only [List.map_toArray, List.map_cons, List.map_nil]); first | done | rfl | (simp only [List.length_drop, List.length_take]; rfl)) ?_; (refine (version_Apply.calls k _ _ ([] : List (S35)) _ _ ([] : List Int) 0 _ _ y280 _ _ ([] : List Int) _ _ ([] : List Int) _ _ ([] : List Int) 0 t283 t286 t289 t290 _ ?side1 ?side2 ?side3 ?side4 ?side5 ?side6 ?side7 ?side8 ?side9 ?side10 ?side11 ?side12 A1.out).mono ?_); (case side1 => exact Kd.C_nil _ _); (case side2 => exact Nat.le_refl _); (case side3 => exact Kd.C_nil _ _); (case side4 => exact Nat.le_refl _); (case side5 => repeat (first | exact (Kd.R_reads' HO282.out).2.2 | (with_reducible refine Kd.C_alloc ?_ _) | (with_reducible refine Kd.C_drewN ?_ _) | (with_reducible refine Kd.C_drew ?_))); (case side6 => exact (Kd.R_reads' HO282.out).2.1); (case side7 => exact Kd.C_nil _ _); (case side8 => exact Nat.le_refl _); (case side9 => exact Kd.C_nil _ _); (case side10 => exact Nat.le_refl _); (case side11 => exact Kd.C_nil _ _); (case side12 => exact Nat.le_refl _); rintro e w18 ⟨v284, v287, rfl, ho0, ho1, hb⟩; refine ⟨_, rfl, ?_⟩; have n0_ := Aside0.mk (Kd.R_elder' (by (with_reducible repeat (first | apply Kd.R_alloc | apply Kd.R_drewN | apply Kd.R_drew)); exact HO282.out) (Kd.R_base ho0) hb); have n1_ := Aside0.mk (Kd.R_lower (Kd.R_new' ho0 (Kd.R_lt (by (with_reducible repeat (first | apply Kd.R_alloc | apply Kd.R_drewN | apply Kd.R_drew)); exact HO282.out))) (below_size (by repeat (first | (with_reducible first | exact HB.out | apply below_alloc | apply pw_below_drewN | apply below_drew1) | exact HB.out)))); have n2_ := Aside0.mk (Kd.R_lower ho1 (below_size (by repeat (first | (with_reducible first | exact HB.out | apply below_alloc | apply pw_below_drewN | apply below_drew1) | exact HB.out)))); have n3_ := Aside0.mk (below_step (by repeat (first | (with_reducible first | exact HB.out | apply below_alloc | apply pw_below_drewN | apply below_drew1) | exact HB.out)) hb); clear HO282; clear HB; have HO282 := n0_; have HO285 := n1_; have HO288 := n2_; have HB := n3_; clear n0_ n1_ n2_ n3_; (try clear hb); (try clear hb2); (try clear hk); (try clear hi); (try clear ho0); (try clear ho1); (try simp only [errW_none, errW_some])) | ((with_reducible refine gate_dst (N := 1) rfl ?_); (try (refine gate_guard (by rfl) ?_; dsimp only)); refine box_event ?hg (N := 1) ?hd (cs := #[.slice none 0 0, .slice none 0 0, .int .i64 0]) (t := 25) ?hr ?_; (case hd => rfl); (case hg => rfl); (case hr => first | (go_simp; done) | (go_simp; rfl)); intro gb291 hg w19 hbox hb; have n0_ := Aside0.mk (Kd.R_below (by (with_reducible repeat (first | apply Kd.R_alloc | apply Kd.R_drewN | apply Kd.R_drew)); exact HO282.out) hb); have n1_ := Aside0.mk (Kd.R_below (by (with_reducible repeat (first | apply Kd.R_alloc | apply Kd.R_drewN | apply Kd.R_drew)); exact HO285.out) hb); have n2_ := Aside0.mk (Kd.R_below (by (with_reducible repeat (first | apply Kd.R_alloc | apply Kd.R_drewN | apply Kd.R_drew)); exact HO288.out) hb); have n3_ := Aside0.mk (below_step (by repeat (first | (with_reducible first | exact HB.out | apply below_alloc | apply pw_below_drewN | apply below_drew1) | exact HB.out)) hb); have n4_ := Aside0.mk (hbox); have n5_ := Aside0.mk ((by rw [hg]; exact (below_size (by repeat (first | (with_reducible first | exact HB.out | apply below_alloc | apply pw_below_drewN | apply below_drew1) | exact HB.out))) : w.heap.size ≤ gb291)); have n6_ := Aside0.mk ((by rw [hg]; exact (below_size (by repeat (first | (with_reducible first | exact HB.out | apply below_alloc | apply pw_below_drewN | apply below_drew1) | exact HB.out))) : w.heap.size ≤ gb291)); clear HO282; clear HO285; clear HO288; clear HB; have HO282 := n0_; have HO285 := n1_; have HO288 := n2_; have HB := n3_; have BK291 := n4_; have GW291 := n5_; have GE291 := n6_; clear n0_ n1_ n2_ n3_ n4_ n5_ n6_; clear hb hbox hg; obtain ⟨Ao20, co20, eo20⟩ := Kd.R_slice HO285.out; subst eo20; have hcz21_0 : w19.cell? ⟨gb291, 0, none⟩ = some (.slice none 0 0) := (blk_cell BK291.out 0).trans rfl; have hcz21_1 : w19.cell? ⟨gb291, 1, none⟩ = some (.slice none 0 0) := (blk_cell BK291.out 1).trans rfl; have hcz21_2 : w19.cell? ⟨gb291, 2, none⟩ = some (.int .i64 0) := (blk_cell BK291.out 2).trans rfl; have hfz21_0 := blk_frozen BK291.out 0; have hfz21_1 := blk_frozen BK291.out 1; have hfz21_2 := blk_frozen BK291.out 2; obtain ⟨Ao22, co22, eo22⟩ := Kd.R_slice HO288.out; subst eo22) | ((with_reducible refine gate_dst (N := 19) rfl ?_); (try (refine gate_guard (by rfl) ?_; dsimp only)); refine Kd.R_lit (Kd.int .i64) _ 3 ?hg (N := 19) ?hd (xs := ([1] : List Int)) (inner := [.int .i64 1]) (ok := fun _ => True) (okp := fun _ => True) ?hr ?hp (fun _ hk => hk) trivial (Below.refl _ _) (Nat.le_refl _) (by simp) ?_; (case hd => rfl); (case hg => rfl); (case hr => first | (go_simp; done) | (go_simp; rfl)); (case hp => exact (Reps.one (show Kd.M (Kd.int .i64) _ _ _ 1 [.int .i64 1] from rfl) (Reps.none _ _))); intro v293 w23 ho24 hb hg_ hnew_; clear hg_ hnew_; (first | rw [← Ny292.out] at ho24 | (simp only [Int.reduceToNat] at ho24; rw [← Ny292.out] at ho24)); have n0_ := Aside0.mk (Kd.R_below (by (with_reducible repeat (first | apply Kd.R_alloc | apply Kd.R_drewN | apply Kd.R_drew)); exact (Kd.R_mono (Kd.R_far (p := ⟨gb291, 2, none⟩) (Kd.R_far (p := ⟨gb291, 1, none⟩) (Kd.R_far (p := ⟨gb291, 0, none⟩) (Kd.R_types HO282.out BK291.out (by decide)) (fun _ hk => hk.2) (.slice Ao20 t283.length co20)) (fun _ hk => hk.2) (.slice Ao22 t286.length co22)) (fun _ hk => hk.2) (.int .i64 t289)) (fun _ h_ => h_.1))) hb); have n1_ := Aside0.mk (Kd.R_below (by (with_reducible repeat (first | apply Kd.R_alloc | apply Kd.R_drewN | apply Kd.R_drew)); exact (Kd.R_mono (Kd.R_far (p := ⟨gb291, 2, none⟩) (Kd.R_far (p := ⟨gb291, 1, none⟩) (Kd.R_far (p := ⟨gb291, 0, none⟩) (Kd.R_types HO285.out BK291.out (by decide)) (fun _ hk => hk.2) (.slice Ao20 t283.length co20)) (fun _ hk => hk.2) (.slice Ao22 t286.length co22)) (fun _ hk => hk.2) (.int .i64 t289)) (fun _ h_ => h_.1))) hb); have n2_ := Aside0.mk (Kd.R_elder' (by (with_reducible repeat (first | apply Kd.R_alloc | apply Kd.R_drewN | apply Kd.R_drew)); exact (Kd.R_mono (Kd.R_far (p := ⟨gb291, 2, none⟩) (Kd.R_far (p := ⟨gb291, 1, none⟩) (Kd.R_far (p := ⟨gb291, 0, none⟩) (Kd.R_types HO288.out BK291.out (by decide)) (fun _ hk => hk.2) (.slice Ao20 t283.length co20)) (fun _ hk => hk.2) (.slice Ao22 t286.length co22)) (fun _ hk => hk.2) (.int .i64 t289)) (fun _ h_ => h_.1))) (Kd.R_base ho24) hb); have n3_ := Aside0.mk (Kd.R_lower (Kd.R_new' ho24 (Kd.R_lt (by (with_reducible repeat (first | apply Kd.R_alloc | apply Kd.R_drewN | apply Kd.R_drew)); exact (Kd.R_mono (Kd.R_far (p := ⟨gb291, 2, none⟩) (Kd.R_far (p := ⟨gb291, 1, none⟩) (Kd.R_far (p := ⟨gb291, 0, none⟩) (Kd.R_types HO288.out BK291.out (by decide)) (fun _ hk => hk.2) (.slice Ao20 t283.length co20)) (fun _ hk => hk.2) (.slice Ao22 t286.length co22)) (fun _ hk => hk.2) (.int .i64 t289)) (fun _ h_ => h_.1))))) (below_size (by repeat (first | (with_reducible first | exact HB.out | apply below_alloc | apply pw_below_drewN | apply below_drew1 | refine below_set ?_ GE291.out) | exact HB.out)))); have n4_ := Aside0.mk (blk_below (g := gb291) (o := .cells #[.slice Ao20 t283.length co20, .slice Ao22 t286.length co22, .int .i64 t289] 25 (0, 0)) (by (with_reducible repeat (first | refine blk_drewN ?_ _ | refine blk_drew ?_ | refine blk_alloc ?_ _)); refine blk_put (cs := #[.slice Ao20 t283.length co20, .slice Ao22 t286.length co22, .int .i64 0]) ?_ 2 _ rfl; (with_reducible repeat (first | refine blk_drewN ?_ _ | refine blk_drew ?_ | refine blk_alloc ?_ _)); refine blk_put (cs := #[.slice Ao20 t283.length co20, .slice none 0 0, .int .i64 0]) ?_ 1 _ rfl; (with_reducible repeat (first | refine blk_drewN ?_ _ | refine blk_drew ?_ | refine blk_alloc ?_ _)); refine blk_put (cs := #[.slice none 0 0, .slice none 0 0, .int .i64 0]) ?_ 0 _ rfl; (with_reducible repeat (first | refine blk_drewN ?_ _ | refine blk_drew ?_ | refine blk_alloc ?_ _)); exact BK291.out) hb); have n5_ := Aside0.mk (below_step (by repeat (first | (with_reducible first | exact HB.out | apply below_alloc | apply pw_below_drewN | apply below_drew1 | refine below_set ?_ GE291.out) | exact HB.out)) hb); clear HO282; clear HO285; clear HO288; clear BK291; clear HB; have HO282 := n0_; have HO285 := n1_; have HO288 := n2_; have HO294 := n3_; have BK291 := n4_; have HB := n5_; clear n0_ n1_ n2_ n3_ n4_ n5_; clear hb ho24; obtain ⟨Ao25, co25, eo25⟩ := Kd.R_slice HO294.out; subst eo25) | ((with_reducible refine gate_callee (f := 10) rfl ?_); refine goesL_ (some 21) rfl rfl Try.func10 (by kernel_rfl) rfl #[.agg #[.slice none 0 0, .slice none 0 0, .int .i64 0], .agg #[.slice none 0 0, .slice Ao25 y292.length co25, .slice none 0 0, .slice none 0 0, .int .i64 0]] rfl (by (try simp only [List.map_toArray, List.map_cons, List.map_nil]); first | done | rfl | (simp only [List.length_drop, List.length_take]; rfl)) ?_; (refine (version_Apply.calls k _ _ ([] : List (S35)) _ _ ([] : List Int) 0 _ _ ([] : List (S35)) _ _ y292 _ _ ([] : List Int) _ _ ([] : List Int) 0 t295 t298 t301 t302 _ ?side1 ?side2 ?side3 ?side4 ?side5 ?side6 ?side7 ?side8 ?side9 ?side10 ?side11 ?side12 A2.out).mono ?_); (case side1 => exact Kd.C_nil _ _); (case side2 => exact Nat.le_refl _); (case side3 => exact Kd.C_nil _ _); (case side4 => exact Nat.le_refl _); (case side5 => exact Kd.C_nil _ _); (case side6 => exact Nat.le_refl _); (case side7 => repeat (first | exact (Kd.R_reads' HO294.out).2.2 | (with_reducible refine Kd.C_alloc ?_ _) | (with_reducible refine Kd.C_drewN ?_ _) | (with_reducible refine Kd.C_drew ?_))); (case side8 => exact (Kd.R_reads' HO294.out).2.1); (case side9 => exact Kd.C_nil _ _); (case side10 => exact Nat.le_refl _); (case side11 => exact Kd.C_nil _ _); (case side12 => exact Nat.le_refl _); rintro e w26 ⟨v296, v299, rfl, ho0, ho1, hb⟩; refine ⟨_, rfl, ?_⟩; have n0_ := Aside0.mk (Kd.R_elder' (by (with_reducible repeat (first | apply Kd.R_alloc | apply Kd.R_drewN | apply Kd.R_drew)); exact HO282.out) (Kd.R_base ho0) hb); have n1_ := Aside0.mk (Kd.R_elder' (by (with_reducible repeat (first | apply Kd.R_alloc | apply Kd.R_drewN | apply Kd.R_drew)); exact HO285.out) (Kd.R_base ho0) hb); have n2_ := Aside0.mk (Kd.R_elder' (by (with_reducible repeat (first | apply Kd.R_alloc | apply Kd.R_drewN | apply Kd.R_drew)); exact HO288.out) (Kd.R_base ho1) hb); have n3_ := Aside0.mk (Kd.R_elder' (by (with_reducible repeat (first | apply Kd.R_alloc | apply Kd.R_drewN | apply Kd.R_drew)); exact HO294.out) (Kd.R_base ho1) hb); have n4_ := Aside0.mk (Kd.R_lower (Kd.R_new' (Kd.R_new' ho0 (Kd.R_lt (by (with_reducible repeat (first | apply Kd.R_alloc | apply Kd.R_drewN | apply Kd.R_drew)); exact HO282.out))) (Kd.R_lt (by (with_reducible repeat (first | apply Kd.R_alloc | apply Kd.R_drewN | apply Kd.R_drew)); exact HO285.out))) (below_size (by repeat (first | (with_reducible first | exact HB.out | apply below_alloc | apply pw_below_drewN | apply below_drew1 | refine below_set ?_ GE291.out) | exact HB.out)))); have n5_ := Aside0.mk (Kd.R_lower (Kd.R_new' (Kd.R_new' ho1 (Kd.R_lt (by (with_reducible repeat (first | apply Kd.R_alloc | apply Kd.R_drewN | apply Kd.R_drew)); exact HO288.out))) (Kd.R_lt (by (with_reducible repeat (first | apply Kd.R_alloc | apply Kd.R_drewN | apply Kd.R_drew)); exact HO294.out))) (below_size (by repeat (first | (with_reducible first | exact HB.out | apply below_alloc | apply pw_below_drewN | apply below_drew1 | refine below_set ?_ GE291.out) | exact HB.out)))); have n6_ := Aside0.mk (blk_below (g := gb291) (o := .cells #[.slice Ao20 t283.length co20, .slice Ao22 t286.length co22, .int .i64 t289] 25 (0, 0)) (by (with_reducible repeat (first | refine blk_drewN ?_ _ | refine blk_drew ?_ | refine blk_alloc ?_ _)); exact BK291.out) hb); have n7_ := Aside0.mk (below_step (by repeat (first | (with_reducible first | exact HB.out | apply below_alloc | apply pw_below_drewN | apply below_drew1 | refine below_set ?_ GE291.out) | exact HB.out)) hb); clear HO282; clear HO285; clear HO288; clear HO294; clear BK291; clear HB; have HO282 := n0_; have HO285 := n1_; have HO288 := n2_; have HO294 := n3_; have HO297 := n4_; have HO300 := n5_; have BK291 := n6_; have HB := n7_; clear n0_ n1_ n2_ n3_ n4_ n5_ n6_ n7_; (try clear hb); (try clear hb2); (try clear hk); (try clear hi); (try clear ho0); (try clear ho1); (try simp only [errW_none, errW_some])) | ((with_reducible refine gate_dst (N := 3) rfl ?_); (try (refine gate_guard (by rfl) ?_; dsimp only)); refine box_event ?hg (N := 3) ?hd (cs := #[.slice none 0 0, .slice none 0 0, .int .i64 0]) (t := 25) ?hr ?_; (case hd => rfl); (case hg => rfl); (case hr => first | (go_simp; done) | (go_simp; rfl)); intro gb303 hg w27 hbox hb; have n0_ := Aside0.mk (Kd.R_below (by (with_reducible repeat (first | apply Kd.R_alloc | apply Kd.R_drewN | apply Kd.R_drew)); exact HO282.out) hb); have n1_ := Aside0.mk (Kd.R_below (by (with_reducible repeat (first | apply Kd.R_alloc | apply Kd.R_drewN | apply Kd.R_drew)); exact HO285.out) hb); have n2_ := Aside0.mk (Kd.R_below (by (with_reducible repeat (first | apply Kd.R_alloc | apply Kd.R_drewN | apply Kd.R_drew)); exact HO288.out) hb); have n3_ := Aside0.mk (Kd.R_below (by (with_reducible repeat (first | apply Kd.R_alloc | apply Kd.R_drewN | apply Kd.R_drew)); exact HO294.out) hb); have n4_ := Aside0.mk (Kd.R_below (by (with_reducible repeat (first | apply Kd.R_alloc | apply Kd.R_drewN | apply Kd.R_drew)); exact HO297.out) hb); have n5_ := Aside0.mk (Kd.R_below (by (with_reducible repeat (first | apply Kd.R_alloc | apply Kd.R_drewN | apply Kd.R_drew)); exact HO300.out) hb); have n6_ := Aside0.mk (blk_below (g := gb291) (o := .cells #[.slice Ao20 t283.length co20, .slice Ao22 t286.length co22, .int .i64 t289] 25 (0, 0)) (by (with_reducible repeat (first | refine blk_drewN ?_ _ | refine blk_drew ?_ | refine blk_alloc ?_ _)); exact BK291.out) hb); have n7_ := Aside0.mk (below_step (by repeat (first | (with_reducible first | exact HB.out | apply below_alloc | apply pw_below_drewN | apply below_drew1 | refine below_set ?_ GE291.out) | exact HB.out)) hb); have n8_ := Aside0.mk (hbox); have n9_ := Aside0.mk ((by rw [hg]; exact (below_size (by repeat (first | (with_reducible first | exact HB.out | apply below_alloc | apply pw_below_drewN | apply below_drew1 | refine below_set ?_ GE291.out) | exact HB.out))) : w.heap.size ≤ gb303)); have n10_ := Aside0.mk ((by rw [hg]; exact (below_size (by repeat (first | (with_reducible first | exact HB.out | apply below_alloc | apply pw_below_drewN | apply below_drew1 | refine below_set ?_ GE291.out) | exact HB.out))) : w.heap.size ≤ gb303)); have n11_ := Aside0.mk ((by rw [hg]; exact Nat.ne_of_lt (blk_lt (g := gb291) (o := .cells #[.slice Ao20 t283.length co20, .slice Ao22 t286.length co22, .int .i64 t289] 25 (0, 0)) (by (with_reducible repeat (first | refine blk_drewN ?_ _ | refine blk_drew ?_ | refine blk_alloc ?_ _)); exact BK291.out)) : gb291 ≠ gb303)); have n12_ := Aside0.mk ((by rw [hg]; exact Nat.ne_of_gt (blk_lt (g := gb291) (o := .cells #[.slice Ao20 t283.length co20, .slice Ao22 t286.length co22, .int .i64 t289] 25 (0, 0)) (by (with_reducible repeat (first | refine blk_drewN ?_ _ | refine blk_drew ?_ | refine blk_alloc ?_ _)); exact BK291.out)) : gb303 ≠ gb291)); clear HO282; clear HO285; clear HO288; clear HO294; clear HO297; clear HO300; clear BK291; clear HB; have HO282 := n0_; have HO285 := n1_; have HO288 := n2_; have HO294 := n3_; have HO297 := n4_; have HO300 := n5_; have BK291 := n6_; have HB := n7_; have BK303 := n8_; have GW303 := n9_; have GE303 := n10_; have NB291_303 := n11_; have NB303_291 := n12_; clear n0_ n1_ n2_ n3_ n4_ n5_ n6_ n7_ n8_ n9_ n10_ n11_ n12_; clear hb hbox hg; obtain ⟨Ao28, co28, eo28⟩ := Kd.R_slice HO297.out; subst eo28; have hnb29 := NB303_291.out; have hnc29 := NB291_303.out; have hcz30_0 : w27.cell? ⟨gb303, 0, none⟩ = some (.slice none 0 0) := (blk_cell BK303.out 0).trans rfl; have hcz30_1 : w27.cell? ⟨gb303, 1, none⟩ = some (.slice none 0 0) := (blk_cell BK303.out 1).trans rfl; have hcz30_2 : w27.cell? ⟨gb303, 2, none⟩ = some (.int .i64 0) := (blk_cell BK303.out 2).trans rfl; have hfz30_0 := blk_frozen BK303.out 0; have hfz30_1 := blk_frozen BK303.out 1; have hfz30_2 := blk_frozen BK303.out 2; obtain ⟨Ao31, co31, eo31⟩ := Kd.R_slice HO300.out; subst eo31) | ((with_reducible refine gate_dst (N := 27) rfl ?_); (try (refine gate_guard (by rfl) ?_; dsimp only)); refine Kd.R_lit k35 _ 35 ?hg (N := 27) ?hd (xs := ([(⟨3, 0, (⟨#[97]⟩ : ByteArray), (⟨#[99]⟩ : ByteArray), 1⟩ : S35)] : List (S35))) (inner := [.int .i64 3, .int .i64 0, .string (⟨#[97]⟩ : ByteArray), .string (⟨#[99]⟩ : ByteArray), .int .i64 1]) (ok := fun _ => True) (okp := fun _ => True) ?hr ?hp (fun _ hk => hk) trivial (Below.refl _ _) (Nat.le_refl _) (by simp) ?_; (case hd => rfl); (case hg => rfl); (case hr => first | (go_simp; done) | (go_simp; rfl)); (case hp => exact (Reps.c5 (show Kd.M k35 _ _ _ (⟨3, 0, (⟨#[97]⟩ : ByteArray), (⟨#[99]⟩ : ByteArray), 1⟩ : S35) [.int .i64 3, .int .i64 0, .string (⟨#[97]⟩ : ByteArray), .string (⟨#[99]⟩ : ByteArray), .int .i64 1] from (k35_mkM _ _ _ (⟨3, 0, (⟨#[97]⟩ : ByteArray), (⟨#[99]⟩ : ByteArray), 1⟩ : S35) )) (Reps.none _ _))); intro v305 w32 ho33 hb hg_ hnew_; clear hg_ hnew_; (first | rw [← Ny304.out] at ho33 | (simp only [Int.reduceToNat] at ho33; rw [← Ny304.out] at ho33)); have n0_ := Aside0.mk (Kd.R_elder' (by (with_reducible repeat (first | apply Kd.R_alloc | apply Kd.R_drewN | apply Kd.R_drew)); exact (Kd.R_mono (Kd.R_far (p := ⟨gb303, 2, none⟩) (Kd.R_far (p := ⟨gb303, 1, none⟩) (Kd.R_far (p := ⟨gb303, 0, none⟩) (Kd.R_types HO282.out BK303.out (by decide)) (fun _ hk => hk.2) (.slice Ao28 t295.length co28)) (fun _ hk => hk.2) (.slice Ao31 t298.length co31)) (fun _ hk => hk.2) (.int .i64 t301)) (fun _ h_ => h_.1))) (Kd.R_base ho33) hb); have n1_ := Aside0.mk (Kd.R_elder' (by (with_reducible repeat (first | apply Kd.R_alloc | apply Kd.R_drewN | apply Kd.R_drew)); exact (Kd.R_mono (Kd.R_far (p := ⟨gb303, 2, none⟩) (Kd.R_far (p := ⟨gb303, 1, none⟩) (Kd.R_far (p := ⟨gb303, 0, none⟩) (Kd.R_types HO285.out BK303.out (by decide)) (fun _ hk => hk.2) (.slice Ao28 t295.length co28)) (fun _ hk => hk.2) (.slice Ao31 t298.length co31)) (fun _ hk => hk.2) (.int .i64 t301)) (fun _ h_ => h_.1))) (Kd.R_base ho33) hb); have n2_ := Aside0.mk (Kd.R_below (by (with_reducible repeat (first | apply Kd.R_alloc | apply Kd.R_drewN | apply Kd.R_drew)); exact (Kd.R_mono (Kd.R_far (p := ⟨gb303, 2, none⟩) (Kd.R_far (p := ⟨gb303, 1, none⟩) (Kd.R_far (p := ⟨gb303, 0, none⟩) (Kd.R_types HO288.out BK303.out (by decide)) (fun _ hk => hk.2) (.slice Ao28 t295.length co28)) (fun _ hk => hk.2) (.slice Ao31 t298.length co31)) (fun _ hk => hk.2) (.int .i64 t301)) (fun _ h_ => h_.1))) hb); have n3_ := Aside0.mk (Kd.R_below (by (with_reducible repeat (first | apply Kd.R_alloc | apply Kd.R_drewN | apply Kd.R_drew)); exact (Kd.R_mono (Kd.R_far (p := ⟨gb303, 2, none⟩) (Kd.R_far (p := ⟨gb303, 1, none⟩) (Kd.R_far (p := ⟨gb303, 0, none⟩) (Kd.R_types HO294.out BK303.out (by decide)) (fun _ hk => hk.2) (.slice Ao28 t295.length co28)) (fun _ hk => hk.2) (.slice Ao31 t298.length co31)) (fun _ hk => hk.2) (.int .i64 t301)) (fun _ h_ => h_.1))) hb); have n4_ := Aside0.mk (Kd.R_elder' (by (with_reducible repeat (first | apply Kd.R_alloc | apply Kd.R_drewN | apply Kd.R_drew)); exact (Kd.R_mono (Kd.R_far (p := ⟨gb303, 2, none⟩) (Kd.R_far (p := ⟨gb303, 1, none⟩) (Kd.R_far (p := ⟨gb303, 0, none⟩) (Kd.R_types HO297.out BK303.out (by decide)) (fun _ hk => hk.2) (.slice Ao28 t295.length co28)) (fun _ hk => hk.2) (.slice Ao31 t298.length co31)) (fun _ hk => hk.2) (.int .i64 t301)) (fun _ h_ => h_.1))) (Kd.R_base ho33) hb); have n5_ := Aside0.mk (Kd.R_below (by (with_reducible repeat (first | apply Kd.R_alloc | apply Kd.R_drewN | apply Kd.R_drew)); exact (Kd.R_mono (Kd.R_far (p := ⟨gb303, 2, none⟩) (Kd.R_far (p := ⟨gb303, 1, none⟩) (Kd.R_far (p := ⟨gb303, 0, none⟩) (Kd.R_types HO300.out BK303.out (by decide)) (fun _ hk => hk.2) (.slice Ao28 t295.length co28)) (fun _ hk => hk.2) (.slice Ao31 t298.length co31)) (fun _ hk => hk.2) (.int .i64 t301)) (fun _ h_ => h_.1))) hb); have n6_ := Aside0.mk (Kd.R_lower (Kd.R_new' (Kd.R_new' (Kd.R_new' ho33 (Kd.R_lt (by (with_reducible repeat (first | apply Kd.R_alloc | apply Kd.R_drewN | apply Kd.R_drew)); exact (Kd.R_mono (Kd.R_far (p := ⟨gb303, 2, none⟩) (Kd.R_far (p := ⟨gb303, 1, none⟩) (Kd.R_far (p := ⟨gb303, 0, none⟩) (Kd.R_types HO282.out BK303.out (by decide)) (fun _ hk => hk.2) (.slice Ao28 t295.length co28)) (fun _ hk => hk.2) (.slice Ao31 t298.length co31)) (fun _ hk => hk.2) (.int .i64 t301)) (fun _ h_ => h_.1))))) (Kd.R_lt (by (with_reducible repeat (first | apply Kd.R_alloc | apply Kd.R_drewN | apply Kd.R_drew)); exact (Kd.R_mono (Kd.R_far (p := ⟨gb303, 2, none⟩) (Kd.R_far (p := ⟨gb303, 1, none⟩) (Kd.R_far (p := ⟨gb303, 0, none⟩) (Kd.R_types HO285.out BK303.out (by decide)) (fun _ hk => hk.2) (.slice Ao28 t295.length co28)) (fun _ hk => hk.2) (.slice Ao31 t298.length co31)) (fun _ hk => hk.2) (.int .i64 t301)) (fun _ h_ => h_.1))))) (Kd.R_lt (by (with_reducible repeat (first | apply Kd.R_alloc | apply Kd.R_drewN | apply Kd.R_drew)); exact (Kd.R_mono (Kd.R_far (p := ⟨gb303, 2, none⟩) (Kd.R_far (p := ⟨gb303, 1, none⟩) (Kd.R_far (p := ⟨gb303, 0, none⟩) (Kd.R_types HO297.out BK303.out (by decide)) (fun _ hk => hk.2) (.slice Ao28 t295.length co28)) (fun _ hk => hk.2) (.slice Ao31 t298.length co31)) (fun _ hk => hk.2) (.int .i64 t301)) (fun _ h_ => h_.1))))) (below_size (by repeat (first | (with_reducible first | exact HB.out | apply below_alloc | apply pw_below_drewN | apply below_drew1 | refine below_set ?_ GE291.out | refine below_set ?_ GE303.out) | exact HB.out)))); have n7_ := Aside0.mk (blk_below (g := gb291) (o := .cells #[.slice Ao20 t283.length co20, .slice Ao22 t286.length co22, .int .i64 t289] 25 (0, 0)) (by (with_reducible repeat (first | refine blk_drewN ?_ _ | refine blk_drew ?_ | refine blk_alloc ?_ _)); refine blk_far ?_ NB291_303.out _; (with_reducible repeat (first | refine blk_drewN ?_ _ | refine blk_drew ?_ | refine blk_alloc ?_ _)); refine blk_far ?_ NB291_303.out _; (with_reducible repeat (first | refine blk_drewN ?_ _ | refine blk_drew ?_ | refine blk_alloc ?_ _)); refine blk_far ?_ NB291_303.out _; (with_reducible repeat (first | refine blk_drewN ?_ _ | refine blk_drew ?_ | refine blk_alloc ?_ _)); exact BK291.out) hb); have n8_ := Aside0.mk (blk_below (g := gb303) (o := .cells #[.slice Ao28 t295.length co28, .slice Ao31 t298.length co31, .int .i64 t301] 25 (0, 0)) (by (with_reducible repeat (first | refine blk_drewN ?_ _ | refine blk_drew ?_ | refine blk_alloc ?_ _)); refine blk_put (cs := #[.slice Ao28 t295.length co28, .slice Ao31 t298.length co31, .int .i64 0]) ?_ 2 _ rfl; (with_reducible repeat (first | refine blk_drewN ?_ _ | refine blk_drew ?_ | refine blk_alloc ?_ _)); refine blk_put (cs := #[.slice Ao28 t295.length co28, .slice none 0 0, .int .i64 0]) ?_ 1 _ rfl; (with_reducible repeat (first | refine blk_drewN ?_ _ | refine blk_drew ?_ | refine blk_alloc ?_ _)); refine blk_put (cs := #[.slice none 0 0, .slice none 0 0, .int .i64 0]) ?_ 0 _ rfl; (with_reducible repeat (first | refine blk_drewN ?_ _ | refine blk_drew ?_ | refine blk_alloc ?_ _)); exact BK303.out) hb); have n9_ := Aside0.mk (below_step (by repeat (first | (with_reducible first | exact HB.out | apply below_alloc | apply pw_below_drewN | apply below_drew1 | refine below_set ?_ GE291.out | refine below_set ?_ GE303.out) | exact HB.out)) hb); clear HO282; clear HO285; clear HO288; clear HO294; clear HO297; clear HO300; clear BK291; clear BK303; clear HB; have HO282 := n0_; have HO285 := n1_; have HO288 := n2_; have HO294 := n3_; have HO297 := n4_; have HO300 := n5_; have HO306 := n6_; have BK291 := n7_; have BK303 := n8_; have HB := n9_; clear n0_ n1_ n2_ n3_ n4_ n5_ n6_ n7_ n8_ n9_; clear hb ho33) | ((with_reducible refine gate_dst (N := 28) rfl ?_); (try (refine gate_guard (by rfl) ?_; dsimp only)); refine Kd.R_lit (Kd.int .i64) _ 3 ?hg (N := 28) ?hd (xs := ([5] : List Int)) (inner := [.int .i64 5]) (ok := fun _ => True) (okp := fun _ => True) ?hr ?hp (fun _ hk => hk) trivial (Below.refl _ _) (Nat.le_refl _) (by simp) ?_; (case hd => rfl); (case hg => rfl); (case hr => first | (go_simp; done) | (go_simp; rfl)); (case hp => exact (Reps.one (show Kd.M (Kd.int .i64) _ _ _ 5 [.int .i64 5] from rfl) (Reps.none _ _))); intro v308 w34 ho35 hb hg_ hnew_; clear hg_ hnew_; (first | rw [← Ny307.out] at ho35 | (simp only [Int.reduceToNat] at ho35; rw [← Ny307.out] at ho35)); have n0_ := Aside0.mk (Kd.R_below (by (with_reducible repeat (first | apply Kd.R_alloc | apply Kd.R_drewN | apply Kd.R_drew)); exact HO282.out) hb); have n1_ := Aside0.mk (Kd.R_below (by (with_reducible repeat (first | apply Kd.R_alloc | apply Kd.R_drewN | apply Kd.R_drew)); exact HO285.out) hb); have n2_ := Aside0.mk (Kd.R_elder' (by (with_reducible repeat (first | apply Kd.R_alloc | apply Kd.R_drewN | apply Kd.R_drew)); exact HO288.out) (Kd.R_base ho35) hb); have n3_ := Aside0.mk (Kd.R_elder' (by (with_reducible repeat (first | apply Kd.R_alloc | apply Kd.R_drewN | apply Kd.R_drew)); exact HO294.out) (Kd.R_base ho35) hb); have n4_ := Aside0.mk (Kd.R_below (by (with_reducible repeat (first | apply Kd.R_alloc | apply Kd.R_drewN | apply Kd.R_drew)); exact HO297.out) hb); have n5_ := Aside0.mk (Kd.R_elder' (by (with_reducible repeat (first | apply Kd.R_alloc | apply Kd.R_drewN | apply Kd.R_drew)); exact HO300.out) (Kd.R_base ho35) hb); have n6_ := Aside0.mk (Kd.R_below (by (with_reducible repeat (first | apply Kd.R_alloc | apply Kd.R_drewN | apply Kd.R_drew)); exact HO306.out) hb); have n7_ := Aside0.mk (Kd.R_lower (Kd.R_new' (Kd.R_new' (Kd.R_new' ho35 (Kd.R_lt (by (with_reducible repeat (first | apply Kd.R_alloc | apply Kd.R_drewN | apply Kd.R_drew)); exact HO288.out))) (Kd.R_lt (by (with_reducible repeat (first | apply Kd.R_alloc | apply Kd.R_drewN | apply Kd.R_drew)); exact HO294.out))) (Kd.R_lt (by (with_reducible repeat (first | apply Kd.R_alloc | apply Kd.R_drewN | apply Kd.R_drew)); exact HO300.out))) (below_size (by repeat (first | (with_reducible first | exact HB.out | apply below_alloc | apply pw_below_drewN | apply below_drew1 | refine below_set ?_ GE291.out | refine below_set ?_ GE303.out) | exact HB.out)))); have n8_ := Aside0.mk (blk_below (g := gb291) (o := .cells #[.slice Ao20 t283.length co20, .slice Ao22 t286.length co22, .int .i64 t289] 25 (0, 0)) (by (with_reducible repeat (first | refine blk_drewN ?_ _ | refine blk_drew ?_ | refine blk_alloc ?_ _)); exact BK291.out) hb); have n9_ := Aside0.mk (blk_below (g := gb303) (o := .cells #[.slice Ao28 t295.length co28, .slice Ao31 t298.length co31, .int .i64 t301] 25 (0, 0)) (by (with_reducible repeat (first | refine blk_drewN ?_ _ | refine blk_drew ?_ | refine blk_alloc ?_ _)); exact BK303.out) hb); have n10_ := Aside0.mk (below_step (by repeat (first | (with_reducible first | exact HB.out | apply below_alloc | apply pw_below_drewN | apply below_drew1 | refine below_set ?_ GE291.out | refine below_set ?_ GE303.out) | exact HB.out)) hb); clear HO282; clear HO285; clear HO288; clear HO294; clear HO297; clear HO300; clear HO306; clear BK291; clear BK303; clear HB; have HO282 := n0_; have HO285 := n1_; have HO288 := n2_; have HO294 := n3_; have HO297 := n4_; have HO300 := n5_; have HO306 := n6_; have HO309 := n7_; have BK291 := n8_; have BK303 := n9_; have HB := n10_; clear n0_ n1_ n2_ n3_ n4_ n5_ n6_ n7_ n8_ n9_ n10_; clear hb ho35; obtain ⟨Ao36, co36, eo36⟩ := Kd.R_slice HO309.out; subst eo36; obtain ⟨Ao37, co37, eo37⟩ := Kd.R_slice HO306.out; subst eo37) | ((with_reducible refine gate_callee (f := 10) rfl ?_); refine goesL_ (some 30) rfl rfl Try.func10 (by kernel_rfl) rfl #[.agg #[.slice none 0 0, .slice none 0 0, .int .i64 0], .agg #[.slice Ao37 y304.length co37, .slice none 0 0, .slice Ao36 y307.length co36, .slice none 0 0, .int .i64 9]] rfl (by (try simp only [List.map_toArray, List.map_cons, List.map_nil]); first | done | rfl | (simp only [List.length_drop, List.length_take]; rfl)) ?_; (refine (version_Apply.calls k _ _ ([] : List (S35)) _ _ ([] : List Int) 0 _ _ y304 _ _ ([] : List Int) _ _ y307 _ _ ([] : List Int) 9 t310 t313 t316 none _ ?side1 ?side2 ?side3 ?side4 ?side5 ?side6 ?side7 ?side8 ?side9 ?side10 ?side11 ?side12 A3.out).mono ?_); (case side1 => exact Kd.C_nil _ _); (case side2 => exact Nat.le_refl _); (case side3 => exact Kd.C_nil _ _); (case side4 => exact Nat.le_refl _); (case side5 => repeat (first | exact (Kd.R_reads' HO306.out).2.2 | (with_reducible refine Kd.C_alloc ?_ _) | (with_reducible refine Kd.C_drewN ?_ _) | (with_reducible refine Kd.C_drew ?_))); (case side6 => exact (Kd.R_reads' HO306.out).2.1); (case side7 => exact Kd.C_nil _ _); (case side8 => exact Nat.le_refl _); (case side9 => repeat (first | exact (Kd.R_reads' HO309.out).2.2 | (with_reducible refine Kd.C_alloc ?_ _) | (with_reducible refine Kd.C_drewN ?_ _) | (with_reducible refine Kd.C_drew ?_))); (case side10 => exact (Kd.R_reads' HO309.out).2.1); (case side11 => exact Kd.C_nil _ _); (case side12 => exact Nat.le_refl _); rintro e w38 ⟨v311, v314, rfl, ho0, ho1, hb⟩; refine ⟨_, rfl, ?_⟩; have n0_ := Aside0.mk (Kd.R_elder' (by (with_reducible repeat (first | apply Kd.R_alloc | apply Kd.R_drewN | apply Kd.R_drew)); exact HO282.out) (Kd.R_base ho0) hb); have n1_ := Aside0.mk (Kd.R_elder' (by (with_reducible repeat (first | apply Kd.R_alloc | apply Kd.R_drewN | apply Kd.R_drew)); exact HO285.out) (Kd.R_base ho0) hb); have n2_ := Aside0.mk (Kd.R_elder' (by (with_reducible repeat (first | apply Kd.R_alloc | apply Kd.R_drewN | apply Kd.R_drew)); exact HO288.out) (Kd.R_base ho1) hb); have n3_ := Aside0.mk (Kd.R_elder' (by (with_reducible repeat (first | apply Kd.R_alloc | apply Kd.R_drewN | apply Kd.R_drew)); exact HO294.out) (Kd.R_base ho1) hb); have n4_ := Aside0.mk (Kd.R_elder' (by (with_reducible repeat (first | apply Kd.R_alloc | apply Kd.R_drewN | apply Kd.R_drew)); exact HO297.out) (Kd.R_base ho0) hb); have n5_ := Aside0.mk (Kd.R_elder' (by (with_reducible repeat (first | apply Kd.R_alloc | apply Kd.R_drewN | apply Kd.R_drew)); exact HO300.out) (Kd.R_base ho1) hb); have n6_ := Aside0.mk (Kd.R_elder' (by (with_reducible repeat (first | apply Kd.R_alloc | apply Kd.R_drewN | apply Kd.R_drew)); exact HO306.out) (Kd.R_base ho0) hb); have n7_ := Aside0.mk (Kd.R_elder' (by (with_reducible repeat (first | apply Kd.R_alloc | apply Kd.R_drewN | apply Kd.R_drew)); exact HO309.out) (Kd.R_base ho1) hb); have n8_ := Aside0.mk (Kd.R_lower (Kd.R_new' (Kd.R_new' (Kd.R_new' (Kd.R_new' ho0 (Kd.R_lt (by (with_reducible repeat (first | apply Kd.R_alloc | apply Kd.R_drewN | apply Kd.R_drew)); exact HO282.out))) (Kd.R_lt (by (with_reducible repeat (first | apply Kd.R_alloc | apply Kd.R_drewN | apply Kd.R_drew)); exact HO285.out))) (Kd.R_lt (by (with_reducible repeat (first | apply Kd.R_alloc | apply Kd.R_drewN | apply Kd.R_drew)); exact HO297.out))) (Kd.R_lt (by (with_reducible repeat (first | apply Kd.R_alloc | apply Kd.R_drewN | apply Kd.R_drew)); exact HO306.out))) (below_size (by repeat (first | (with_reducible first | exact HB.out | apply below_alloc | apply pw_below_drewN | apply below_drew1 | refine below_set ?_ GE291.out | refine below_set ?_ GE303.out) | exact HB.out)))); have n9_ := Aside0.mk (Kd.R_lower (Kd.R_new' (Kd.R_new' (Kd.R_new' (Kd.R_new' ho1 (Kd.R_lt (by (with_reducible repeat (first | apply Kd.R_alloc | apply Kd.R_drewN | apply Kd.R_drew)); exact HO288.out))) (Kd.R_lt (by (with_reducible repeat (first | apply Kd.R_alloc | apply Kd.R_drewN | apply Kd.R_drew)); exact HO294.out))) (Kd.R_lt (by (with_reducible repeat (first | apply Kd.R_alloc | apply Kd.R_drewN | apply Kd.R_drew)); exact HO300.out))) (Kd.R_lt (by (with_reducible repeat (first | apply Kd.R_alloc | apply Kd.R_drewN | apply Kd.R_drew)); exact HO309.out))) (below_size (by repeat (first | (with_reducible first | exact HB.out | apply below_alloc | apply pw_below_drewN | apply below_drew1 | refine below_set ?_ GE291.out | refine below_set ?_ GE303.out) | exact HB.out)))); have n10_ := Aside0.mk (blk_below (g := gb291) (o := .cells #[.slice Ao20 t283.length co20, .slice Ao22 t286.length co22, .int .i64 t289] 25 (0, 0)) (by (with_reducible repeat (first | refine blk_drewN ?_ _ | refine blk_drew ?_ | refine blk_alloc ?_ _)); exact BK291.out) hb); have n11_ := Aside0.mk (blk_below (g := gb303) (o := .cells #[.slice Ao28 t295.length co28, .slice Ao31 t298.length co31, .int .i64 t301] 25 (0, 0)) (by (with_reducible repeat (first | refine blk_drewN ?_ _ | refine blk_drew ?_ | refine blk_alloc ?_ _)); exact BK303.out) hb); have n12_ := Aside0.mk (below_step (by repeat (first | (with_reducible first | exact HB.out | apply below_alloc | apply pw_below_drewN | apply below_drew1 | refine below_set ?_ GE291.out | refine below_set ?_ GE303.out) | exact HB.out)) hb); clear HO282; clear HO285; clear HO288; clear HO294; clear HO297; clear HO300; clear HO306; clear HO309; clear BK291; clear BK303; clear HB; have HO282 := n0_; have HO285 := n1_; have HO288 := n2_; have HO294 := n3_; have HO297 := n4_; have HO300 := n5_; have HO306 := n6_; have HO309 := n7_; have HO312 := n8_; have HO315 := n9_; have BK291 := n10_; have BK303 := n11_; have HB := n12_; clear n0_ n1_ n2_ n3_ n4_ n5_ n6_ n7_ n8_ n9_ n10_ n11_ n12_; (try clear hb); (try clear hb2); (try clear hk); (try clear hi); (try clear ho0); (try clear ho1); (try simp only [errW_none, errW_some])) | ((with_reducible refine gate_dst (N := 5) rfl ?_); (try (refine gate_guard (by rfl) ?_; dsimp only)); refine box_event ?hg (N := 5) ?hd (cs := #[.slice none 0 0, .slice none 0 0, .int .i64 0]) (t := 25) ?hr ?_; (case hd => rfl); (case hg => rfl); (case hr => first | (go_simp; done) | (go_simp; rfl)); intro gb318 hg w39 hbox hb; have n0_ := Aside0.mk (Kd.R_below (by (with_reducible repeat (first | apply Kd.R_alloc | apply Kd.R_drewN | apply Kd.R_drew)); exact HO282.out) hb); have n1_ := Aside0.mk (Kd.R_below (by (with_reducible repeat (first | apply Kd.R_alloc | apply Kd.R_drewN | apply Kd.R_drew)); exact HO285.out) hb); have n2_ := Aside0.mk (Kd.R_below (by (with_reducible repeat (first | apply Kd.R_alloc | apply Kd.R_drewN | apply Kd.R_drew)); exact HO288.out) hb); have n3_ := Aside0.mk (Kd.R_below (by (with_reducible repeat (first | apply Kd.R_alloc | apply Kd.R_drewN | apply Kd.R_drew)); exact HO294.out) hb); have n4_ := Aside0.mk (Kd.R_below (by (with_reducible repeat (first | apply Kd.R_alloc | apply Kd.R_drewN | apply Kd.R_drew)); exact HO297.out) hb); have n5_ := Aside0.mk (Kd.R_below (by (with_reducible repeat (first | apply Kd.R_alloc | apply Kd.R_drewN | apply Kd.R_drew)); exact HO300.out) hb); have n6_ := Aside0.mk (Kd.R_below (by (with_reducible repeat (first | apply Kd.R_alloc | apply Kd.R_drewN | apply Kd.R_drew)); exact HO306.out) hb); have n7_ := Aside0.mk (Kd.R_below (by (with_reducible repeat (first | apply Kd.R_alloc | apply Kd.R_drewN | apply Kd.R_drew)); exact HO309.out) hb); have n8_ := Aside0.mk (Kd.R_below (by (with_reducible repeat (first | apply Kd.R_alloc | apply Kd.R_drewN | apply Kd.R_drew)); exact HO312.out) hb); have n9_ := Aside0.mk (Kd.R_below (by (with_reducible repeat (first | apply Kd.R_alloc | apply Kd.R_drewN | apply Kd.R_drew)); exact HO315.out) hb); have n10_ := Aside0.mk (blk_below (g := gb291) (o := .cells #[.slice Ao20 t283.length co20, .slice Ao22 t286.length co22, .int .i64 t289] 25 (0, 0)) (by (with_reducible repeat (first | refine blk_drewN ?_ _ | refine blk_drew ?_ | refine blk_alloc ?_ _)); exact BK291.out) hb); have n11_ := Aside0.mk (blk_below (g := gb303) (o := .cells #[.slice Ao28 t295.length co28, .slice Ao31 t298.length co31, .int .i64 t301] 25 (0, 0)) (by (with_reducible repeat (first | refine blk_drewN ?_ _ | refine blk_drew ?_ | refine blk_alloc ?_ _)); exact BK303.out) hb); have n12_ := Aside0.mk (below_step (by repeat (first | (with_reducible first | exact HB.out | apply below_alloc | apply pw_below_drewN | apply below_drew1 | refine below_set ?_ GE291.out | refine below_set ?_ GE303.out) | exact HB.out)) hb); have n13_ := Aside0.mk (hbox); have n14_ := Aside0.mk ((by rw [hg]; exact (below_size (by repeat (first | (with_reducible first | exact HB.out | apply below_alloc | apply pw_below_drewN | apply below_drew1 | refine below_set ?_ GE291.out | refine below_set ?_ GE303.out) | exact HB.out))) : w.heap.size ≤ gb318)); have n15_ := Aside0.mk ((by rw [hg]; exact (below_size (by repeat (first | (with_reducible first | exact HB.out | apply below_alloc | apply pw_below_drewN | apply below_drew1 | refine below_set ?_ GE291.out | refine below_set ?_ GE303.out) | exact HB.out))) : w.heap.size ≤ gb318)); have n16_ := Aside0.mk ((by rw [hg]; exact Nat.ne_of_lt (blk_lt (g := gb291) (o := .cells #[.slice Ao20 t283.length co20, .slice Ao22 t286.length co22, .int .i64 t289] 25 (0, 0)) (by (with_reducible repeat (first | refine blk_drewN ?_ _ | refine blk_drew ?_ | refine blk_alloc ?_ _)); exact BK291.out)) : gb291 ≠ gb318)); have n17_ := Aside0.mk ((by rw [hg]; exact Nat.ne_of_gt (blk_lt (g := gb291) (o := .cells #[.slice Ao20 t283.length co20, .slice Ao22 t286.length co22, .int .i64 t289] 25 (0, 0)) (by (with_reducible repeat (first | refine blk_drewN ?_ _ | refine blk_drew ?_ | refine blk_alloc ?_ _)); exact BK291.out)) : gb318 ≠ gb291)); have n18_ := Aside0.mk ((by rw [hg]; exact Nat.ne_of_lt (blk_lt (g := gb303) (o := .cells #[.slice Ao28 t295.length co28, .slice Ao31 t298.length co31, .int .i64 t301] 25 (0, 0)) (by (with_reducible repeat (first | refine blk_drewN ?_ _ | refine blk_drew ?_ | refine blk_alloc ?_ _)); exact BK303.out)) : gb303 ≠ gb318)); have n19_ := Aside0.mk ((by rw [hg]; exact Nat.ne_of_gt (blk_lt (g := gb303) (o := .cells #[.slice Ao28 t295.length co28, .slice Ao31 t298.length co31, .int .i64 t301] 25 (0, 0)) (by (with_reducible repeat (first | refine blk_drewN ?_ _ | refine blk_drew ?_ | refine blk_alloc ?_ _)); exact BK303.out)) : gb318 ≠ gb303)); clear HO282; clear HO285; clear HO288; clear HO294; clear HO297; clear HO300; clear HO306; clear HO309; clear HO312; clear HO315; clear BK291; clear BK303; clear HB; have HO282 := n0_; have HO285 := n1_; have HO288 := n2_; have HO294 := n3_; have HO297 := n4_; have HO300 := n5_; have HO306 := n6_; have HO309 := n7_; have HO312 := n8_; have HO315 := n9_; have BK291 := n10_; have BK303 := n11_; have HB := n12_; have BK318 := n13_; have GW318 := n14_; have GE318 := n15_; have NB291_318 := n16_; have NB318_291 := n17_; have NB303_318 := n18_; have NB318_303 := n19_; clear n0_ n1_ n2_ n3_ n4_ n5_ n6_ n7_ n8_ n9_ n10_ n11_ n12_ n13_ n14_ n15_ n16_ n17_ n18_ n19_; clear hb hbox hg; obtain ⟨Ao40, co40, eo40⟩ := Kd.R_slice HO312.out; subst eo40; have hnb41 := NB318_291.out; have hnc41 := NB291_318.out; have hnb42 := NB318_303.out; have hnc42 := NB303_318.out; have hcz43_0 : w39.cell? ⟨gb318, 0, none⟩ = some (.slice none 0 0) := (blk_cell BK318.out 0).trans rfl; have hcz43_1 : w39.cell? ⟨gb318, 1, none⟩ = some (.slice none 0 0) := (blk_cell BK318.out 1).trans rfl; have hcz43_2 : w39.cell? ⟨gb318, 2, none⟩ = some (.int .i64 0) := (blk_cell BK318.out 2).trans rfl; have hfz43_0 := blk_frozen BK318.out 0; have hfz43_1 := blk_frozen BK318.out 1; have hfz43_2 := blk_frozen BK318.out 2; obtain ⟨Ao44, co44, eo44⟩ := Kd.R_slice HO315.out; subst eo44) | ((with_reducible refine gate_callee (f := 15) rfl ?_); refine goesL_ (some 34) rfl rfl Try.func15 (by kernel_rfl) rfl #[.agg #[.slice Ao40 t310.length co40, .slice Ao44 t313.length co44, .int .i64 t316]] rfl (by (try simp only [List.map_toArray, List.map_cons, List.map_nil]); first | done | rfl | (simp only [List.length_drop, List.length_take]; rfl)) ?_; (with_reducible refine (version_Live.calls _ _ t310 _ _ t313 t316 t319 _ ?side1 ?side2 ?side3 ?side4 A4.out).mono ?_); (case side1 => refine (Kd.R_reads' (e := 35) (base := w.heap.size) (ok := fun k_ => ((((True ∧ some k_ ≠ (.slice Ao17 y280.length co17 : Value).ownBlock) ∧ some k_ ≠ (.slice Ao20 t283.length co20 : Value).ownBlock) ∧ some k_ ≠ (.slice Ao28 t295.length co28 : Value).ownBlock) ∧ some k_ ≠ (.slice Ao37 y304.length co37 : Value).ownBlock)) (n := t310.length) (c := co40) ?_).2.2; exact (by (with_reducible repeat (first | apply Kd.R_alloc | apply Kd.R_drewN | apply Kd.R_drew)); exact (Kd.R_mono (Kd.R_far (p := ⟨gb318, 2, none⟩) (Kd.R_far (p := ⟨gb318, 1, none⟩) (Kd.R_far (p := ⟨gb318, 0, none⟩) (Kd.R_types HO312.out BK318.out (by decide)) (fun _ hk => hk.2) (.slice Ao40 t310.length co40)) (fun _ hk => hk.2) (.slice Ao44 t313.length co44)) (fun _ hk => hk.2) (.int .i64 t316)) (fun _ h_ => h_.1)))); (case side2 => exact (Kd.R_reads' HO312.out).2.1); (case side3 => refine (Kd.R_reads' (e := 3) (base := w.heap.size) (ok := fun k_ => ((((True ∧ some k_ ≠ (.slice Ao22 t286.length co22 : Value).ownBlock) ∧ some k_ ≠ (.slice Ao25 y292.length co25 : Value).ownBlock) ∧ some k_ ≠ (.slice Ao31 t298.length co31 : Value).ownBlock) ∧ some k_ ≠ (.slice Ao36 y307.length co36 : Value).ownBlock)) (n := t313.length) (c := co44) ?_).2.2; exact (by (with_reducible repeat (first | apply Kd.R_alloc | apply Kd.R_drewN | apply Kd.R_drew)); exact (Kd.R_mono (Kd.R_far (p := ⟨gb318, 2, none⟩) (Kd.R_far (p := ⟨gb318, 1, none⟩) (Kd.R_far (p := ⟨gb318, 0, none⟩) (Kd.R_types HO315.out BK318.out (by decide)) (fun _ hk => hk.2) (.slice Ao40 t310.length co40)) (fun _ hk => hk.2) (.slice Ao44 t313.length co44)) (fun _ hk => hk.2) (.int .i64 t316)) (fun _ h_ => h_.1)))); (case side4 => exact (Kd.R_reads' HO315.out).2.1); rintro e w45 ⟨v320, rfl, ho0, hb⟩; refine ⟨_, rfl, ?_⟩; have n0_ := Aside0.mk (Kd.R_below (by (with_reducible repeat (first | apply Kd.R_alloc | apply Kd.R_drewN | apply Kd.R_drew)); exact (Kd.R_mono (Kd.R_far (p := ⟨gb318, 2, none⟩) (Kd.R_far (p := ⟨gb318, 1, none⟩) (Kd.R_far (p := ⟨gb318, 0, none⟩) (Kd.R_types HO282.out BK318.out (by decide)) (fun _ hk => hk.2) (.slice Ao40 t310.length co40)) (fun _ hk => hk.2) (.slice Ao44 t313.length co44)) (fun _ hk => hk.2) (.int .i64 t316)) (fun _ h_ => h_.1))) hb); have n1_ := Aside0.mk (Kd.R_below (by (with_reducible repeat (first | apply Kd.R_alloc | apply Kd.R_drewN | apply Kd.R_drew)); exact (Kd.R_mono (Kd.R_far (p := ⟨gb318, 2, none⟩) (Kd.R_far (p := ⟨gb318, 1, none⟩) (Kd.R_far (p := ⟨gb318, 0, none⟩) (Kd.R_types HO285.out BK318.out (by decide)) (fun _ hk => hk.2) (.slice Ao40 t310.length co40)) (fun _ hk => hk.2) (.slice Ao44 t313.length co44)) (fun _ hk => hk.2) (.int .i64 t316)) (fun _ h_ => h_.1))) hb); have n2_ := Aside0.mk (Kd.R_elder' (by (with_reducible repeat (first | apply Kd.R_alloc | apply Kd.R_drewN | apply Kd.R_drew)); exact (Kd.R_mono (Kd.R_far (p := ⟨gb318, 2, none⟩) (Kd.R_far (p := ⟨gb318, 1, none⟩) (Kd.R_far (p := ⟨gb318, 0, none⟩) (Kd.R_types HO288.out BK318.out (by decide)) (fun _ hk => hk.2) (.slice Ao40 t310.length co40)) (fun _ hk => hk.2) (.slice Ao44 t313.length co44)) (fun _ hk => hk.2) (.int .i64 t316)) (fun _ h_ => h_.1))) (Kd.R_base ho0) hb); have n3_ := Aside0.mk (Kd.R_elder' (by (with_reducible repeat (first | apply Kd.R_alloc | apply Kd.R_drewN | apply Kd.R_drew)); exact (Kd.R_mono (Kd.R_far (p := ⟨gb318, 2, none⟩) (Kd.R_far (p := ⟨gb318, 1, none⟩) (Kd.R_far (p := ⟨gb318, 0, none⟩) (Kd.R_types HO294.out BK318.out (by decide)) (fun _ hk => hk.2) (.slice Ao40 t310.length co40)) (fun _ hk => hk.2) (.slice Ao44 t313.length co44)) (fun _ hk => hk.2) (.int .i64 t316)) (fun _ h_ => h_.1))) (Kd.R_base ho0) hb); have n4_ := Aside0.mk (Kd.R_below (by (with_reducible repeat (first | apply Kd.R_alloc | apply Kd.R_drewN | apply Kd.R_drew)); exact (Kd.R_mono (Kd.R_far (p := ⟨gb318, 2, none⟩) (Kd.R_far (p := ⟨gb318, 1, none⟩) (Kd.R_far (p := ⟨gb318, 0, none⟩) (Kd.R_types HO297.out BK318.out (by decide)) (fun _ hk => hk.2) (.slice Ao40 t310.length co40)) (fun _ hk => hk.2) (.slice Ao44 t313.length co44)) (fun _ hk => hk.2) (.int .i64 t316)) (fun _ h_ => h_.1))) hb); have n5_ := Aside0.mk (Kd.R_elder' (by (with_reducible repeat (first | apply Kd.R_alloc | apply Kd.R_drewN | apply Kd.R_drew)); exact (Kd.R_mono (Kd.R_far (p := ⟨gb318, 2, none⟩) (Kd.R_far (p := ⟨gb318, 1, none⟩) (Kd.R_far (p := ⟨gb318, 0, none⟩) (Kd.R_types HO300.out BK318.out (by decide)) (fun _ hk => hk.2) (.slice Ao40 t310.length co40)) (fun _ hk => hk.2) (.slice Ao44 t313.length co44)) (fun _ hk => hk.2) (.int .i64 t316)) (fun _ h_ => h_.1))) (Kd.R_base ho0) hb); have n6_ := Aside0.mk (Kd.R_below (by (with_reducible repeat (first | apply Kd.R_alloc | apply Kd.R_drewN | apply Kd.R_drew)); exact (Kd.R_mono (Kd.R_far (p := ⟨gb318, 2, none⟩) (Kd.R_far (p := ⟨gb318, 1, none⟩) (Kd.R_far (p := ⟨gb318, 0, none⟩) (Kd.R_types HO306.out BK318.out (by decide)) (fun _ hk => hk.2) (.slice Ao40 t310.length co40)) (fun _ hk => hk.2) (.slice Ao44 t313.length co44)) (fun _ hk => hk.2) (.int .i64 t316)) (fun _ h_ => h_.1))) hb); have n7_ := Aside0.mk (Kd.R_elder' (by (with_reducible repeat (first | apply Kd.R_alloc | apply Kd.R_drewN | apply Kd.R_drew)); exact (Kd.R_mono (Kd.R_far (p := ⟨gb318, 2, none⟩) (Kd.R_far (p := ⟨gb318, 1, none⟩) (Kd.R_far (p := ⟨gb318, 0, none⟩) (Kd.R_types HO309.out BK318.out (by decide)) (fun _ hk => hk.2) (.slice Ao40 t310.length co40)) (fun _ hk => hk.2) (.slice Ao44 t313.length co44)) (fun _ hk => hk.2) (.int .i64 t316)) (fun _ h_ => h_.1))) (Kd.R_base ho0) hb); have n8_ := Aside0.mk (Kd.R_below (by (with_reducible repeat (first | apply Kd.R_alloc | apply Kd.R_drewN | apply Kd.R_drew)); exact (Kd.R_mono (Kd.R_far (p := ⟨gb318, 2, none⟩) (Kd.R_far (p := ⟨gb318, 1, none⟩) (Kd.R_far (p := ⟨gb318, 0, none⟩) (Kd.R_types HO312.out BK318.out (by decide)) (fun _ hk => hk.2) (.slice Ao40 t310.length co40)) (fun _ hk => hk.2) (.slice Ao44 t313.length co44)) (fun _ hk => hk.2) (.int .i64 t316)) (fun _ h_ => h_.1))) hb); have n9_ := Aside0.mk (Kd.R_elder' (by (with_reducible repeat (first | apply Kd.R_alloc | apply Kd.R_drewN | apply Kd.R_drew)); exact (Kd.R_mono (Kd.R_far (p := ⟨gb318, 2, none⟩) (Kd.R_far (p := ⟨gb318, 1, none⟩) (Kd.R_far (p := ⟨gb318, 0, none⟩) (Kd.R_types HO315.out BK318.out (by decide)) (fun _ hk => hk.2) (.slice Ao40 t310.length co40)) (fun _ hk => hk.2) (.slice Ao44 t313.length co44)) (fun _ hk => hk.2) (.int .i64 t316)) (fun _ h_ => h_.1))) (Kd.R_base ho0) hb); have n10_ := Aside0.mk (Kd.R_lower (Kd.R_new' (Kd.R_new' (Kd.R_new' (Kd.R_new' (Kd.R_new' ho0 (Kd.R_lt (by (with_reducible repeat (first | apply Kd.R_alloc | apply Kd.R_drewN | apply Kd.R_drew)); exact (Kd.R_mono (Kd.R_far (p := ⟨gb318, 2, none⟩) (Kd.R_far (p := ⟨gb318, 1, none⟩) (Kd.R_far (p := ⟨gb318, 0, none⟩) (Kd.R_types HO288.out BK318.out (by decide)) (fun _ hk => hk.2) (.slice Ao40 t310.length co40)) (fun _ hk => hk.2) (.slice Ao44 t313.length co44)) (fun _ hk => hk.2) (.int .i64 t316)) (fun _ h_ => h_.1))))) (Kd.R_lt (by (with_reducible repeat (first | apply Kd.R_alloc | apply Kd.R_drewN | apply Kd.R_drew)); exact (Kd.R_mono (Kd.R_far (p := ⟨gb318, 2, none⟩) (Kd.R_far (p := ⟨gb318, 1, none⟩) (Kd.R_far (p := ⟨gb318, 0, none⟩) (Kd.R_types HO294.out BK318.out (by decide)) (fun _ hk => hk.2) (.slice Ao40 t310.length co40)) (fun _ hk => hk.2) (.slice Ao44 t313.length co44)) (fun _ hk => hk.2) (.int .i64 t316)) (fun _ h_ => h_.1))))) (Kd.R_lt (by (with_reducible repeat (first | apply Kd.R_alloc | apply Kd.R_drewN | apply Kd.R_drew)); exact (Kd.R_mono (Kd.R_far (p := ⟨gb318, 2, none⟩) (Kd.R_far (p := ⟨gb318, 1, none⟩) (Kd.R_far (p := ⟨gb318, 0, none⟩) (Kd.R_types HO300.out BK318.out (by decide)) (fun _ hk => hk.2) (.slice Ao40 t310.length co40)) (fun _ hk => hk.2) (.slice Ao44 t313.length co44)) (fun _ hk => hk.2) (.int .i64 t316)) (fun _ h_ => h_.1))))) (Kd.R_lt (by (with_reducible repeat (first | apply Kd.R_alloc | apply Kd.R_drewN | apply Kd.R_drew)); exact (Kd.R_mono (Kd.R_far (p := ⟨gb318, 2, none⟩) (Kd.R_far (p := ⟨gb318, 1, none⟩) (Kd.R_far (p := ⟨gb318, 0, none⟩) (Kd.R_types HO309.out BK318.out (by decide)) (fun _ hk => hk.2) (.slice Ao40 t310.length co40)) (fun _ hk => hk.2) (.slice Ao44 t313.length co44)) (fun _ hk => hk.2) (.int .i64 t316)) (fun _ h_ => h_.1))))) (Kd.R_lt (by (with_reducible repeat (first | apply Kd.R_alloc | apply Kd.R_drewN | apply Kd.R_drew)); exact (Kd.R_mono (Kd.R_far (p := ⟨gb318, 2, none⟩) (Kd.R_far (p := ⟨gb318, 1, none⟩) (Kd.R_far (p := ⟨gb318, 0, none⟩) (Kd.R_types HO315.out BK318.out (by decide)) (fun _ hk => hk.2) (.slice Ao40 t310.length co40)) (fun _ hk => hk.2) (.slice Ao44 t313.length co44)) (fun _ hk => hk.2) (.int .i64 t316)) (fun _ h_ => h_.1))))) (below_size (by repeat (first | (with_reducible first | exact HB.out | apply below_alloc | apply pw_below_drewN | apply below_drew1 | refine below_set ?_ GE291.out | refine below_set ?_ GE303.out | refine below_set ?_ GE318.out) | exact HB.out)))); have n11_ := Aside0.mk (blk_below (g := gb291) (o := .cells #[.slice Ao20 t283.length co20, .slice Ao22 t286.length co22, .int .i64 t289] 25 (0, 0)) (by (with_reducible repeat (first | refine blk_drewN ?_ _ | refine blk_drew ?_ | refine blk_alloc ?_ _)); refine blk_far ?_ NB291_318.out _; (with_reducible repeat (first | refine blk_drewN ?_ _ | refine blk_drew ?_ | refine blk_alloc ?_ _)); refine blk_far ?_ NB291_318.out _; (with_reducible repeat (first | refine blk_drewN ?_ _ | refine blk_drew ?_ | refine blk_alloc ?_ _)); refine blk_far ?_ NB291_318.out _; (with_reducible repeat (first | refine blk_drewN ?_ _ | refine blk_drew ?_ | refine blk_alloc ?_ _)); exact BK291.out) hb); have n12_ := Aside0.mk (blk_below (g := gb303) (o := .cells #[.slice Ao28 t295.length co28, .slice Ao31 t298.length co31, .int .i64 t301] 25 (0, 0)) (by (with_reducible repeat (first | refine blk_drewN ?_ _ | refine blk_drew ?_ | refine blk_alloc ?_ _)); refine blk_far ?_ NB303_318.out _; (with_reducible repeat (first | refine blk_drewN ?_ _ | refine blk_drew ?_ | refine blk_alloc ?_ _)); refine blk_far ?_ NB303_318.out _; (with_reducible repeat (first | refine blk_drewN ?_ _ | refine blk_drew ?_ | refine blk_alloc ?_ _)); refine blk_far ?_ NB303_318.out _; (with_reducible repeat (first | refine blk_drewN ?_ _ | refine blk_drew ?_ | refine blk_alloc ?_ _)); exact BK303.out) hb); have n13_ := Aside0.mk (blk_below (g := gb318) (o := .cells #[.slice Ao40 t310.length co40, .slice Ao44 t313.length co44, .int .i64 t316] 25 (0, 0)) (by (with_reducible repeat (first | refine blk_drewN ?_ _ | refine blk_drew ?_ | refine blk_alloc ?_ _)); refine blk_put (cs := #[.slice Ao40 t310.length co40, .slice Ao44 t313.length co44, .int .i64 0]) ?_ 2 _ rfl; (with_reducible repeat (first | refine blk_drewN ?_ _ | refine blk_drew ?_ | refine blk_alloc ?_ _)); refine blk_put (cs := #[.slice Ao40 t310.length co40, .slice none 0 0, .int .i64 0]) ?_ 1 _ rfl; (with_reducible repeat (first | refine blk_drewN ?_ _ | refine blk_drew ?_ | refine blk_alloc ?_ _)); refine blk_put (cs := #[.slice none 0 0, .slice none 0 0, .int .i64 0]) ?_ 0 _ rfl; (with_reducible repeat (first | refine blk_drewN ?_ _ | refine blk_drew ?_ | refine blk_alloc ?_ _)); exact BK318.out) hb); have n14_ := Aside0.mk (below_step (by repeat (first | (with_reducible first | exact HB.out | apply below_alloc | apply pw_below_drewN | apply below_drew1 | refine below_set ?_ GE291.out | refine below_set ?_ GE303.out | refine below_set ?_ GE318.out) | exact HB.out)) hb); clear HO282; clear HO285; clear HO288; clear HO294; clear HO297; clear HO300; clear HO306; clear HO309; clear HO312; clear HO315; clear BK291; clear BK303; clear BK318; clear HB; have HO282 := n0_; have HO285 := n1_; have HO288 := n2_; have HO294 := n3_; have HO297 := n4_; have HO300 := n5_; have HO306 := n6_; have HO309 := n7_; have HO312 := n8_; have HO315 := n9_; have HO321 := n10_; have BK291 := n11_; have BK303 := n12_; have BK318 := n13_; have HB := n14_; clear n0_ n1_ n2_ n3_ n4_ n5_ n6_ n7_ n8_ n9_ n10_ n11_ n12_ n13_ n14_; (try clear hb); (try clear hb2); (try clear hk); (try clear hi); (try clear ho0); have CA5 := fun W => palinodelaw14_is.calls t290 1 true W A5.out; try simp only [errW_none, errW_some] at CA5) | (go_at_call 11; (with_reducible refine (CA5 _).mono ?_); rintro e w' ⟨rfl, ⟨nd, rfl⟩⟩; have CA7 := fun W => palinodelaw14_is.calls t302 8 true W A7.out; try simp only [errW_none, errW_some] at CA7) | (go_at_call 11; (with_reducible refine (CA7 _).mono ?_); rintro e w' ⟨rfl, ⟨nd, rfl⟩⟩; have hcz46_0 : w45.cell? ⟨gb318, 0, none⟩ = some (.slice Ao40 t310.length co40) := (blk_cell BK318.out 0).trans rfl; have hcz46_1 : w45.cell? ⟨gb318, 1, none⟩ = some (.slice Ao44 t313.length co44) := (blk_cell BK318.out 1).trans rfl; have hcz46_2 : w45.cell? ⟨gb318, 2, none⟩ = some (.int .i64 t316) := (blk_cell BK318.out 2).trans rfl; have hfz46_0 := blk_frozen BK318.out 0; have hfz46_1 := blk_frozen BK318.out 1; have hfz46_2 := blk_frozen BK318.out 2; obtain ⟨Ao47, co47, eo47⟩ := Kd.R_slice HO321.out; subst eo47; have p325 : 0 ≤ (1 : Int) := (by omega); have q325 : 1 < (t319.length : Int) := of_decide_eq_true (by first | (with_reducible assumption) | assumption); obtain ⟨ad325, e325, hx325_0⟩ := Kd.at_int (Kd.R_reads' HO321.out).2.2 1 p325 q325; cases e325; (try simp only [show (1 : Int).toNat = 1 from rfl, Nat.reduceMul, Nat.reduceEqDiff, Go.Addr.add, ↓reduceIte] at hx325_0); have qi325 : (1 < t319.length) = True := eq_true (by omega); (try rw [show ((1 : Int)).toNat = 1 from rfl] at hx325_0); replace p325 := eq_true p325; replace q325 := eq_true q325) | (go_at_call 13; (with_reducible refine (version_Right.calls _ _ t310 _ _ t313 t316 t326 _ ?side1 ?side2 ?side3 ?side4 A14.out).mono ?_); (case side1 => repeat (first | exact (Kd.R_reads' HO312.out).2.2 | (with_reducible refine Kd.C_alloc ?_ _) | (with_reducible refine Kd.C_drewN ?_ _) | (with_reducible refine Kd.C_drew ?_))); (case side2 => exact (Kd.R_reads' HO312.out).2.1); (case side3 => repeat (first | exact (Kd.R_reads' HO315.out).2.2 | (with_reducible refine Kd.C_alloc ?_ _) | (with_reducible refine Kd.C_drewN ?_ _) | (with_reducible refine Kd.C_drew ?_))); (case side4 => exact (Kd.R_reads' HO315.out).2.1); rintro e w48 ⟨rfl, hb⟩; have n0_ := Aside0.mk (Kd.R_below (by (with_reducible repeat (first | apply Kd.R_alloc | apply Kd.R_drewN | apply Kd.R_drew)); exact HO282.out) hb); have n1_ := Aside0.mk (Kd.R_below (by (with_reducible repeat (first | apply Kd.R_alloc | apply Kd.R_drewN | apply Kd.R_drew)); exact HO285.out) hb); have n2_ := Aside0.mk (Kd.R_below (by (with_reducible repeat (first | apply Kd.R_alloc | apply Kd.R_drewN | apply Kd.R_drew)); exact HO288.out) hb); have n3_ := Aside0.mk (Kd.R_below (by (with_reducible repeat (first | apply Kd.R_alloc | apply Kd.R_drewN | apply Kd.R_drew)); exact HO294.out) hb); have n4_ := Aside0.mk (Kd.R_below (by (with_reducible repeat (first | apply Kd.R_alloc | apply Kd.R_drewN | apply Kd.R_drew)); exact HO297.out) hb); have n5_ := Aside0.mk (Kd.R_below (by (with_reducible repeat (first | apply Kd.R_alloc | apply Kd.R_drewN | apply Kd.R_drew)); exact HO300.out) hb); have n6_ := Aside0.mk (Kd.R_below (by (with_reducible repeat (first | apply Kd.R_alloc | apply Kd.R_drewN | apply Kd.R_drew)); exact HO306.out) hb); have n7_ := Aside0.mk (Kd.R_below (by (with_reducible repeat (first | apply Kd.R_alloc | apply Kd.R_drewN | apply Kd.R_drew)); exact HO309.out) hb); have n8_ := Aside0.mk (Kd.R_below (by (with_reducible repeat (first | apply Kd.R_alloc | apply Kd.R_drewN | apply Kd.R_drew)); exact HO312.out) hb); have n9_ := Aside0.mk (Kd.R_below (by (with_reducible repeat (first | apply Kd.R_alloc | apply Kd.R_drewN | apply Kd.R_drew)); exact HO315.out) hb); have n10_ := Aside0.mk (Kd.R_below (by (with_reducible repeat (first | apply Kd.R_alloc | apply Kd.R_drewN | apply Kd.R_drew)); exact HO321.out) hb); have n11_ := Aside0.mk (blk_below (g := gb291) (o := .cells #[.slice Ao20 t283.length co20, .slice Ao22 t286.length co22, .int .i64 t289] 25 (0, 0)) (by (with_reducible repeat (first | refine blk_drewN ?_ _ | refine blk_drew ?_ | refine blk_alloc ?_ _)); exact BK291.out) hb); have n12_ := Aside0.mk (blk_below (g := gb303) (o := .cells #[.slice Ao28 t295.length co28, .slice Ao31 t298.length co31, .int .i64 t301] 25 (0, 0)) (by (with_reducible repeat (first | refine blk_drewN ?_ _ | refine blk_drew ?_ | refine blk_alloc ?_ _)); exact BK303.out) hb); have n13_ := Aside0.mk (blk_below (g := gb318) (o := .cells #[.slice Ao40 t310.length co40, .slice Ao44 t313.length co44, .int .i64 t316] 25 (0, 0)) (by (with_reducible repeat (first | refine blk_drewN ?_ _ | refine blk_drew ?_ | refine blk_alloc ?_ _)); exact BK318.out) hb); have n14_ := Aside0.mk (below_step (by repeat (first | (with_reducible first | exact HB.out | apply below_alloc | apply pw_below_drewN | apply below_drew1 | refine below_set ?_ GE291.out | refine below_set ?_ GE303.out | refine below_set ?_ GE318.out) | exact HB.out)) hb); clear HO282; clear HO285; clear HO288; clear HO294; clear HO297; clear HO300; clear HO306; clear HO309; clear HO312; clear HO315; clear HO321; clear BK291; clear BK303; clear BK318; clear HB; have HO282 := n0_; have HO285 := n1_; have HO288 := n2_; have HO294 := n3_; have HO297 := n4_; have HO300 := n5_; have HO306 := n6_; have HO309 := n7_; have HO312 := n8_; have HO315 := n9_; have HO321 := n10_; have BK291 := n11_; have BK303 := n12_; have BK318 := n13_; have HB := n14_; clear n0_ n1_ n2_ n3_ n4_ n5_ n6_ n7_ n8_ n9_ n10_ n11_ n12_ n13_ n14_; (try clear hb); (try clear hb2); (try clear hk); (try clear hi)))
    go_ret
    exact ⟨by first | (rw [er_.out]; done) | (rw [← er_.out]; done) | (simp [er_.out]; done) | rfl | (simp [errW_none, errW_some] <;> rfl) | (simp [*, errW_none, errW_some] <;> rfl), by repeat (first | (with_reducible first | exact HB.out | apply below_alloc | apply pw_below_drewN | apply below_drew1 | refine below_set ?_ GE291.out | refine below_set ?_ GE303.out | refine below_set ?_ GE318.out) | exact HB.out)⟩
  · have H1 : (some false) = some true := by rw [if_neg (show ¬ (some q324).isNone = true by simp)] at H; exact H
    clear H
    have H := H1
    clear H1
    try simp only [errW_none, errW_some]
    exact absurd H (by simp)
theorem palinodelaw14_examples.calls (k : Nat) (r : Bool) (w : World) (h : palinodelaw14_examples.f k = some r) :
    Calls Try.prog 9 #[] w fun e w' => e = .returned (.bool r) ∧ Below w.heap.size w w' := by
  obtain rfl : true = r := Option.some.inj ((at_rounds palinodelaw14_examples.mono (Nat.le_add_left 12 k) palinodelaw14_examples.sure).symm.trans (at_rounds palinodelaw14_examples.mono (Nat.le_add_right k 12) h))
  exact palinodelaw14_examples.calls_sure k w h

end Go.Proofs.Ytokimlfagpddlaa.PD

-- printed by gprint.py (own tool) over the kit's print
namespace Go.Proofs.Ytokimlfagpddlaa.PD
open Go.RowKit Go.Proofs.Ytokimlfagpddlaa Go.Proofs.YtokimlfagpddlaaW.PrintWords Go.Proofs.YtokimlfagpddlaaW.PrintLast Go.Proofs.YtokimlfagpddlaaW.PrintMore
attribute [local go_sem] max2_int min2_int max_two min_two max_three min_three max_four min_four   -- for this text's walks alone
set_option linter.unnecessarySimpa false
attribute [local go_sem] min2_str max2_str leq_str gtr_str geq_str
set_option linter.unusedVariables false
set_option linter.unusedSimpArgs false

/-! ### version_Level: function 16 -/
def version_Level.l0 : Nat → Int → List (S35) → List (S35) → Int → Int → Option ((List (S35)))
  | 0, _, _, _, _, _ => none
  | k + 1, x1, x5, x9, x10, x11 => if x11 < x10 then (if 0 ≤ x11 then (if x11 < (x9.length : Int) then (if ((rd_T35 x9 x11).f1) = x1 then (if x5.length < 2513169434916 then (version_Level.l0 k x1 (x5 ++ [(⟨(rd_T35 x9 x11).f0, (rd_T35 x9 x11).f1, (rd_T35 x9 x11).f2, (rd_T35 x9 x11).f3, (rd_T35 x9 x11).f4⟩ : S35)]) x9 x10 (wrap64 (x11 + 1))) else (none)) else (version_Level.l0 k x1 x5 x9 x10 (wrap64 (x11 + 1)))) else (none)) else (none)) else (some x5)
def version_Level.f (k : Nat) (l0_0 : List (S35)) (l0_1 : List Int) (a0_2 : Int) (a1 : Int) : Option ((List (S35))) := version_Level.l0 k a1 ([] : List (S35)) l0_0 (l0_0.length : Int) 0
theorem version_Level.mono_l : ∀ k, (∀ y0 y1 y2 y3 y4, LeO (version_Level.l0 k y0 y1 y2 y3 y4) (version_Level.l0 (k + 1) y0 y1 y2 y3 y4))
  | 0 => fun _ _ _ _ _ r h => by simp [version_Level.l0] at h
  | k + 1 => by
    have ih0 := version_Level.mono_l k
    · intro y0 y1 y2 y3 y4
      unfold version_Level.l0
      repeat' first
      | (with_reducible exact ih0 _ _ _ _ _)
      | (with_reducible exact LeO.refl _)
      | (with_reducible exact LeO.none _)
      | (with_reducible refine LeO.ite ?_ ?_)
      | (with_reducible refine LeO.bind ?_ (fun _ => ?_))
      | exact ih0 _ _ _ _ _
      | exact LeO.none _
      | refine LeO.ite ?_ ?_
      | refine LeO.bind ?_ (fun _ => ?_)
theorem version_Level.mono : ∀ a0 a1 a2 a3 k, LeO (version_Level.f k a0 a1 a2 a3) (version_Level.f (k + 1) a0 a1 a2 a3) := by
  intro a0 a1 a2 a3 k
  have ih0 := version_Level.mono_l k
  unfold version_Level.f
  repeat' first
      | (with_reducible exact ih0 _ _ _ _ _)
      | (with_reducible exact LeO.refl _)
      | (with_reducible exact LeO.none _)
      | (with_reducible refine LeO.ite ?_ ?_)
      | (with_reducible refine LeO.bind ?_ (fun _ => ?_))
      | exact ih0 _ _ _ _ _
      | exact LeO.none _
      | refine LeO.ite ?_ ?_
      | refine LeO.bind ?_ (fun _ => ?_)
set_option maxHeartbeats 8000000 in
set_option maxRecDepth 100000 in
theorem version_Level.calls (k : Nat) (A0_0 : Option Addr) (c0_0 : Nat) (l0_0 : List (S35)) (A0_1 : Option Addr) (c0_1 : Nat) (l0_1 : List Int) (a0_2 : Int) (a1 : Int) (r : List (S35)) (w : World) (hr0_0 : Kd.C k35 w A0_0 l0_0.length l0_0) (hc0_0 : l0_0.length ≤ c0_0) (hr0_1 : Kd.C (Kd.int .i64) w A0_1 l0_1.length l0_1) (hc0_1 : l0_1.length ≤ c0_1) (h : version_Level.f k l0_0 l0_1 a0_2 a1 = some r) :
    Calls Try.prog 16 #[.agg #[.slice A0_0 l0_0.length c0_0, .slice A0_1 l0_1.length c0_1, .int .i64 a0_2], .int .i64 a1] w fun e w' => ∃ v0_ : Value, e = .returned (v0_) ∧ Kd.R k35 35 w' w.heap.size (fun _ => True) v0_ r ∧ Below w.heap.size w w' := by
  have hu25 := Try.underlying25
  have hu35 := Try.underlying35
  have HR0_0 := Aside0.mk hr0_0
  have HC0_0 := Aside0.mk hc0_0
  clear hr0_0 hc0_0
  have HR0_1 := Aside0.mk hr0_1
  have HC0_1 := Aside0.mk hc0_1
  clear hr0_1 hc0_1
  have HB := Aside0.mk (Below.refl w.heap.size w)
  have H : (version_Level.l0 k a1 ([] : List (S35)) l0_0 (l0_0.length : Int) 0) = some r := h
  clear h
  have H' := Aside0.mk H
  clear H
  go_enter Try.func16, Try.ntmps16
  go_wp2_with (first | ((with_reducible refine gate_dst (N := 2) rfl ?_); refine box_event ?hg (N := 2) ?hd (cs := #[.slice A0_0 l0_0.length c0_0, .slice A0_1 l0_1.length c0_1, .int .i64 a0_2]) (t := 25) ?hr ?_; (case hd => rfl); (case hg => rfl); (case hr => first | (go_simp; done) | (go_simp; rfl)); intro gb399 hg w3 hbox hb; have n0_ := Aside0.mk (below_step (by repeat (first | (with_reducible first | exact HB.out | apply below_alloc | apply pw_below_drewN | apply below_drew1) | exact HB.out)) hb); have n1_ := Aside0.mk (hbox); have n2_ := Aside0.mk ((by rw [hg]; exact (below_size (by repeat (first | (with_reducible first | exact HB.out | apply below_alloc | apply pw_below_drewN | apply below_drew1) | exact HB.out))) : w.heap.size ≤ gb399)); have n3_ := Aside0.mk ((by rw [hg]; exact (below_size (by repeat (first | (with_reducible first | exact HB.out | apply below_alloc | apply pw_below_drewN | apply below_drew1) | exact HB.out))) : w.heap.size ≤ gb399)); clear HB; have HB := n0_; have BK399 := n1_; have GW399 := n2_; have GE399 := n3_; clear n0_ n1_ n2_ n3_; clear hb hbox hg; have hcz4_0 : w3.cell? ⟨gb399, 0, none⟩ = some (.slice A0_0 l0_0.length c0_0) := (blk_cell BK399.out 0).trans rfl; have hcz4_1 : w3.cell? ⟨gb399, 1, none⟩ = some (.slice A0_1 l0_1.length c0_1) := (blk_cell BK399.out 1).trans rfl; have hcz4_2 : w3.cell? ⟨gb399, 2, none⟩ = some (.int .i64 a0_2) := (blk_cell BK399.out 2).trans rfl; have hfz4_0 := blk_frozen BK399.out 0; have hfz4_1 := blk_frozen BK399.out 1; have hfz4_2 := blk_frozen BK399.out 2))
  go_loopg [5, 11] k (fun kq v5 v11 w' => ∃ (x5_1 : List (S35)) (x11_1 : Int), v11 = .int .i64 x11_1 ∧ Aside0 (version_Level.l0 kq a1 x5_1 l0_0 (l0_0.length : Int) x11_1 = some r) ∧ Aside0 (kq ≤ k) ∧ Aside0 (Kd.R k35 35 w' w.heap.size (fun _ => True) v5 x5_1) ∧ Aside0 (w'.heap[gb399]? = some (.cells #[(.slice A0_0 l0_0.length c0_0), (.slice A0_1 l0_1.length c0_1), .int .i64 a0_2] 25 (0, 0))) ∧ Aside0 (Below w.heap.size w w'))
  case atStart => exact ⟨(([] : List (S35))), (0), (by first | rfl | (simp; done) | (simp [*]; done)), H', ⟨Nat.le_refl _⟩, ⟨by first | exact Kd.R_nil _ _ _ _ _ | exact Kd.N_nil _ _ _ _ _ | exact Kd.V_nil _ _ _ _ _ | exact Kd.Q_nil _ _ _ _ _ | exact Kd.S_nil _ _ _ _ _⟩, ⟨by (with_reducible repeat (first | refine blk_drewN ?_ _ | refine blk_drew ?_ | refine blk_alloc ?_ _)); exact BK399.out⟩, ⟨by repeat (first | (with_reducible first | exact HB.out | apply below_alloc | apply pw_below_drewN | apply below_drew1 | refine below_set ?_ GE399.out) | exact HB.out)⟩⟩
  case round =>
    clear H'
    try clear c1
    try clear p2
    try clear hcz4_0
    try clear hcz4_1
    try clear hcz4_2
    try clear hfz4_0
    try clear hfz4_1
    try clear hfz4_2
    obtain ⟨x5_1, x11_1, rfl, HA, HK1, HO_5, BK399, HB⟩ := hrel
    cases gk with
    | zero => exact absurd HA.out (by simp [version_Level.l0])
    | succ k1 =>
      have H := HA.out
      clear HA
      simp only [version_Level.l0] at H
      by_cases c5 : x11_1 < (l0_0.length : Int)
      · rw [if_pos c5] at H
        have c5b0 : decide (x11_1 < (l0_0.length : Int)) = true := decide_eq_true c5
        clear c5
        by_cases c6 : 0 ≤ x11_1
        · rw [if_pos c6] at H
          have c6b0 : decide (0 ≤ x11_1) = true := decide_eq_true c6
          clear c6
          by_cases c7 : x11_1 < (l0_0.length : Int)
          · rw [if_pos c7] at H
            have c7b0 : decide (x11_1 < (l0_0.length : Int)) = true := decide_eq_true c7
            clear c7
            by_cases c8 : ((rd_T35 l0_0 x11_1).f1) = a1
            · rw [if_pos c8] at H
              have c8b0 : (((rd_T35 l0_0 x11_1).f1) == a1) = true := beq_iff_eq.mpr c8
              have c8b1 : (((rd_T35 l0_0 x11_1).f1) != a1) = false := bne_eq_false_iff_eq.mpr c8
              clear c8
              by_cases c9 : x5_1.length < 2513169434916
              · rw [if_pos c9] at H
                have LMc9 := Aside0.mk c9
                clear c9
                obtain ⟨y402, hy402⟩ : ∃ y_ : List (S35), y_ = (x5_1 ++ [(⟨(rd_T35 l0_0 x11_1).f0, (rd_T35 l0_0 x11_1).f1, (rd_T35 l0_0 x11_1).f2, (rd_T35 l0_0 x11_1).f3, (rd_T35 l0_0 x11_1).f4⟩ : S35)]) := ⟨_, rfl⟩
                replace H : (version_Level.l0 k1 a1 y402 l0_0 (l0_0.length : Int) (wrap64 (x11_1 + 1))) = some r := by first | (rw [hy402]; with_reducible exact H) | (have H2_ := (Option.bind_some _ _).symm.trans H; rw [hy402]; with_reducible exact H2_) | (have H2_ := (Option.bind_some _ _).symm.trans H; with_reducible exact H2_) | with_reducible exact H | (rw [hy402]; exact H) | exact H
                have Ny402 := Aside0.mk hy402
                clear hy402
                have H' := Aside0.mk H
                clear H
                have p400 : 0 ≤ (x11_1 : Int) := of_decide_eq_true (by first | (with_reducible assumption) | assumption)
                have q400 : x11_1 < (l0_0.length : Int) := of_decide_eq_true (by first | (with_reducible assumption) | assumption)
                obtain ⟨ad400, e400, hx400_0, hx400_1, hx400_2, hx400_3, hx400_4⟩ := at_T35 HR0_0.out x11_1 p400 q400
                cases e400
                replace hx400_0 := (HB.out.cell (World.block_lt_of_cell? w _ hx400_0)).trans hx400_0
                replace hx400_1 := (HB.out.cell (World.block_lt_of_cell? w _ hx400_1)).trans hx400_1
                replace hx400_2 := (HB.out.cell (World.block_lt_of_cell? w _ hx400_2)).trans hx400_2
                replace hx400_3 := (HB.out.cell (World.block_lt_of_cell? w _ hx400_3)).trans hx400_3
                replace hx400_4 := (HB.out.cell (World.block_lt_of_cell? w _ hx400_4)).trans hx400_4
                replace p400 := eq_true p400
                replace q400 := eq_true q400
                go_wp2_with (first | ((with_reducible refine gate_dst (N := 7) rfl ?_); refine box_event ?hg (N := 7) ?hd (cs := #[.int .i64 0, .int .i64 0, .string (⟨#[]⟩ : ByteArray), .string (⟨#[]⟩ : ByteArray), .int .i64 0]) (t := 35) ?hr ?_; (case hd => rfl); (case hg => rfl); (case hr => first | (go_simp; done) | (go_simp; rfl)); intro gb401 hg w10 hbox hb; have n0_ := Aside0.mk (Kd.R_below (Kd.R_elderB (by (with_reducible repeat (first | apply Kd.R_alloc | apply Kd.R_drewN | apply Kd.R_drew)); exact HO_5.out) gb401 (Nat.le_of_eq hg.symm)) hb); have n1_ := Aside0.mk (blk_below (g := gb399) (o := .cells #[.slice (some ad400) l0_0.length c0_0, .slice A0_1 l0_1.length c0_1, .int .i64 a0_2] 25 (0, 0)) (by (with_reducible repeat (first | refine blk_drewN ?_ _ | refine blk_drew ?_ | refine blk_alloc ?_ _)); exact BK399.out) hb); have n2_ := Aside0.mk (below_step (by repeat (first | (with_reducible first | exact HB.out | apply below_alloc | apply pw_below_drewN | apply below_drew1 | refine below_set ?_ GE399.out) | exact HB.out)) hb); have n3_ := Aside0.mk (hbox); have n4_ := Aside0.mk ((by rw [hg]; exact (below_size (by repeat (first | (with_reducible first | exact HB.out | apply below_alloc | apply pw_below_drewN | apply below_drew1 | refine below_set ?_ GE399.out) | exact HB.out))) : w.heap.size ≤ gb401)); have n5_ := Aside0.mk ((by rw [hg]; exact (below_size (by repeat (first | (with_reducible first | exact HB.out | apply below_alloc | apply pw_below_drewN | apply below_drew1 | refine below_set ?_ GE399.out) | exact HB.out))) : w.heap.size ≤ gb401)); have n6_ := Aside0.mk ((by rw [hg]; exact Nat.ne_of_lt (blk_lt (g := gb399) (o := .cells #[.slice (some ad400) l0_0.length c0_0, .slice A0_1 l0_1.length c0_1, .int .i64 a0_2] 25 (0, 0)) (by (with_reducible repeat (first | refine blk_drewN ?_ _ | refine blk_drew ?_ | refine blk_alloc ?_ _)); exact BK399.out)) : gb399 ≠ gb401)); have n7_ := Aside0.mk ((by rw [hg]; exact Nat.ne_of_gt (blk_lt (g := gb399) (o := .cells #[.slice (some ad400) l0_0.length c0_0, .slice A0_1 l0_1.length c0_1, .int .i64 a0_2] 25 (0, 0)) (by (with_reducible repeat (first | refine blk_drewN ?_ _ | refine blk_drew ?_ | refine blk_alloc ?_ _)); exact BK399.out)) : gb401 ≠ gb399)); clear HO_5; clear BK399; clear HB; have HO_5 := n0_; have BK399 := n1_; have HB := n2_; have BK401 := n3_; have GW401 := n4_; have GE401 := n5_; have NB399_401 := n6_; have NB401_399 := n7_; clear n0_ n1_ n2_ n3_ n4_ n5_ n6_ n7_; clear hb hbox hg; have hnb11 := NB401_399.out; have hnc11 := NB399_401.out; have hcz12_0 : w10.cell? ⟨gb401, 0, none⟩ = some (.int .i64 0) := (blk_cell BK401.out 0).trans rfl; have hcz12_1 : w10.cell? ⟨gb401, 1, none⟩ = some (.int .i64 0) := (blk_cell BK401.out 1).trans rfl; have hcz12_2 : w10.cell? ⟨gb401, 2, none⟩ = some (.string (⟨#[]⟩ : ByteArray)) := (blk_cell BK401.out 2).trans rfl; have hcz12_3 : w10.cell? ⟨gb401, 3, none⟩ = some (.string (⟨#[]⟩ : ByteArray)) := (blk_cell BK401.out 3).trans rfl; have hcz12_4 : w10.cell? ⟨gb401, 4, none⟩ = some (.int .i64 0) := (blk_cell BK401.out 4).trans rfl; have hfz12_0 := blk_frozen BK401.out 0; have hfz12_1 := blk_frozen BK401.out 1; have hfz12_2 := blk_frozen BK401.out 2; have hfz12_3 := blk_frozen BK401.out 3; have hfz12_4 := blk_frozen BK401.out 4) | ((with_reducible refine gate_builtin (b := .append) (xs := #[.tmp 19, .tmp 21]) rfl ?_); at_builtin; refine Kd.R_append k35 (w0 := w) w.heap.size rfl (.tmp 19) (.tmp 21) 22 35 (.agg #[(.int .i64 0), (.int .i64 0), (.string ⟨#[]⟩), (.string ⟨#[]⟩), (.int .i64 0)]) 56 rfl Try.underlying22 info35 rfl (by decide) (by omega) u5 x5_1 (⟨(rd_T35 l0_0 x11_1).f0, (rd_T35 l0_0 x11_1).f1, (rd_T35 l0_0 x11_1).f2, (rd_T35 l0_0 x11_1).f3, (rd_T35 l0_0 x11_1).f4⟩ : S35) [.int .i64 ((rd_T35 l0_0 x11_1).f0), .int .i64 ((rd_T35 l0_0 x11_1).f1), .string ((rd_T35 l0_0 x11_1).f2), .string ((rd_T35 l0_0 x11_1).f3), .int .i64 ((rd_T35 l0_0 x11_1).f4)] (fun k_ => k_ ≠ gb401) (fun _ => False) rfl (by first | (go_simp; done) | (go_simp; rfl)) ?aP (fun _ hk => hk.elim) ?aF ?aO ?aB ?aS ?aL ?_; (case aP => exact k35_mkM _ _ _ (⟨(rd_T35 l0_0 x11_1).f0, (rd_T35 l0_0 x11_1).f1, (rd_T35 l0_0 x11_1).f2, (rd_T35 l0_0 x11_1).f3, (rd_T35 l0_0 x11_1).f4⟩ : S35)); (case aB => exact (by repeat (first | (with_reducible first | exact HB.out | apply below_alloc | apply pw_below_drewN | apply below_drew1 | refine below_set ?_ GE399.out | refine below_set ?_ GE401.out) | exact HB.out))); (case aF => exact (fun k_ hk => Kd.freshB (g := gb401) (o := .cells #[.int .i64 ((rd_T35 l0_0 x11_1).f0), .int .i64 ((rd_T35 l0_0 x11_1).f1), .string ((rd_T35 l0_0 x11_1).f2), .string ((rd_T35 l0_0 x11_1).f3), .int .i64 ((rd_T35 l0_0 x11_1).f4)] 35 (0, 0)) (by (with_reducible repeat (first | refine blk_drewN ?_ _ | refine blk_drew ?_ | refine blk_alloc ?_ _)); refine blk_put (cs := #[.int .i64 ((rd_T35 l0_0 x11_1).f0), .int .i64 ((rd_T35 l0_0 x11_1).f1), .string ((rd_T35 l0_0 x11_1).f2), .string ((rd_T35 l0_0 x11_1).f3), .int .i64 0]) ?_ 4 _ rfl; (with_reducible repeat (first | refine blk_drewN ?_ _ | refine blk_drew ?_ | refine blk_alloc ?_ _)); refine blk_put (cs := #[.int .i64 ((rd_T35 l0_0 x11_1).f0), .int .i64 ((rd_T35 l0_0 x11_1).f1), .string ((rd_T35 l0_0 x11_1).f2), .string (⟨#[]⟩ : ByteArray), .int .i64 0]) ?_ 3 _ rfl; (with_reducible repeat (first | refine blk_drewN ?_ _ | refine blk_drew ?_ | refine blk_alloc ?_ _)); refine blk_put (cs := #[.int .i64 ((rd_T35 l0_0 x11_1).f0), .int .i64 ((rd_T35 l0_0 x11_1).f1), .string (⟨#[]⟩ : ByteArray), .string (⟨#[]⟩ : ByteArray), .int .i64 0]) ?_ 2 _ rfl; (with_reducible repeat (first | refine blk_drewN ?_ _ | refine blk_drew ?_ | refine blk_alloc ?_ _)); refine blk_put (cs := #[.int .i64 ((rd_T35 l0_0 x11_1).f0), .int .i64 0, .string (⟨#[]⟩ : ByteArray), .string (⟨#[]⟩ : ByteArray), .int .i64 0]) ?_ 1 _ rfl; (with_reducible repeat (first | refine blk_drewN ?_ _ | refine blk_drew ?_ | refine blk_alloc ?_ _)); refine blk_put (cs := #[.int .i64 0, .int .i64 0, .string (⟨#[]⟩ : ByteArray), .string (⟨#[]⟩ : ByteArray), .int .i64 0]) ?_ 0 _ rfl; (with_reducible repeat (first | refine blk_drewN ?_ _ | refine blk_drew ?_ | refine blk_alloc ?_ _)); exact BK401.out) k_ hk)); (case aO => exact (by (with_reducible repeat (first | apply Kd.R_alloc | apply Kd.R_drewN | apply Kd.R_drew)); exact Kd.R_mono (Kd.R_far (p := ⟨gb401, 4, none⟩) (Kd.R_far (p := ⟨gb401, 3, none⟩) (Kd.R_far (p := ⟨gb401, 2, none⟩) (Kd.R_far (p := ⟨gb401, 1, none⟩) (Kd.R_far (p := ⟨gb401, 0, none⟩) (Kd.R_mono HO_5.out (fun k_ hk => (⟨hk, hk.2⟩ : _ ∧ k_ ≠ gb401))) (fun _ hk => hk.2) (.int .i64 ((rd_T35 l0_0 x11_1).f0))) (fun _ hk => hk.2) (.int .i64 ((rd_T35 l0_0 x11_1).f1))) (fun _ hk => hk.2) (.string ((rd_T35 l0_0 x11_1).f2))) (fun _ hk => hk.2) (.string ((rd_T35 l0_0 x11_1).f3))) (fun _ hk => hk.2) (.int .i64 ((rd_T35 l0_0 x11_1).f4))) (fun _ hk => hk.1.2))); (case aS => exact (below_size (by repeat (first | (with_reducible first | exact HB.out | apply below_alloc | apply pw_below_drewN | apply below_drew1 | refine below_set ?_ GE399.out | refine below_set ?_ GE401.out) | exact HB.out)))); (case aL => have := LMc9.out; omega); intro v403 w13 ho hb hg hat; rw [← Ny402.out] at ho; have n0_ := Aside0.mk (blk_grown (g := gb399) (o := .cells #[.slice (some ad400) l0_0.length c0_0, .slice A0_1 l0_1.length c0_1, .int .i64 a0_2] 25 (0, 0)) (by (with_reducible repeat (first | refine blk_drewN ?_ _ | refine blk_drew ?_ | refine blk_alloc ?_ _)); refine blk_far ?_ NB399_401.out _; (with_reducible repeat (first | refine blk_drewN ?_ _ | refine blk_drew ?_ | refine blk_alloc ?_ _)); refine blk_far ?_ NB399_401.out _; (with_reducible repeat (first | refine blk_drewN ?_ _ | refine blk_drew ?_ | refine blk_alloc ?_ _)); refine blk_far ?_ NB399_401.out _; (with_reducible repeat (first | refine blk_drewN ?_ _ | refine blk_drew ?_ | refine blk_alloc ?_ _)); refine blk_far ?_ NB399_401.out _; (with_reducible repeat (first | refine blk_drewN ?_ _ | refine blk_drew ?_ | refine blk_alloc ?_ _)); refine blk_far ?_ NB399_401.out _; (with_reducible repeat (first | refine blk_drewN ?_ _ | refine blk_drew ?_ | refine blk_alloc ?_ _)); exact BK399.out) hg (Kd.R_ne HO_5.out BK399.out (by decide))); have n1_ := Aside0.mk (blk_grown (g := gb401) (o := .cells #[.int .i64 ((rd_T35 l0_0 x11_1).f0), .int .i64 ((rd_T35 l0_0 x11_1).f1), .string ((rd_T35 l0_0 x11_1).f2), .string ((rd_T35 l0_0 x11_1).f3), .int .i64 ((rd_T35 l0_0 x11_1).f4)] 35 (0, 0)) (by (with_reducible repeat (first | refine blk_drewN ?_ _ | refine blk_drew ?_ | refine blk_alloc ?_ _)); refine blk_put (cs := #[.int .i64 ((rd_T35 l0_0 x11_1).f0), .int .i64 ((rd_T35 l0_0 x11_1).f1), .string ((rd_T35 l0_0 x11_1).f2), .string ((rd_T35 l0_0 x11_1).f3), .int .i64 0]) ?_ 4 _ rfl; (with_reducible repeat (first | refine blk_drewN ?_ _ | refine blk_drew ?_ | refine blk_alloc ?_ _)); refine blk_put (cs := #[.int .i64 ((rd_T35 l0_0 x11_1).f0), .int .i64 ((rd_T35 l0_0 x11_1).f1), .string ((rd_T35 l0_0 x11_1).f2), .string (⟨#[]⟩ : ByteArray), .int .i64 0]) ?_ 3 _ rfl; (with_reducible repeat (first | refine blk_drewN ?_ _ | refine blk_drew ?_ | refine blk_alloc ?_ _)); refine blk_put (cs := #[.int .i64 ((rd_T35 l0_0 x11_1).f0), .int .i64 ((rd_T35 l0_0 x11_1).f1), .string (⟨#[]⟩ : ByteArray), .string (⟨#[]⟩ : ByteArray), .int .i64 0]) ?_ 2 _ rfl; (with_reducible repeat (first | refine blk_drewN ?_ _ | refine blk_drew ?_ | refine blk_alloc ?_ _)); refine blk_put (cs := #[.int .i64 ((rd_T35 l0_0 x11_1).f0), .int .i64 0, .string (⟨#[]⟩ : ByteArray), .string (⟨#[]⟩ : ByteArray), .int .i64 0]) ?_ 1 _ rfl; (with_reducible repeat (first | refine blk_drewN ?_ _ | refine blk_drew ?_ | refine blk_alloc ?_ _)); refine blk_put (cs := #[.int .i64 0, .int .i64 0, .string (⟨#[]⟩ : ByteArray), .string (⟨#[]⟩ : ByteArray), .int .i64 0]) ?_ 0 _ rfl; (with_reducible repeat (first | refine blk_drewN ?_ _ | refine blk_drew ?_ | refine blk_alloc ?_ _)); exact BK401.out) hg (Kd.R_away HO_5.out (fun _ hk => hk.2))); have n2_ := Aside0.mk (hb); have n3_ := Aside0.mk (ho); clear BK399; clear BK401; clear HB; clear HO_5; have BK399 := n0_; have BK401 := n1_; have HB := n2_; have HO404 := n3_; clear n0_ n1_ n2_ n3_; clear ho hb hg hat))
                go_roundg k1
                case measure => have := HK1.out; omega
                case rel => exact ⟨(y402), (wrap64 (x11_1 + 1)), (by first | rfl | (simp; done) | (simp [*]; done)), H', ⟨by have := HK1.out; omega⟩, ⟨by (with_reducible repeat (first | apply Kd.R_alloc | apply Kd.R_drewN | apply Kd.R_drew)); exact Kd.R_mono HO404.out (fun _ hk => trivial)⟩, ⟨by (with_reducible repeat (first | refine blk_drewN ?_ _ | refine blk_drew ?_ | refine blk_alloc ?_ _)); exact BK399.out⟩, ⟨by repeat (first | (with_reducible first | exact HB.out | apply below_alloc | apply pw_below_drewN | apply below_drew1 | refine below_set ?_ GE399.out | refine below_set ?_ GE401.out) | exact HB.out)⟩⟩
              · rw [if_neg c9] at H
                exact absurd H (by simp)
            · rw [if_neg c8] at H
              have c8b0 : (((rd_T35 l0_0 x11_1).f1) == a1) = false := beq_eq_false_iff_ne.mpr c8
              have c8b1 : (((rd_T35 l0_0 x11_1).f1) != a1) = true := bne_iff_ne.mpr c8
              have H' := Aside0.mk H
              clear H
              have p400 : 0 ≤ (x11_1 : Int) := of_decide_eq_true (by first | (with_reducible assumption) | assumption)
              have q400 : x11_1 < (l0_0.length : Int) := of_decide_eq_true (by first | (with_reducible assumption) | assumption)
              obtain ⟨ad400, e400, hx400_0, hx400_1, hx400_2, hx400_3, hx400_4⟩ := at_T35 HR0_0.out x11_1 p400 q400
              cases e400
              replace hx400_0 := (HB.out.cell (World.block_lt_of_cell? w _ hx400_0)).trans hx400_0
              replace hx400_1 := (HB.out.cell (World.block_lt_of_cell? w _ hx400_1)).trans hx400_1
              replace hx400_2 := (HB.out.cell (World.block_lt_of_cell? w _ hx400_2)).trans hx400_2
              replace hx400_3 := (HB.out.cell (World.block_lt_of_cell? w _ hx400_3)).trans hx400_3
              replace hx400_4 := (HB.out.cell (World.block_lt_of_cell? w _ hx400_4)).trans hx400_4
              replace p400 := eq_true p400
              replace q400 := eq_true q400
              go_wp2_with (first | ((with_reducible refine gate_dst (N := 7) rfl ?_); refine box_event ?hg (N := 7) ?hd (cs := #[.int .i64 0, .int .i64 0, .string (⟨#[]⟩ : ByteArray), .string (⟨#[]⟩ : ByteArray), .int .i64 0]) (t := 35) ?hr ?_; (case hd => rfl); (case hg => rfl); (case hr => first | (go_simp; done) | (go_simp; rfl)); intro gb401 hg w14 hbox hb; have n0_ := Aside0.mk (Kd.R_below (Kd.R_elderB (by (with_reducible repeat (first | apply Kd.R_alloc | apply Kd.R_drewN | apply Kd.R_drew)); exact HO_5.out) gb401 (Nat.le_of_eq hg.symm)) hb); have n1_ := Aside0.mk (blk_below (g := gb399) (o := .cells #[.slice (some ad400) l0_0.length c0_0, .slice A0_1 l0_1.length c0_1, .int .i64 a0_2] 25 (0, 0)) (by (with_reducible repeat (first | refine blk_drewN ?_ _ | refine blk_drew ?_ | refine blk_alloc ?_ _)); exact BK399.out) hb); have n2_ := Aside0.mk (below_step (by repeat (first | (with_reducible first | exact HB.out | apply below_alloc | apply pw_below_drewN | apply below_drew1 | refine below_set ?_ GE399.out) | exact HB.out)) hb); have n3_ := Aside0.mk (hbox); have n4_ := Aside0.mk ((by rw [hg]; exact (below_size (by repeat (first | (with_reducible first | exact HB.out | apply below_alloc | apply pw_below_drewN | apply below_drew1 | refine below_set ?_ GE399.out) | exact HB.out))) : w.heap.size ≤ gb401)); have n5_ := Aside0.mk ((by rw [hg]; exact (below_size (by repeat (first | (with_reducible first | exact HB.out | apply below_alloc | apply pw_below_drewN | apply below_drew1 | refine below_set ?_ GE399.out) | exact HB.out))) : w.heap.size ≤ gb401)); have n6_ := Aside0.mk ((by rw [hg]; exact Nat.ne_of_lt (blk_lt (g := gb399) (o := .cells #[.slice (some ad400) l0_0.length c0_0, .slice A0_1 l0_1.length c0_1, .int .i64 a0_2] 25 (0, 0)) (by (with_reducible repeat (first | refine blk_drewN ?_ _ | refine blk_drew ?_ | refine blk_alloc ?_ _)); exact BK399.out)) : gb399 ≠ gb401)); have n7_ := Aside0.mk ((by rw [hg]; exact Nat.ne_of_gt (blk_lt (g := gb399) (o := .cells #[.slice (some ad400) l0_0.length c0_0, .slice A0_1 l0_1.length c0_1, .int .i64 a0_2] 25 (0, 0)) (by (with_reducible repeat (first | refine blk_drewN ?_ _ | refine blk_drew ?_ | refine blk_alloc ?_ _)); exact BK399.out)) : gb401 ≠ gb399)); clear HO_5; clear BK399; clear HB; have HO_5 := n0_; have BK399 := n1_; have HB := n2_; have BK401 := n3_; have GW401 := n4_; have GE401 := n5_; have NB399_401 := n6_; have NB401_399 := n7_; clear n0_ n1_ n2_ n3_ n4_ n5_ n6_ n7_; clear hb hbox hg; have hnb15 := NB401_399.out; have hnc15 := NB399_401.out; have hcz16_0 : w14.cell? ⟨gb401, 0, none⟩ = some (.int .i64 0) := (blk_cell BK401.out 0).trans rfl; have hcz16_1 : w14.cell? ⟨gb401, 1, none⟩ = some (.int .i64 0) := (blk_cell BK401.out 1).trans rfl; have hcz16_2 : w14.cell? ⟨gb401, 2, none⟩ = some (.string (⟨#[]⟩ : ByteArray)) := (blk_cell BK401.out 2).trans rfl; have hcz16_3 : w14.cell? ⟨gb401, 3, none⟩ = some (.string (⟨#[]⟩ : ByteArray)) := (blk_cell BK401.out 3).trans rfl; have hcz16_4 : w14.cell? ⟨gb401, 4, none⟩ = some (.int .i64 0) := (blk_cell BK401.out 4).trans rfl; have hfz16_0 := blk_frozen BK401.out 0; have hfz16_1 := blk_frozen BK401.out 1; have hfz16_2 := blk_frozen BK401.out 2; have hfz16_3 := blk_frozen BK401.out 3; have hfz16_4 := blk_frozen BK401.out 4))
              go_roundg k1
              case measure => have := HK1.out; omega
              case rel => exact ⟨(x5_1), (wrap64 (x11_1 + 1)), (by first | rfl | (simp; done) | (simp [*]; done)), H', ⟨by have := HK1.out; omega⟩, ⟨by (with_reducible repeat (first | apply Kd.R_alloc | apply Kd.R_drewN | apply Kd.R_drew)); exact Kd.R_mono (Kd.R_far (p := ⟨gb401, 4, none⟩) (Kd.R_far (p := ⟨gb401, 3, none⟩) (Kd.R_far (p := ⟨gb401, 2, none⟩) (Kd.R_far (p := ⟨gb401, 1, none⟩) (Kd.R_far (p := ⟨gb401, 0, none⟩) (Kd.R_mono HO_5.out (fun k_ hk => (⟨hk, hk.2⟩ : _ ∧ k_ ≠ gb401))) (fun _ hk => hk.2) (.int .i64 ((rd_T35 l0_0 x11_1).f0))) (fun _ hk => hk.2) (.int .i64 ((rd_T35 l0_0 x11_1).f1))) (fun _ hk => hk.2) (.string ((rd_T35 l0_0 x11_1).f2))) (fun _ hk => hk.2) (.string ((rd_T35 l0_0 x11_1).f3))) (fun _ hk => hk.2) (.int .i64 ((rd_T35 l0_0 x11_1).f4))) (fun _ hk => trivial)⟩, ⟨by (with_reducible repeat (first | refine blk_drewN ?_ _ | refine blk_drew ?_ | refine blk_alloc ?_ _)); refine blk_far ?_ NB399_401.out _; (with_reducible repeat (first | refine blk_drewN ?_ _ | refine blk_drew ?_ | refine blk_alloc ?_ _)); refine blk_far ?_ NB399_401.out _; (with_reducible repeat (first | refine blk_drewN ?_ _ | refine blk_drew ?_ | refine blk_alloc ?_ _)); refine blk_far ?_ NB399_401.out _; (with_reducible repeat (first | refine blk_drewN ?_ _ | refine blk_drew ?_ | refine blk_alloc ?_ _)); refine blk_far ?_ NB399_401.out _; (with_reducible repeat (first | refine blk_drewN ?_ _ | refine blk_drew ?_ | refine blk_alloc ?_ _)); refine blk_far ?_ NB399_401.out _; (with_reducible repeat (first | refine blk_drewN ?_ _ | refine blk_drew ?_ | refine blk_alloc ?_ _)); exact BK399.out⟩, ⟨by repeat (first | (with_reducible first | exact HB.out | apply below_alloc | apply pw_below_drewN | apply below_drew1 | refine below_set ?_ GE399.out | refine below_set ?_ GE401.out) | exact HB.out)⟩⟩
          · rw [if_neg c7] at H
            exact absurd H (by simp)
        · rw [if_neg c6] at H
          exact absurd H (by simp)
      · rw [if_neg c5] at H
        have c5b0 : decide (x11_1 < (l0_0.length : Int)) = false := decide_eq_false c5
        clear c5
        obtain rfl := Option.some.inj H
        go_wp2
        go_ret
        exact ⟨_, by first | rfl | (simp [errW_none, errW_some] <;> rfl) | (simp [*, errW_none, errW_some] <;> rfl), by (with_reducible repeat (first | apply Kd.R_alloc | apply Kd.R_drewN | apply Kd.R_drew)); exact HO_5.out, by repeat (first | (with_reducible first | exact HB.out | apply below_alloc | apply pw_below_drewN | apply below_drew1 | refine below_set ?_ GE399.out) | exact HB.out)⟩

end Go.Proofs.Ytokimlfagpddlaa.PD

-- printed by gprint.py (own tool) over the kit's print
namespace Go.Proofs.Ytokimlfagpddlaa.PD
open Go.RowKit Go.Proofs.Ytokimlfagpddlaa Go.Proofs.YtokimlfagpddlaaW.PrintWords Go.Proofs.YtokimlfagpddlaaW.PrintLast Go.Proofs.YtokimlfagpddlaaW.PrintMore
attribute [local go_sem] max2_int min2_int max_two min_two max_three min_three max_four min_four   -- for this text's walks alone
set_option linter.unnecessarySimpa false
attribute [local go_sem] min2_str max2_str leq_str gtr_str geq_str
set_option linter.unusedVariables false
set_option linter.unusedSimpArgs false

/-! ### palinodelaw14_VersionLive: function 5 -/
mutual
def palinodelaw14_VersionLive.l0 : Nat → Bool → List Int → Bool → Int → List (S35) → List Int → Int → Option (Bool)
  | 0, _, _, _, _, _, _, _ => none
  | k + 1, x3, x4, x5, x6, x406000, x406001, x406002 => if x6 < (x4.length : Int) then (if 0 ≤ x6 then (if 0 ≤ (wrap64 (x6 - 1)) then (if (wrap64 (x6 - 1)) < (x4.length : Int) then (if (rd x4 x6) < (rd x4 (wrap64 (x6 - 1))) then (some false) else (if x5 = true then (if (rd x4 x6) = (rd x4 (wrap64 (x6 - 1))) then (some false) else (palinodelaw14_VersionLive.l0 k x3 x4 x5 (wrap64 (x6 + 1)) x406000 x406001 x406002)) else (palinodelaw14_VersionLive.l0 k x3 x4 x5 (wrap64 (x6 + 1)) x406000 x406001 x406002))) else (none)) else (none)) else (none)) else (palinodelaw14_VersionLive.l1 k x3 x5 0 0 x406000 x406001 x406002)
def palinodelaw14_VersionLive.l1 : Nat → Bool → Bool → Int → Int → List (S35) → List Int → Int → Option (Bool)
  | 0, _, _, _, _, _, _, _ => none
  | k + 1, x3, x5, x7, x8, x406000, x406001, x406002 => if x8 < 4 then ((version_Level.f k x406000 x406001 x406002 x8).bind fun t415 => (palinodelaw14_VersionLive.l1 k x3 x5 (wrap64 (x7 + (t415.length : Int))) (wrap64 (x8 + 1)) x406000 x406001 x406002)) else (if x3 = true then (if x5 = true then (some (x7 == (x406000.length : Int))) else (some true)) else (some false))
end
def palinodelaw14_VersionLive.f (k : Nat) (l0_0 : List (S35)) (l0_1 : List Int) (a0_2 : Int) : Option (Bool) := (palinodelaw14_examples.f k).bind fun t406 => ((version_Live.f l0_0 l0_1 a0_2).bind fun t407 => (if (t407.length : Int) = (wrap64 ((l0_0.length : Int) + (l0_1.length : Int))) then ((version_Right.f l0_0 l0_1 a0_2).bind fun t410 => (palinodelaw14_VersionLive.l0 k t406 t407 t410 1 l0_0 l0_1 a0_2)) else (some false)))
theorem palinodelaw14_VersionLive.mono_l : ∀ k, (∀ y0 y1 y2 y3 y4 y5 y6, LeO (palinodelaw14_VersionLive.l0 k y0 y1 y2 y3 y4 y5 y6) (palinodelaw14_VersionLive.l0 (k + 1) y0 y1 y2 y3 y4 y5 y6)) ∧ (∀ y0 y1 y2 y3 y4 y5 y6, LeO (palinodelaw14_VersionLive.l1 k y0 y1 y2 y3 y4 y5 y6) (palinodelaw14_VersionLive.l1 (k + 1) y0 y1 y2 y3 y4 y5 y6))
  | 0 => ⟨fun _ _ _ _ _ _ _ r h => by simp [palinodelaw14_VersionLive.l0] at h, fun _ _ _ _ _ _ _ r h => by simp [palinodelaw14_VersionLive.l1] at h⟩
  | k + 1 => by
    obtain ⟨ih0, ih1⟩ := palinodelaw14_VersionLive.mono_l k
    refine ⟨?_, ?_⟩
    · intro y0 y1 y2 y3 y4 y5 y6
      unfold palinodelaw14_VersionLive.l0
      repeat' first
      | (with_reducible exact ih0 _ _ _ _ _ _ _)
      | (with_reducible exact ih1 _ _ _ _ _ _ _)
      | (with_reducible exact palinodelaw14_examples.mono _)
      | (with_reducible exact version_Level.mono _ _ _ _ _)
      | (with_reducible exact LeO.refl _)
      | (with_reducible exact LeO.none _)
      | (with_reducible refine LeO.ite ?_ ?_)
      | (with_reducible refine LeO.bind ?_ (fun _ => ?_))
      | exact ih0 _ _ _ _ _ _ _
      | exact ih1 _ _ _ _ _ _ _
      | exact palinodelaw14_examples.mono _
      | exact version_Level.mono _ _ _ _ _
      | exact LeO.none _
      | refine LeO.ite ?_ ?_
      | refine LeO.bind ?_ (fun _ => ?_)
    · intro y0 y1 y2 y3 y4 y5 y6
      unfold palinodelaw14_VersionLive.l1
      repeat' first
      | (with_reducible exact ih0 _ _ _ _ _ _ _)
      | (with_reducible exact ih1 _ _ _ _ _ _ _)
      | (with_reducible exact palinodelaw14_examples.mono _)
      | (with_reducible exact version_Level.mono _ _ _ _ _)
      | (with_reducible exact LeO.refl _)
      | (with_reducible exact LeO.none _)
      | (with_reducible refine LeO.ite ?_ ?_)
      | (with_reducible refine LeO.bind ?_ (fun _ => ?_))
      | exact ih0 _ _ _ _ _ _ _
      | exact ih1 _ _ _ _ _ _ _
      | exact palinodelaw14_examples.mono _
      | exact version_Level.mono _ _ _ _ _
      | exact LeO.none _
      | refine LeO.ite ?_ ?_
      | refine LeO.bind ?_ (fun _ => ?_)
theorem palinodelaw14_VersionLive.mono : ∀ a0 a1 a2 k, LeO (palinodelaw14_VersionLive.f k a0 a1 a2) (palinodelaw14_VersionLive.f (k + 1) a0 a1 a2) := by
  intro a0 a1 a2 k
  obtain ⟨ih0, ih1⟩ := palinodelaw14_VersionLive.mono_l k
  unfold palinodelaw14_VersionLive.f
  repeat' first
      | (with_reducible exact ih0 _ _ _ _ _ _ _)
      | (with_reducible exact ih1 _ _ _ _ _ _ _)
      | (with_reducible exact palinodelaw14_examples.mono _)
      | (with_reducible exact version_Level.mono _ _ _ _ _)
      | (with_reducible exact LeO.refl _)
      | (with_reducible exact LeO.none _)
      | (with_reducible refine LeO.ite ?_ ?_)
      | (with_reducible refine LeO.bind ?_ (fun _ => ?_))
      | exact ih0 _ _ _ _ _ _ _
      | exact ih1 _ _ _ _ _ _ _
      | exact palinodelaw14_examples.mono _
      | exact version_Level.mono _ _ _ _ _
      | exact LeO.none _
      | refine LeO.ite ?_ ?_
      | refine LeO.bind ?_ (fun _ => ?_)
set_option maxHeartbeats 8000000 in
set_option maxRecDepth 100000 in
theorem palinodelaw14_VersionLive.calls (k : Nat) (A0_0 : Option Addr) (c0_0 : Nat) (l0_0 : List (S35)) (A0_1 : Option Addr) (c0_1 : Nat) (l0_1 : List Int) (a0_2 : Int) (r : Bool) (w : World) (hr0_0 : Kd.C k35 w A0_0 l0_0.length l0_0) (hc0_0 : l0_0.length ≤ c0_0) (hr0_1 : Kd.C (Kd.int .i64) w A0_1 l0_1.length l0_1) (hc0_1 : l0_1.length ≤ c0_1) (h : palinodelaw14_VersionLive.f k l0_0 l0_1 a0_2 = some r) :
    Calls Try.prog 5 #[.agg #[.slice A0_0 l0_0.length c0_0, .slice A0_1 l0_1.length c0_1, .int .i64 a0_2]] w fun e w' => e = .returned (.bool r) ∧ Below w.heap.size w w' := by
  have hu25 := Try.underlying25
  have HR0_0 := Aside0.mk hr0_0
  have HC0_0 := Aside0.mk hc0_0
  clear hr0_0 hc0_0
  have HR0_1 := Aside0.mk hr0_1
  have HC0_1 := Aside0.mk hc0_1
  clear hr0_1 hc0_1
  have HB := Aside0.mk (Below.refl w.heap.size w)
  have H : ((palinodelaw14_examples.f k).bind fun t406 => ((version_Live.f l0_0 l0_1 a0_2).bind fun t407 => (if (t407.length : Int) = (wrap64 ((l0_0.length : Int) + (l0_1.length : Int))) then ((version_Right.f l0_0 l0_1 a0_2).bind fun t410 => (palinodelaw14_VersionLive.l0 k t406 t407 t410 1 l0_0 l0_1 a0_2)) else (some false)))) = some r := h
  clear h
  replace H := Option.bind_eq_some_iff.mp H
  obtain ⟨t406, A20, H⟩ := H
  replace H : ((version_Live.f l0_0 l0_1 a0_2).bind fun t407 => (if (t407.length : Int) = (wrap64 ((l0_0.length : Int) + (l0_1.length : Int))) then ((version_Right.f l0_0 l0_1 a0_2).bind fun t410 => (palinodelaw14_VersionLive.l0 k t406 t407 t410 1 l0_0 l0_1 a0_2)) else (some false))) = some r := H
  have A2 := Aside0.mk A20
  clear A20
  replace H := Option.bind_eq_some_iff.mp H
  obtain ⟨t407, A30, H⟩ := H
  replace H : (if (t407.length : Int) = (wrap64 ((l0_0.length : Int) + (l0_1.length : Int))) then ((version_Right.f l0_0 l0_1 a0_2).bind fun t410 => (palinodelaw14_VersionLive.l0 k t406 t407 t410 1 l0_0 l0_1 a0_2)) else (some false)) = some r := H
  have A3 := Aside0.mk A30
  clear A30
  by_cases c4 : (t407.length : Int) = (wrap64 ((l0_0.length : Int) + (l0_1.length : Int)))
  · rw [if_pos c4] at H
    have c4b0 : ((t407.length : Int) == (wrap64 ((l0_0.length : Int) + (l0_1.length : Int)))) = true := beq_iff_eq.mpr c4
    have c4b1 : ((t407.length : Int) != (wrap64 ((l0_0.length : Int) + (l0_1.length : Int)))) = false := bne_eq_false_iff_eq.mpr c4
    clear c4
    replace H := Option.bind_eq_some_iff.mp H
    obtain ⟨t410, A50, H⟩ := H
    replace H : (palinodelaw14_VersionLive.l0 k t406 t407 t410 1 l0_0 l0_1 a0_2) = some r := H
    have A5 := Aside0.mk A50
    clear A50
    have H' := Aside0.mk H
    clear H
    go_enter Try.func5, Try.ntmps5
    go_wp2_with (first | ((with_reducible refine gate_dst (N := 1) rfl ?_); (try (refine gate_guard (by rfl) ?_; dsimp only)); refine box_event ?hg (N := 1) ?hd (cs := #[.slice A0_0 l0_0.length c0_0, .slice A0_1 l0_1.length c0_1, .int .i64 a0_2]) (t := 25) ?hr ?_; (case hd => rfl); (case hg => rfl); (case hr => first | (go_simp; done) | (go_simp; rfl)); intro gb405 hg w6 hbox hb; have n0_ := Aside0.mk (below_step (by repeat (first | (with_reducible first | exact HB.out | apply below_alloc | apply pw_below_drewN | apply below_drew1) | exact HB.out)) hb); have n1_ := Aside0.mk (hbox); have n2_ := Aside0.mk ((by rw [hg]; exact (below_size (by repeat (first | (with_reducible first | exact HB.out | apply below_alloc | apply pw_below_drewN | apply below_drew1) | exact HB.out))) : w.heap.size ≤ gb405)); have n3_ := Aside0.mk ((by rw [hg]; exact (below_size (by repeat (first | (with_reducible first | exact HB.out | apply below_alloc | apply pw_below_drewN | apply below_drew1) | exact HB.out))) : w.heap.size ≤ gb405)); clear HB; have HB := n0_; have BK405 := n1_; have GW405 := n2_; have GE405 := n3_; clear n0_ n1_ n2_ n3_; clear hb hbox hg) | (go_at_call 9; (with_reducible refine (palinodelaw14_examples.calls k  t406 _ A2.out).mono ?_); rintro e w7 ⟨rfl, hb⟩; have n0_ := Aside0.mk (blk_below (g := gb405) (o := .cells #[.slice A0_0 l0_0.length c0_0, .slice A0_1 l0_1.length c0_1, .int .i64 a0_2] 25 (0, 0)) (by (with_reducible repeat (first | refine blk_drewN ?_ _ | refine blk_drew ?_ | refine blk_alloc ?_ _)); exact BK405.out) hb); have n1_ := Aside0.mk (below_step (by repeat (first | (with_reducible first | exact HB.out | apply below_alloc | apply pw_below_drewN | apply below_drew1 | refine below_set ?_ GE405.out) | exact HB.out)) hb); clear BK405; clear HB; have BK405 := n0_; have HB := n1_; clear n0_ n1_; (try clear hb); (try clear hb2); (try clear hk); (try clear hi); have hcz8_0 : w7.cell? ⟨gb405, 0, none⟩ = some (.slice A0_0 l0_0.length c0_0) := (blk_cell BK405.out 0).trans rfl; have hcz8_1 : w7.cell? ⟨gb405, 1, none⟩ = some (.slice A0_1 l0_1.length c0_1) := (blk_cell BK405.out 1).trans rfl; have hcz8_2 : w7.cell? ⟨gb405, 2, none⟩ = some (.int .i64 a0_2) := (blk_cell BK405.out 2).trans rfl; have hfz8_0 := blk_frozen BK405.out 0; have hfz8_1 := blk_frozen BK405.out 1; have hfz8_2 := blk_frozen BK405.out 2) | (go_at_call 15; (with_reducible refine (version_Live.calls _ _ l0_0 _ _ l0_1 a0_2 t407 _ ?side1 ?side2 ?side3 ?side4 A3.out).mono ?_); (case side1 => repeat (first | exact (Kd.C_below HR0_0.out HB.out) | (with_reducible refine Kd.C_alloc ?_ _) | (with_reducible refine Kd.C_drewN ?_ _) | (with_reducible refine Kd.C_drew ?_))); (case side2 => exact HC0_0.out); (case side3 => repeat (first | exact (Kd.C_below HR0_1.out HB.out) | (with_reducible refine Kd.C_alloc ?_ _) | (with_reducible refine Kd.C_drewN ?_ _) | (with_reducible refine Kd.C_drew ?_))); (case side4 => exact HC0_1.out); rintro e w9 ⟨v408, rfl, ho0, hb⟩; have n0_ := Aside0.mk (Kd.R_lower ho0 (below_size (by repeat (first | (with_reducible first | exact HB.out | apply below_alloc | apply pw_below_drewN | apply below_drew1 | refine below_set ?_ GE405.out) | exact HB.out)))); have n1_ := Aside0.mk (blk_below (g := gb405) (o := .cells #[.slice A0_0 l0_0.length c0_0, .slice A0_1 l0_1.length c0_1, .int .i64 a0_2] 25 (0, 0)) (by (with_reducible repeat (first | refine blk_drewN ?_ _ | refine blk_drew ?_ | refine blk_alloc ?_ _)); exact BK405.out) hb); have n2_ := Aside0.mk (below_step (by repeat (first | (with_reducible first | exact HB.out | apply below_alloc | apply pw_below_drewN | apply below_drew1 | refine below_set ?_ GE405.out) | exact HB.out)) hb); clear BK405; clear HB; have HO409 := n0_; have BK405 := n1_; have HB := n2_; clear n0_ n1_ n2_; (try clear hb); (try clear hb2); (try clear hk); (try clear hi); (try clear ho0); obtain ⟨Ao10, co10, eo10⟩ := Kd.R_slice HO409.out; subst eo10; have hcz11_0 : w9.cell? ⟨gb405, 0, none⟩ = some (.slice A0_0 l0_0.length c0_0) := (blk_cell BK405.out 0).trans rfl; have hcz11_1 : w9.cell? ⟨gb405, 1, none⟩ = some (.slice A0_1 l0_1.length c0_1) := (blk_cell BK405.out 1).trans rfl; have hcz11_2 : w9.cell? ⟨gb405, 2, none⟩ = some (.int .i64 a0_2) := (blk_cell BK405.out 2).trans rfl; have hfz11_0 := blk_frozen BK405.out 0; have hfz11_1 := blk_frozen BK405.out 1; have hfz11_2 := blk_frozen BK405.out 2) | (go_at_call 13; (with_reducible refine (version_Right.calls _ _ l0_0 _ _ l0_1 a0_2 t410 _ ?side1 ?side2 ?side3 ?side4 A5.out).mono ?_); (case side1 => repeat (first | exact (Kd.C_below HR0_0.out HB.out) | (with_reducible refine Kd.C_alloc ?_ _) | (with_reducible refine Kd.C_drewN ?_ _) | (with_reducible refine Kd.C_drew ?_))); (case side2 => exact HC0_0.out); (case side3 => repeat (first | exact (Kd.C_below HR0_1.out HB.out) | (with_reducible refine Kd.C_alloc ?_ _) | (with_reducible refine Kd.C_drewN ?_ _) | (with_reducible refine Kd.C_drew ?_))); (case side4 => exact HC0_1.out); rintro e w12 ⟨rfl, hb⟩; have n0_ := Aside0.mk (Kd.R_below (by (with_reducible repeat (first | apply Kd.R_alloc | apply Kd.R_drewN | apply Kd.R_drew)); exact HO409.out) hb); have n1_ := Aside0.mk (blk_below (g := gb405) (o := .cells #[.slice A0_0 l0_0.length c0_0, .slice A0_1 l0_1.length c0_1, .int .i64 a0_2] 25 (0, 0)) (by (with_reducible repeat (first | refine blk_drewN ?_ _ | refine blk_drew ?_ | refine blk_alloc ?_ _)); exact BK405.out) hb); have n2_ := Aside0.mk (below_step (by repeat (first | (with_reducible first | exact HB.out | apply below_alloc | apply pw_below_drewN | apply below_drew1 | refine below_set ?_ GE405.out) | exact HB.out)) hb); clear HO409; clear BK405; clear HB; have HO409 := n0_; have BK405 := n1_; have HB := n2_; clear n0_ n1_ n2_; (try clear hb); (try clear hb2); (try clear hk); (try clear hi)))
    repeat (go_quiet (first | ((with_reducible refine gate_dst (N := 1) rfl ?_); (try (refine gate_guard (by rfl) ?_; dsimp only)); refine box_event ?hg (N := 1) ?hd (cs := #[.slice A0_0 l0_0.length c0_0, .slice A0_1 l0_1.length c0_1, .int .i64 a0_2]) (t := 25) ?hr ?_; (case hd => rfl); (case hg => rfl); (case hr => first | (go_simp; done) | (go_simp; rfl)); intro gb405 hg w6 hbox hb; have n0_ := Aside0.mk (below_step (by repeat (first | (with_reducible first | exact HB.out | apply below_alloc | apply pw_below_drewN | apply below_drew1) | exact HB.out)) hb); have n1_ := Aside0.mk (hbox); have n2_ := Aside0.mk ((by rw [hg]; exact (below_size (by repeat (first | (with_reducible first | exact HB.out | apply below_alloc | apply pw_below_drewN | apply below_drew1) | exact HB.out))) : w.heap.size ≤ gb405)); have n3_ := Aside0.mk ((by rw [hg]; exact (below_size (by repeat (first | (with_reducible first | exact HB.out | apply below_alloc | apply pw_below_drewN | apply below_drew1) | exact HB.out))) : w.heap.size ≤ gb405)); clear HB; have HB := n0_; have BK405 := n1_; have GW405 := n2_; have GE405 := n3_; clear n0_ n1_ n2_ n3_; clear hb hbox hg) | (go_at_call 9; (with_reducible refine (palinodelaw14_examples.calls k  t406 _ A2.out).mono ?_); rintro e w7 ⟨rfl, hb⟩; have n0_ := Aside0.mk (blk_below (g := gb405) (o := .cells #[.slice A0_0 l0_0.length c0_0, .slice A0_1 l0_1.length c0_1, .int .i64 a0_2] 25 (0, 0)) (by (with_reducible repeat (first | refine blk_drewN ?_ _ | refine blk_drew ?_ | refine blk_alloc ?_ _)); exact BK405.out) hb); have n1_ := Aside0.mk (below_step (by repeat (first | (with_reducible first | exact HB.out | apply below_alloc | apply pw_below_drewN | apply below_drew1 | refine below_set ?_ GE405.out) | exact HB.out)) hb); clear BK405; clear HB; have BK405 := n0_; have HB := n1_; clear n0_ n1_; (try clear hb); (try clear hb2); (try clear hk); (try clear hi); have hcz8_0 : w7.cell? ⟨gb405, 0, none⟩ = some (.slice A0_0 l0_0.length c0_0) := (blk_cell BK405.out 0).trans rfl; have hcz8_1 : w7.cell? ⟨gb405, 1, none⟩ = some (.slice A0_1 l0_1.length c0_1) := (blk_cell BK405.out 1).trans rfl; have hcz8_2 : w7.cell? ⟨gb405, 2, none⟩ = some (.int .i64 a0_2) := (blk_cell BK405.out 2).trans rfl; have hfz8_0 := blk_frozen BK405.out 0; have hfz8_1 := blk_frozen BK405.out 1; have hfz8_2 := blk_frozen BK405.out 2) | (go_at_call 15; (with_reducible refine (version_Live.calls _ _ l0_0 _ _ l0_1 a0_2 t407 _ ?side1 ?side2 ?side3 ?side4 A3.out).mono ?_); (case side1 => repeat (first | exact (Kd.C_below HR0_0.out HB.out) | (with_reducible refine Kd.C_alloc ?_ _) | (with_reducible refine Kd.C_drewN ?_ _) | (with_reducible refine Kd.C_drew ?_))); (case side2 => exact HC0_0.out); (case side3 => repeat (first | exact (Kd.C_below HR0_1.out HB.out) | (with_reducible refine Kd.C_alloc ?_ _) | (with_reducible refine Kd.C_drewN ?_ _) | (with_reducible refine Kd.C_drew ?_))); (case side4 => exact HC0_1.out); rintro e w9 ⟨v408, rfl, ho0, hb⟩; have n0_ := Aside0.mk (Kd.R_lower ho0 (below_size (by repeat (first | (with_reducible first | exact HB.out | apply below_alloc | apply pw_below_drewN | apply below_drew1 | refine below_set ?_ GE405.out) | exact HB.out)))); have n1_ := Aside0.mk (blk_below (g := gb405) (o := .cells #[.slice A0_0 l0_0.length c0_0, .slice A0_1 l0_1.length c0_1, .int .i64 a0_2] 25 (0, 0)) (by (with_reducible repeat (first | refine blk_drewN ?_ _ | refine blk_drew ?_ | refine blk_alloc ?_ _)); exact BK405.out) hb); have n2_ := Aside0.mk (below_step (by repeat (first | (with_reducible first | exact HB.out | apply below_alloc | apply pw_below_drewN | apply below_drew1 | refine below_set ?_ GE405.out) | exact HB.out)) hb); clear BK405; clear HB; have HO409 := n0_; have BK405 := n1_; have HB := n2_; clear n0_ n1_ n2_; (try clear hb); (try clear hb2); (try clear hk); (try clear hi); (try clear ho0); obtain ⟨Ao10, co10, eo10⟩ := Kd.R_slice HO409.out; subst eo10; have hcz11_0 : w9.cell? ⟨gb405, 0, none⟩ = some (.slice A0_0 l0_0.length c0_0) := (blk_cell BK405.out 0).trans rfl; have hcz11_1 : w9.cell? ⟨gb405, 1, none⟩ = some (.slice A0_1 l0_1.length c0_1) := (blk_cell BK405.out 1).trans rfl; have hcz11_2 : w9.cell? ⟨gb405, 2, none⟩ = some (.int .i64 a0_2) := (blk_cell BK405.out 2).trans rfl; have hfz11_0 := blk_frozen BK405.out 0; have hfz11_1 := blk_frozen BK405.out 1; have hfz11_2 := blk_frozen BK405.out 2) | (go_at_call 13; (with_reducible refine (version_Right.calls _ _ l0_0 _ _ l0_1 a0_2 t410 _ ?side1 ?side2 ?side3 ?side4 A5.out).mono ?_); (case side1 => repeat (first | exact (Kd.C_below HR0_0.out HB.out) | (with_reducible refine Kd.C_alloc ?_ _) | (with_reducible refine Kd.C_drewN ?_ _) | (with_reducible refine Kd.C_drew ?_))); (case side2 => exact HC0_0.out); (case side3 => repeat (first | exact (Kd.C_below HR0_1.out HB.out) | (with_reducible refine Kd.C_alloc ?_ _) | (with_reducible refine Kd.C_drewN ?_ _) | (with_reducible refine Kd.C_drew ?_))); (case side4 => exact HC0_1.out); rintro e w12 ⟨rfl, hb⟩; have n0_ := Aside0.mk (Kd.R_below (by (with_reducible repeat (first | apply Kd.R_alloc | apply Kd.R_drewN | apply Kd.R_drew)); exact HO409.out) hb); have n1_ := Aside0.mk (blk_below (g := gb405) (o := .cells #[.slice A0_0 l0_0.length c0_0, .slice A0_1 l0_1.length c0_1, .int .i64 a0_2] 25 (0, 0)) (by (with_reducible repeat (first | refine blk_drewN ?_ _ | refine blk_drew ?_ | refine blk_alloc ?_ _)); exact BK405.out) hb); have n2_ := Aside0.mk (below_step (by repeat (first | (with_reducible first | exact HB.out | apply below_alloc | apply pw_below_drewN | apply below_drew1 | refine below_set ?_ GE405.out) | exact HB.out)) hb); clear HO409; clear BK405; clear HB; have HO409 := n0_; have BK405 := n1_; have HB := n2_; clear n0_ n1_ n2_; (try clear hb); (try clear hb2); (try clear hk); (try clear hi))); try go_wp2_with (first | ((with_reducible refine gate_dst (N := 1) rfl ?_); (try (refine gate_guard (by rfl) ?_; dsimp only)); refine box_event ?hg (N := 1) ?hd (cs := #[.slice A0_0 l0_0.length c0_0, .slice A0_1 l0_1.length c0_1, .int .i64 a0_2]) (t := 25) ?hr ?_; (case hd => rfl); (case hg => rfl); (case hr => first | (go_simp; done) | (go_simp; rfl)); intro gb405 hg w6 hbox hb; have n0_ := Aside0.mk (below_step (by repeat (first | (with_reducible first | exact HB.out | apply below_alloc | apply pw_below_drewN | apply below_drew1) | exact HB.out)) hb); have n1_ := Aside0.mk (hbox); have n2_ := Aside0.mk ((by rw [hg]; exact (below_size (by repeat (first | (with_reducible first | exact HB.out | apply below_alloc | apply pw_below_drewN | apply below_drew1) | exact HB.out))) : w.heap.size ≤ gb405)); have n3_ := Aside0.mk ((by rw [hg]; exact (below_size (by repeat (first | (with_reducible first | exact HB.out | apply below_alloc | apply pw_below_drewN | apply below_drew1) | exact HB.out))) : w.heap.size ≤ gb405)); clear HB; have HB := n0_; have BK405 := n1_; have GW405 := n2_; have GE405 := n3_; clear n0_ n1_ n2_ n3_; clear hb hbox hg) | (go_at_call 9; (with_reducible refine (palinodelaw14_examples.calls k  t406 _ A2.out).mono ?_); rintro e w7 ⟨rfl, hb⟩; have n0_ := Aside0.mk (blk_below (g := gb405) (o := .cells #[.slice A0_0 l0_0.length c0_0, .slice A0_1 l0_1.length c0_1, .int .i64 a0_2] 25 (0, 0)) (by (with_reducible repeat (first | refine blk_drewN ?_ _ | refine blk_drew ?_ | refine blk_alloc ?_ _)); exact BK405.out) hb); have n1_ := Aside0.mk (below_step (by repeat (first | (with_reducible first | exact HB.out | apply below_alloc | apply pw_below_drewN | apply below_drew1 | refine below_set ?_ GE405.out) | exact HB.out)) hb); clear BK405; clear HB; have BK405 := n0_; have HB := n1_; clear n0_ n1_; (try clear hb); (try clear hb2); (try clear hk); (try clear hi); have hcz8_0 : w7.cell? ⟨gb405, 0, none⟩ = some (.slice A0_0 l0_0.length c0_0) := (blk_cell BK405.out 0).trans rfl; have hcz8_1 : w7.cell? ⟨gb405, 1, none⟩ = some (.slice A0_1 l0_1.length c0_1) := (blk_cell BK405.out 1).trans rfl; have hcz8_2 : w7.cell? ⟨gb405, 2, none⟩ = some (.int .i64 a0_2) := (blk_cell BK405.out 2).trans rfl; have hfz8_0 := blk_frozen BK405.out 0; have hfz8_1 := blk_frozen BK405.out 1; have hfz8_2 := blk_frozen BK405.out 2) | (go_at_call 15; (with_reducible refine (version_Live.calls _ _ l0_0 _ _ l0_1 a0_2 t407 _ ?side1 ?side2 ?side3 ?side4 A3.out).mono ?_); (case side1 => repeat (first | exact (Kd.C_below HR0_0.out HB.out) | (with_reducible refine Kd.C_alloc ?_ _) | (with_reducible refine Kd.C_drewN ?_ _) | (with_reducible refine Kd.C_drew ?_))); (case side2 => exact HC0_0.out); (case side3 => repeat (first | exact (Kd.C_below HR0_1.out HB.out) | (with_reducible refine Kd.C_alloc ?_ _) | (with_reducible refine Kd.C_drewN ?_ _) | (with_reducible refine Kd.C_drew ?_))); (case side4 => exact HC0_1.out); rintro e w9 ⟨v408, rfl, ho0, hb⟩; have n0_ := Aside0.mk (Kd.R_lower ho0 (below_size (by repeat (first | (with_reducible first | exact HB.out | apply below_alloc | apply pw_below_drewN | apply below_drew1 | refine below_set ?_ GE405.out) | exact HB.out)))); have n1_ := Aside0.mk (blk_below (g := gb405) (o := .cells #[.slice A0_0 l0_0.length c0_0, .slice A0_1 l0_1.length c0_1, .int .i64 a0_2] 25 (0, 0)) (by (with_reducible repeat (first | refine blk_drewN ?_ _ | refine blk_drew ?_ | refine blk_alloc ?_ _)); exact BK405.out) hb); have n2_ := Aside0.mk (below_step (by repeat (first | (with_reducible first | exact HB.out | apply below_alloc | apply pw_below_drewN | apply below_drew1 | refine below_set ?_ GE405.out) | exact HB.out)) hb); clear BK405; clear HB; have HO409 := n0_; have BK405 := n1_; have HB := n2_; clear n0_ n1_ n2_; (try clear hb); (try clear hb2); (try clear hk); (try clear hi); (try clear ho0); obtain ⟨Ao10, co10, eo10⟩ := Kd.R_slice HO409.out; subst eo10; have hcz11_0 : w9.cell? ⟨gb405, 0, none⟩ = some (.slice A0_0 l0_0.length c0_0) := (blk_cell BK405.out 0).trans rfl; have hcz11_1 : w9.cell? ⟨gb405, 1, none⟩ = some (.slice A0_1 l0_1.length c0_1) := (blk_cell BK405.out 1).trans rfl; have hcz11_2 : w9.cell? ⟨gb405, 2, none⟩ = some (.int .i64 a0_2) := (blk_cell BK405.out 2).trans rfl; have hfz11_0 := blk_frozen BK405.out 0; have hfz11_1 := blk_frozen BK405.out 1; have hfz11_2 := blk_frozen BK405.out 2) | (go_at_call 13; (with_reducible refine (version_Right.calls _ _ l0_0 _ _ l0_1 a0_2 t410 _ ?side1 ?side2 ?side3 ?side4 A5.out).mono ?_); (case side1 => repeat (first | exact (Kd.C_below HR0_0.out HB.out) | (with_reducible refine Kd.C_alloc ?_ _) | (with_reducible refine Kd.C_drewN ?_ _) | (with_reducible refine Kd.C_drew ?_))); (case side2 => exact HC0_0.out); (case side3 => repeat (first | exact (Kd.C_below HR0_1.out HB.out) | (with_reducible refine Kd.C_alloc ?_ _) | (with_reducible refine Kd.C_drewN ?_ _) | (with_reducible refine Kd.C_drew ?_))); (case side4 => exact HC0_1.out); rintro e w12 ⟨rfl, hb⟩; have n0_ := Aside0.mk (Kd.R_below (by (with_reducible repeat (first | apply Kd.R_alloc | apply Kd.R_drewN | apply Kd.R_drew)); exact HO409.out) hb); have n1_ := Aside0.mk (blk_below (g := gb405) (o := .cells #[.slice A0_0 l0_0.length c0_0, .slice A0_1 l0_1.length c0_1, .int .i64 a0_2] 25 (0, 0)) (by (with_reducible repeat (first | refine blk_drewN ?_ _ | refine blk_drew ?_ | refine blk_alloc ?_ _)); exact BK405.out) hb); have n2_ := Aside0.mk (below_step (by repeat (first | (with_reducible first | exact HB.out | apply below_alloc | apply pw_below_drewN | apply below_drew1 | refine below_set ?_ GE405.out) | exact HB.out)) hb); clear HO409; clear BK405; clear HB; have HO409 := n0_; have BK405 := n1_; have HB := n2_; clear n0_ n1_ n2_; (try clear hb); (try clear hb2); (try clear hk); (try clear hi))))
    go_loopg [6] k (fun kq v6 w' => ∃ (x6_1 : Int), v6 = .int .i64 x6_1 ∧ Aside0 (palinodelaw14_VersionLive.l0 kq t406 t407 t410 x6_1 l0_0 l0_1 a0_2 = some r) ∧ Aside0 (kq ≤ k) ∧ Aside0 (Kd.R (Kd.int .i64) 3 w' w.heap.size (fun _ => True) (.slice Ao10 t407.length co10) t407) ∧ Aside0 (w'.heap[gb405]? = some (.cells #[(.slice A0_0 l0_0.length c0_0), (.slice A0_1 l0_1.length c0_1), .int .i64 a0_2] 25 (0, 0))) ∧ Aside0 (Below w.heap.size w w'))
    case atStart => exact ⟨(1), (by first | rfl | (simp; done) | (simp [*]; done)), H', ⟨Nat.le_refl _⟩, ⟨by (with_reducible repeat (first | apply Kd.R_alloc | apply Kd.R_drewN | apply Kd.R_drew)); exact HO409.out⟩, ⟨by (with_reducible repeat (first | refine blk_drewN ?_ _ | refine blk_drew ?_ | refine blk_alloc ?_ _)); exact BK405.out⟩, ⟨by repeat (first | (with_reducible first | exact HB.out | apply below_alloc | apply pw_below_drewN | apply below_drew1 | refine below_set ?_ GE405.out) | exact HB.out)⟩⟩
    case round =>
      clear H'
      try clear p2
      try clear c4
      try clear c4b0
      try clear c4b1
      try clear c5
      try clear p6
      try clear hcz11_0
      try clear hcz11_1
      try clear hcz11_2
      try clear hcz8_0
      try clear hcz8_1
      try clear hcz8_2
      try clear hfz11_0
      try clear hfz11_1
      try clear hfz11_2
      try clear hfz8_0
      try clear hfz8_1
      try clear hfz8_2
      obtain ⟨x6_1, rfl, HA, HK1, HO_4, BK405, HB⟩ := hrel
      cases gk with
      | zero => exact absurd HA.out (by simp [palinodelaw14_VersionLive.l0])
      | succ k1 =>
        have H := HA.out
        clear HA
        simp only [palinodelaw14_VersionLive.l0] at H
        by_cases c13 : x6_1 < (t407.length : Int)
        · rw [if_pos c13] at H
          have c13b0 : decide (x6_1 < (t407.length : Int)) = true := decide_eq_true c13
          clear c13
          by_cases c14 : 0 ≤ x6_1
          · rw [if_pos c14] at H
            have c14b0 : decide (0 ≤ x6_1) = true := decide_eq_true c14
            clear c14
            obtain ⟨ji15, hji15⟩ : ∃ j_ : Int, (wrap64 (x6_1 - 1)) = j_ := ⟨_, rfl⟩
            replace H : (if 0 ≤ (ji15) then (if (ji15) < (t407.length : Int) then (if (rd t407 x6_1) < (rd t407 (ji15)) then (some false) else (if t410 = true then (if (rd t407 x6_1) = (rd t407 (ji15)) then (some false) else (palinodelaw14_VersionLive.l0 k1 t406 t407 t410 (wrap64 (x6_1 + 1)) l0_0 l0_1 a0_2)) else (palinodelaw14_VersionLive.l0 k1 t406 t407 t410 (wrap64 (x6_1 + 1)) l0_0 l0_1 a0_2))) else (none)) else (none)) = some r := by first | (rw [hji15] at H; exact H) | (simp only [hji15] at H ⊢; exact H)
            have hji15w : (IntKind.i64.wrap (x6_1 - 1)) = ji15 := (i64_w _).trans hji15
            by_cases c16 : 0 ≤ (ji15)
            · rw [if_pos c16] at H
              have c16b0 : decide (0 ≤ (ji15)) = true := decide_eq_true c16
              clear c16
              by_cases c17 : (ji15) < (t407.length : Int)
              · rw [if_pos c17] at H
                have c17b0 : decide ((ji15) < (t407.length : Int)) = true := decide_eq_true c17
                clear c17
                by_cases c18 : (rd t407 x6_1) < (rd t407 (ji15))
                · rw [if_pos c18] at H
                  have c18b0 : decide ((rd t407 x6_1) < (rd t407 (ji15))) = true := decide_eq_true c18
                  clear c18
                  obtain rfl := Option.some.inj H
                  have p411 : 0 ≤ (x6_1 : Int) := of_decide_eq_true (by first | (with_reducible assumption) | assumption)
                  have q411 : x6_1 < (t407.length : Int) := of_decide_eq_true (by first | (with_reducible assumption) | assumption)
                  obtain ⟨ad411, e411, hx411_0⟩ := Kd.at_int (Kd.R_reads' HO_4.out).2.2 x6_1 p411 q411
                  cases e411
                  replace p411 := eq_true p411
                  replace q411 := eq_true q411
                  have p412 : 0 ≤ ((ji15) : Int) := of_decide_eq_true (by first | (with_reducible assumption) | assumption)
                  have q412 : (ji15) < (t407.length : Int) := of_decide_eq_true (by first | (with_reducible assumption) | assumption)
                  obtain ⟨ad412, e412, hx412_0⟩ := Kd.at_int (Kd.R_reads' HO_4.out).2.2 (ji15) p412 q412
                  obtain rfl : ad411 = ad412 := (by injection e412)
                  replace p412 := eq_true p412
                  replace q412 := eq_true q412
                  go_wp2
                  repeat (go_quiet (fail); try go_wp2)
                  go_ret
                  exact ⟨by first | rfl | (simp [errW_none, errW_some] <;> rfl) | (simp only [← hji15]; first | rfl | (simp [errW_none, errW_some] <;> rfl)) | (simp [*, errW_none, errW_some] <;> rfl), by repeat (first | (with_reducible first | exact HB.out | apply below_alloc | apply pw_below_drewN | apply below_drew1 | refine below_set ?_ GE405.out) | exact HB.out)⟩
                · rw [if_neg c18] at H
                  have c18b0 : decide ((rd t407 x6_1) < (rd t407 (ji15))) = false := decide_eq_false c18
                  clear c18
                  by_cases c19 : t410 = true
                  · subst c19
                    have H1 : (if (rd t407 x6_1) = (rd t407 (ji15)) then (some false) else (palinodelaw14_VersionLive.l0 k1 t406 t407 true (wrap64 (x6_1 + 1)) l0_0 l0_1 a0_2)) = some r := by rw [if_pos rfl] at H; exact H
                    clear H
                    have H := H1
                    clear H1
                    by_cases c20 : (rd t407 x6_1) = (rd t407 (ji15))
                    · rw [if_pos c20] at H
                      have c20b0 : ((rd t407 x6_1) == (rd t407 (ji15))) = true := beq_iff_eq.mpr c20
                      have c20b1 : ((rd t407 x6_1) != (rd t407 (ji15))) = false := bne_eq_false_iff_eq.mpr c20
                      clear c20
                      obtain rfl := Option.some.inj H
                      have p411 : 0 ≤ (x6_1 : Int) := of_decide_eq_true (by first | (with_reducible assumption) | assumption)
                      have q411 : x6_1 < (t407.length : Int) := of_decide_eq_true (by first | (with_reducible assumption) | assumption)
                      obtain ⟨ad411, e411, hx411_0⟩ := Kd.at_int (Kd.R_reads' HO_4.out).2.2 x6_1 p411 q411
                      cases e411
                      replace p411 := eq_true p411
                      replace q411 := eq_true q411
                      have p412 : 0 ≤ ((ji15) : Int) := of_decide_eq_true (by first | (with_reducible assumption) | assumption)
                      have q412 : (ji15) < (t407.length : Int) := of_decide_eq_true (by first | (with_reducible assumption) | assumption)
                      obtain ⟨ad412, e412, hx412_0⟩ := Kd.at_int (Kd.R_reads' HO_4.out).2.2 (ji15) p412 q412
                      obtain rfl : ad411 = ad412 := (by injection e412)
                      replace p412 := eq_true p412
                      replace q412 := eq_true q412
                      have p413 : 0 ≤ (x6_1 : Int) := of_decide_eq_true (by first | (with_reducible assumption) | assumption)
                      have q413 : x6_1 < (t407.length : Int) := of_decide_eq_true (by first | (with_reducible assumption) | assumption)
                      obtain ⟨ad413, e413, hx413_0⟩ := Kd.at_int (Kd.R_reads' HO_4.out).2.2 x6_1 p413 q413
                      obtain rfl : ad411 = ad413 := (by injection e413)
                      replace p413 := eq_true p413
                      replace q413 := eq_true q413
                      have p414 : 0 ≤ ((ji15) : Int) := of_decide_eq_true (by first | (with_reducible assumption) | assumption)
                      have q414 : (ji15) < (t407.length : Int) := of_decide_eq_true (by first | (with_reducible assumption) | assumption)
                      obtain ⟨ad414, e414, hx414_0⟩ := Kd.at_int (Kd.R_reads' HO_4.out).2.2 (ji15) p414 q414
                      obtain rfl : ad411 = ad414 := (by injection e414)
                      replace p414 := eq_true p414
                      replace q414 := eq_true q414
                      go_wp2
                      repeat (go_quiet (fail); try go_wp2)
                      go_ret
                      exact ⟨by first | rfl | (simp [errW_none, errW_some] <;> rfl) | (simp only [← hji15]; first | rfl | (simp [errW_none, errW_some] <;> rfl)) | (simp [*, errW_none, errW_some] <;> rfl), by repeat (first | (with_reducible first | exact HB.out | apply below_alloc | apply pw_below_drewN | apply below_drew1 | refine below_set ?_ GE405.out) | exact HB.out)⟩
                    · rw [if_neg c20] at H
                      have c20b0 : ((rd t407 x6_1) == (rd t407 (ji15))) = false := beq_eq_false_iff_ne.mpr c20
                      have c20b1 : ((rd t407 x6_1) != (rd t407 (ji15))) = true := bne_iff_ne.mpr c20
                      have H' := Aside0.mk H
                      clear H
                      have p411 : 0 ≤ (x6_1 : Int) := of_decide_eq_true (by first | (with_reducible assumption) | assumption)
                      have q411 : x6_1 < (t407.length : Int) := of_decide_eq_true (by first | (with_reducible assumption) | assumption)
                      obtain ⟨ad411, e411, hx411_0⟩ := Kd.at_int (Kd.R_reads' HO_4.out).2.2 x6_1 p411 q411
                      cases e411
                      replace p411 := eq_true p411
                      replace q411 := eq_true q411
                      have p412 : 0 ≤ ((ji15) : Int) := of_decide_eq_true (by first | (with_reducible assumption) | assumption)
                      have q412 : (ji15) < (t407.length : Int) := of_decide_eq_true (by first | (with_reducible assumption) | assumption)
                      obtain ⟨ad412, e412, hx412_0⟩ := Kd.at_int (Kd.R_reads' HO_4.out).2.2 (ji15) p412 q412
                      obtain rfl : ad411 = ad412 := (by injection e412)
                      replace p412 := eq_true p412
                      replace q412 := eq_true q412
                      have p413 : 0 ≤ (x6_1 : Int) := of_decide_eq_true (by first | (with_reducible assumption) | assumption)
                      have q413 : x6_1 < (t407.length : Int) := of_decide_eq_true (by first | (with_reducible assumption) | assumption)
                      obtain ⟨ad413, e413, hx413_0⟩ := Kd.at_int (Kd.R_reads' HO_4.out).2.2 x6_1 p413 q413
                      obtain rfl : ad411 = ad413 := (by injection e413)
                      replace p413 := eq_true p413
                      replace q413 := eq_true q413
                      have p414 : 0 ≤ ((ji15) : Int) := of_decide_eq_true (by first | (with_reducible assumption) | assumption)
                      have q414 : (ji15) < (t407.length : Int) := of_decide_eq_true (by first | (with_reducible assumption) | assumption)
                      obtain ⟨ad414, e414, hx414_0⟩ := Kd.at_int (Kd.R_reads' HO_4.out).2.2 (ji15) p414 q414
                      obtain rfl : ad411 = ad414 := (by injection e414)
                      replace p414 := eq_true p414
                      replace q414 := eq_true q414
                      go_wp2
                      repeat (go_quiet (fail); try go_wp2)
                      go_roundg k1
                      case measure => have := HK1.out; omega
                      case rel => exact ⟨(wrap64 (x6_1 + 1)), (by first | rfl | (simp; done) | (simp [*]; done)), H', ⟨by have := HK1.out; omega⟩, ⟨by (with_reducible repeat (first | apply Kd.R_alloc | apply Kd.R_drewN | apply Kd.R_drew)); exact HO_4.out⟩, ⟨by (with_reducible repeat (first | refine blk_drewN ?_ _ | refine blk_drew ?_ | refine blk_alloc ?_ _)); exact BK405.out⟩, ⟨by repeat (first | (with_reducible first | exact HB.out | apply below_alloc | apply pw_below_drewN | apply below_drew1 | refine below_set ?_ GE405.out) | exact HB.out)⟩⟩
                  · replace c19 := Bool.eq_false_iff.mpr c19
                    subst c19
                    have H1 : (palinodelaw14_VersionLive.l0 k1 t406 t407 false (wrap64 (x6_1 + 1)) l0_0 l0_1 a0_2) = some r := by rw [if_neg (show ¬ (false = true) by decide)] at H; exact H
                    clear H
                    have H := H1
                    clear H1
                    have H' := Aside0.mk H
                    clear H
                    have p411 : 0 ≤ (x6_1 : Int) := of_decide_eq_true (by first | (with_reducible assumption) | assumption)
                    have q411 : x6_1 < (t407.length : Int) := of_decide_eq_true (by first | (with_reducible assumption) | assumption)
                    obtain ⟨ad411, e411, hx411_0⟩ := Kd.at_int (Kd.R_reads' HO_4.out).2.2 x6_1 p411 q411
                    cases e411
                    replace p411 := eq_true p411
                    replace q411 := eq_true q411
                    have p412 : 0 ≤ ((ji15) : Int) := of_decide_eq_true (by first | (with_reducible assumption) | assumption)
                    have q412 : (ji15) < (t407.length : Int) := of_decide_eq_true (by first | (with_reducible assumption) | assumption)
                    obtain ⟨ad412, e412, hx412_0⟩ := Kd.at_int (Kd.R_reads' HO_4.out).2.2 (ji15) p412 q412
                    obtain rfl : ad411 = ad412 := (by injection e412)
                    replace p412 := eq_true p412
                    replace q412 := eq_true q412
                    go_wp2
                    repeat (go_quiet (fail); try go_wp2)
                    go_roundg k1
                    case measure => have := HK1.out; omega
                    case rel => exact ⟨(wrap64 (x6_1 + 1)), (by first | rfl | (simp; done) | (simp [*]; done)), H', ⟨by have := HK1.out; omega⟩, ⟨by (with_reducible repeat (first | apply Kd.R_alloc | apply Kd.R_drewN | apply Kd.R_drew)); exact HO_4.out⟩, ⟨by (with_reducible repeat (first | refine blk_drewN ?_ _ | refine blk_drew ?_ | refine blk_alloc ?_ _)); exact BK405.out⟩, ⟨by repeat (first | (with_reducible first | exact HB.out | apply below_alloc | apply pw_below_drewN | apply below_drew1 | refine below_set ?_ GE405.out) | exact HB.out)⟩⟩
              · rw [if_neg c17] at H
                exact absurd H (by simp)
            · rw [if_neg c16] at H
              exact absurd H (by simp)
          · rw [if_neg c14] at H
            exact absurd H (by simp)
        · rw [if_neg c13] at H
          have c13b0 : decide (x6_1 < (t407.length : Int)) = false := decide_eq_false c13
          clear c13
          have H' := Aside0.mk H
          clear H
          go_wp2
          repeat (go_quiet (fail); try go_wp2)
          go_loopg [7, 8] k1 (fun kq v7 v8 w' => ∃ (x7_2 : Int) (x8_2 : Int), v7 = .int .i64 x7_2 ∧ v8 = .int .i64 x8_2 ∧ Aside0 (palinodelaw14_VersionLive.l1 kq t406 t410 x7_2 x8_2 l0_0 l0_1 a0_2 = some r) ∧ Aside0 (kq ≤ k1) ∧ Aside0 (w'.heap[gb405]? = some (.cells #[(.slice A0_0 l0_0.length c0_0), (.slice A0_1 l0_1.length c0_1), .int .i64 a0_2] 25 (0, 0))) ∧ Aside0 (Below w.heap.size w w'))
          case atStart => exact ⟨(0), (0), (by first | rfl | (simp; done) | (simp [*]; done)), (by first | rfl | (simp; done) | (simp [*]; done)), H', ⟨Nat.le_refl _⟩, ⟨by (with_reducible repeat (first | refine blk_drewN ?_ _ | refine blk_drew ?_ | refine blk_alloc ?_ _)); exact BK405.out⟩, ⟨by repeat (first | (with_reducible first | exact HB.out | apply below_alloc | apply pw_below_drewN | apply below_drew1 | refine below_set ?_ GE405.out) | exact HB.out)⟩⟩
          case round =>
            clear H'
            try clear c1
            try clear c2
            try clear p2
            try clear c4
            try clear c4b0
            try clear c4b1
            try clear p4
            try clear q4
            try clear hx4
            try clear c5
            try clear p6
            try clear c13
            try clear c13b0
            try clear c14
            try clear c14b0
            try clear c16
            try clear c16b0
            try clear c17
            try clear c17b0
            try clear c18
            try clear c18b0
            try clear c19
            try clear c20
            try clear c20b0
            try clear c20b1
            try clear hcz11_0
            try clear hcz11_1
            try clear hcz11_2
            try clear hcz8_0
            try clear hcz8_1
            try clear hcz8_2
            try clear hfz11_0
            try clear hfz11_1
            try clear hfz11_2
            try clear hfz8_0
            try clear hfz8_1
            try clear hfz8_2
            try clear hx411_0
            try clear hx412_0
            try clear hx413_0
            try clear hx414_0
            try clear p2
            try clear p411
            try clear p412
            try clear p413
            try clear p414
            try clear p6
            try clear q411
            try clear q412
            try clear q413
            try clear q414
            obtain ⟨x7_2, x8_2, rfl, rfl, HA, HK2, BK405, HB⟩ := hrel
            cases gk with
            | zero => exact absurd HA.out (by simp [palinodelaw14_VersionLive.l1])
            | succ k2 =>
              have H := HA.out
              clear HA
              simp only [palinodelaw14_VersionLive.l1] at H
              by_cases c21 : x8_2 < 4
              · rw [if_pos c21] at H
                have c21b0 : decide (x8_2 < 4) = true := decide_eq_true c21
                clear c21
                replace H := Option.bind_eq_some_iff.mp H
                obtain ⟨t415, A220, H⟩ := H
                replace H : (palinodelaw14_VersionLive.l1 k2 t406 t410 (wrap64 (x7_2 + (t415.length : Int))) (wrap64 (x8_2 + 1)) l0_0 l0_1 a0_2) = some r := H
                have A22 := Aside0.mk A220
                clear A220
                have H' := Aside0.mk H
                clear H
                have hcz23_0 : wr.cell? ⟨gb405, 0, none⟩ = some (.slice A0_0 l0_0.length c0_0) := (blk_cell BK405.out 0).trans rfl
                have hcz23_1 : wr.cell? ⟨gb405, 1, none⟩ = some (.slice A0_1 l0_1.length c0_1) := (blk_cell BK405.out 1).trans rfl
                have hcz23_2 : wr.cell? ⟨gb405, 2, none⟩ = some (.int .i64 a0_2) := (blk_cell BK405.out 2).trans rfl
                have hfz23_0 := blk_frozen BK405.out 0
                have hfz23_1 := blk_frozen BK405.out 1
                have hfz23_2 := blk_frozen BK405.out 2
                go_wp2_with (first | (go_at_call 16; (with_reducible refine (version_Level.calls k2 _ _ l0_0 _ _ l0_1 a0_2 x8_2 t415 _ ?side1 ?side2 ?side3 ?side4 A22.out).mono ?_); (case side1 => repeat (first | exact (Kd.C_below HR0_0.out HB.out) | (with_reducible refine Kd.C_alloc ?_ _) | (with_reducible refine Kd.C_drewN ?_ _) | (with_reducible refine Kd.C_drew ?_))); (case side2 => exact HC0_0.out); (case side3 => repeat (first | exact (Kd.C_below HR0_1.out HB.out) | (with_reducible refine Kd.C_alloc ?_ _) | (with_reducible refine Kd.C_drewN ?_ _) | (with_reducible refine Kd.C_drew ?_))); (case side4 => exact HC0_1.out); rintro e w24 ⟨v416, rfl, ho0, hb⟩; have n0_ := Aside0.mk (Kd.R_lower ho0 (below_size (by repeat (first | (with_reducible first | exact HB.out | apply below_alloc | apply pw_below_drewN | apply below_drew1 | refine below_set ?_ GE405.out) | exact HB.out)))); have n1_ := Aside0.mk (blk_below (g := gb405) (o := .cells #[.slice A0_0 l0_0.length c0_0, .slice A0_1 l0_1.length c0_1, .int .i64 a0_2] 25 (0, 0)) (by (with_reducible repeat (first | refine blk_drewN ?_ _ | refine blk_drew ?_ | refine blk_alloc ?_ _)); exact BK405.out) hb); have n2_ := Aside0.mk (below_step (by repeat (first | (with_reducible first | exact HB.out | apply below_alloc | apply pw_below_drewN | apply below_drew1 | refine below_set ?_ GE405.out) | exact HB.out)) hb); clear BK405; clear HB; have HO417 := n0_; have BK405 := n1_; have HB := n2_; clear n0_ n1_ n2_; (try clear hb); (try clear hb2); (try clear hk); (try clear hi); (try clear ho0); obtain ⟨Ao25, co25, eo25⟩ := Kd.R_slice HO417.out; subst eo25))
                repeat (go_quiet (first | (go_at_call 16; (with_reducible refine (version_Level.calls k2 _ _ l0_0 _ _ l0_1 a0_2 x8_2 t415 _ ?side1 ?side2 ?side3 ?side4 A22.out).mono ?_); (case side1 => repeat (first | exact (Kd.C_below HR0_0.out HB.out) | (with_reducible refine Kd.C_alloc ?_ _) | (with_reducible refine Kd.C_drewN ?_ _) | (with_reducible refine Kd.C_drew ?_))); (case side2 => exact HC0_0.out); (case side3 => repeat (first | exact (Kd.C_below HR0_1.out HB.out) | (with_reducible refine Kd.C_alloc ?_ _) | (with_reducible refine Kd.C_drewN ?_ _) | (with_reducible refine Kd.C_drew ?_))); (case side4 => exact HC0_1.out); rintro e w24 ⟨v416, rfl, ho0, hb⟩; have n0_ := Aside0.mk (Kd.R_lower ho0 (below_size (by repeat (first | (with_reducible first | exact HB.out | apply below_alloc | apply pw_below_drewN | apply below_drew1 | refine below_set ?_ GE405.out) | exact HB.out)))); have n1_ := Aside0.mk (blk_below (g := gb405) (o := .cells #[.slice A0_0 l0_0.length c0_0, .slice A0_1 l0_1.length c0_1, .int .i64 a0_2] 25 (0, 0)) (by (with_reducible repeat (first | refine blk_drewN ?_ _ | refine blk_drew ?_ | refine blk_alloc ?_ _)); exact BK405.out) hb); have n2_ := Aside0.mk (below_step (by repeat (first | (with_reducible first | exact HB.out | apply below_alloc | apply pw_below_drewN | apply below_drew1 | refine below_set ?_ GE405.out) | exact HB.out)) hb); clear BK405; clear HB; have HO417 := n0_; have BK405 := n1_; have HB := n2_; clear n0_ n1_ n2_; (try clear hb); (try clear hb2); (try clear hk); (try clear hi); (try clear ho0); obtain ⟨Ao25, co25, eo25⟩ := Kd.R_slice HO417.out; subst eo25)); try go_wp2_with (first | (go_at_call 16; (with_reducible refine (version_Level.calls k2 _ _ l0_0 _ _ l0_1 a0_2 x8_2 t415 _ ?side1 ?side2 ?side3 ?side4 A22.out).mono ?_); (case side1 => repeat (first | exact (Kd.C_below HR0_0.out HB.out) | (with_reducible refine Kd.C_alloc ?_ _) | (with_reducible refine Kd.C_drewN ?_ _) | (with_reducible refine Kd.C_drew ?_))); (case side2 => exact HC0_0.out); (case side3 => repeat (first | exact (Kd.C_below HR0_1.out HB.out) | (with_reducible refine Kd.C_alloc ?_ _) | (with_reducible refine Kd.C_drewN ?_ _) | (with_reducible refine Kd.C_drew ?_))); (case side4 => exact HC0_1.out); rintro e w24 ⟨v416, rfl, ho0, hb⟩; have n0_ := Aside0.mk (Kd.R_lower ho0 (below_size (by repeat (first | (with_reducible first | exact HB.out | apply below_alloc | apply pw_below_drewN | apply below_drew1 | refine below_set ?_ GE405.out) | exact HB.out)))); have n1_ := Aside0.mk (blk_below (g := gb405) (o := .cells #[.slice A0_0 l0_0.length c0_0, .slice A0_1 l0_1.length c0_1, .int .i64 a0_2] 25 (0, 0)) (by (with_reducible repeat (first | refine blk_drewN ?_ _ | refine blk_drew ?_ | refine blk_alloc ?_ _)); exact BK405.out) hb); have n2_ := Aside0.mk (below_step (by repeat (first | (with_reducible first | exact HB.out | apply below_alloc | apply pw_below_drewN | apply below_drew1 | refine below_set ?_ GE405.out) | exact HB.out)) hb); clear BK405; clear HB; have HO417 := n0_; have BK405 := n1_; have HB := n2_; clear n0_ n1_ n2_; (try clear hb); (try clear hb2); (try clear hk); (try clear hi); (try clear ho0); obtain ⟨Ao25, co25, eo25⟩ := Kd.R_slice HO417.out; subst eo25)))
                go_roundg k2
                case measure => have := HK1.out; have := HK2.out; omega
                case rel => exact ⟨(wrap64 (x7_2 + (t415.length : Int))), (wrap64 (x8_2 + 1)), (by first | rfl | (simp; done) | (simp [*]; done)), (by first | rfl | (simp; done) | (simp [*]; done)), H', ⟨by have := HK1.out; have := HK2.out; omega⟩, ⟨by (with_reducible repeat (first | refine blk_drewN ?_ _ | refine blk_drew ?_ | refine blk_alloc ?_ _)); exact BK405.out⟩, ⟨by repeat (first | (with_reducible first | exact HB.out | apply below_alloc | apply pw_below_drewN | apply below_drew1 | refine below_set ?_ GE405.out) | exact HB.out)⟩⟩
              · rw [if_neg c21] at H
                have c21b0 : decide (x8_2 < 4) = false := decide_eq_false c21
                clear c21
                by_cases c26 : t406 = true
                · subst c26
                  have H1 : (if t410 = true then (some (x7_2 == (l0_0.length : Int))) else (some true)) = some r := by rw [if_pos rfl] at H; exact H
                  clear H
                  have H := H1
                  clear H1
                  by_cases c27 : t410 = true
                  · subst c27
                    have H1 : (some (x7_2 == (l0_0.length : Int))) = some r := by rw [if_pos rfl] at H; exact H
                    clear H
                    have H := H1
                    clear H1
                    obtain rfl := Option.some.inj H
                    have hcz28_0 : wr.cell? ⟨gb405, 0, none⟩ = some (.slice A0_0 l0_0.length c0_0) := (blk_cell BK405.out 0).trans rfl
                    have hcz28_1 : wr.cell? ⟨gb405, 1, none⟩ = some (.slice A0_1 l0_1.length c0_1) := (blk_cell BK405.out 1).trans rfl
                    have hcz28_2 : wr.cell? ⟨gb405, 2, none⟩ = some (.int .i64 a0_2) := (blk_cell BK405.out 2).trans rfl
                    have hfz28_0 := blk_frozen BK405.out 0
                    have hfz28_1 := blk_frozen BK405.out 1
                    have hfz28_2 := blk_frozen BK405.out 2
                    go_wp2
                    repeat (go_quiet (fail); try go_wp2)
                    go_ret
                    exact ⟨by first | rfl | (simp [errW_none, errW_some] <;> rfl) | (simp [*, errW_none, errW_some] <;> rfl), by repeat (first | (with_reducible first | exact HB.out | apply below_alloc | apply pw_below_drewN | apply below_drew1 | refine below_set ?_ GE405.out) | exact HB.out)⟩
                  · replace c27 := Bool.eq_false_iff.mpr c27
                    subst c27
                    have H1 : (some true) = some r := by rw [if_neg (show ¬ (false = true) by decide)] at H; exact H
                    clear H
                    have H := H1
                    clear H1
                    obtain rfl := Option.some.inj H
                    go_wp2
                    repeat (go_quiet (fail); try go_wp2)
                    go_ret
                    exact ⟨by first | rfl | (simp [errW_none, errW_some] <;> rfl) | (simp [*, errW_none, errW_some] <;> rfl), by repeat (first | (with_reducible first | exact HB.out | apply below_alloc | apply pw_below_drewN | apply below_drew1 | refine below_set ?_ GE405.out) | exact HB.out)⟩
                · replace c26 := Bool.eq_false_iff.mpr c26
                  subst c26
                  have H1 : (some false) = some r := by rw [if_neg (show ¬ (false = true) by decide)] at H; exact H
                  clear H
                  have H := H1
                  clear H1
                  obtain rfl := Option.some.inj H
                  go_wp2
                  repeat (go_quiet (fail); try go_wp2)
                  go_ret
                  exact ⟨by first | rfl | (simp [errW_none, errW_some] <;> rfl) | (simp [*, errW_none, errW_some] <;> rfl), by repeat (first | (with_reducible first | exact HB.out | apply below_alloc | apply pw_below_drewN | apply below_drew1 | refine below_set ?_ GE405.out) | exact HB.out)⟩
  · rw [if_neg c4] at H
    have c4b0 : ((t407.length : Int) == (wrap64 ((l0_0.length : Int) + (l0_1.length : Int)))) = false := beq_eq_false_iff_ne.mpr c4
    have c4b1 : ((t407.length : Int) != (wrap64 ((l0_0.length : Int) + (l0_1.length : Int)))) = true := bne_iff_ne.mpr c4
    obtain rfl := Option.some.inj H
    go_enter Try.func5, Try.ntmps5
    go_wp2_with (first | ((with_reducible refine gate_dst (N := 1) rfl ?_); (try (refine gate_guard (by rfl) ?_; dsimp only)); refine box_event ?hg (N := 1) ?hd (cs := #[.slice A0_0 l0_0.length c0_0, .slice A0_1 l0_1.length c0_1, .int .i64 a0_2]) (t := 25) ?hr ?_; (case hd => rfl); (case hg => rfl); (case hr => first | (go_simp; done) | (go_simp; rfl)); intro gb405 hg w29 hbox hb; have n0_ := Aside0.mk (below_step (by repeat (first | (with_reducible first | exact HB.out | apply below_alloc | apply pw_below_drewN | apply below_drew1) | exact HB.out)) hb); have n1_ := Aside0.mk (hbox); have n2_ := Aside0.mk ((by rw [hg]; exact (below_size (by repeat (first | (with_reducible first | exact HB.out | apply below_alloc | apply pw_below_drewN | apply below_drew1) | exact HB.out))) : w.heap.size ≤ gb405)); have n3_ := Aside0.mk ((by rw [hg]; exact (below_size (by repeat (first | (with_reducible first | exact HB.out | apply below_alloc | apply pw_below_drewN | apply below_drew1) | exact HB.out))) : w.heap.size ≤ gb405)); clear HB; have HB := n0_; have BK405 := n1_; have GW405 := n2_; have GE405 := n3_; clear n0_ n1_ n2_ n3_; clear hb hbox hg) | (go_at_call 9; (with_reducible refine (palinodelaw14_examples.calls k  t406 _ A2.out).mono ?_); rintro e w30 ⟨rfl, hb⟩; have n0_ := Aside0.mk (blk_below (g := gb405) (o := .cells #[.slice A0_0 l0_0.length c0_0, .slice A0_1 l0_1.length c0_1, .int .i64 a0_2] 25 (0, 0)) (by (with_reducible repeat (first | refine blk_drewN ?_ _ | refine blk_drew ?_ | refine blk_alloc ?_ _)); exact BK405.out) hb); have n1_ := Aside0.mk (below_step (by repeat (first | (with_reducible first | exact HB.out | apply below_alloc | apply pw_below_drewN | apply below_drew1 | refine below_set ?_ GE405.out) | exact HB.out)) hb); clear BK405; clear HB; have BK405 := n0_; have HB := n1_; clear n0_ n1_; (try clear hb); (try clear hb2); (try clear hk); (try clear hi); have hcz31_0 : w30.cell? ⟨gb405, 0, none⟩ = some (.slice A0_0 l0_0.length c0_0) := (blk_cell BK405.out 0).trans rfl; have hcz31_1 : w30.cell? ⟨gb405, 1, none⟩ = some (.slice A0_1 l0_1.length c0_1) := (blk_cell BK405.out 1).trans rfl; have hcz31_2 : w30.cell? ⟨gb405, 2, none⟩ = some (.int .i64 a0_2) := (blk_cell BK405.out 2).trans rfl; have hfz31_0 := blk_frozen BK405.out 0; have hfz31_1 := blk_frozen BK405.out 1; have hfz31_2 := blk_frozen BK405.out 2) | (go_at_call 15; (with_reducible refine (version_Live.calls _ _ l0_0 _ _ l0_1 a0_2 t407 _ ?side1 ?side2 ?side3 ?side4 A3.out).mono ?_); (case side1 => repeat (first | exact (Kd.C_below HR0_0.out HB.out) | (with_reducible refine Kd.C_alloc ?_ _) | (with_reducible refine Kd.C_drewN ?_ _) | (with_reducible refine Kd.C_drew ?_))); (case side2 => exact HC0_0.out); (case side3 => repeat (first | exact (Kd.C_below HR0_1.out HB.out) | (with_reducible refine Kd.C_alloc ?_ _) | (with_reducible refine Kd.C_drewN ?_ _) | (with_reducible refine Kd.C_drew ?_))); (case side4 => exact HC0_1.out); rintro e w32 ⟨v408, rfl, ho0, hb⟩; have n0_ := Aside0.mk (Kd.R_lower ho0 (below_size (by repeat (first | (with_reducible first | exact HB.out | apply below_alloc | apply pw_below_drewN | apply below_drew1 | refine below_set ?_ GE405.out) | exact HB.out)))); have n1_ := Aside0.mk (blk_below (g := gb405) (o := .cells #[.slice A0_0 l0_0.length c0_0, .slice A0_1 l0_1.length c0_1, .int .i64 a0_2] 25 (0, 0)) (by (with_reducible repeat (first | refine blk_drewN ?_ _ | refine blk_drew ?_ | refine blk_alloc ?_ _)); exact BK405.out) hb); have n2_ := Aside0.mk (below_step (by repeat (first | (with_reducible first | exact HB.out | apply below_alloc | apply pw_below_drewN | apply below_drew1 | refine below_set ?_ GE405.out) | exact HB.out)) hb); clear BK405; clear HB; have HO409 := n0_; have BK405 := n1_; have HB := n2_; clear n0_ n1_ n2_; (try clear hb); (try clear hb2); (try clear hk); (try clear hi); (try clear ho0); obtain ⟨Ao33, co33, eo33⟩ := Kd.R_slice HO409.out; subst eo33; have hcz34_0 : w32.cell? ⟨gb405, 0, none⟩ = some (.slice A0_0 l0_0.length c0_0) := (blk_cell BK405.out 0).trans rfl; have hcz34_1 : w32.cell? ⟨gb405, 1, none⟩ = some (.slice A0_1 l0_1.length c0_1) := (blk_cell BK405.out 1).trans rfl; have hcz34_2 : w32.cell? ⟨gb405, 2, none⟩ = some (.int .i64 a0_2) := (blk_cell BK405.out 2).trans rfl; have hfz34_0 := blk_frozen BK405.out 0; have hfz34_1 := blk_frozen BK405.out 1; have hfz34_2 := blk_frozen BK405.out 2))
    repeat (go_quiet (first | ((with_reducible refine gate_dst (N := 1) rfl ?_); (try (refine gate_guard (by rfl) ?_; dsimp only)); refine box_event ?hg (N := 1) ?hd (cs := #[.slice A0_0 l0_0.length c0_0, .slice A0_1 l0_1.length c0_1, .int .i64 a0_2]) (t := 25) ?hr ?_; (case hd => rfl); (case hg => rfl); (case hr => first | (go_simp; done) | (go_simp; rfl)); intro gb405 hg w29 hbox hb; have n0_ := Aside0.mk (below_step (by repeat (first | (with_reducible first | exact HB.out | apply below_alloc | apply pw_below_drewN | apply below_drew1) | exact HB.out)) hb); have n1_ := Aside0.mk (hbox); have n2_ := Aside0.mk ((by rw [hg]; exact (below_size (by repeat (first | (with_reducible first | exact HB.out | apply below_alloc | apply pw_below_drewN | apply below_drew1) | exact HB.out))) : w.heap.size ≤ gb405)); have n3_ := Aside0.mk ((by rw [hg]; exact (below_size (by repeat (first | (with_reducible first | exact HB.out | apply below_alloc | apply pw_below_drewN | apply below_drew1) | exact HB.out))) : w.heap.size ≤ gb405)); clear HB; have HB := n0_; have BK405 := n1_; have GW405 := n2_; have GE405 := n3_; clear n0_ n1_ n2_ n3_; clear hb hbox hg) | (go_at_call 9; (with_reducible refine (palinodelaw14_examples.calls k  t406 _ A2.out).mono ?_); rintro e w30 ⟨rfl, hb⟩; have n0_ := Aside0.mk (blk_below (g := gb405) (o := .cells #[.slice A0_0 l0_0.length c0_0, .slice A0_1 l0_1.length c0_1, .int .i64 a0_2] 25 (0, 0)) (by (with_reducible repeat (first | refine blk_drewN ?_ _ | refine blk_drew ?_ | refine blk_alloc ?_ _)); exact BK405.out) hb); have n1_ := Aside0.mk (below_step (by repeat (first | (with_reducible first | exact HB.out | apply below_alloc | apply pw_below_drewN | apply below_drew1 | refine below_set ?_ GE405.out) | exact HB.out)) hb); clear BK405; clear HB; have BK405 := n0_; have HB := n1_; clear n0_ n1_; (try clear hb); (try clear hb2); (try clear hk); (try clear hi); have hcz31_0 : w30.cell? ⟨gb405, 0, none⟩ = some (.slice A0_0 l0_0.length c0_0) := (blk_cell BK405.out 0).trans rfl; have hcz31_1 : w30.cell? ⟨gb405, 1, none⟩ = some (.slice A0_1 l0_1.length c0_1) := (blk_cell BK405.out 1).trans rfl; have hcz31_2 : w30.cell? ⟨gb405, 2, none⟩ = some (.int .i64 a0_2) := (blk_cell BK405.out 2).trans rfl; have hfz31_0 := blk_frozen BK405.out 0; have hfz31_1 := blk_frozen BK405.out 1; have hfz31_2 := blk_frozen BK405.out 2) | (go_at_call 15; (with_reducible refine (version_Live.calls _ _ l0_0 _ _ l0_1 a0_2 t407 _ ?side1 ?side2 ?side3 ?side4 A3.out).mono ?_); (case side1 => repeat (first | exact (Kd.C_below HR0_0.out HB.out) | (with_reducible refine Kd.C_alloc ?_ _) | (with_reducible refine Kd.C_drewN ?_ _) | (with_reducible refine Kd.C_drew ?_))); (case side2 => exact HC0_0.out); (case side3 => repeat (first | exact (Kd.C_below HR0_1.out HB.out) | (with_reducible refine Kd.C_alloc ?_ _) | (with_reducible refine Kd.C_drewN ?_ _) | (with_reducible refine Kd.C_drew ?_))); (case side4 => exact HC0_1.out); rintro e w32 ⟨v408, rfl, ho0, hb⟩; have n0_ := Aside0.mk (Kd.R_lower ho0 (below_size (by repeat (first | (with_reducible first | exact HB.out | apply below_alloc | apply pw_below_drewN | apply below_drew1 | refine below_set ?_ GE405.out) | exact HB.out)))); have n1_ := Aside0.mk (blk_below (g := gb405) (o := .cells #[.slice A0_0 l0_0.length c0_0, .slice A0_1 l0_1.length c0_1, .int .i64 a0_2] 25 (0, 0)) (by (with_reducible repeat (first | refine blk_drewN ?_ _ | refine blk_drew ?_ | refine blk_alloc ?_ _)); exact BK405.out) hb); have n2_ := Aside0.mk (below_step (by repeat (first | (with_reducible first | exact HB.out | apply below_alloc | apply pw_below_drewN | apply below_drew1 | refine below_set ?_ GE405.out) | exact HB.out)) hb); clear BK405; clear HB; have HO409 := n0_; have BK405 := n1_; have HB := n2_; clear n0_ n1_ n2_; (try clear hb); (try clear hb2); (try clear hk); (try clear hi); (try clear ho0); obtain ⟨Ao33, co33, eo33⟩ := Kd.R_slice HO409.out; subst eo33; have hcz34_0 : w32.cell? ⟨gb405, 0, none⟩ = some (.slice A0_0 l0_0.length c0_0) := (blk_cell BK405.out 0).trans rfl; have hcz34_1 : w32.cell? ⟨gb405, 1, none⟩ = some (.slice A0_1 l0_1.length c0_1) := (blk_cell BK405.out 1).trans rfl; have hcz34_2 : w32.cell? ⟨gb405, 2, none⟩ = some (.int .i64 a0_2) := (blk_cell BK405.out 2).trans rfl; have hfz34_0 := blk_frozen BK405.out 0; have hfz34_1 := blk_frozen BK405.out 1; have hfz34_2 := blk_frozen BK405.out 2)); try go_wp2_with (first | ((with_reducible refine gate_dst (N := 1) rfl ?_); (try (refine gate_guard (by rfl) ?_; dsimp only)); refine box_event ?hg (N := 1) ?hd (cs := #[.slice A0_0 l0_0.length c0_0, .slice A0_1 l0_1.length c0_1, .int .i64 a0_2]) (t := 25) ?hr ?_; (case hd => rfl); (case hg => rfl); (case hr => first | (go_simp; done) | (go_simp; rfl)); intro gb405 hg w29 hbox hb; have n0_ := Aside0.mk (below_step (by repeat (first | (with_reducible first | exact HB.out | apply below_alloc | apply pw_below_drewN | apply below_drew1) | exact HB.out)) hb); have n1_ := Aside0.mk (hbox); have n2_ := Aside0.mk ((by rw [hg]; exact (below_size (by repeat (first | (with_reducible first | exact HB.out | apply below_alloc | apply pw_below_drewN | apply below_drew1) | exact HB.out))) : w.heap.size ≤ gb405)); have n3_ := Aside0.mk ((by rw [hg]; exact (below_size (by repeat (first | (with_reducible first | exact HB.out | apply below_alloc | apply pw_below_drewN | apply below_drew1) | exact HB.out))) : w.heap.size ≤ gb405)); clear HB; have HB := n0_; have BK405 := n1_; have GW405 := n2_; have GE405 := n3_; clear n0_ n1_ n2_ n3_; clear hb hbox hg) | (go_at_call 9; (with_reducible refine (palinodelaw14_examples.calls k  t406 _ A2.out).mono ?_); rintro e w30 ⟨rfl, hb⟩; have n0_ := Aside0.mk (blk_below (g := gb405) (o := .cells #[.slice A0_0 l0_0.length c0_0, .slice A0_1 l0_1.length c0_1, .int .i64 a0_2] 25 (0, 0)) (by (with_reducible repeat (first | refine blk_drewN ?_ _ | refine blk_drew ?_ | refine blk_alloc ?_ _)); exact BK405.out) hb); have n1_ := Aside0.mk (below_step (by repeat (first | (with_reducible first | exact HB.out | apply below_alloc | apply pw_below_drewN | apply below_drew1 | refine below_set ?_ GE405.out) | exact HB.out)) hb); clear BK405; clear HB; have BK405 := n0_; have HB := n1_; clear n0_ n1_; (try clear hb); (try clear hb2); (try clear hk); (try clear hi); have hcz31_0 : w30.cell? ⟨gb405, 0, none⟩ = some (.slice A0_0 l0_0.length c0_0) := (blk_cell BK405.out 0).trans rfl; have hcz31_1 : w30.cell? ⟨gb405, 1, none⟩ = some (.slice A0_1 l0_1.length c0_1) := (blk_cell BK405.out 1).trans rfl; have hcz31_2 : w30.cell? ⟨gb405, 2, none⟩ = some (.int .i64 a0_2) := (blk_cell BK405.out 2).trans rfl; have hfz31_0 := blk_frozen BK405.out 0; have hfz31_1 := blk_frozen BK405.out 1; have hfz31_2 := blk_frozen BK405.out 2) | (go_at_call 15; (with_reducible refine (version_Live.calls _ _ l0_0 _ _ l0_1 a0_2 t407 _ ?side1 ?side2 ?side3 ?side4 A3.out).mono ?_); (case side1 => repeat (first | exact (Kd.C_below HR0_0.out HB.out) | (with_reducible refine Kd.C_alloc ?_ _) | (with_reducible refine Kd.C_drewN ?_ _) | (with_reducible refine Kd.C_drew ?_))); (case side2 => exact HC0_0.out); (case side3 => repeat (first | exact (Kd.C_below HR0_1.out HB.out) | (with_reducible refine Kd.C_alloc ?_ _) | (with_reducible refine Kd.C_drewN ?_ _) | (with_reducible refine Kd.C_drew ?_))); (case side4 => exact HC0_1.out); rintro e w32 ⟨v408, rfl, ho0, hb⟩; have n0_ := Aside0.mk (Kd.R_lower ho0 (below_size (by repeat (first | (with_reducible first | exact HB.out | apply below_alloc | apply pw_below_drewN | apply below_drew1 | refine below_set ?_ GE405.out) | exact HB.out)))); have n1_ := Aside0.mk (blk_below (g := gb405) (o := .cells #[.slice A0_0 l0_0.length c0_0, .slice A0_1 l0_1.length c0_1, .int .i64 a0_2] 25 (0, 0)) (by (with_reducible repeat (first | refine blk_drewN ?_ _ | refine blk_drew ?_ | refine blk_alloc ?_ _)); exact BK405.out) hb); have n2_ := Aside0.mk (below_step (by repeat (first | (with_reducible first | exact HB.out | apply below_alloc | apply pw_below_drewN | apply below_drew1 | refine below_set ?_ GE405.out) | exact HB.out)) hb); clear BK405; clear HB; have HO409 := n0_; have BK405 := n1_; have HB := n2_; clear n0_ n1_ n2_; (try clear hb); (try clear hb2); (try clear hk); (try clear hi); (try clear ho0); obtain ⟨Ao33, co33, eo33⟩ := Kd.R_slice HO409.out; subst eo33; have hcz34_0 : w32.cell? ⟨gb405, 0, none⟩ = some (.slice A0_0 l0_0.length c0_0) := (blk_cell BK405.out 0).trans rfl; have hcz34_1 : w32.cell? ⟨gb405, 1, none⟩ = some (.slice A0_1 l0_1.length c0_1) := (blk_cell BK405.out 1).trans rfl; have hcz34_2 : w32.cell? ⟨gb405, 2, none⟩ = some (.int .i64 a0_2) := (blk_cell BK405.out 2).trans rfl; have hfz34_0 := blk_frozen BK405.out 0; have hfz34_1 := blk_frozen BK405.out 1; have hfz34_2 := blk_frozen BK405.out 2)))
    go_ret
    exact ⟨by first | rfl | (simp [errW_none, errW_some] <;> rfl) | (simp [*, errW_none, errW_some] <;> rfl), by repeat (first | (with_reducible first | exact HB.out | apply below_alloc | apply pw_below_drewN | apply below_drew1 | refine below_set ?_ GE405.out) | exact HB.out)⟩

end Go.Proofs.Ytokimlfagpddlaa.PD

/-
  Layer 14, the plain part: the order of texts, what a right version is, its levels.
-/
set_option linter.unusedVariables false
set_option linter.unusedSimpArgs false
namespace Go.Proofs.Ytokimlfagpddlaa.PD
open Go.RowKit Go.Proofs.Ytokimlfagpddlaa Go.Proofs.YtokimlfagpddlaaW.PrintWords

abbrev MetaT := S35
theorem wrapP (n : Int) (h0 : -4611686018427387904 ≤ n) (h : n ≤ 4611686018427387904) : wrap64 n = n := by unfold wrap64; omega
theorem rd_get (L : List MetaT) (i : Nat) : rd_T35 L (i : Int) = L.getD i z35 := by simp [rd_T35]
theorem getD_eq (L : List MetaT) (i : Nat) (h : i < L.length) : L.getD i z35 = L[i] := by simp [List.getD, h]

/-! ### the order of texts -/
theorem less_trans : ∀ x y z : List UInt8, Op.bytesLess x y = true → Op.bytesLess y z = true → Op.bytesLess x z = true
  | x, y, [], _, h => by cases y <;> simp [Op.bytesLess] at h
  | x, [], _ :: _, h, _ => by cases x <;> simp [Op.bytesLess] at h
  | [], _ :: _, _ :: _, _, _ => rfl
  | a :: x, b :: y, c :: z, h1, h2 => by
    simp only [Op.bytesLess, Bool.or_eq_true, decide_eq_true_eq, Bool.and_eq_true, beq_iff_eq] at h1 h2 ⊢
    rcases h1 with h1 | ⟨rfl, h1⟩
    · rcases h2 with h2 | ⟨rfl, h2⟩
      · exact .inl (by
          have := UInt8.lt_iff_toNat_lt.1 h1
          have := UInt8.lt_iff_toNat_lt.1 h2
          exact UInt8.lt_iff_toNat_lt.2 (by omega))
      · exact .inl h1
    · rcases h2 with h2 | ⟨rfl, h2⟩
      · exact .inl h2
      · exact .inr ⟨rfl, less_trans x y z h1 h2⟩
/-- One text is less than another one. -/
def Lt (a b : ByteArray) : Prop := Op.bytesLess a.toList b.toList = true
theorem Lt.trans {a b c : ByteArray} (h : Lt a b) (k : Lt b c) : Lt a c := less_trans _ _ _ h k
/-! ### a right version -/
theorem meta_true (m : MetaT) (h : version_Right.meta_ m = true) : (0 ≤ m.f1 ∧ m.f1 < 4) ∧ ¬ Lt m.f3 m.f2 := by
  unfold version_Right.meta_ version_meta.f at h
  repeat' split at h
  all_goals first | (exfalso; revert h; simp; done) | exact ⟨⟨by omega, by omega⟩, by unfold Lt; assumption⟩
theorem right_facts {V : List MetaT} {G : List Int} {a : Int} (h : version_Right.tell V G a = true) :
    V.length ≤ 200 ∧ G.length ≤ 20 ∧ (0 ≤ a ∧ a ≤ 9007199254740991) ∧ (V.map (·.f0) ++ G).Nodup ∧ (∀ m ∈ V, version_Right.meta_ m = true) ∧ ∀ i, i + 1 < V.length → version_Right.step_ (V.getD i z35) (V.getD (i + 1) z35) = true := by
  unfold version_Right.tell at h
  simp only [Bool.and_eq_true, decide_eq_true_eq, List.all_eq_true, List.mem_range] at h
  obtain ⟨hl, hg, h0, h1, hnd, -, hall⟩ := h
  refine ⟨hl, hg, ⟨h0, h1⟩, hnd, fun m hm => ?_, fun i hi => ?_⟩
  · obtain ⟨i, hi, rfl⟩ := List.getElem_of_mem hm
    have h1 := hall i hi
    unfold version_Right.good_ at h1
    rw [Bool.and_eq_true] at h1
    have h2 := h1.1
    rw [getD_eq V i hi] at h2
    exact h2
  · have h1 := hall (i + 1) hi
    unfold version_Right.good_ at h1
    rw [Bool.and_eq_true] at h1
    simpa using h1.2
/-- The tables of a level. -/
def lev (V : List MetaT) (n : Int) : List MetaT := V.filter (fun m => decide (m.f1 = n))
theorem lev_len (V : List MetaT) (n : Int) : (lev V n).length ≤ V.length := List.length_filter_le _ _
/-- All tables of levels 0 to 3 stand in one of them. -/
theorem lev_sum : ∀ (V : List MetaT), (∀ m ∈ V, 0 ≤ m.f1 ∧ m.f1 < 4) → (lev V 0).length + (lev V 1).length + (lev V 2).length + (lev V 3).length = V.length
  | [], _ => rfl
  | x :: V, h => by
    have ih := lev_sum V (fun m hm => h m (List.mem_cons_of_mem _ hm))
    have hx := h x (by simp)
    unfold lev at ih ⊢
    rcases (by omega : x.f1 = 0 ∨ x.f1 = 1 ∨ x.f1 = 2 ∨ x.f1 = 3) with e | e | e | e <;> simp [List.filter_cons, e] <;> omega
/-! ### Level -/
theorem level_l0 (V : List MetaT) (n : Int) (hV : V.length ≤ 2513169434916) : ∀ (d i k : Nat) (acc : List MetaT), V.length = i + d → acc.length ≤ i → d + 1 ≤ k →
    version_Level.l0 k n acc V (V.length : Int) (i : Int) = some (acc ++ lev (V.drop i) n) := by
  intro d
  induction d with
  | zero =>
    intro i k acc hi ha hk
    obtain ⟨k, rfl⟩ : ∃ j, k = j + 1 := ⟨k - 1, by omega⟩
    rw [version_Level.l0, if_neg (by omega), List.drop_eq_nil_of_le (by omega)]
    simp [lev]
  | succ d ih =>
    intro i k acc hi ha hk
    obtain ⟨k, rfl⟩ : ∃ j, k = j + 1 := ⟨k - 1, by omega⟩
    have e1 : wrap64 ((i : Int) + 1) = ((i + 1 : Nat) : Int) := by rw [wrapP _ (by omega) (by omega)]; omega
    have hc : V.drop i = V[i]'(by omega) :: V.drop (i + 1) := List.drop_eq_getElem_cons (by omega)
    rw [version_Level.l0, if_pos (by omega), if_pos (by omega), if_pos (by omega), e1, rd_get, getD_eq V i (by omega), hc]
    by_cases h : (V[i]'(by omega)).f1 = n
    · have e : lev (V[i]'(by omega) :: V.drop (i + 1)) n = V[i]'(by omega) :: lev (V.drop (i + 1)) n := by
        unfold lev
        rw [List.filter_cons, if_pos (by simp [h])]
      rw [if_pos h, if_pos (by omega), ih (i + 1) k _ (by omega) (by simp; omega) (by omega), e, List.append_assoc]
      rfl
    · have e : lev (V[i]'(by omega) :: V.drop (i + 1)) n = lev (V.drop (i + 1)) n := by
        unfold lev
        rw [List.filter_cons, if_neg (by simp [h])]
      rw [if_neg h, ih (i + 1) k _ (by omega) (by omega) (by omega), e]
theorem level_some (V : List MetaT) (G : List Int) (a n : Int) (hV : V.length ≤ 2513169434916) (k : Nat) (hk : V.length + 1 ≤ k) : version_Level.f k V G a n = some (lev V n) := by
  have := level_l0 V n hV V.length 0 k [] (by omega) (by simp) hk
  simpa [version_Level.f] using this
end Go.Proofs.Ytokimlfagpddlaa.PD

/-
  VersionLive: the plain law. What lives are the files of tables and logs, rising, in a right version each once; and the levels hold all tables.
-/
set_option linter.unusedVariables false
set_option linter.unusedSimpArgs false
namespace Go.Proofs.Ytokimlfagpddlaa.PD
open Go.RowKit Go.Proofs.Ytokimlfagpddlaa Go.Proofs.YtokimlfagpddlaaW.PrintWords

section
variable {L : List MetaT} {G : List Int} {a : Int}
theorem live_l1 (t : Bool) (hL : L.length ≤ 2000000) (ht : t = true → ∀ m ∈ L, 0 ≤ m.f1 ∧ m.f1 < 4) (k : Nat) (hk : L.length + 6 ≤ k) : palinodelaw14_VersionLive.l1 k true t 0 0 L G a = some true := by
  obtain ⟨k, rfl⟩ : ∃ j, k = j + 5 := ⟨k - 5, by omega⟩
  have l0 := lev_len L 0
  have l1 := lev_len L 1
  have l2 := lev_len L 2
  have l3 := lev_len L 3
  have w1 : wrap64 (0 + ((lev L 0).length : Int)) = ((lev L 0).length : Int) := by rw [wrapP _ (by omega) (by omega)]; omega
  have w2 : wrap64 (((lev L 0).length : Int) + ((lev L 1).length : Int)) = ((lev L 0).length : Int) + ((lev L 1).length : Int) := wrapP _ (by omega) (by omega)
  have w3 : wrap64 (((lev L 0).length : Int) + ((lev L 1).length : Int) + ((lev L 2).length : Int)) = ((lev L 0).length : Int) + ((lev L 1).length : Int) + ((lev L 2).length : Int) := wrapP _ (by omega) (by omega)
  have w4 : wrap64 (((lev L 0).length : Int) + ((lev L 1).length : Int) + ((lev L 2).length : Int) + ((lev L 3).length : Int)) = ((lev L 0).length : Int) + ((lev L 1).length : Int) + ((lev L 2).length : Int) + ((lev L 3).length : Int) := wrapP _ (by omega) (by omega)
  have v1 : wrap64 ((0 : Int) + 1) = 1 := wrapP _ (by omega) (by omega)
  have v2 : wrap64 ((1 : Int) + 1) = 2 := wrapP _ (by omega) (by omega)
  have v3 : wrap64 ((2 : Int) + 1) = 3 := wrapP _ (by omega) (by omega)
  have v4 : wrap64 ((3 : Int) + 1) = 4 := wrapP _ (by omega) (by omega)
  have hv : ∀ n k, L.length + 1 ≤ k → version_Level.f k L G a n = some (lev L n) := fun n k h => level_some L G a n (by omega) k h
  rw [show k + 5 = (k + 4) + 1 by omega, palinodelaw14_VersionLive.l1, if_pos (by omega), hv 0 _ (by omega), Option.bind_some, w1, v1]
  rw [show k + 4 = (k + 3) + 1 by omega, palinodelaw14_VersionLive.l1, if_pos (by omega), hv 1 _ (by omega), Option.bind_some, w2, v2]
  rw [show k + 3 = (k + 2) + 1 by omega, palinodelaw14_VersionLive.l1, if_pos (by omega), hv 2 _ (by omega), Option.bind_some, w3, v3]
  rw [show k + 2 = (k + 1) + 1 by omega, palinodelaw14_VersionLive.l1, if_pos (by omega), hv 3 _ (by omega), Option.bind_some, w4, v4]
  rw [palinodelaw14_VersionLive.l1, if_neg (by omega), if_pos rfl]
  cases t with
  | false => rw [if_neg (by decide)]
  | true =>
    rw [if_pos rfl]
    have := lev_sum L (ht rfl)
    have e : ((lev L 0).length : Int) + ((lev L 1).length : Int) + ((lev L 2).length : Int) + ((lev L 3).length : Int) = (L.length : Int) := by omega
    rw [e]
    simp
theorem live_l0 (t : Bool) (S : List Int) (hS : S.length ≤ 2000000) (hp : S.Pairwise (· ≤ ·)) (hn : t = true → S.Nodup) (K : Nat) (h : ∀ k, K ≤ k → palinodelaw14_VersionLive.l1 k true t 0 0 L G a = some true) :
    ∀ (d i k : Nat), 1 ≤ i → S.length ≤ i + d → K + d + 1 ≤ k → palinodelaw14_VersionLive.l0 k true S t (i : Int) L G a = some true := by
  intro d
  have hr : ∀ j : Nat, rd S (j : Int) = S.getD j 0 := fun j => by simp [rd]
  induction d with
  | zero =>
    intro i k h1 hi hk
    obtain ⟨k, rfl⟩ : ∃ j, k = j + 1 := ⟨k - 1, by omega⟩
    rw [palinodelaw14_VersionLive.l0, if_neg (by omega)]
    exact h k (by omega)
  | succ d ih =>
    intro i k h1 hi hk
    obtain ⟨k, rfl⟩ : ∃ j, k = j + 1 := ⟨k - 1, by omega⟩
    by_cases hlt : i < S.length
    · have e1 : wrap64 ((i : Int) + 1) = ((i + 1 : Nat) : Int) := by rw [wrapP _ (by omega) (by omega)]; omega
      have e3 : wrap64 ((i : Int) - 1) = ((i - 1 : Nat) : Int) := by rw [wrapP _ (by omega) (by omega)]; omega
      have g0 : S.getD i 0 = S[i] := by simp [List.getD, hlt]
      have g1 : S.getD (i - 1) 0 = S[i - 1]'(by omega) := by simp [List.getD, show i - 1 < S.length by omega]
      have hle : S[i - 1]'(by omega) ≤ S[i] := (List.pairwise_iff_getElem.1 hp) (i - 1) i (by omega) hlt (by omega)
      rw [palinodelaw14_VersionLive.l0, e3, e1, hr, hr, g0, g1, if_pos (by omega), if_pos (by omega), if_pos (by omega), if_pos (by omega), if_neg (by omega), ih (i + 1) k (by omega) (by omega) (by omega)]
      cases t with
      | false => rw [if_neg (by decide)]
      | true =>
        rw [if_pos rfl]
        have hne : S[i - 1]'(by omega) ≠ S[i] := (List.pairwise_iff_getElem.1 (hn rfl)) (i - 1) i (by omega) hlt (by omega)
        rw [if_neg (fun q => hne q.symm)]
    · rw [palinodelaw14_VersionLive.l0, if_neg (by omega)]
      exact h k (by omega)
end
theorem VersionLive_true (L : List MetaT) (G : List Int) (a : Int) (hsz : L.length + G.length ≤ 1048576) (hb : (∀ m ∈ L, -9223372036854775808 ≤ m.f0 ∧ m.f0 ≤ 9223372036854775807) ∧ (∀ n ∈ G, -9223372036854775808 ≤ n ∧ n ≤ 9223372036854775807)) :
    ∃ k, palinodelaw14_VersionLive.f k L G a = some true := by
  have hR : version_Right.f L G a = some (version_Right.tell L G a) := by unfold version_Right.f; rw [if_pos hb]
  have hE : ∀ k, 12 ≤ k → palinodelaw14_examples.f k = some true := fun k h => at_rounds palinodelaw14_examples.mono h palinodelaw14_examples.sure
  obtain ⟨S, hS⟩ : ∃ S, S = version_Live.sort (L.map (·.f0) ++ G) := ⟨_, rfl⟩
  have hLv : version_Live.f L G a = some S := by unfold version_Live.f; rw [if_pos (by omega), hS]
  have hperm : S.Perm (L.map (·.f0) ++ G) := by rw [hS]; exact version_Live.sort_perm _
  have hlen : S.length = L.length + G.length := by rw [hperm.length_eq, List.length_append, List.length_map]
  have hpw : S.Pairwise (· ≤ ·) := by rw [hS]; exact version_Live.sort_pw _
  refine ⟨L.length + 6 + S.length + 20, ?_⟩
  unfold palinodelaw14_VersionLive.f
  rw [hE _ (by omega), Option.bind_some, hLv, Option.bind_some, if_pos (by rw [wrapP _ (by omega) (by omega), hlen]; omega), hR, Option.bind_some]
  refine live_l0 _ S (by omega) hpw (fun h => ?_) (L.length + 6) (fun k hk => live_l1 _ (by omega) (fun h m hm => ?_) k hk) S.length 1 _ (by omega) (by omega) (by omega)
  · exact hperm.nodup_iff.2 (right_facts h).2.2.2.1
  · exact (meta_true m ((right_facts h).2.2.2.2.1 m hm)).1
end Go.Proofs.Ytokimlfagpddlaa.PD

/-
  Arguments opened: what lies at a type, as_ the print's kinds tell it (of any depth: whole numbers, truths, strings, structs, slices of these), with the bounds that a row's weights give.
-/
set_option linter.unusedVariables false
set_option linter.unusedSimpArgs false
namespace Go.Proofs.Ytokimlfagpddlaa
open Go.RowKit Go.Proofs.YtokimlfagpddlaaW.PrintWords Go.ChangeShapes Go.WideShapes Go.Deep

/-- Of a type: any cells that a datum stands on are of the kind, and good. -/
structure Opn (P : Program) (t : TypeId) {α : Type} (k : Kd α) (good : α → Prop) : Prop where
  sz : P.cellsOf t = k.sz
  op : ∀ {H : Type} {enc : TypeId × Value → H} {w : World} {base : Nat} {spare : Nat → Bool} {held : Bool} {fuel : Nat} {cs : List Value} {x : DataW H × List MemPlace},
    DataW.trod enc P w base spare held fuel t cs = some x → (∀ n ∈ x.1.weights P t, n ≤ reachBytes) → ∃ a : α, k.K w a cs ∧ good a
/-- Of a struct's fields, from a place on. -/
structure OpnF (P : Program) (fs : List Field) (off : Nat) {α : Type} (k : Kd α) (good : α → Prop) : Prop where
  op : ∀ {H : Type} {enc : TypeId × Value → H} {w : World} {base : Nat} {spare : Nat → Bool} {held : Bool} {fuel : Nat} {cs : List Value} {xs : List (DataW H × List MemPlace)},
    cs.length = off + k.sz → xs.length = fs.length → (∀ (i : Nat) (f : Field), fs[i]? = some f → DataW.trod enc P w base spare held fuel f.type ((cs.drop f.offset).take (P.cellsOf f.type)) = xs[i]?) →
    (∀ n ∈ DataW.weightsEach P (fs.map (·.type)) (xs.map (·.1)), n ≤ reachBytes) → ∃ a : α, k.K w a (cs.drop off) ∧ good a

theorem Opn.imp {P : Program} {t : TypeId} {α : Type} {k : Kd α} {good good' : α → Prop} (h : Opn P t k good) (hg : ∀ a, good a → good' a) : Opn P t k good' :=
  ⟨h.sz, fun hx hw => by obtain ⟨a, ha, hga⟩ := h.op hx hw; exact ⟨a, ha, hg a hga⟩⟩
theorem opn_int {P : Program} {t : TypeId} (ht : P.underlying t = some (.int .i64)) (hs : P.cellsOf t = 1) : Opn P t (Kd.int .i64) (fun n => -9223372036854775808 ≤ n ∧ n ≤ 9223372036854775807) :=
  ⟨hs, fun hx _ => by
    obtain ⟨n, rfl, _, hw⟩ := DataW.trod_int ht hx
    exact ⟨n, rfl, bounds_i64 hw⟩⟩
theorem opn_string {P : Program} {t : TypeId} (ht : P.underlying t = some .string) (hs : P.cellsOf t = 1) : Opn P t Kd.string (fun s => s.size ≤ reachBytes) :=
  ⟨hs, fun {H enc w base spare held fuel cs x} hx hw => by
    obtain ⟨s, rfl, hd, _⟩ := DataW.trod_string ht hx
    refine ⟨s, rfl, hw _ ?_⟩
    rw [hd]
    simp [DataW.weights]⟩
theorem opnF_one {P : Program} {f : Field} {off : Nat} {α : Type} {k : Kd α} {good : α → Prop} (h : Opn P f.type k good) (ho : f.offset = off) : OpnF P [f] off k good :=
  ⟨fun {H enc w base spare held fuel cs xs} hl hx hf hw => by
    match xs, hx with
    | [x], _ =>
      have h1 := hf 0 f rfl
      rw [ho, h.sz, List.take_of_length_le (by rw [List.length_drop]; omega)] at h1
      refine h.op h1 (fun n hn => hw n ?_)
      simp only [List.map_cons, List.map_nil, DataW.weightsEach, List.append_nil]
      exact hn⟩
theorem opnF_more {P : Program} {f : Field} {fs : List Field} {off : Nat} {α β : Type} {k : Kd α} {k' : Kd β} {good : α → Prop} {good' : β → Prop} (h : Opn P f.type k good) (ho : f.offset = off) (hr : OpnF P fs (off + k.sz) k' good') :
    OpnF P (f :: fs) off (Kd.pair k k') (fun x => good x.1 ∧ good' x.2) :=
  ⟨fun {H enc w base spare held fuel cs xs} hl hx hf hw => by
    match xs, hx with
    | x :: xs, hx =>
      have h1 := hf 0 f rfl
      rw [ho, h.sz] at h1
      have hl' : cs.length = off + (k.sz + k'.sz) := hl
      obtain ⟨a, ha, hga⟩ := h.op h1 (fun n hn => hw n (by
        simp only [List.map_cons, DataW.weightsEach]
        exact List.mem_append_left _ hn))
      obtain ⟨b, hb, hgb⟩ := hr.op (cs := cs) (xs := xs) (by omega) (by simpa using hx) (fun i g hg => by simpa using hf (i + 1) g (by simpa using hg)) (fun n hn => hw n (by
        simp only [List.map_cons, DataW.weightsEach]
        exact List.mem_append_right _ hn))
      refine ⟨(a, b), ⟨(cs.drop off).take k.sz, cs.drop (off + k.sz), ?_, ha, hb⟩, hga, hgb⟩
      rw [← List.drop_drop, List.take_append_drop]⟩
theorem opn_struct {P : Program} {t : TypeId} {fs : Array Field} {α β : Type} {k : Kd α} {f : β → α} {g : α → β} {good : α → Prop} (ht : P.underlying t = some (.struct fs)) (h : OpnF P fs.toList 0 k good) (hs : P.cellsOf t = k.sz) (hfg : ∀ a, f (g a) = a) :
    Opn P t (Kd.iso k f) (fun b => good (f b)) :=
  ⟨hs, fun {H enc w base spare held fuel cs x} hx hw => by
    obtain ⟨xs, n, _, rfl, hl, hxl, hf⟩ := DataW.trod_struct ht hx
    obtain ⟨a, ha, hga⟩ := h.op (cs := cs) (xs := xs) (by omega) (by simpa using hxl) (fun i f hi => hf i f (by simpa using hi)) (fun n hn => hw n (by
      simp only [DataW.weights, ht]
      exact hn))
    rw [List.drop_zero] at ha
    exact ⟨g a, by show k.K w (f (g a)) cs; rw [hfg]; exact ha, by rw [hfg]; exact hga⟩⟩
theorem weightsAll_mem {H : Type} {P : Program} {e : TypeId} : ∀ {ds : List (DataW H)} {d : DataW H}, d ∈ ds → ∀ n ∈ d.weights P e, n ∈ DataW.weightsAll P e ds
  | d0 :: ds, d, hd, n, hn => by
    simp only [DataW.weightsAll, List.mem_append]
    rcases List.mem_cons.1 hd with rfl | hd
    · exact .inl hn
    · exact .inr (weightsAll_mem hd n hn)
theorem choose_fn {α : Type} (d : α) {p : Nat → α → Prop} {m : Nat} (h : ∀ i, i < m → ∃ a, p i a) : ∃ F : Nat → α, ∀ i, i < m → p i (F i) := by
  classical
  exact ⟨fun i => if hi : i < m then (h i hi).choose else d, fun i hi => by simp only [dif_pos hi]; exact (h i hi).choose_spec⟩
theorem opn_slice {P : Program} {t e : TypeId} {α : Type} {k : Kd α} {good : α → Prop} {b : Nat} (ht : P.underlying t = some (.slice e)) (h : Opn P e k good) (hs : P.cellsOf t = 1) (hb : P.bytesOf e = b) :
    Opn P t (Kd.slice e k) (fun xs => xs.length ≤ 9223372036854775807 ∧ xs.length * b ≤ reachBytes ∧ ∀ x ∈ xs, good x) :=
  ⟨hs, fun {H enc w base spare held fuel cs x} hx hw => by
    rcases open_slice ht hx with ⟨rfl, rfl⟩ | ⟨a, len, cap, m, n, D, Pl, rfl, hbl, hl, hm, hmm, rfl, hi⟩
    · exact ⟨[], ⟨none, 0, rfl, Nat.le_refl _, Kd.C_nil _ _⟩, Nat.zero_le _, by simp, fun _ h => by simp at h⟩
    · have hlm : len ≤ m := by rw [hmm]; split <;> omega
      have key : ∀ i, i < len → ∃ a' : α, (∃ c, c.length = k.sz ∧ k.K w a' c ∧ ∀ j u, c[j]? = some u → w.cell? (a.add (i * k.sz + j)) = some u) ∧ good a' := fun i hil => by
        obtain ⟨cs', hc, ht'⟩ := hi i (by omega)
        obtain ⟨_, hcl, hat⟩ := World.cells?_some hc
        obtain ⟨a', ha, hg⟩ := h.op ht' (fun n hn => hw n (by
          simp only [DataW.weights, ht]
          refine List.mem_cons_of_mem _ (List.mem_append_left _ (weightsAll_mem (d := D i) ?_ n hn))
          exact List.mem_map.2 ⟨i, List.mem_range.2 hil, rfl⟩))
        refine ⟨a', ⟨cs', by rw [hcl, h.sz], ha, fun j u hu => ?_⟩, hg⟩
        have hj : j < cs'.length := (List.getElem?_eq_some_iff.1 hu).1
        have := hat j (by omega)
        rw [← Go.Deep.add_add, ← h.sz, this, hu]
      rcases Nat.eq_zero_or_pos len with h0 | hpos
      · subst h0
        exact ⟨[], ⟨some a, cap, rfl, hl, ⟨rfl, by simp, fun h => absurd h (Nat.lt_irrefl 0)⟩⟩, Nat.zero_le _, by simp, fun _ h => by simp at h⟩
      · obtain ⟨d, _⟩ := key 0 hpos
        obtain ⟨F, hF⟩ := choose_fn d key
        have hlen : ((List.range len).map F).length = len := by simp
        have hget : ∀ j p, ((List.range len).map F)[j]? = some p → j < len ∧ p = F j := fun j p hp => by
          have hj : j < len := by have := (List.getElem?_eq_some_iff.1 hp).1; omega
          rw [List.getElem?_map, List.getElem?_range hj] at hp
          exact ⟨hj, (Option.some.inj hp).symm⟩
        refine ⟨(List.range len).map F, ⟨some a, cap, by rw [hlen], by rw [hlen]; exact hl, ⟨rfl, by rw [hlen]; exact Nat.le_trans hl hm, fun _ => ⟨a, rfl, fun j p hp => ?_⟩⟩⟩, by rw [hlen]; exact Nat.le_trans hl hm, ?_, fun x hx => ?_⟩
        · obtain ⟨hj, rfl⟩ := hget j p hp
          obtain ⟨⟨c, hc, hk, hcell⟩, _⟩ := hF j hj
          exact ⟨c, hc, hk, hcell⟩
        · have := hw ((len + (m - len)) * P.bytesOf e) (by simp [DataW.weights, ht])
          rw [hlen, ← hb]
          exact Nat.le_trans (Nat.mul_le_mul_right _ (Nat.le_add_right _ _)) this
        · obtain ⟨i, hi', rfl⟩ := List.mem_map.1 hx
          exact (hF i (List.mem_range.1 hi')).2⟩
/-- A law's argument. -/
theorem Opn.arg {P : Program} {t : TypeId} {α : Type} {k : Kd α} {good : α → Prop} (ho : Opn P t k good) {H : Type} {enc : TypeId × Value → H} {w : World} {base : Nat} {spare : Nat → Bool} {held : Bool} {v : Value} {d : DataW H} {p : List MemPlace} (h : DataW.Trod enc P w base spare held t v d p)
    {ts : List TypeId} {ds : List (DataW H)} {j : Nat} (hsz : (DataW.weightsEach P ts ds).all (· ≤ reachBytes) = true) (htj : ts[j]? = some t) (hdj : ds[j]? = some d) : ∃ a : α, k.K w a v.cells.toList ∧ good a := by
  obtain ⟨fuel, hf⟩ := h
  exact ho.op hf (fun n hn => by simpa using List.all_eq_true.1 hsz n (DataW.weights_mem_each htj hdj n hn))
end Go.Proofs.Ytokimlfagpddlaa

/-
  A version, opened.
-/
namespace Go.Proofs.Ytokimlfagpddlaa.PD
open Go.RowKit Go.Proofs.Ytokimlfagpddlaa Go.Proofs.YtokimlfagpddlaaW.PrintWords
theorem opn_Meta : Opn Try.prog 35 k35 (fun b => (-9223372036854775808 ≤ b.f0 ∧ b.f0 ≤ 9223372036854775807) ∧ (-9223372036854775808 ≤ b.f1 ∧ b.f1 ≤ 9223372036854775807) ∧ b.f2.size ≤ reachBytes ∧ b.f3.size ≤ reachBytes ∧ (-9223372036854775808 ≤ b.f4 ∧ b.f4 ≤ 9223372036854775807)) :=
  opn_struct Try.underlying35 (opnF_more (opn_int Try.underlying3 (by kernel_rfl)) rfl (opnF_more (opn_int Try.underlying3 (by kernel_rfl)) rfl (opnF_more (opn_string Try.underlying9 (by kernel_rfl)) rfl (opnF_more (opn_string Try.underlying9 (by kernel_rfl)) rfl (opnF_one (opn_int Try.underlying3 (by kernel_rfl)) rfl))))) (by kernel_rfl)
    (g := fun a => (⟨a.1, a.2.1, a.2.2.1, a.2.2.2.1, a.2.2.2.2⟩ : S35)) (fun _ => rfl)
theorem opn_Version : Opn Try.prog 25 (Kd.iso (Kd.pair (Kd.slice 35 k35) (Kd.pair (Kd.slice 3 (Kd.int .i64)) (Kd.int .i64))) id)
    (fun x => (x.1.length ≤ 2513169434916 ∧ ∀ m ∈ x.1, -9223372036854775808 ≤ m.f0 ∧ m.f0 ≤ 9223372036854775807) ∧ (∀ n ∈ x.2.1, -9223372036854775808 ≤ n ∧ n ≤ 9223372036854775807)) :=
  (opn_struct Try.underlying25 (opnF_more (opn_slice (b := 56) Try.underlying22 opn_Meta (by kernel_rfl) (by kernel_rfl)) rfl (opnF_more (opn_slice (b := 8) Try.underlying23 (opn_int Try.underlying3 (by kernel_rfl)) (by kernel_rfl) (by kernel_rfl)) rfl (opnF_one (opn_int Try.underlying3 (by kernel_rfl)) rfl))) (by kernel_rfl)
    (g := id) (fun _ => rfl)).imp (fun x h => ⟨⟨by have h' : x.1.length * 56 ≤ reachBytes := h.1.2.1; unfold reachBytes at h'; omega, fun m hm => (h.1.2.2 m hm).1⟩, h.2.1.2.2⟩)
end Go.Proofs.Ytokimlfagpddlaa.PD
