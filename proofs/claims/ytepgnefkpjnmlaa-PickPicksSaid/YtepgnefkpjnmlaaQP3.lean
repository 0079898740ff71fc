-- packed: PkB PDx25 PDx32 PkC PDx22 PDx23
import Derived.Test.YtepgnefkpjnmlaaQP2
/-
  Layer 14, the plain part: the document's own Right is version.Right.
-/
set_option linter.unusedVariables false
set_option linter.unusedSimpArgs false
namespace Go.Proofs.Ytepgnefkpjnmlaa.PD
open Go.RowKit Go.Proofs.Ytepgnefkpjnmlaa Go.Proofs.YtepgnefkpjnmlaaW.PrintWords

def refstep (a b : MetaT) : Bool := !(decide (a.f1 > b.f1) || (decide (a.f1 = b.f1) && ((decide (b.f1 = 0) && decide (a.f0 ≥ b.f0)) || (decide (b.f1 > 0) && !(Op.bytesLess a.f3.toList b.f2.toList)))))
def refgood (V : List MetaT) (i : Nat) : Bool := version_Right.meta_ (V.getD i z49) && (i == 0 || refstep (V.getD (i - 1) z49) (V.getD i z49))
theorem meta_facts (m : MetaT) (h : version_Right.meta_ m = true) : (1 ≤ m.f4 ∧ m.f4 ≤ 1048576) ∧ (0 ≤ m.f1 ∧ m.f1 < 4) ∧ ¬ Op.bytesLess m.f3.toList m.f2.toList = true := by
  unfold version_Right.meta_ version_meta.f at h
  split at h
  · simp at h
  · split at h
    · simp at h
    · split at h
      · simp at h
      · split at h
        · simp at h
        · split at h
          · simp at h
          · split at h
            · simp at h
            · split at h
              · simp at h
              · split at h
                · simp at h
                · next h8 => exact ⟨⟨by omega, by omega⟩, ⟨by omega, by omega⟩, h8⟩
theorem step_ref (a b : MetaT) (ha : version_Right.meta_ a = true) (hb : version_Right.meta_ b = true) : version_Right.step_ a b = refstep a b := by
  obtain ⟨_, ⟨h0, _⟩, hm⟩ := meta_facts a ha
  obtain ⟨_, ⟨h0', _⟩, _⟩ := meta_facts b hb
  unfold version_Right.step_ refstep version_Right.ord
  rcases Int.lt_trichotomy a.f1 b.f1 with h | h | h
  · have h1 : ¬ a.f1 > b.f1 := by omega
    have h2 : ¬ a.f1 = b.f1 := by omega
    simp [h, h1, h2]
  · have h1 : ¬ a.f1 > b.f1 := by omega
    have h2 : ¬ a.f1 < b.f1 := by omega
    by_cases hp : b.f1 > 0
    · have h3 : ¬ b.f1 = 0 := by omega
      have h4 : a.f1 > 0 := by omega
      by_cases hl : Op.bytesLess a.f3.toList b.f2.toList = true
      · have hl2 := less_of a.f2 a.f3 b.f2 hm hl
        simp [h, h1, h2, h3, h4, hp, hl, hl2]
      · rw [Bool.not_eq_true] at hl
        simp [h, h1, h2, h3, h4, hp, hl]
    · have h3 : b.f1 = 0 := by omega
      have h4 : ¬ a.f1 > 0 := by omega
      have h5 : a.f1 = 0 := by omega
      by_cases hi : a.f0 < b.f0
      · simp [h3, h5, hi, show ¬ b.f0 ≤ a.f0 by omega]
      · by_cases hj : a.f0 > b.f0
        · simp [h3, h5, hi, hj, show b.f0 ≤ a.f0 by omega]
        · simp [h3, h5, hi, hj, show b.f0 ≤ a.f0 by omega]
  · have h1 : ¬ a.f1 < b.f1 := by omega
    have h2 : ¬ a.f1 = b.f1 := by omega
    simp [h, h1, h2]
theorem ref_ifs (A B : MetaT) (C : Option Bool) : (if A.f1 > B.f1 then some false else (if A.f1 = B.f1 then (if B.f1 = 0 then (if A.f0 ≥ B.f0 then some false else (if B.f1 > 0 then (if (Op.bytesLess A.f3.toList B.f2.toList) = true then C else some false) else C)) else (if B.f1 > 0 then (if (Op.bytesLess A.f3.toList B.f2.toList) = true then C else some false) else C)) else C)) = if refstep A B = true then C else some false := by
  unfold refstep
  by_cases h1 : A.f1 > B.f1
  · simp [h1]
  rw [if_neg h1]
  by_cases h2 : A.f1 = B.f1
  · rw [if_pos h2]
    by_cases h3 : B.f1 = 0
    · have h4 : ¬ B.f1 > 0 := by omega
      rw [if_pos h3, if_neg h4]
      by_cases h5 : A.f0 ≥ B.f0
      · rw [if_pos h5]; simp [h1, h2, h3, h5]
      · rw [if_neg h5]; simp [h1, h2, h3, h5]
    · rw [if_neg h3]
      by_cases h4 : B.f1 > 0
      · rw [if_pos h4]
        by_cases h6 : Op.bytesLess A.f3.toList B.f2.toList = true
        · rw [if_pos h6]; simp [h1, h2, h3, h4, h6]
        · rw [if_neg h6]; rw [Bool.not_eq_true] at h6; simp [h1, h2, h3, h4, h6]
      · rw [if_neg h4]; simp [h1, h2, h3, h4]
  · rw [if_neg h2]; simp [h1, h2]
theorem refRight_l1 (V : List MetaT) (G : List Int) (a : Int) (hV : V.length ≤ 200) (hG : G.length ≤ 20) : ∀ (d i k : Nat), V.length = i + d → d + 100001 ≤ k →
    palinoderef14_Right.l1 k (i : Int) V G a = some ((List.range' i d).all (refgood V) && decide (V.map (·.f0) ++ G).Nodup) := by
  intro d
  induction d with
  | zero =>
    intro i k hi hk
    obtain ⟨k, rfl⟩ : ∃ j, k = j + 1 := ⟨k - 1, by omega⟩
    rw [palinoderef14_Right.l1, if_neg (by omega), refIds_some V G a (by omega) (by omega) k (by omega), Option.bind_some, twice_some _ (by simp; omega) k (by omega), Option.bind_some, Bool.not_not]
    simp
  | succ d ih =>
    intro i k hi hk
    obtain ⟨k, rfl⟩ : ∃ j, k = j + 1 := ⟨k - 1, by omega⟩
    have e1 : wrap64 ((i : Int) + 1) = ((i + 1 : Nat) : Int) := by rw [wrapP _ (by omega) (by omega)]; omega
    have hall : (List.range' i (d + 1)).all (refgood V) = (refgood V i && (List.range' (i + 1) d).all (refgood V)) := by rw [List.range'_succ, List.all_cons]
    rw [palinoderef14_Right.l1, if_pos (by omega), if_pos (by omega), refMeta_some, Option.bind_some, hall, e1, ih (i + 1) k (by omega) (by omega), rd_get]
    by_cases hm : version_Right.meta_ (V.getD i z49) = true
    · rw [if_pos hm]
      by_cases h0 : i = 0
      · subst h0
        rw [if_pos (show ((0 : Nat) : Int) = 0 from rfl)]
        have hg : refgood V 0 = true := by unfold refgood; rw [hm]; rfl
        rw [hg, Bool.true_and]
      · have e2 : wrap64 ((i : Int) - 1) = ((i - 1 : Nat) : Int) := by rw [wrapP _ (by omega) (by omega)]; omega
        rw [if_neg (by omega), e2, if_pos (by omega), if_pos (by omega), rd_get, ref_ifs]
        have hg : refgood V i = refstep (V.getD (i - 1) z49) (V.getD i z49) := by unfold refgood; rw [hm, Bool.true_and, show (i == 0) = false by simpa using h0, Bool.false_or]
        rw [hg]
        split
        · next h => rw [h, Bool.true_and]
        · next h => rw [Bool.not_eq_true] at h; rw [h]; rfl
    · rw [if_neg hm]
      rw [Bool.not_eq_true] at hm
      have hg : refgood V i = false := by unfold refgood; rw [hm]; rfl
      rw [hg]; rfl
theorem refRight_l0 (V : List MetaT) (G : List Int) (a : Int) (hG : G.length ≤ 20) : ∀ (d i k : Nat), G.length = i + d →
    palinoderef14_Right.l0 (k + d + 1) (i : Int) V G a = if (G.drop i).any version_Right.litB = true then some false else palinoderef14_Right.l1 k 0 V G a := by
  intro d
  induction d with
  | zero =>
    intro i k hi
    rw [Nat.add_zero, palinoderef14_Right.l0, if_neg (by omega), List.drop_eq_nil_of_le (by omega)]
    simp
  | succ d ih =>
    intro i k hi
    have e1 : wrap64 ((i : Int) + 1) = ((i + 1 : Nat) : Int) := by rw [wrapP _ (by omega) (by omega)]; omega
    have hc : G.drop i = G[i]'(by omega) :: G.drop (i + 1) := List.drop_eq_getElem_cons (by omega)
    have hr : rd G (i : Int) = G[i]'(by omega) := by simp only [rd, Int.toNat_natCast, List.getD, List.getElem?_eq_getElem (show i < G.length by omega), Option.getD_some]
    rw [show k + (d + 1) + 1 = (k + d + 1) + 1 by omega, palinoderef14_Right.l0, if_pos (by omega), if_pos (by omega), hr, e1, ih (i + 1) k (by omega), hc, List.any_cons]
    generalize G[i]'(by omega) = n
    by_cases h1 : n < 1
    · rw [if_pos h1]; simp [version_Right.litB, h1]
    rw [if_neg h1]
    by_cases h2 : n > 9007199254740991
    · rw [if_pos h2]; simp [version_Right.litB, h2]
    rw [if_neg h2]
    have hb : version_Right.litB n = false := by simp [version_Right.litB]; omega
    rw [hb, Bool.false_or]
theorem good_ref (V : List MetaT) : (List.range V.length).all (version_Right.good_ V) = (List.range' 0 V.length).all (refgood V) := by
  rw [← List.range_eq_range', Bool.eq_iff_iff]
  simp only [List.all_eq_true, List.mem_range]
  have hmeta : ∀ i, version_Right.good_ V i = true → version_Right.meta_ (V.getD i z49) = true := fun i h => by unfold version_Right.good_ at h; rw [Bool.and_eq_true] at h; exact h.1
  have hmeta' : ∀ i, refgood V i = true → version_Right.meta_ (V.getD i z49) = true := fun i h => by unfold refgood at h; rw [Bool.and_eq_true] at h; exact h.1
  constructor
  · intro h i hi
    have h1 := h i hi
    by_cases h0 : i = 0
    · subst h0
      have := hmeta 0 h1
      unfold refgood; rw [this]; rfl
    · have h2 := h (i - 1) (by omega)
      have e := step_ref _ _ (hmeta _ h2) (hmeta _ h1)
      unfold version_Right.good_ at h1
      unfold refgood
      rw [← e]
      exact h1
  · intro h i hi
    have h1 := h i hi
    by_cases h0 : i = 0
    · subst h0
      have := hmeta' 0 h1
      unfold version_Right.good_; rw [this]; rfl
    · have h2 := h (i - 1) (by omega)
      have e := step_ref _ _ (hmeta' _ h2) (hmeta' _ h1)
      unfold refgood at h1
      unfold version_Right.good_
      rw [e]
      exact h1
theorem refRight_some (V : List MetaT) (G : List Int) (a : Int) (k : Nat) (hk : 200000 ≤ k) : palinoderef14_Right.f k V G a = some (version_Right.tell V G a) := by
  obtain ⟨k, rfl⟩ : ∃ j, k = j + 1 := ⟨k - 1, by omega⟩
  have out : palinoderef14_Right.j0 (k + 1) true V G a = some false := by rw [palinoderef14_Right.j0, if_pos rfl]
  unfold palinoderef14_Right.f version_Right.tell
  by_cases c1 : V.length ≤ 200
  · rw [if_neg (by omega)]
    by_cases c2 : G.length ≤ 20
    · rw [if_neg (by omega)]
      by_cases c3 : 0 ≤ a
      · rw [if_neg (by omega)]
        by_cases c4 : a ≤ 9007199254740991
        · have : decide (a > 9007199254740991) = false := by simp; omega
          rw [this, palinoderef14_Right.j0, if_neg (by simp)]
          have h0 := refRight_l0 V G a c2 G.length 0 (k - G.length - 1) (by omega)
          rw [show k - G.length - 1 + G.length + 1 = k by omega, Int.natCast_zero, List.drop_zero] at h0
          have h1 := refRight_l1 V G a c1 c2 V.length 0 (k - G.length - 1) (by omega) (by omega)
          rw [Int.natCast_zero] at h1
          rw [h0, h1, good_ref]
          simp only [c1, c2, c3, c4, decide_true, Bool.true_and]
          by_cases hb : G.any version_Right.litB = true
          · rw [if_pos hb, hb]; simp
          · rw [if_neg hb]
            rw [Bool.not_eq_true] at hb
            rw [hb, Bool.not_false, Bool.true_and, Bool.and_comm]
        · have : decide (a > 9007199254740991) = true := by simp; omega
          rw [this, out]; simp [c4]
      · rw [if_pos (by omega), out]; simp [c3]
    · rw [if_pos (by omega), out]; simp [c2]
  · rw [if_pos (by omega), out]; simp [c1]
end Go.Proofs.Ytepgnefkpjnmlaa.PD

-- printed by gprint.py (own tool) over the kit's print
namespace Go.Proofs.Ytepgnefkpjnmlaa.PD
open Go.RowKit Go.Proofs.Ytepgnefkpjnmlaa Go.Proofs.YtepgnefkpjnmlaaW.PrintWords Go.Proofs.YtepgnefkpjnmlaaW.PrintLast Go.Proofs.YtepgnefkpjnmlaaW.PrintMore
attribute [local go_sem] max2_int min2_int max_two min_two max_three min_three max_four min_four   -- for this text's walks alone
set_option linter.unnecessarySimpa false
attribute [local go_sem] min2_str max2_str leq_str gtr_str geq_str
set_option linter.unusedVariables false
set_option linter.unusedSimpArgs false

/-! ### palinoderef16_Limit: function 13 -/
def palinoderef16_Limit.f (a0 : Int) : Option (Int) := if a0 = 1 then (some 4000) else (if a0 = 2 then (some 16000) else (some 0))
set_option maxHeartbeats 8000000 in
set_option maxRecDepth 100000 in
theorem palinoderef16_Limit.calls (a0 : Int) (r : Int) (w : World) (h : palinoderef16_Limit.f a0 = some r) :
    Calls Try.prog 13 #[.int .i64 a0] w fun e w' => e = .returned (.int .i64 r) ∧ Drawn0 w w' := by
  have H : (if a0 = 1 then (some 4000) else (if a0 = 2 then (some 16000) else (some 0))) = some r := h
  clear h
  by_cases c2 : a0 = 1
  · rw [if_pos c2] at H
    have c2b0 : (a0 == 1) = true := beq_iff_eq.mpr c2
    have c2b1 : (a0 != 1) = false := bne_eq_false_iff_eq.mpr c2
    clear c2
    obtain rfl := Option.some.inj H
    go_enter Try.func13, Try.ntmps13
    go_wp2
    go_ret
    exact ⟨by first | rfl | (simp; done) | (simp [*]; done), by repeat (first | exact Drawn0.refl _ | apply Drawn0.step)⟩
  · rw [if_neg c2] at H
    have c2b0 : (a0 == 1) = false := beq_eq_false_iff_ne.mpr c2
    have c2b1 : (a0 != 1) = true := bne_iff_ne.mpr c2
    by_cases c3 : a0 = 2
    · rw [if_pos c3] at H
      have c3b0 : (a0 == 2) = true := beq_iff_eq.mpr c3
      have c3b1 : (a0 != 2) = false := bne_eq_false_iff_eq.mpr c3
      clear c3
      obtain rfl := Option.some.inj H
      go_enter Try.func13, Try.ntmps13
      go_wp2
      go_ret
      exact ⟨by first | rfl | (simp; done) | (simp [*]; done), by repeat (first | exact Drawn0.refl _ | apply Drawn0.step)⟩
    · rw [if_neg c3] at H
      have c3b0 : (a0 == 2) = false := beq_eq_false_iff_ne.mpr c3
      have c3b1 : (a0 != 2) = true := bne_iff_ne.mpr c3
      obtain rfl := Option.some.inj H
      go_enter Try.func13, Try.ntmps13
      go_wp2
      go_ret
      exact ⟨by first | rfl | (simp; done) | (simp [*]; done), by repeat (first | exact Drawn0.refl _ | apply Drawn0.step)⟩

end Go.Proofs.Ytepgnefkpjnmlaa.PD

-- printed by gprint.py (own tool) over the kit's print
namespace Go.Proofs.Ytepgnefkpjnmlaa.PD
open Go.RowKit Go.Proofs.Ytepgnefkpjnmlaa Go.Proofs.YtepgnefkpjnmlaaW.PrintWords Go.Proofs.YtepgnefkpjnmlaaW.PrintLast Go.Proofs.YtepgnefkpjnmlaaW.PrintMore
attribute [local go_sem] max2_int min2_int max_two min_two max_three min_three max_four min_four   -- for this text's walks alone
set_option linter.unnecessarySimpa false
attribute [local go_sem] min2_str max2_str leq_str gtr_str geq_str
set_option linter.unusedVariables false
set_option linter.unusedSimpArgs false

/-! ### palinoderef16_Pick: function 10 -/
mutual
def palinoderef16_Pick.j0 : Nat → Int → List (S49) → List (S49) → List Int → Int → Option (Int × List Int × List Int × Bool × Bool)
  | 0, _, _, _, _, _ => none
  | k + 1, x5, x6, x220000, x220001, x220002 => palinoderef16_Pick.l0 k x5 x6 1 x220000 x220001 x220002
def palinoderef16_Pick.l0 : Nat → Int → List (S49) → Int → List (S49) → List Int → Int → Option (Int × List Int × List Int × Bool × Bool)
  | 0, _, _, _, _, _, _ => none
  | k + 1, x5, x6, x7, x220000, x220001, x220002 => if x7 < 3 then (palinoderef16_Pick.j2 k x5 x6 x7 (decide (x5 < 0)) x220000 x220001 x220002) else (palinoderef16_Pick.j2 k x5 x6 x7 false x220000 x220001 x220002)
def palinoderef16_Pick.j2 : Nat → Int → List (S49) → Int → Bool → List (S49) → List Int → Int → Option (Int × List Int × List Int × Bool × Bool)
  | 0, _, _, _, _, _, _, _ => none
  | k + 1, x5, x6, x7, x35, x220000, x220001, x220002 => if x35 = true then ((palinoderef14_Level.f k x220000 x220001 x220002 x7).bind fun t225 => (palinoderef16_Pick.l1 k x5 t225 x7 0 0 x220000 x220001 x220002)) else (if x5 < 0 then (some (0, ([] : List Int), ([] : List Int), false, false)) else (palinoderef16_Pick.l2 k x5 x6 ([] : List (S49)) 0 x220000 x220001 x220002 x5 ([] : List Int) true))
def palinoderef16_Pick.l1 : Nat → Int → List (S49) → Int → Int → Int → List (S49) → List Int → Int → Option (Int × List Int × List Int × Bool × Bool)
  | 0, _, _, _, _, _, _, _, _ => none
  | k + 1, x5, x6, x7, x8, x9, x220000, x220001, x220002 => if x9 < (x6.length : Int) then (if 0 ≤ x9 then (palinoderef16_Pick.l1 k x5 x6 x7 (wrap64 (x8 + ((rd_T49 x6 x9).f4))) (wrap64 (x9 + 1)) x220000 x220001 x220002) else (none)) else ((palinoderef16_Limit.f x7).bind fun t229 => (if x8 > t229 then (if 1 ≤ (x6.length : Int) then (palinoderef16_Pick.l0 k x7 (x6.take (1 : Int).toNat) (wrap64 (x7 + 1)) x220000 x220001 x220002) else (none)) else (palinoderef16_Pick.l0 k x5 x6 (wrap64 (x7 + 1)) x220000 x220001 x220002)))
def palinoderef16_Pick.l2 : Nat → Int → List (S49) → List (S49) → Int → List (S49) → List Int → Int → Int → List Int → Bool → Option (Int × List Int × List Int × Bool × Bool)
  | 0, _, _, _, _, _, _, _, _, _, _ => none
  | k + 1, x5, x6, x11, x12, x220000, x220001, x220002, x234000, x234001, x234003 => if x12 < (x6.length : Int) then (if 0 ≤ x12 then (if x234001.length < 17592186044416 then (if x11.length < 2513169434916 then (palinoderef16_Pick.l2 k x5 x6 (x11 ++ [(⟨(rd_T49 x6 x12).f0, (rd_T49 x6 x12).f1, (rd_T49 x6 x12).f2, (rd_T49 x6 x12).f3, (rd_T49 x6 x12).f4⟩ : S49)]) (wrap64 (x12 + 1)) x220000 x220001 x220002 x234000 (x234001 ++ [(rd_T49 x6 x12).f0]) x234003) else (none)) else (none)) else (none)) else ((palinoderef14_Level.f k x220000 x220001 x220002 (wrap64 (x5 + 1))).bind fun t242 => (palinoderef16_Pick.l3 k x5 x6 x11 t242 0 x220000 x220001 x220002 x234000 x234001 ([] : List Int) x234003))
def palinoderef16_Pick.l3 : Nat → Int → List (S49) → List (S49) → List (S49) → Int → List (S49) → List Int → Int → Int → List Int → List Int → Bool → Option (Int × List Int × List Int × Bool × Bool)
  | 0, _, _, _, _, _, _, _, _, _, _, _, _ => none
  | k + 1, x5, x6, x11, x13, x14, x220000, x220001, x220002, x234000, x234001, x234002, x234003 => if x14 < (x13.length : Int) then (if 0 ≤ x14 then ((palinoderef16_meets.f k ((rd_T49 x13 x14).f0) ((rd_T49 x13 x14).f1) ((rd_T49 x13 x14).f2) ((rd_T49 x13 x14).f3) ((rd_T49 x13 x14).f4) x6).bind fun t246 => (if t246 = true then (if x234002.length < 17592186044416 then (if x11.length < 2513169434916 then (palinoderef16_Pick.l3 k x5 x6 (x11 ++ [(⟨(rd_T49 x13 x14).f0, (rd_T49 x13 x14).f1, (rd_T49 x13 x14).f2, (rd_T49 x13 x14).f3, (rd_T49 x13 x14).f4⟩ : S49)]) x13 (wrap64 (x14 + 1)) x220000 x220001 x220002 x234000 x234001 (x234002 ++ [(rd_T49 x13 x14).f0]) x234003) else (none)) else (none)) else (palinoderef16_Pick.l3 k x5 x6 x11 x13 (wrap64 (x14 + 1)) x220000 x220001 x220002 x234000 x234001 x234002 x234003))) else (none)) else (palinoderef16_Pick.l4 k x11 (wrap64 (x5 + 2)) x220000 x220001 x220002 x234000 x234001 x234002 x234003)
def palinoderef16_Pick.l4 : Nat → List (S49) → Int → List (S49) → List Int → Int → Int → List Int → List Int → Bool → Option (Int × List Int × List Int × Bool × Bool)
  | 0, _, _, _, _, _, _, _, _, _ => none
  | k + 1, x11, x16, x220000, x220001, x220002, x234000, x234001, x234002, x234003 => if x16 < 4 then ((palinoderef14_Level.f k x220000 x220001 x220002 x16).bind fun t255 => (palinoderef16_Pick.l5 k x11 x16 t255 0 x220000 x220001 x220002 x234000 x234001 x234002 x234003)) else (some (x234000, x234001, x234002, x234003, true))
def palinoderef16_Pick.l5 : Nat → List (S49) → Int → List (S49) → Int → List (S49) → List Int → Int → Int → List Int → List Int → Bool → Option (Int × List Int × List Int × Bool × Bool)
  | 0, _, _, _, _, _, _, _, _, _, _, _ => none
  | k + 1, x11, x16, x17, x18, x220000, x220001, x220002, x234000, x234001, x234002, x234003 => if x18 < (x17.length : Int) then (if 0 ≤ x18 then ((palinoderef16_meets.f k ((rd_T49 x17 x18).f0) ((rd_T49 x17 x18).f1) ((rd_T49 x17 x18).f2) ((rd_T49 x17 x18).f3) ((rd_T49 x17 x18).f4) x11).bind fun t259 => (if x234003 = true then (palinoderef16_Pick.l5 k x11 x16 x17 (wrap64 (x18 + 1)) x220000 x220001 x220002 x234000 x234001 x234002 (!t259)) else (palinoderef16_Pick.l5 k x11 x16 x17 (wrap64 (x18 + 1)) x220000 x220001 x220002 x234000 x234001 x234002 false))) else (none)) else (palinoderef16_Pick.l4 k x11 (wrap64 (x16 + 1)) x220000 x220001 x220002 x234000 x234001 x234002 x234003)
end
def palinoderef16_Pick.f (k : Nat) (l0_0 : List (S49)) (l0_1 : List Int) (a0_2 : Int) : Option (Int × List Int × List Int × Bool × Bool) := (palinoderef14_Right.f k l0_0 l0_1 a0_2).bind fun t221 => (if t221 = true then ((palinoderef14_Level.f k l0_0 l0_1 a0_2 0).bind fun t222 => (if (t222.length : Int) ≥ 3 then (palinoderef16_Pick.j0 k 0 t222 l0_0 l0_1 a0_2) else (palinoderef16_Pick.j0 k (-1) t222 l0_0 l0_1 a0_2))) else (some (0, ([] : List Int), ([] : List Int), false, false)))
theorem palinoderef16_Pick.mono_l : ∀ k, (∀ y0 y1 y2 y3 y4, LeO (palinoderef16_Pick.j0 k y0 y1 y2 y3 y4) (palinoderef16_Pick.j0 (k + 1) y0 y1 y2 y3 y4)) ∧ (∀ y0 y1 y2 y3 y4 y5, LeO (palinoderef16_Pick.l0 k y0 y1 y2 y3 y4 y5) (palinoderef16_Pick.l0 (k + 1) y0 y1 y2 y3 y4 y5)) ∧ (∀ y0 y1 y2 y3 y4 y5 y6, LeO (palinoderef16_Pick.j2 k y0 y1 y2 y3 y4 y5 y6) (palinoderef16_Pick.j2 (k + 1) y0 y1 y2 y3 y4 y5 y6)) ∧ (∀ y0 y1 y2 y3 y4 y5 y6 y7, LeO (palinoderef16_Pick.l1 k y0 y1 y2 y3 y4 y5 y6 y7) (palinoderef16_Pick.l1 (k + 1) y0 y1 y2 y3 y4 y5 y6 y7)) ∧ (∀ y0 y1 y2 y3 y4 y5 y6 y7 y8 y9, LeO (palinoderef16_Pick.l2 k y0 y1 y2 y3 y4 y5 y6 y7 y8 y9) (palinoderef16_Pick.l2 (k + 1) y0 y1 y2 y3 y4 y5 y6 y7 y8 y9)) ∧ (∀ y0 y1 y2 y3 y4 y5 y6 y7 y8 y9 y10 y11, LeO (palinoderef16_Pick.l3 k y0 y1 y2 y3 y4 y5 y6 y7 y8 y9 y10 y11) (palinoderef16_Pick.l3 (k + 1) y0 y1 y2 y3 y4 y5 y6 y7 y8 y9 y10 y11)) ∧ (∀ y0 y1 y2 y3 y4 y5 y6 y7 y8, LeO (palinoderef16_Pick.l4 k y0 y1 y2 y3 y4 y5 y6 y7 y8) (palinoderef16_Pick.l4 (k + 1) y0 y1 y2 y3 y4 y5 y6 y7 y8)) ∧ (∀ y0 y1 y2 y3 y4 y5 y6 y7 y8 y9 y10, LeO (palinoderef16_Pick.l5 k y0 y1 y2 y3 y4 y5 y6 y7 y8 y9 y10) (palinoderef16_Pick.l5 (k + 1) y0 y1 y2 y3 y4 y5 y6 y7 y8 y9 y10))
  | 0 => ⟨fun _ _ _ _ _ r h => by simp [palinoderef16_Pick.j0] at h, fun _ _ _ _ _ _ r h => by simp [palinoderef16_Pick.l0] at h, fun _ _ _ _ _ _ _ r h => by simp [palinoderef16_Pick.j2] at h, fun _ _ _ _ _ _ _ _ r h => by simp [palinoderef16_Pick.l1] at h, fun _ _ _ _ _ _ _ _ _ _ r h => by simp [palinoderef16_Pick.l2] at h, fun _ _ _ _ _ _ _ _ _ _ _ _ r h => by simp [palinoderef16_Pick.l3] at h, fun _ _ _ _ _ _ _ _ _ r h => by simp [palinoderef16_Pick.l4] at h, fun _ _ _ _ _ _ _ _ _ _ _ r h => by simp [palinoderef16_Pick.l5] at h⟩
  | k + 1 => by
    obtain ⟨ih0, ih1, ih2, ih3, ih4, ih5, ih6, ih7⟩ := palinoderef16_Pick.mono_l k
    refine ⟨?_, ?_, ?_, ?_, ?_, ?_, ?_, ?_⟩
    · intro y0 y1 y2 y3 y4
      unfold palinoderef16_Pick.j0
      repeat' first
      | (with_reducible exact ih0 _ _ _ _ _)
      | (with_reducible exact ih1 _ _ _ _ _ _)
      | (with_reducible exact ih2 _ _ _ _ _ _ _)
      | (with_reducible exact ih3 _ _ _ _ _ _ _ _)
      | (with_reducible exact ih4 _ _ _ _ _ _ _ _ _ _)
      | (with_reducible exact ih5 _ _ _ _ _ _ _ _ _ _ _ _)
      | (with_reducible exact ih6 _ _ _ _ _ _ _ _ _)
      | (with_reducible exact ih7 _ _ _ _ _ _ _ _ _ _ _)
      | (with_reducible exact palinoderef14_Level.mono _ _ _ _ _)
      | (with_reducible exact palinoderef14_Right.mono _ _ _ _)
      | (with_reducible exact palinoderef16_meets.mono _ _ _ _ _ _ _)
      | (with_reducible exact LeO.refl _)
      | (with_reducible exact LeO.none _)
      | (with_reducible refine LeO.ite ?_ ?_)
      | (with_reducible refine LeO.bind ?_ (fun _ => ?_))
      | exact ih0 _ _ _ _ _
      | exact ih1 _ _ _ _ _ _
      | exact ih2 _ _ _ _ _ _ _
      | exact ih3 _ _ _ _ _ _ _ _
      | exact ih4 _ _ _ _ _ _ _ _ _ _
      | exact ih5 _ _ _ _ _ _ _ _ _ _ _ _
      | exact ih6 _ _ _ _ _ _ _ _ _
      | exact ih7 _ _ _ _ _ _ _ _ _ _ _
      | exact palinoderef14_Level.mono _ _ _ _ _
      | exact palinoderef14_Right.mono _ _ _ _
      | exact palinoderef16_meets.mono _ _ _ _ _ _ _
      | exact LeO.none _
      | refine LeO.ite ?_ ?_
      | refine LeO.bind ?_ (fun _ => ?_)
    · intro y0 y1 y2 y3 y4 y5
      unfold palinoderef16_Pick.l0
      repeat' first
      | (with_reducible exact ih0 _ _ _ _ _)
      | (with_reducible exact ih1 _ _ _ _ _ _)
      | (with_reducible exact ih2 _ _ _ _ _ _ _)
      | (with_reducible exact ih3 _ _ _ _ _ _ _ _)
      | (with_reducible exact ih4 _ _ _ _ _ _ _ _ _ _)
      | (with_reducible exact ih5 _ _ _ _ _ _ _ _ _ _ _ _)
      | (with_reducible exact ih6 _ _ _ _ _ _ _ _ _)
      | (with_reducible exact ih7 _ _ _ _ _ _ _ _ _ _ _)
      | (with_reducible exact palinoderef14_Level.mono _ _ _ _ _)
      | (with_reducible exact palinoderef14_Right.mono _ _ _ _)
      | (with_reducible exact palinoderef16_meets.mono _ _ _ _ _ _ _)
      | (with_reducible exact LeO.refl _)
      | (with_reducible exact LeO.none _)
      | (with_reducible refine LeO.ite ?_ ?_)
      | (with_reducible refine LeO.bind ?_ (fun _ => ?_))
      | exact ih0 _ _ _ _ _
      | exact ih1 _ _ _ _ _ _
      | exact ih2 _ _ _ _ _ _ _
      | exact ih3 _ _ _ _ _ _ _ _
      | exact ih4 _ _ _ _ _ _ _ _ _ _
      | exact ih5 _ _ _ _ _ _ _ _ _ _ _ _
      | exact ih6 _ _ _ _ _ _ _ _ _
      | exact ih7 _ _ _ _ _ _ _ _ _ _ _
      | exact palinoderef14_Level.mono _ _ _ _ _
      | exact palinoderef14_Right.mono _ _ _ _
      | exact palinoderef16_meets.mono _ _ _ _ _ _ _
      | exact LeO.none _
      | refine LeO.ite ?_ ?_
      | refine LeO.bind ?_ (fun _ => ?_)
    · intro y0 y1 y2 y3 y4 y5 y6
      unfold palinoderef16_Pick.j2
      repeat' first
      | (with_reducible exact ih0 _ _ _ _ _)
      | (with_reducible exact ih1 _ _ _ _ _ _)
      | (with_reducible exact ih2 _ _ _ _ _ _ _)
      | (with_reducible exact ih3 _ _ _ _ _ _ _ _)
      | (with_reducible exact ih4 _ _ _ _ _ _ _ _ _ _)
      | (with_reducible exact ih5 _ _ _ _ _ _ _ _ _ _ _ _)
      | (with_reducible exact ih6 _ _ _ _ _ _ _ _ _)
      | (with_reducible exact ih7 _ _ _ _ _ _ _ _ _ _ _)
      | (with_reducible exact palinoderef14_Level.mono _ _ _ _ _)
      | (with_reducible exact palinoderef14_Right.mono _ _ _ _)
      | (with_reducible exact palinoderef16_meets.mono _ _ _ _ _ _ _)
      | (with_reducible exact LeO.refl _)
      | (with_reducible exact LeO.none _)
      | (with_reducible refine LeO.ite ?_ ?_)
      | (with_reducible refine LeO.bind ?_ (fun _ => ?_))
      | exact ih0 _ _ _ _ _
      | exact ih1 _ _ _ _ _ _
      | exact ih2 _ _ _ _ _ _ _
      | exact ih3 _ _ _ _ _ _ _ _
      | exact ih4 _ _ _ _ _ _ _ _ _ _
      | exact ih5 _ _ _ _ _ _ _ _ _ _ _ _
      | exact ih6 _ _ _ _ _ _ _ _ _
      | exact ih7 _ _ _ _ _ _ _ _ _ _ _
      | exact palinoderef14_Level.mono _ _ _ _ _
      | exact palinoderef14_Right.mono _ _ _ _
      | exact palinoderef16_meets.mono _ _ _ _ _ _ _
      | exact LeO.none _
      | refine LeO.ite ?_ ?_
      | refine LeO.bind ?_ (fun _ => ?_)
    · intro y0 y1 y2 y3 y4 y5 y6 y7
      unfold palinoderef16_Pick.l1
      repeat' first
      | (with_reducible exact ih0 _ _ _ _ _)
      | (with_reducible exact ih1 _ _ _ _ _ _)
      | (with_reducible exact ih2 _ _ _ _ _ _ _)
      | (with_reducible exact ih3 _ _ _ _ _ _ _ _)
      | (with_reducible exact ih4 _ _ _ _ _ _ _ _ _ _)
      | (with_reducible exact ih5 _ _ _ _ _ _ _ _ _ _ _ _)
      | (with_reducible exact ih6 _ _ _ _ _ _ _ _ _)
      | (with_reducible exact ih7 _ _ _ _ _ _ _ _ _ _ _)
      | (with_reducible exact palinoderef14_Level.mono _ _ _ _ _)
      | (with_reducible exact palinoderef14_Right.mono _ _ _ _)
      | (with_reducible exact palinoderef16_meets.mono _ _ _ _ _ _ _)
      | (with_reducible exact LeO.refl _)
      | (with_reducible exact LeO.none _)
      | (with_reducible refine LeO.ite ?_ ?_)
      | (with_reducible refine LeO.bind ?_ (fun _ => ?_))
      | exact ih0 _ _ _ _ _
      | exact ih1 _ _ _ _ _ _
      | exact ih2 _ _ _ _ _ _ _
      | exact ih3 _ _ _ _ _ _ _ _
      | exact ih4 _ _ _ _ _ _ _ _ _ _
      | exact ih5 _ _ _ _ _ _ _ _ _ _ _ _
      | exact ih6 _ _ _ _ _ _ _ _ _
      | exact ih7 _ _ _ _ _ _ _ _ _ _ _
      | exact palinoderef14_Level.mono _ _ _ _ _
      | exact palinoderef14_Right.mono _ _ _ _
      | exact palinoderef16_meets.mono _ _ _ _ _ _ _
      | exact LeO.none _
      | refine LeO.ite ?_ ?_
      | refine LeO.bind ?_ (fun _ => ?_)
    · intro y0 y1 y2 y3 y4 y5 y6 y7 y8 y9
      unfold palinoderef16_Pick.l2
      repeat' first
      | (with_reducible exact ih0 _ _ _ _ _)
      | (with_reducible exact ih1 _ _ _ _ _ _)
      | (with_reducible exact ih2 _ _ _ _ _ _ _)
      | (with_reducible exact ih3 _ _ _ _ _ _ _ _)
      | (with_reducible exact ih4 _ _ _ _ _ _ _ _ _ _)
      | (with_reducible exact ih5 _ _ _ _ _ _ _ _ _ _ _ _)
      | (with_reducible exact ih6 _ _ _ _ _ _ _ _ _)
      | (with_reducible exact ih7 _ _ _ _ _ _ _ _ _ _ _)
      | (with_reducible exact palinoderef14_Level.mono _ _ _ _ _)
      | (with_reducible exact palinoderef14_Right.mono _ _ _ _)
      | (with_reducible exact palinoderef16_meets.mono _ _ _ _ _ _ _)
      | (with_reducible exact LeO.refl _)
      | (with_reducible exact LeO.none _)
      | (with_reducible refine LeO.ite ?_ ?_)
      | (with_reducible refine LeO.bind ?_ (fun _ => ?_))
      | exact ih0 _ _ _ _ _
      | exact ih1 _ _ _ _ _ _
      | exact ih2 _ _ _ _ _ _ _
      | exact ih3 _ _ _ _ _ _ _ _
      | exact ih4 _ _ _ _ _ _ _ _ _ _
      | exact ih5 _ _ _ _ _ _ _ _ _ _ _ _
      | exact ih6 _ _ _ _ _ _ _ _ _
      | exact ih7 _ _ _ _ _ _ _ _ _ _ _
      | exact palinoderef14_Level.mono _ _ _ _ _
      | exact palinoderef14_Right.mono _ _ _ _
      | exact palinoderef16_meets.mono _ _ _ _ _ _ _
      | exact LeO.none _
      | refine LeO.ite ?_ ?_
      | refine LeO.bind ?_ (fun _ => ?_)
    · intro y0 y1 y2 y3 y4 y5 y6 y7 y8 y9 y10 y11
      unfold palinoderef16_Pick.l3
      repeat' first
      | (with_reducible exact ih0 _ _ _ _ _)
      | (with_reducible exact ih1 _ _ _ _ _ _)
      | (with_reducible exact ih2 _ _ _ _ _ _ _)
      | (with_reducible exact ih3 _ _ _ _ _ _ _ _)
      | (with_reducible exact ih4 _ _ _ _ _ _ _ _ _ _)
      | (with_reducible exact ih5 _ _ _ _ _ _ _ _ _ _ _ _)
      | (with_reducible exact ih6 _ _ _ _ _ _ _ _ _)
      | (with_reducible exact ih7 _ _ _ _ _ _ _ _ _ _ _)
      | (with_reducible exact palinoderef14_Level.mono _ _ _ _ _)
      | (with_reducible exact palinoderef14_Right.mono _ _ _ _)
      | (with_reducible exact palinoderef16_meets.mono _ _ _ _ _ _ _)
      | (with_reducible exact LeO.refl _)
      | (with_reducible exact LeO.none _)
      | (with_reducible refine LeO.ite ?_ ?_)
      | (with_reducible refine LeO.bind ?_ (fun _ => ?_))
      | exact ih0 _ _ _ _ _
      | exact ih1 _ _ _ _ _ _
      | exact ih2 _ _ _ _ _ _ _
      | exact ih3 _ _ _ _ _ _ _ _
      | exact ih4 _ _ _ _ _ _ _ _ _ _
      | exact ih5 _ _ _ _ _ _ _ _ _ _ _ _
      | exact ih6 _ _ _ _ _ _ _ _ _
      | exact ih7 _ _ _ _ _ _ _ _ _ _ _
      | exact palinoderef14_Level.mono _ _ _ _ _
      | exact palinoderef14_Right.mono _ _ _ _
      | exact palinoderef16_meets.mono _ _ _ _ _ _ _
      | exact LeO.none _
      | refine LeO.ite ?_ ?_
      | refine LeO.bind ?_ (fun _ => ?_)
    · intro y0 y1 y2 y3 y4 y5 y6 y7 y8
      unfold palinoderef16_Pick.l4
      repeat' first
      | (with_reducible exact ih0 _ _ _ _ _)
      | (with_reducible exact ih1 _ _ _ _ _ _)
      | (with_reducible exact ih2 _ _ _ _ _ _ _)
      | (with_reducible exact ih3 _ _ _ _ _ _ _ _)
      | (with_reducible exact ih4 _ _ _ _ _ _ _ _ _ _)
      | (with_reducible exact ih5 _ _ _ _ _ _ _ _ _ _ _ _)
      | (with_reducible exact ih6 _ _ _ _ _ _ _ _ _)
      | (with_reducible exact ih7 _ _ _ _ _ _ _ _ _ _ _)
      | (with_reducible exact palinoderef14_Level.mono _ _ _ _ _)
      | (with_reducible exact palinoderef14_Right.mono _ _ _ _)
      | (with_reducible exact palinoderef16_meets.mono _ _ _ _ _ _ _)
      | (with_reducible exact LeO.refl _)
      | (with_reducible exact LeO.none _)
      | (with_reducible refine LeO.ite ?_ ?_)
      | (with_reducible refine LeO.bind ?_ (fun _ => ?_))
      | exact ih0 _ _ _ _ _
      | exact ih1 _ _ _ _ _ _
      | exact ih2 _ _ _ _ _ _ _
      | exact ih3 _ _ _ _ _ _ _ _
      | exact ih4 _ _ _ _ _ _ _ _ _ _
      | exact ih5 _ _ _ _ _ _ _ _ _ _ _ _
      | exact ih6 _ _ _ _ _ _ _ _ _
      | exact ih7 _ _ _ _ _ _ _ _ _ _ _
      | exact palinoderef14_Level.mono _ _ _ _ _
      | exact palinoderef14_Right.mono _ _ _ _
      | exact palinoderef16_meets.mono _ _ _ _ _ _ _
      | exact LeO.none _
      | refine LeO.ite ?_ ?_
      | refine LeO.bind ?_ (fun _ => ?_)
    · intro y0 y1 y2 y3 y4 y5 y6 y7 y8 y9 y10
      unfold palinoderef16_Pick.l5
      repeat' first
      | (with_reducible exact ih0 _ _ _ _ _)
      | (with_reducible exact ih1 _ _ _ _ _ _)
      | (with_reducible exact ih2 _ _ _ _ _ _ _)
      | (with_reducible exact ih3 _ _ _ _ _ _ _ _)
      | (with_reducible exact ih4 _ _ _ _ _ _ _ _ _ _)
      | (with_reducible exact ih5 _ _ _ _ _ _ _ _ _ _ _ _)
      | (with_reducible exact ih6 _ _ _ _ _ _ _ _ _)
      | (with_reducible exact ih7 _ _ _ _ _ _ _ _ _ _ _)
      | (with_reducible exact palinoderef14_Level.mono _ _ _ _ _)
      | (with_reducible exact palinoderef14_Right.mono _ _ _ _)
      | (with_reducible exact palinoderef16_meets.mono _ _ _ _ _ _ _)
      | (with_reducible exact LeO.refl _)
      | (with_reducible exact LeO.none _)
      | (with_reducible refine LeO.ite ?_ ?_)
      | (with_reducible refine LeO.bind ?_ (fun _ => ?_))
      | exact ih0 _ _ _ _ _
      | exact ih1 _ _ _ _ _ _
      | exact ih2 _ _ _ _ _ _ _
      | exact ih3 _ _ _ _ _ _ _ _
      | exact ih4 _ _ _ _ _ _ _ _ _ _
      | exact ih5 _ _ _ _ _ _ _ _ _ _ _ _
      | exact ih6 _ _ _ _ _ _ _ _ _
      | exact ih7 _ _ _ _ _ _ _ _ _ _ _
      | exact palinoderef14_Level.mono _ _ _ _ _
      | exact palinoderef14_Right.mono _ _ _ _
      | exact palinoderef16_meets.mono _ _ _ _ _ _ _
      | exact LeO.none _
      | refine LeO.ite ?_ ?_
      | refine LeO.bind ?_ (fun _ => ?_)
theorem palinoderef16_Pick.mono : ∀ a0 a1 a2 k, LeO (palinoderef16_Pick.f k a0 a1 a2) (palinoderef16_Pick.f (k + 1) a0 a1 a2) := by
  intro a0 a1 a2 k
  obtain ⟨ih0, ih1, ih2, ih3, ih4, ih5, ih6, ih7⟩ := palinoderef16_Pick.mono_l k
  unfold palinoderef16_Pick.f
  repeat' first
      | (with_reducible exact ih0 _ _ _ _ _)
      | (with_reducible exact ih1 _ _ _ _ _ _)
      | (with_reducible exact ih2 _ _ _ _ _ _ _)
      | (with_reducible exact ih3 _ _ _ _ _ _ _ _)
      | (with_reducible exact ih4 _ _ _ _ _ _ _ _ _ _)
      | (with_reducible exact ih5 _ _ _ _ _ _ _ _ _ _ _ _)
      | (with_reducible exact ih6 _ _ _ _ _ _ _ _ _)
      | (with_reducible exact ih7 _ _ _ _ _ _ _ _ _ _ _)
      | (with_reducible exact palinoderef14_Level.mono _ _ _ _ _)
      | (with_reducible exact palinoderef14_Right.mono _ _ _ _)
      | (with_reducible exact palinoderef16_meets.mono _ _ _ _ _ _ _)
      | (with_reducible exact LeO.refl _)
      | (with_reducible exact LeO.none _)
      | (with_reducible refine LeO.ite ?_ ?_)
      | (with_reducible refine LeO.bind ?_ (fun _ => ?_))
      | exact ih0 _ _ _ _ _
      | exact ih1 _ _ _ _ _ _
      | exact ih2 _ _ _ _ _ _ _
      | exact ih3 _ _ _ _ _ _ _ _
      | exact ih4 _ _ _ _ _ _ _ _ _ _
      | exact ih5 _ _ _ _ _ _ _ _ _ _ _ _
      | exact ih6 _ _ _ _ _ _ _ _ _
      | exact ih7 _ _ _ _ _ _ _ _ _ _ _
      | exact palinoderef14_Level.mono _ _ _ _ _
      | exact palinoderef14_Right.mono _ _ _ _
      | exact palinoderef16_meets.mono _ _ _ _ _ _ _
      | exact LeO.none _
      | refine LeO.ite ?_ ?_
      | refine LeO.bind ?_ (fun _ => ?_)
def palinoderef16_Pick.T27 : Bool × List (List Nat × List Nat) := (true, [([], []), ([0], [0]), ([], []), ([], []), ([2, 3], [2, 3]), ([4], [4]), ([5], [5]), ([6], [6]), ([1, 7], [1, 7]), ([0, 1, 2, 3, 4, 5, 6, 7, 8], []), ([9, 8, 8, 0, 1, 2, 3, 4, 5, 6, 7, 8], [8, 9])])
def palinoderef16_Pick.B27 : List Nat := [0, 1, 0, 0, 12, 28, 60, 124, 255, 511, 1023]
theorem palinoderef16_Pick.tab27 : rtab .any (opsOf Try.f10 27) = palinoderef16_Pick.T27 := by kernel_rfl
theorem palinoderef16_Pick.bits27 : waitsOk palinoderef16_Pick.T27.2 palinoderef16_Pick.B27 = true := by kernel_rfl
def palinoderef16_Pick.T35 : Bool × List (List Nat × List Nat) := (true, [([], []), ([0], [0]), ([], []), ([], []), ([2, 3], [2, 3]), ([4], [4]), ([5], [5]), ([6], [6]), ([1, 7], [1, 7]), ([0, 1, 2, 3, 4, 5, 6, 7, 8], []), ([9, 8, 8, 0, 1, 2, 3, 4, 5, 6, 7, 8], [8, 9])])
def palinoderef16_Pick.B35 : List Nat := [0, 1, 0, 0, 12, 28, 60, 124, 255, 511, 1023]
theorem palinoderef16_Pick.tab35 : rtab .any (opsOf Try.f10 35) = palinoderef16_Pick.T35 := by kernel_rfl
theorem palinoderef16_Pick.bits35 : waitsOk palinoderef16_Pick.T35.2 palinoderef16_Pick.B35 = true := by kernel_rfl
set_option maxHeartbeats 8000000 in
set_option maxRecDepth 100000 in
theorem palinoderef16_Pick.calls (k : Nat) (A0_0 : Option Addr) (c0_0 : Nat) (l0_0 : List (S49)) (A0_1 : Option Addr) (c0_1 : Nat) (l0_1 : List Int) (a0_2 : Int) (r1 : Int) (r2 : List Int) (r3 : List Int) (r4 : Bool) (r5 : Bool) (w : World) (hr0_0 : Kd.C k49 w A0_0 l0_0.length l0_0) (hc0_0 : l0_0.length ≤ c0_0) (hr0_1 : Kd.C (Kd.int .i64) w A0_1 l0_1.length l0_1) (hc0_1 : l0_1.length ≤ c0_1) (h : palinoderef16_Pick.f k l0_0 l0_1 a0_2 = some (r1, r2, r3, r4, r5)) :
    Calls Try.prog 10 #[.agg #[.slice A0_0 l0_0.length c0_0, .slice A0_1 l0_1.length c0_1, .int .i64 a0_2]] w fun e w' => ∃ v1_ v2_ : Value, e = .returned (.tuple #[.agg #[.int .i64 r1, v1_, v2_, .bool r4], .bool r5]) ∧ Kd.R (Kd.int .i64) 3 w' w.heap.size (fun k_ => some k_ ≠ (v2_ : Value).ownBlock) v1_ r2 ∧ Kd.R (Kd.int .i64) 3 w' w.heap.size (fun k_ => some k_ ≠ (v1_ : Value).ownBlock) v2_ r3 ∧ Below w.heap.size w w' := by
  have hu25 := Try.underlying25
  have hu28 := Try.underlying28
  have hu49 := Try.underlying49
  have HR0_0 := Aside0.mk hr0_0
  have HC0_0 := Aside0.mk hc0_0
  clear hr0_0 hc0_0
  have HR0_1 := Aside0.mk hr0_1
  have HC0_1 := Aside0.mk hc0_1
  clear hr0_1 hc0_1
  have HB := Aside0.mk (Below.refl w.heap.size w)
  have H : ((palinoderef14_Right.f k l0_0 l0_1 a0_2).bind fun t221 => (if t221 = true then ((palinoderef14_Level.f k l0_0 l0_1 a0_2 0).bind fun t222 => (if (t222.length : Int) ≥ 3 then (palinoderef16_Pick.j0 k 0 t222 l0_0 l0_1 a0_2) else (palinoderef16_Pick.j0 k (-1) t222 l0_0 l0_1 a0_2))) else (some (0, ([] : List Int), ([] : List Int), false, false)))) = some (r1, r2, r3, r4, r5) := h
  clear h
  replace H := Option.bind_eq_some_iff.mp H
  obtain ⟨t221, A20, H⟩ := H
  replace H : (if t221 = true then ((palinoderef14_Level.f k l0_0 l0_1 a0_2 0).bind fun t222 => (if (t222.length : Int) ≥ 3 then (palinoderef16_Pick.j0 k 0 t222 l0_0 l0_1 a0_2) else (palinoderef16_Pick.j0 k (-1) t222 l0_0 l0_1 a0_2))) else (some (0, ([] : List Int), ([] : List Int), false, false))) = some (r1, r2, r3, r4, r5) := H
  have A2 := Aside0.mk A20
  clear A20
  by_cases c3 : t221 = true
  rotate_left
  · replace c3 := Bool.eq_false_iff.mpr c3
    subst c3
    have H1 : (some (0, ([] : List Int), ([] : List Int), false, false)) = some (r1, r2, r3, r4, r5) := by rw [if_neg (show ¬ (false = true) by decide)] at H; exact H
    clear H
    have H := H1
    clear H1
    simp only [Option.some.injEq, Prod.mk.injEq] at H
    obtain ⟨rfl, rfl, rfl, rfl, rfl⟩ := H
    go_enter Try.func10, Try.ntmps10
    go_wp2_with (first | ((with_reducible refine gate_dst (N := 1) rfl ?_); refine box_event ?hg (N := 1) ?hd (cs := #[.slice A0_0 l0_0.length c0_0, .slice A0_1 l0_1.length c0_1, .int .i64 a0_2]) (t := 25) ?hr ?_; (case hd => rfl); (case hg => rfl); (case hr => first | (go_simp; done) | (go_simp; rfl)); intro gb219 hg w100 hbox hb; have n0_ := Aside0.mk (below_step (by repeat (first | (with_reducible first | exact HB.out | apply below_alloc | apply pw_below_drewN | apply below_drew1) | exact HB.out)) hb); have n1_ := Aside0.mk (hbox); have n2_ := Aside0.mk ((by rw [hg]; exact (below_size (by repeat (first | (with_reducible first | exact HB.out | apply below_alloc | apply pw_below_drewN | apply below_drew1) | exact HB.out))) : w.heap.size ≤ gb219)); have n3_ := Aside0.mk ((by rw [hg]; exact (below_size (by repeat (first | (with_reducible first | exact HB.out | apply below_alloc | apply pw_below_drewN | apply below_drew1) | exact HB.out))) : w.heap.size ≤ gb219)); clear HB; have HB := n0_; have BK219 := n1_; have GW219 := n2_; have GE219 := n3_; clear n0_ n1_ n2_ n3_; clear hb hbox hg) | ((with_reducible refine gate_dst (N := 2) rfl ?_); refine box_event ?hg (N := 2) ?hd (cs := #[.int .i64 0, .slice none 0 0, .slice none 0 0, .bool false]) (t := 28) ?hr ?_; (case hd => rfl); (case hg => rfl); (case hr => first | (go_simp; done) | (go_simp; rfl)); intro gb220 hg w101 hbox hb; have n0_ := Aside0.mk (blk_below (g := gb219) (o := .cells #[.slice A0_0 l0_0.length c0_0, .slice A0_1 l0_1.length c0_1, .int .i64 a0_2] 25 (0, 0)) (by (with_reducible repeat (first | refine blk_drewN ?_ _ | refine blk_drew ?_ | refine blk_alloc ?_ _)); exact BK219.out) hb); have n1_ := Aside0.mk (below_step (by repeat (first | (with_reducible first | exact HB.out | apply below_alloc | apply pw_below_drewN | apply below_drew1 | refine below_set ?_ GE219.out) | exact HB.out)) hb); have n2_ := Aside0.mk (hbox); have n3_ := Aside0.mk ((by rw [hg]; exact (below_size (by repeat (first | (with_reducible first | exact HB.out | apply below_alloc | apply pw_below_drewN | apply below_drew1 | refine below_set ?_ GE219.out) | exact HB.out))) : w.heap.size ≤ gb220)); have n4_ := Aside0.mk ((by rw [hg]; exact (below_size (by repeat (first | (with_reducible first | exact HB.out | apply below_alloc | apply pw_below_drewN | apply below_drew1 | refine below_set ?_ GE219.out) | exact HB.out))) : w.heap.size ≤ gb220)); have n5_ := Aside0.mk ((by rw [hg]; exact Nat.ne_of_lt (blk_lt (g := gb219) (o := .cells #[.slice A0_0 l0_0.length c0_0, .slice A0_1 l0_1.length c0_1, .int .i64 a0_2] 25 (0, 0)) (by (with_reducible repeat (first | refine blk_drewN ?_ _ | refine blk_drew ?_ | refine blk_alloc ?_ _)); exact BK219.out)) : gb219 ≠ gb220)); have n6_ := Aside0.mk ((by rw [hg]; exact Nat.ne_of_gt (blk_lt (g := gb219) (o := .cells #[.slice A0_0 l0_0.length c0_0, .slice A0_1 l0_1.length c0_1, .int .i64 a0_2] 25 (0, 0)) (by (with_reducible repeat (first | refine blk_drewN ?_ _ | refine blk_drew ?_ | refine blk_alloc ?_ _)); exact BK219.out)) : gb220 ≠ gb219)); clear BK219; clear HB; have BK219 := n0_; have HB := n1_; have BK220 := n2_; have GW220 := n3_; have GE220 := n4_; have NB219_220 := n5_; have NB220_219 := n6_; clear n0_ n1_ n2_ n3_ n4_ n5_ n6_; clear hb hbox hg; have hnb102 := NB219_220.out; have hnc102 := NB220_219.out; have hcz103_0 : w101.cell? ⟨gb219, 0, none⟩ = some (.slice A0_0 l0_0.length c0_0) := (blk_cell BK219.out 0).trans rfl; have hcz103_1 : w101.cell? ⟨gb219, 1, none⟩ = some (.slice A0_1 l0_1.length c0_1) := (blk_cell BK219.out 1).trans rfl; have hcz103_2 : w101.cell? ⟨gb219, 2, none⟩ = some (.int .i64 a0_2) := (blk_cell BK219.out 2).trans rfl; have hfz103_0 := blk_frozen BK219.out 0; have hfz103_1 := blk_frozen BK219.out 1; have hfz103_2 := blk_frozen BK219.out 2) | ((with_reducible refine gate_callee (f := 26) rfl ?_); refine goesL_ (some 21) rfl rfl Try.func26 (by kernel_rfl) rfl #[.agg #[.slice A0_0 l0_0.length c0_0, .slice A0_1 l0_1.length c0_1, .int .i64 a0_2]] rfl (by (try simp only [List.map_toArray, List.map_cons, List.map_nil]); first | done | rfl | (simp only [List.length_drop, List.length_take]; rfl)) ?_; (with_reducible refine (palinoderef14_Right.calls k _ _ l0_0 _ _ l0_1 a0_2 false _ ?side1 ?side2 ?side3 ?side4 A2.out).mono ?_); (case side1 => repeat (first | exact (Kd.C_below HR0_0.out HB.out) | (with_reducible refine Kd.C_alloc ?_ _) | (with_reducible refine Kd.C_drewN ?_ _) | (with_reducible refine Kd.C_drew ?_))); (case side2 => exact HC0_0.out); (case side3 => repeat (first | exact (Kd.C_below HR0_1.out HB.out) | (with_reducible refine Kd.C_alloc ?_ _) | (with_reducible refine Kd.C_drewN ?_ _) | (with_reducible refine Kd.C_drew ?_))); (case side4 => exact HC0_1.out); rintro e w104 ⟨rfl, hb⟩; refine ⟨_, rfl, ?_⟩; have n0_ := Aside0.mk (blk_below (g := gb219) (o := .cells #[.slice A0_0 l0_0.length c0_0, .slice A0_1 l0_1.length c0_1, .int .i64 a0_2] 25 (0, 0)) (by (with_reducible repeat (first | refine blk_drewN ?_ _ | refine blk_drew ?_ | refine blk_alloc ?_ _)); exact BK219.out) hb); have n1_ := Aside0.mk (blk_below (g := gb220) (o := .cells #[.int .i64 0, .slice none 0 0, .slice none 0 0, .bool false] 28 (0, 0)) (by (with_reducible repeat (first | refine blk_drewN ?_ _ | refine blk_drew ?_ | refine blk_alloc ?_ _)); exact BK220.out) hb); have n2_ := Aside0.mk (below_step (by repeat (first | (with_reducible first | exact HB.out | apply below_alloc | apply pw_below_drewN | apply below_drew1 | refine below_set ?_ GE219.out | refine below_set ?_ GE220.out) | exact HB.out)) hb); clear BK219; clear BK220; clear HB; have BK219 := n0_; have BK220 := n1_; have HB := n2_; clear n0_ n1_ n2_; (try clear hb); (try clear hb2); (try clear hk); (try clear hi); have hcz105_0 : w104.cell? ⟨gb220, 0, none⟩ = some (.int .i64 0) := (blk_cell BK220.out 0).trans rfl; have hcz105_1 : w104.cell? ⟨gb220, 1, none⟩ = some (.slice none 0 0) := (blk_cell BK220.out 1).trans rfl; have hcz105_2 : w104.cell? ⟨gb220, 2, none⟩ = some (.slice none 0 0) := (blk_cell BK220.out 2).trans rfl; have hcz105_3 : w104.cell? ⟨gb220, 3, none⟩ = some (.bool false) := (blk_cell BK220.out 3).trans rfl; have hfz105_0 := blk_frozen BK220.out 0; have hfz105_1 := blk_frozen BK220.out 1; have hfz105_2 := blk_frozen BK220.out 2; have hfz105_3 := blk_frozen BK220.out 3))
    refine bodyPost_ret (results_ct rfl _ _ gb220 28 #[.int .i64 0, .slice none 0 0, .slice none 0 0, .bool false] (0, 0) _ rfl (by (with_reducible repeat (first | refine blk_drewN ?_ _ | refine blk_drew ?_ | refine blk_alloc ?_ _)); refine blk_put (cs := #[.int .i64 0, .slice none 0 0, .slice none 0 0, .bool false]) ?_ 3 _ rfl; (with_reducible repeat (first | refine blk_drewN ?_ _ | refine blk_drew ?_ | refine blk_alloc ?_ _)); refine blk_put (cs := #[.int .i64 0, .slice none 0 0, .slice none 0 0, .bool false]) ?_ 2 _ rfl; (with_reducible repeat (first | refine blk_drewN ?_ _ | refine blk_drew ?_ | refine blk_alloc ?_ _)); refine blk_put (cs := #[.int .i64 0, .slice none 0 0, .slice none 0 0, .bool false]) ?_ 1 _ rfl; (with_reducible repeat (first | refine blk_drewN ?_ _ | refine blk_drew ?_ | refine blk_alloc ?_ _)); refine blk_put (cs := #[.int .i64 0, .slice none 0 0, .slice none 0 0, .bool false]) ?_ 0 _ rfl; (with_reducible repeat (first | refine blk_drewN ?_ _ | refine blk_drew ?_ | refine blk_alloc ?_ _)); exact BK220.out) Try.underlying28 rfl (by kernel_rfl)) rfl ?_
    exact ⟨_, _, by first | rfl | (simp [errW_none, errW_some] <;> rfl) | (simp [*, errW_none, errW_some] <;> rfl), by first | exact Kd.R_nil _ _ _ _ _ | exact Kd.N_nil _ _ _ _ _ | exact Kd.V_nil _ _ _ _ _ | exact Kd.Q_nil _ _ _ _ _ | exact Kd.S_nil _ _ _ _ _, by first | exact Kd.R_nil _ _ _ _ _ | exact Kd.N_nil _ _ _ _ _ | exact Kd.V_nil _ _ _ _ _ | exact Kd.Q_nil _ _ _ _ _ | exact Kd.S_nil _ _ _ _ _, by repeat (first | (with_reducible first | exact HB.out | apply below_alloc | apply pw_below_drewN | apply below_drew1 | refine below_set ?_ GE219.out | refine below_set ?_ GE220.out) | exact HB.out)⟩
  subst c3
  have H1 : ((palinoderef14_Level.f k l0_0 l0_1 a0_2 0).bind fun t222 => (if (t222.length : Int) ≥ 3 then (palinoderef16_Pick.j0 k 0 t222 l0_0 l0_1 a0_2) else (palinoderef16_Pick.j0 k (-1) t222 l0_0 l0_1 a0_2))) = some (r1, r2, r3, r4, r5) := by rw [if_pos rfl] at H; exact H
  clear H
  have H := H1
  clear H1
  replace H := Option.bind_eq_some_iff.mp H
  obtain ⟨t222, A40, H⟩ := H
  replace H : (if (t222.length : Int) ≥ 3 then (palinoderef16_Pick.j0 k 0 t222 l0_0 l0_1 a0_2) else (palinoderef16_Pick.j0 k (-1) t222 l0_0 l0_1 a0_2)) = some (r1, r2, r3, r4, r5) := H
  have A4 := Aside0.mk A40
  clear A40
  have HC5 := Aside0.mk H
  clear H
  go_enter Try.func10, Try.ntmps10
  go_upto_if 29 with (first | ((with_reducible refine gate_dst (N := 1) rfl ?_); refine box_event ?hg (N := 1) ?hd (cs := #[.slice A0_0 l0_0.length c0_0, .slice A0_1 l0_1.length c0_1, .int .i64 a0_2]) (t := 25) ?hr ?_; (case hd => rfl); (case hg => rfl); (case hr => first | (go_simp; done) | (go_simp; rfl)); intro gb219 hg w6 hbox hb; have n0_ := Aside0.mk (below_step (by repeat (first | (with_reducible first | exact HB.out | apply below_alloc | apply pw_below_drewN | apply below_drew1) | exact HB.out)) hb); have n1_ := Aside0.mk (hbox); have n2_ := Aside0.mk ((by rw [hg]; exact (below_size (by repeat (first | (with_reducible first | exact HB.out | apply below_alloc | apply pw_below_drewN | apply below_drew1) | exact HB.out))) : w.heap.size ≤ gb219)); have n3_ := Aside0.mk ((by rw [hg]; exact (below_size (by repeat (first | (with_reducible first | exact HB.out | apply below_alloc | apply pw_below_drewN | apply below_drew1) | exact HB.out))) : w.heap.size ≤ gb219)); clear HB; have HB := n0_; have BK219 := n1_; have GW219 := n2_; have GE219 := n3_; clear n0_ n1_ n2_ n3_; clear hb hbox hg) | ((with_reducible refine gate_dst (N := 2) rfl ?_); refine box_event ?hg (N := 2) ?hd (cs := #[.int .i64 0, .slice none 0 0, .slice none 0 0, .bool false]) (t := 28) ?hr ?_; (case hd => rfl); (case hg => rfl); (case hr => first | (go_simp; done) | (go_simp; rfl)); intro gb220 hg w7 hbox hb; have n0_ := Aside0.mk (blk_below (g := gb219) (o := .cells #[.slice A0_0 l0_0.length c0_0, .slice A0_1 l0_1.length c0_1, .int .i64 a0_2] 25 (0, 0)) (by (with_reducible repeat (first | refine blk_drewN ?_ _ | refine blk_drew ?_ | refine blk_alloc ?_ _)); exact BK219.out) hb); have n1_ := Aside0.mk (below_step (by repeat (first | (with_reducible first | exact HB.out | apply below_alloc | apply pw_below_drewN | apply below_drew1 | refine below_set ?_ GE219.out) | exact HB.out)) hb); have n2_ := Aside0.mk (hbox); have n3_ := Aside0.mk ((by rw [hg]; exact (below_size (by repeat (first | (with_reducible first | exact HB.out | apply below_alloc | apply pw_below_drewN | apply below_drew1 | refine below_set ?_ GE219.out) | exact HB.out))) : w.heap.size ≤ gb220)); have n4_ := Aside0.mk ((by rw [hg]; exact (below_size (by repeat (first | (with_reducible first | exact HB.out | apply below_alloc | apply pw_below_drewN | apply below_drew1 | refine below_set ?_ GE219.out) | exact HB.out))) : w.heap.size ≤ gb220)); have n5_ := Aside0.mk ((by rw [hg]; exact Nat.ne_of_lt (blk_lt (g := gb219) (o := .cells #[.slice A0_0 l0_0.length c0_0, .slice A0_1 l0_1.length c0_1, .int .i64 a0_2] 25 (0, 0)) (by (with_reducible repeat (first | refine blk_drewN ?_ _ | refine blk_drew ?_ | refine blk_alloc ?_ _)); exact BK219.out)) : gb219 ≠ gb220)); have n6_ := Aside0.mk ((by rw [hg]; exact Nat.ne_of_gt (blk_lt (g := gb219) (o := .cells #[.slice A0_0 l0_0.length c0_0, .slice A0_1 l0_1.length c0_1, .int .i64 a0_2] 25 (0, 0)) (by (with_reducible repeat (first | refine blk_drewN ?_ _ | refine blk_drew ?_ | refine blk_alloc ?_ _)); exact BK219.out)) : gb220 ≠ gb219)); clear BK219; clear HB; have BK219 := n0_; have HB := n1_; have BK220 := n2_; have GW220 := n3_; have GE220 := n4_; have NB219_220 := n5_; have NB220_219 := n6_; clear n0_ n1_ n2_ n3_ n4_ n5_ n6_; clear hb hbox hg; have hnb8 := NB219_220.out; have hnc8 := NB220_219.out; have hcz9_0 : w7.cell? ⟨gb219, 0, none⟩ = some (.slice A0_0 l0_0.length c0_0) := (blk_cell BK219.out 0).trans rfl; have hcz9_1 : w7.cell? ⟨gb219, 1, none⟩ = some (.slice A0_1 l0_1.length c0_1) := (blk_cell BK219.out 1).trans rfl; have hcz9_2 : w7.cell? ⟨gb219, 2, none⟩ = some (.int .i64 a0_2) := (blk_cell BK219.out 2).trans rfl; have hfz9_0 := blk_frozen BK219.out 0; have hfz9_1 := blk_frozen BK219.out 1; have hfz9_2 := blk_frozen BK219.out 2) | ((with_reducible refine gate_callee (f := 26) rfl ?_); refine goesL_ (some 21) rfl rfl Try.func26 (by kernel_rfl) rfl #[.agg #[.slice A0_0 l0_0.length c0_0, .slice A0_1 l0_1.length c0_1, .int .i64 a0_2]] rfl (by (try simp only [List.map_toArray, List.map_cons, List.map_nil]); first | done | rfl | (simp only [List.length_drop, List.length_take]; rfl)) ?_; (with_reducible refine (palinoderef14_Right.calls k _ _ l0_0 _ _ l0_1 a0_2 true _ ?side1 ?side2 ?side3 ?side4 A2.out).mono ?_); (case side1 => repeat (first | exact (Kd.C_below HR0_0.out HB.out) | (with_reducible refine Kd.C_alloc ?_ _) | (with_reducible refine Kd.C_drewN ?_ _) | (with_reducible refine Kd.C_drew ?_))); (case side2 => exact HC0_0.out); (case side3 => repeat (first | exact (Kd.C_below HR0_1.out HB.out) | (with_reducible refine Kd.C_alloc ?_ _) | (with_reducible refine Kd.C_drewN ?_ _) | (with_reducible refine Kd.C_drew ?_))); (case side4 => exact HC0_1.out); rintro e w10 ⟨rfl, hb⟩; refine ⟨_, rfl, ?_⟩; have n0_ := Aside0.mk (blk_below (g := gb219) (o := .cells #[.slice A0_0 l0_0.length c0_0, .slice A0_1 l0_1.length c0_1, .int .i64 a0_2] 25 (0, 0)) (by (with_reducible repeat (first | refine blk_drewN ?_ _ | refine blk_drew ?_ | refine blk_alloc ?_ _)); exact BK219.out) hb); have n1_ := Aside0.mk (blk_below (g := gb220) (o := .cells #[.int .i64 0, .slice none 0 0, .slice none 0 0, .bool false] 28 (0, 0)) (by (with_reducible repeat (first | refine blk_drewN ?_ _ | refine blk_drew ?_ | refine blk_alloc ?_ _)); exact BK220.out) hb); have n2_ := Aside0.mk (below_step (by repeat (first | (with_reducible first | exact HB.out | apply below_alloc | apply pw_below_drewN | apply below_drew1 | refine below_set ?_ GE219.out | refine below_set ?_ GE220.out) | exact HB.out)) hb); clear BK219; clear BK220; clear HB; have BK219 := n0_; have BK220 := n1_; have HB := n2_; clear n0_ n1_ n2_; (try clear hb); (try clear hb2); (try clear hk); (try clear hi); have hcz11_0 : w10.cell? ⟨gb219, 0, none⟩ = some (.slice A0_0 l0_0.length c0_0) := (blk_cell BK219.out 0).trans rfl; have hcz11_1 : w10.cell? ⟨gb219, 1, none⟩ = some (.slice A0_1 l0_1.length c0_1) := (blk_cell BK219.out 1).trans rfl; have hcz11_2 : w10.cell? ⟨gb219, 2, none⟩ = some (.int .i64 a0_2) := (blk_cell BK219.out 2).trans rfl; have hfz11_0 := blk_frozen BK219.out 0; have hfz11_1 := blk_frozen BK219.out 1; have hfz11_2 := blk_frozen BK219.out 2) | ((with_reducible refine gate_callee (f := 27) rfl ?_); refine goesL_ (some 26) rfl rfl Try.func27 (by kernel_rfl) rfl #[.agg #[.slice A0_0 l0_0.length c0_0, .slice A0_1 l0_1.length c0_1, .int .i64 a0_2], .int .i64 0] rfl (by (try simp only [List.map_toArray, List.map_cons, List.map_nil]); first | done | rfl | (simp only [List.length_drop, List.length_take]; rfl)) ?_; (with_reducible refine (palinoderef14_Level.calls k _ _ l0_0 _ _ l0_1 a0_2 0 t222 _ ?side1 ?side2 ?side3 ?side4 A4.out).mono ?_); (case side1 => repeat (first | exact (Kd.C_below HR0_0.out HB.out) | (with_reducible refine Kd.C_alloc ?_ _) | (with_reducible refine Kd.C_drewN ?_ _) | (with_reducible refine Kd.C_drew ?_))); (case side2 => exact HC0_0.out); (case side3 => repeat (first | exact (Kd.C_below HR0_1.out HB.out) | (with_reducible refine Kd.C_alloc ?_ _) | (with_reducible refine Kd.C_drewN ?_ _) | (with_reducible refine Kd.C_drew ?_))); (case side4 => exact HC0_1.out); rintro e w12 ⟨v223, rfl, ho0, hb⟩; refine ⟨_, rfl, ?_⟩; have n0_ := Aside0.mk (Kd.R_lower ho0 (below_size (by repeat (first | (with_reducible first | exact HB.out | apply below_alloc | apply pw_below_drewN | apply below_drew1 | refine below_set ?_ GE219.out | refine below_set ?_ GE220.out) | exact HB.out)))); have n1_ := Aside0.mk (blk_below (g := gb219) (o := .cells #[.slice A0_0 l0_0.length c0_0, .slice A0_1 l0_1.length c0_1, .int .i64 a0_2] 25 (0, 0)) (by (with_reducible repeat (first | refine blk_drewN ?_ _ | refine blk_drew ?_ | refine blk_alloc ?_ _)); exact BK219.out) hb); have n2_ := Aside0.mk (blk_below (g := gb220) (o := .cells #[.int .i64 0, .slice none 0 0, .slice none 0 0, .bool false] 28 (0, 0)) (by (with_reducible repeat (first | refine blk_drewN ?_ _ | refine blk_drew ?_ | refine blk_alloc ?_ _)); exact BK220.out) hb); have n3_ := Aside0.mk (below_step (by repeat (first | (with_reducible first | exact HB.out | apply below_alloc | apply pw_below_drewN | apply below_drew1 | refine below_set ?_ GE219.out | refine below_set ?_ GE220.out) | exact HB.out)) hb); clear BK219; clear BK220; clear HB; have HO224 := n0_; have BK219 := n1_; have BK220 := n2_; have HB := n3_; clear n0_ n1_ n2_ n3_; (try clear hb); (try clear hb2); (try clear hk); (try clear hi); (try clear ho0); obtain ⟨Ao13, co13, eo13⟩ := Kd.R_slice HO224.out; subst eo13))
  (try simp only [Act.put, List.setIfInBounds_toArray, List.set_cons_zero, List.set_cons_succ])
  go_cut [5] (fun v5 wc => ∃ (kq : Nat) (x5_4 : Int), v5 = .int .i64 x5_4 ∧ Aside0 (palinoderef16_Pick.j0 kq x5_4 t222 l0_0 l0_1 a0_2 = some (r1, r2, r3, r4, r5)) ∧ Aside0 (kq ≤ k) ∧ Aside0 (Kd.R k49 49 wc w.heap.size (fun _ => True) (.slice Ao13 t222.length co13) t222) ∧ Aside0 (wc.heap[gb219]? = some (.cells #[(.slice A0_0 l0_0.length c0_0), (.slice A0_1 l0_1.length c0_1), .int .i64 a0_2] 25 (0, 0))) ∧ Aside0 (wc.heap[gb220]? = some (.cells #[.int .i64 0, (.slice none 0 0), (.slice none 0 0), .bool false] 28 (0, 0))) ∧ Aside0 (Below w.heap.size w wc))
  case first =>
    have H := HC5.out
    clear HC5
    by_cases c14 : (t222.length : Int) ≥ 3
    · rw [if_pos c14] at H
      have c14b0 : decide (3 ≤ (t222.length : Int)) = true := decide_eq_true c14
      have c14b1 : decide (3 ≤ t222.length) = true := decide_eq_true (by omega)
      clear c14
      (first | rw [c14b0] | (simp only [i64_w, i32_w]; rw [c14b0]) | skip)
      have H' := Aside0.mk H
      clear H
      go_wp2
      go_meet
      case rel => exact ⟨_, (0), (by first | rfl | (simp; done) | (simp [*]; done)), H', ⟨by first | omega | exact Nat.le_refl _⟩, ⟨by (with_reducible repeat (first | apply Kd.R_alloc | apply Kd.R_drewN | apply Kd.R_drew)); exact HO224.out⟩, ⟨by (with_reducible repeat (first | refine blk_drewN ?_ _ | refine blk_drew ?_ | refine blk_alloc ?_ _)); exact BK219.out⟩, ⟨by (with_reducible repeat (first | refine blk_drewN ?_ _ | refine blk_drew ?_ | refine blk_alloc ?_ _)); exact BK220.out⟩, ⟨by repeat (first | (with_reducible first | exact HB.out | apply below_alloc | apply pw_below_drewN | apply below_drew1 | refine below_set ?_ GE219.out | refine below_set ?_ GE220.out) | exact HB.out)⟩⟩
    rw [if_neg c14] at H
    have c14b0 : decide (3 ≤ (t222.length : Int)) = false := decide_eq_false c14
    have c14b1 : decide (3 ≤ t222.length) = false := decide_eq_false (by omega)
    clear c14
    (first | rw [c14b0] | (simp only [i64_w, i32_w]; rw [c14b0]) | skip)
    have H' := Aside0.mk H
    clear H
    go_wp2
    go_meet
    case rel => exact ⟨_, ((-1)), (by first | rfl | (simp; done) | (simp [*]; done)), H', ⟨by first | omega | exact Nat.le_refl _⟩, ⟨by (with_reducible repeat (first | apply Kd.R_alloc | apply Kd.R_drewN | apply Kd.R_drew)); exact HO224.out⟩, ⟨by (with_reducible repeat (first | refine blk_drewN ?_ _ | refine blk_drew ?_ | refine blk_alloc ?_ _)); exact BK219.out⟩, ⟨by (with_reducible repeat (first | refine blk_drewN ?_ _ | refine blk_drew ?_ | refine blk_alloc ?_ _)); exact BK220.out⟩, ⟨by repeat (first | (with_reducible first | exact HB.out | apply below_alloc | apply pw_below_drewN | apply below_drew1 | refine below_set ?_ GE219.out | refine below_set ?_ GE220.out) | exact HB.out)⟩⟩
  case rest =>
    clear HC5
    try clear c1
    try clear c2
    try clear p2
    try clear c3
    try clear c8
    try clear c10
    try clear c14
    try clear c14b0
    try clear c14b1
    try clear hcz11_0
    try clear hcz11_1
    try clear hcz11_2
    try clear hcz9_0
    try clear hcz9_1
    try clear hcz9_2
    try clear hfz11_0
    try clear hfz11_1
    try clear hfz11_2
    try clear hfz9_0
    try clear hfz9_1
    try clear hfz9_2
    obtain ⟨kq, x5_4, rfl, HA, HJ4, HO_6, BK219, BK220, HB⟩ := hcut
    cases kq with
    | zero => exact absurd HA.out (by simp [palinoderef16_Pick.j0])
    | succ kj4 =>
      have H := HA.out
      clear HA
      simp only [palinoderef16_Pick.j0] at H
      have H' := Aside0.mk H
      clear H
      go_wp2
      go_loopg [5, 6, 7] kj4 (fun kq v5 v6 v7 w' => ∃ (x5_2 : Int) (x6_2 : List (S49)) (x7_2 : Int), v5 = .int .i64 x5_2 ∧ v7 = .int .i64 x7_2 ∧ Aside0 (palinoderef16_Pick.l0 kq x5_2 x6_2 x7_2 l0_0 l0_1 a0_2 = some (r1, r2, r3, r4, r5)) ∧ Aside0 (kq ≤ kj4) ∧ Aside0 (Kd.R k49 49 w' w.heap.size (fun _ => True) v6 x6_2) ∧ Aside0 (w'.heap[gb219]? = some (.cells #[(.slice A0_0 l0_0.length c0_0), (.slice A0_1 l0_1.length c0_1), .int .i64 a0_2] 25 (0, 0))) ∧ Aside0 (w'.heap[gb220]? = some (.cells #[.int .i64 0, (.slice none 0 0), (.slice none 0 0), .bool false] 28 (0, 0))) ∧ Aside0 (Below w.heap.size w w'))
      case atStart => exact ⟨(x5_4), (t222), (1), (by first | rfl | (simp; done) | (simp [*]; done)), (by first | rfl | (simp; done) | (simp [*]; done)), H', ⟨Nat.le_refl _⟩, ⟨by (with_reducible repeat (first | apply Kd.R_alloc | apply Kd.R_drewN | apply Kd.R_drew)); exact HO_6.out⟩, ⟨by (with_reducible repeat (first | refine blk_drewN ?_ _ | refine blk_drew ?_ | refine blk_alloc ?_ _)); exact BK219.out⟩, ⟨by (with_reducible repeat (first | refine blk_drewN ?_ _ | refine blk_drew ?_ | refine blk_alloc ?_ _)); exact BK220.out⟩, ⟨by repeat (first | (with_reducible first | exact HB.out | apply below_alloc | apply pw_below_drewN | apply below_drew1 | refine below_set ?_ GE219.out | refine below_set ?_ GE220.out) | exact HB.out)⟩⟩
      case round =>
        clear H'
        try clear c1
        try clear c2
        try clear p2
        try clear c3
        try clear c8
        try clear c10
        try clear c14
        try clear c14b0
        try clear c14b1
        try clear hcz11_0
        try clear hcz11_1
        try clear hcz11_2
        try clear hcz9_0
        try clear hcz9_1
        try clear hcz9_2
        try clear hfz11_0
        try clear hfz11_1
        try clear hfz11_2
        try clear hfz9_0
        try clear hfz9_1
        try clear hfz9_2
        try clear p2
        obtain ⟨x5_2, x6_2, x7_2, rfl, rfl, HA, HK2, HO_6, BK219, BK220, HB⟩ := hrel
        cases gk with
        | zero => exact absurd HA.out (by simp [palinoderef16_Pick.l0])
        | succ k2 =>
          have H := HA.out
          clear HA
          simp only [palinoderef16_Pick.l0] at H
          have HC15 := Aside0.mk H
          clear H
          go_upto_region 9 with (fail)
          go_cut [35] (fun v35 wc => ∃ (kq : Nat) (x35_14 : Bool), v35 = .bool x35_14 ∧ Aside0 (palinoderef16_Pick.j2 kq x5_2 x6_2 x7_2 x35_14 l0_0 l0_1 a0_2 = some (r1, r2, r3, r4, r5)) ∧ Aside0 (kq ≤ k2) ∧ Aside0 (Kd.R k49 49 wc w.heap.size (fun _ => True) u6 x6_2) ∧ Aside0 (wc.heap[gb219]? = some (.cells #[(.slice A0_0 l0_0.length c0_0), (.slice A0_1 l0_1.length c0_1), .int .i64 a0_2] 25 (0, 0))) ∧ Aside0 (wc.heap[gb220]? = some (.cells #[.int .i64 0, (.slice none 0 0), (.slice none 0 0), .bool false] 28 (0, 0))) ∧ Aside0 (Below w.heap.size w wc))
          case first =>
            have H := HC15.out
            clear HC15
            by_cases c16 : x7_2 < 3
            rotate_left
            · rw [if_neg c16] at H
              have c16b0 : decide (x7_2 < 3) = false := decide_eq_false c16
              clear c16
              (first | rw [c16b0] | (simp only [i64_w, i32_w]; rw [c16b0]) | skip)
              have H' := Aside0.mk H
              clear H
              go_wp2
              go_meet
              case rel => exact ⟨_, (false), (by first | rfl | (simp; done) | (simp [*]; done)), H', ⟨by have := HJ4.out; have := HK2.out; first | omega | exact Nat.le_refl _⟩, ⟨by (with_reducible repeat (first | apply Kd.R_alloc | apply Kd.R_drewN | apply Kd.R_drew)); exact HO_6.out⟩, ⟨by (with_reducible repeat (first | refine blk_drewN ?_ _ | refine blk_drew ?_ | refine blk_alloc ?_ _)); exact BK219.out⟩, ⟨by (with_reducible repeat (first | refine blk_drewN ?_ _ | refine blk_drew ?_ | refine blk_alloc ?_ _)); exact BK220.out⟩, ⟨by repeat (first | (with_reducible first | exact HB.out | apply below_alloc | apply pw_below_drewN | apply below_drew1 | refine below_set ?_ GE219.out | refine below_set ?_ GE220.out) | exact HB.out)⟩⟩
            rw [if_pos c16] at H
            have c16b0 : decide (x7_2 < 3) = true := decide_eq_true c16
            clear c16
            (first | rw [c16b0] | (simp only [i64_w, i32_w]; rw [c16b0]) | skip)
            have H' := Aside0.mk H
            clear H
            go_wp2
            go_meet
            case rel => exact ⟨_, (decide (x5_2 < 0)), (by first | rfl | (simp; done) | (simp [*]; done)), H', ⟨by have := HJ4.out; have := HK2.out; first | omega | exact Nat.le_refl _⟩, ⟨by (with_reducible repeat (first | apply Kd.R_alloc | apply Kd.R_drewN | apply Kd.R_drew)); exact HO_6.out⟩, ⟨by (with_reducible repeat (first | refine blk_drewN ?_ _ | refine blk_drew ?_ | refine blk_alloc ?_ _)); exact BK219.out⟩, ⟨by (with_reducible repeat (first | refine blk_drewN ?_ _ | refine blk_drew ?_ | refine blk_alloc ?_ _)); exact BK220.out⟩, ⟨by repeat (first | (with_reducible first | exact HB.out | apply below_alloc | apply pw_below_drewN | apply below_drew1 | refine below_set ?_ GE219.out | refine below_set ?_ GE220.out) | exact HB.out)⟩⟩
          case rest =>
            clear HC15
            try clear c1
            try clear c2
            try clear p2
            try clear c3
            try clear c8
            try clear c10
            try clear c14
            try clear c14b0
            try clear c14b1
            try clear c16
            try clear c16b0
            try clear hcz11_0
            try clear hcz11_1
            try clear hcz11_2
            try clear hcz9_0
            try clear hcz9_1
            try clear hcz9_2
            try clear hfz11_0
            try clear hfz11_1
            try clear hfz11_2
            try clear hfz9_0
            try clear hfz9_1
            try clear hfz9_2
            try clear p2
            obtain ⟨kq, x35_14, rfl, HA, HJ14, HO_6, BK219, BK220, HB⟩ := hcut
            cases kq with
            | zero => exact absurd HA.out (by simp [palinoderef16_Pick.j2])
            | succ kj14 =>
              have H := HA.out
              clear HA
              simp only [palinoderef16_Pick.j2] at H
              by_cases c17 : x35_14 = true
              · subst c17
                have H1 : ((palinoderef14_Level.f kj14 l0_0 l0_1 a0_2 x7_2).bind fun t225 => (palinoderef16_Pick.l1 kj14 x5_2 t225 x7_2 0 0 l0_0 l0_1 a0_2)) = some (r1, r2, r3, r4, r5) := by rw [if_pos rfl] at H; exact H
                clear H
                have H := H1
                clear H1
                replace H := Option.bind_eq_some_iff.mp H
                obtain ⟨t225, A180, H⟩ := H
                replace H : (palinoderef16_Pick.l1 kj14 x5_2 t225 x7_2 0 0 l0_0 l0_1 a0_2) = some (r1, r2, r3, r4, r5) := H
                have A18 := Aside0.mk A180
                clear A180
                have H' := Aside0.mk H
                clear H
                have hnb19 := NB219_220.out
                have hnc19 := NB220_219.out
                have hcz20_0 : wc.cell? ⟨gb219, 0, none⟩ = some (.slice A0_0 l0_0.length c0_0) := (blk_cell BK219.out 0).trans rfl
                have hcz20_1 : wc.cell? ⟨gb219, 1, none⟩ = some (.slice A0_1 l0_1.length c0_1) := (blk_cell BK219.out 1).trans rfl
                have hcz20_2 : wc.cell? ⟨gb219, 2, none⟩ = some (.int .i64 a0_2) := (blk_cell BK219.out 2).trans rfl
                have hfz20_0 := blk_frozen BK219.out 0
                have hfz20_1 := blk_frozen BK219.out 1
                have hfz20_2 := blk_frozen BK219.out 2
                go_wp2_with (first | ((with_reducible refine gate_callee (f := 27) rfl ?_); refine goesL_ (some 40) rfl rfl Try.func27 (by kernel_rfl) rfl #[.agg #[.slice A0_0 l0_0.length c0_0, .slice A0_1 l0_1.length c0_1, .int .i64 a0_2], .int .i64 x7_2] rfl (by (try simp only [List.map_toArray, List.map_cons, List.map_nil]); first | done | rfl | (simp only [List.length_drop, List.length_take]; rfl)) ?_; (with_reducible refine (palinoderef14_Level.calls kj14 _ _ l0_0 _ _ l0_1 a0_2 x7_2 t225 _ ?side1 ?side2 ?side3 ?side4 A18.out).mono ?_); (case side1 => repeat (first | exact (Kd.C_below HR0_0.out HB.out) | (with_reducible refine Kd.C_alloc ?_ _) | (with_reducible refine Kd.C_drewN ?_ _) | (with_reducible refine Kd.C_drew ?_))); (case side2 => exact HC0_0.out); (case side3 => repeat (first | exact (Kd.C_below HR0_1.out HB.out) | (with_reducible refine Kd.C_alloc ?_ _) | (with_reducible refine Kd.C_drewN ?_ _) | (with_reducible refine Kd.C_drew ?_))); (case side4 => exact HC0_1.out); rintro e w21 ⟨v226, rfl, ho0, hb⟩; refine ⟨_, rfl, ?_⟩; have n0_ := Aside0.mk (Kd.R_elder' (by (with_reducible repeat (first | apply Kd.R_alloc | apply Kd.R_drewN | apply Kd.R_drew)); exact HO_6.out) (Kd.R_base ho0) hb); have n1_ := Aside0.mk (Kd.R_lower (Kd.R_new' ho0 (Kd.R_lt (by (with_reducible repeat (first | apply Kd.R_alloc | apply Kd.R_drewN | apply Kd.R_drew)); exact HO_6.out))) (below_size (by repeat (first | (with_reducible first | exact HB.out | apply below_alloc | apply pw_below_drewN | apply below_drew1 | refine below_set ?_ GE219.out | refine below_set ?_ GE220.out) | exact HB.out)))); have n2_ := Aside0.mk (blk_below (g := gb219) (o := .cells #[.slice A0_0 l0_0.length c0_0, .slice A0_1 l0_1.length c0_1, .int .i64 a0_2] 25 (0, 0)) (by (with_reducible repeat (first | refine blk_drewN ?_ _ | refine blk_drew ?_ | refine blk_alloc ?_ _)); exact BK219.out) hb); have n3_ := Aside0.mk (blk_below (g := gb220) (o := .cells #[.int .i64 0, .slice none 0 0, .slice none 0 0, .bool false] 28 (0, 0)) (by (with_reducible repeat (first | refine blk_drewN ?_ _ | refine blk_drew ?_ | refine blk_alloc ?_ _)); exact BK220.out) hb); have n4_ := Aside0.mk (below_step (by repeat (first | (with_reducible first | exact HB.out | apply below_alloc | apply pw_below_drewN | apply below_drew1 | refine below_set ?_ GE219.out | refine below_set ?_ GE220.out) | exact HB.out)) hb); clear HO_6; clear BK219; clear BK220; clear HB; have HO_6 := n0_; have HO227 := n1_; have BK219 := n2_; have BK220 := n3_; have HB := n4_; clear n0_ n1_ n2_ n3_ n4_; (try clear hb); (try clear hb2); (try clear hk); (try clear hi); (try clear ho0)))
                go_loopg [8, 9] kj14 (fun kq v8 v9 w' => ∃ (x8_4 : Int) (x9_4 : Int), v8 = .int .i64 x8_4 ∧ v9 = .int .i64 x9_4 ∧ Aside0 (palinoderef16_Pick.l1 kq x5_2 t225 x7_2 x8_4 x9_4 l0_0 l0_1 a0_2 = some (r1, r2, r3, r4, r5)) ∧ Aside0 (kq ≤ kj14) ∧ Aside0 (Kd.R k49 49 w' w.heap.size (fun _ => True) v226 t225) ∧ Aside0 (w'.heap[gb219]? = some (.cells #[(.slice A0_0 l0_0.length c0_0), (.slice A0_1 l0_1.length c0_1), .int .i64 a0_2] 25 (0, 0))) ∧ Aside0 (w'.heap[gb220]? = some (.cells #[.int .i64 0, (.slice none 0 0), (.slice none 0 0), .bool false] 28 (0, 0))) ∧ Aside0 (Below w.heap.size w w'))
                case atStart => exact ⟨(0), (0), (by first | rfl | (simp; done) | (simp [*]; done)), (by first | rfl | (simp; done) | (simp [*]; done)), H', ⟨Nat.le_refl _⟩, ⟨by (with_reducible repeat (first | apply Kd.R_alloc | apply Kd.R_drewN | apply Kd.R_drew)); exact Kd.R_mono HO227.out (fun _ hk => trivial)⟩, ⟨by (with_reducible repeat (first | refine blk_drewN ?_ _ | refine blk_drew ?_ | refine blk_alloc ?_ _)); exact BK219.out⟩, ⟨by (with_reducible repeat (first | refine blk_drewN ?_ _ | refine blk_drew ?_ | refine blk_alloc ?_ _)); exact BK220.out⟩, ⟨by repeat (first | (with_reducible first | exact HB.out | apply below_alloc | apply pw_below_drewN | apply below_drew1 | refine below_set ?_ GE219.out | refine below_set ?_ GE220.out) | exact HB.out)⟩⟩
                case round =>
                  clear H'
                  try clear c1
                  try clear c2
                  try clear p2
                  try clear c3
                  try clear c8
                  try clear c10
                  try clear c14
                  try clear c14b0
                  try clear c14b1
                  try clear c16
                  try clear c16b0
                  try clear c17
                  try clear c19
                  try clear hcz11_0
                  try clear hcz11_1
                  try clear hcz11_2
                  try clear hcz20_0
                  try clear hcz20_1
                  try clear hcz20_2
                  try clear hcz9_0
                  try clear hcz9_1
                  try clear hcz9_2
                  try clear hfz11_0
                  try clear hfz11_1
                  try clear hfz11_2
                  try clear hfz20_0
                  try clear hfz20_1
                  try clear hfz20_2
                  try clear hfz9_0
                  try clear hfz9_1
                  try clear hfz9_2
                  try clear p2
                  obtain ⟨x8_4, x9_4, rfl, rfl, HA, HK4, HO_6, BK219, BK220, HB⟩ := hrel
                  cases gk with
                  | zero => exact absurd HA.out (by simp [palinoderef16_Pick.l1])
                  | succ k4 =>
                    have H := HA.out
                    clear HA
                    simp only [palinoderef16_Pick.l1] at H
                    by_cases c22 : x9_4 < (t225.length : Int)
                    · rw [if_pos c22] at H
                      have c22b0 : decide (x9_4 < (t225.length : Int)) = true := decide_eq_true c22
                      clear c22
                      by_cases c23 : 0 ≤ x9_4
                      rotate_left
                      · rw [if_neg c23] at H
                        exact absurd H (by simp)
                      rw [if_pos c23] at H
                      have c23b0 : decide (0 ≤ x9_4) = true := decide_eq_true c23
                      clear c23
                      have H' := Aside0.mk H
                      clear H
                      obtain ⟨Ao24, co24, eo24⟩ := Kd.R_slice HO_6.out
                      subst eo24
                      have p228 : 0 ≤ (x9_4 : Int) := of_decide_eq_true (by first | (with_reducible assumption) | assumption)
                      have q228 : x9_4 < (t225.length : Int) := of_decide_eq_true (by first | (with_reducible assumption) | assumption)
                      obtain ⟨ad228, e228, hx228_0, hx228_1, hx228_2, hx228_3, hx228_4⟩ := at_T49 (Kd.R_reads' HO_6.out).2.2 x9_4 p228 q228
                      cases e228
                      replace p228 := eq_true p228
                      replace q228 := eq_true q228
                      go_wp2
                      go_roundg k4
                      case measure => have := HJ4.out; have := HK2.out; have := HJ14.out; have := HK4.out; omega
                      case rel => exact ⟨(wrap64 (x8_4 + ((rd_T49 t225 x9_4).f4))), (wrap64 (x9_4 + 1)), (by first | rfl | (simp; done) | (simp [*]; done)), (by first | rfl | (simp; done) | (simp [*]; done)), H', ⟨by have := HJ4.out; have := HK2.out; have := HJ14.out; have := HK4.out; omega⟩, ⟨by (with_reducible repeat (first | apply Kd.R_alloc | apply Kd.R_drewN | apply Kd.R_drew)); exact HO_6.out⟩, ⟨by (with_reducible repeat (first | refine blk_drewN ?_ _ | refine blk_drew ?_ | refine blk_alloc ?_ _)); exact BK219.out⟩, ⟨by (with_reducible repeat (first | refine blk_drewN ?_ _ | refine blk_drew ?_ | refine blk_alloc ?_ _)); exact BK220.out⟩, ⟨by repeat (first | (with_reducible first | exact HB.out | apply below_alloc | apply pw_below_drewN | apply below_drew1 | refine below_set ?_ GE219.out | refine below_set ?_ GE220.out) | exact HB.out)⟩⟩
                    rw [if_neg c22] at H
                    have c22b0 : decide (x9_4 < (t225.length : Int)) = false := decide_eq_false c22
                    clear c22
                    replace H := Option.bind_eq_some_iff.mp H
                    obtain ⟨t229, A250, H⟩ := H
                    replace H : (if x8_4 > t229 then (if 1 ≤ (t225.length : Int) then (palinoderef16_Pick.l0 k4 x7_2 (t225.take (1 : Int).toNat) (wrap64 (x7_2 + 1)) l0_0 l0_1 a0_2) else (none)) else (palinoderef16_Pick.l0 k4 x5_2 t225 (wrap64 (x7_2 + 1)) l0_0 l0_1 a0_2)) = some (r1, r2, r3, r4, r5) := H
                    have A25 := Aside0.mk A250
                    clear A250
                    by_cases c26 : x8_4 > t229
                    rotate_left
                    · rw [if_neg c26] at H
                      have c26b0 : decide (t229 < x8_4) = false := decide_eq_false c26
                      clear c26
                      have H' := Aside0.mk H
                      clear H
                      obtain ⟨Ao30, co30, eo30⟩ := Kd.R_slice HO_6.out
                      subst eo30
                      go_wp2_with (first | ((with_reducible refine gate_callee (f := 13) rfl ?_); refine goesL_ (some 56) rfl rfl Try.func13 (by kernel_rfl) rfl #[.int .i64 x7_2] rfl (by (try simp only [List.map_toArray, List.map_cons, List.map_nil]); first | done | rfl | (simp only [List.length_drop, List.length_take]; rfl)) ?_; (with_reducible refine (palinoderef16_Limit.calls x7_2 t229 _ A25.out).mono ?_); rintro e w' ⟨rfl, ⟨nd, rfl⟩⟩; refine ⟨_, rfl, ?_⟩))
                      go_roundg k4
                      case measure => have := HJ4.out; have := HK2.out; have := HJ14.out; have := HK4.out; omega
                      case rel => exact ⟨(x5_2), (t225), (wrap64 (x7_2 + 1)), (by first | rfl | (simp; done) | (simp [*]; done)), (by first | rfl | (simp; done) | (simp [*]; done)), H', ⟨by have := HJ4.out; have := HK2.out; have := HJ14.out; have := HK4.out; omega⟩, ⟨by (with_reducible repeat (first | apply Kd.R_alloc | apply Kd.R_drewN | apply Kd.R_drew)); exact HO_6.out⟩, ⟨by (with_reducible repeat (first | refine blk_drewN ?_ _ | refine blk_drew ?_ | refine blk_alloc ?_ _)); exact BK219.out⟩, ⟨by (with_reducible repeat (first | refine blk_drewN ?_ _ | refine blk_drew ?_ | refine blk_alloc ?_ _)); exact BK220.out⟩, ⟨by repeat (first | (with_reducible first | exact HB.out | apply below_alloc | apply pw_below_drewN | apply below_drew1 | refine below_set ?_ GE219.out | refine below_set ?_ GE220.out) | exact HB.out)⟩⟩
                    rw [if_pos c26] at H
                    have c26b0 : decide (t229 < x8_4) = true := decide_eq_true c26
                    clear c26
                    by_cases c27 : 1 ≤ (t225.length : Int)
                    rotate_left
                    · rw [if_neg c27] at H
                      exact absurd H (by simp)
                    rw [if_pos c27] at H
                    have c27b0 := eq_true c27
                    have c27b1 : decide (1 ≤ (t225.length : Int)) = true := decide_eq_true c27
                    clear c27
                    obtain ⟨y230, hy230⟩ : ∃ y_ : List (S49), y_ = (t225.take (1 : Int).toNat) := ⟨_, rfl⟩
                    replace H : (palinoderef16_Pick.l0 k4 x7_2 y230 (wrap64 (x7_2 + 1)) l0_0 l0_1 a0_2) = some (r1, r2, r3, r4, r5) := by first | (rw [hy230]; with_reducible exact H) | (have H2_ := (Option.bind_some _ _).symm.trans H; rw [hy230]; with_reducible exact H2_) | (have H2_ := (Option.bind_some _ _).symm.trans H; with_reducible exact H2_) | with_reducible exact H | (rw [hy230]; exact H) | exact H
                    have Ny230 := Aside0.mk hy230
                    clear hy230
                    have H' := Aside0.mk H
                    clear H
                    obtain ⟨Ao28, co28, eo28⟩ := Kd.R_slice HO_6.out
                    subst eo28
                    go_wp2_with (first | ((with_reducible refine gate_callee (f := 13) rfl ?_); refine goesL_ (some 56) rfl rfl Try.func13 (by kernel_rfl) rfl #[.int .i64 x7_2] rfl (by (try simp only [List.map_toArray, List.map_cons, List.map_nil]); first | done | rfl | (simp only [List.length_drop, List.length_take]; rfl)) ?_; (with_reducible refine (palinoderef16_Limit.calls x7_2 t229 _ A25.out).mono ?_); rintro e w' ⟨rfl, ⟨nd, rfl⟩⟩; refine ⟨_, rfl, ?_⟩; have q29 : (1 : Int) ≤ ((t225.length : Int) : Int) := of_decide_eq_true (by first | (with_reducible assumption) | assumption); obtain ⟨i029, hi029, _, hsz29, _⟩ := info_parts info49; have hcut29 := cut_to (P := Try.prog) 22 49 .i64 Try.underlying22 hi029 Ao28 t225.length co28 1 (by omega) q29 (Kd.R_reads' HO_6.out).2.1; have hr29 := Kd.R_take (m := (1 : Int).toNat) HO_6.out (by omega); have hy29 : y230.length = (1 : Int).toNat := (by rw [Ny230.out, List.length_take]; omega); rw [← Ny230.out] at hr29; rw [← hy29] at hr29 hcut29; clear hy29 hi029 hsz29 HO_6; have HO232 := Aside0.mk hr29; clear hr29; replace q29 := eq_true q29))
                    go_roundg k4
                    case measure => have := HJ4.out; have := HK2.out; have := HJ14.out; have := HK4.out; omega
                    case rel => exact ⟨(x7_2), (y230), (wrap64 (x7_2 + 1)), (by first | rfl | (simp; done) | (simp [*]; done)), (by first | rfl | (simp; done) | (simp [*]; done)), H', ⟨by have := HJ4.out; have := HK2.out; have := HJ14.out; have := HK4.out; omega⟩, ⟨by (with_reducible repeat (first | apply Kd.R_alloc | apply Kd.R_drewN | apply Kd.R_drew)); exact HO232.out⟩, ⟨by (with_reducible repeat (first | refine blk_drewN ?_ _ | refine blk_drew ?_ | refine blk_alloc ?_ _)); exact BK219.out⟩, ⟨by (with_reducible repeat (first | refine blk_drewN ?_ _ | refine blk_drew ?_ | refine blk_alloc ?_ _)); exact BK220.out⟩, ⟨by repeat (first | (with_reducible first | exact HB.out | apply below_alloc | apply pw_below_drewN | apply below_drew1 | refine below_set ?_ GE219.out | refine below_set ?_ GE220.out) | exact HB.out)⟩⟩
              replace c17 := Bool.eq_false_iff.mpr c17
              subst c17
              have H1 : (if x5_2 < 0 then (some (0, ([] : List Int), ([] : List Int), false, false)) else (palinoderef16_Pick.l2 kj14 x5_2 x6_2 ([] : List (S49)) 0 l0_0 l0_1 a0_2 x5_2 ([] : List Int) true)) = some (r1, r2, r3, r4, r5) := by rw [if_neg (show ¬ (false = true) by decide)] at H; exact H
              clear H
              have H := H1
              clear H1
              by_cases c31 : x5_2 < 0
              · rw [if_pos c31] at H
                have c31b0 : decide (x5_2 < 0) = true := decide_eq_true c31
                clear c31
                simp only [Option.some.injEq, Prod.mk.injEq] at H
                obtain ⟨rfl, rfl, rfl, rfl, rfl⟩ := H
                have hnb32 := NB220_219.out
                have hnc32 := NB219_220.out
                have hcz33_0 : wc.cell? ⟨gb220, 0, none⟩ = some (.int .i64 0) := (blk_cell BK220.out 0).trans rfl
                have hcz33_1 : wc.cell? ⟨gb220, 1, none⟩ = some (.slice none 0 0) := (blk_cell BK220.out 1).trans rfl
                have hcz33_2 : wc.cell? ⟨gb220, 2, none⟩ = some (.slice none 0 0) := (blk_cell BK220.out 2).trans rfl
                have hcz33_3 : wc.cell? ⟨gb220, 3, none⟩ = some (.bool false) := (blk_cell BK220.out 3).trans rfl
                have hfz33_0 := blk_frozen BK220.out 0
                have hfz33_1 := blk_frozen BK220.out 1
                have hfz33_2 := blk_frozen BK220.out 2
                have hfz33_3 := blk_frozen BK220.out 3
                go_wp2
                refine bodyPost_ret (results_ct rfl _ _ gb220 28 #[.int .i64 0, .slice none 0 0, .slice none 0 0, .bool false] (0, 0) _ rfl (by (with_reducible repeat (first | refine blk_drewN ?_ _ | refine blk_drew ?_ | refine blk_alloc ?_ _)); refine blk_put (cs := #[.int .i64 0, .slice none 0 0, .slice none 0 0, .bool false]) ?_ 3 _ rfl; (with_reducible repeat (first | refine blk_drewN ?_ _ | refine blk_drew ?_ | refine blk_alloc ?_ _)); refine blk_put (cs := #[.int .i64 0, .slice none 0 0, .slice none 0 0, .bool false]) ?_ 2 _ rfl; (with_reducible repeat (first | refine blk_drewN ?_ _ | refine blk_drew ?_ | refine blk_alloc ?_ _)); refine blk_put (cs := #[.int .i64 0, .slice none 0 0, .slice none 0 0, .bool false]) ?_ 1 _ rfl; (with_reducible repeat (first | refine blk_drewN ?_ _ | refine blk_drew ?_ | refine blk_alloc ?_ _)); refine blk_put (cs := #[.int .i64 0, .slice none 0 0, .slice none 0 0, .bool false]) ?_ 0 _ rfl; (with_reducible repeat (first | refine blk_drewN ?_ _ | refine blk_drew ?_ | refine blk_alloc ?_ _)); exact BK220.out) Try.underlying28 rfl (by kernel_rfl)) rfl ?_
                exact ⟨_, _, by first | rfl | (simp [errW_none, errW_some] <;> rfl) | (simp [*, errW_none, errW_some] <;> rfl), by first | exact Kd.R_nil _ _ _ _ _ | exact Kd.N_nil _ _ _ _ _ | exact Kd.V_nil _ _ _ _ _ | exact Kd.Q_nil _ _ _ _ _ | exact Kd.S_nil _ _ _ _ _, by first | exact Kd.R_nil _ _ _ _ _ | exact Kd.N_nil _ _ _ _ _ | exact Kd.V_nil _ _ _ _ _ | exact Kd.Q_nil _ _ _ _ _ | exact Kd.S_nil _ _ _ _ _, by repeat (first | (with_reducible first | exact HB.out | apply below_alloc | apply pw_below_drewN | apply below_drew1 | refine below_set ?_ GE219.out | refine below_set ?_ GE220.out) | exact HB.out)⟩
              rw [if_neg c31] at H
              have c31b0 : decide (x5_2 < 0) = false := decide_eq_false c31
              clear c31
              have H' := Aside0.mk H
              clear H
              go_wp2_with (first | ((with_reducible refine gate_dst (N := 10) rfl ?_); refine box_event ?hg (N := 10) ?hd (cs := #[.int .i64 0, .slice none 0 0, .slice none 0 0, .bool false]) (t := 28) ?hr ?_; (case hd => rfl); (case hg => rfl); (case hr => first | (go_simp; done) | (go_simp; rfl)); intro gb233 hg w34 hbox hb; have n0_ := Aside0.mk (Kd.R_below (by (with_reducible repeat (first | apply Kd.R_alloc | apply Kd.R_drewN | apply Kd.R_drew)); exact HO_6.out) hb); have n1_ := Aside0.mk (blk_below (g := gb219) (o := .cells #[.slice A0_0 l0_0.length c0_0, .slice A0_1 l0_1.length c0_1, .int .i64 a0_2] 25 (0, 0)) (by (with_reducible repeat (first | refine blk_drewN ?_ _ | refine blk_drew ?_ | refine blk_alloc ?_ _)); exact BK219.out) hb); have n2_ := Aside0.mk (blk_below (g := gb220) (o := .cells #[.int .i64 0, .slice none 0 0, .slice none 0 0, .bool false] 28 (0, 0)) (by (with_reducible repeat (first | refine blk_drewN ?_ _ | refine blk_drew ?_ | refine blk_alloc ?_ _)); exact BK220.out) hb); have n3_ := Aside0.mk (below_step (by repeat (first | (with_reducible first | exact HB.out | apply below_alloc | apply pw_below_drewN | apply below_drew1 | refine below_set ?_ GE219.out | refine below_set ?_ GE220.out) | exact HB.out)) hb); have n4_ := Aside0.mk (hbox); have n5_ := Aside0.mk ((by rw [hg]; exact (below_size (by repeat (first | (with_reducible first | exact HB.out | apply below_alloc | apply pw_below_drewN | apply below_drew1 | refine below_set ?_ GE219.out | refine below_set ?_ GE220.out) | exact HB.out))) : w.heap.size ≤ gb233)); have n6_ := Aside0.mk ((by rw [hg]; exact (below_size (by repeat (first | (with_reducible first | exact HB.out | apply below_alloc | apply pw_below_drewN | apply below_drew1 | refine below_set ?_ GE219.out | refine below_set ?_ GE220.out) | exact HB.out))) : w.heap.size ≤ gb233)); have n7_ := Aside0.mk ((by rw [hg]; exact Nat.ne_of_lt (blk_lt (g := gb219) (o := .cells #[.slice A0_0 l0_0.length c0_0, .slice A0_1 l0_1.length c0_1, .int .i64 a0_2] 25 (0, 0)) (by (with_reducible repeat (first | refine blk_drewN ?_ _ | refine blk_drew ?_ | refine blk_alloc ?_ _)); exact BK219.out)) : gb219 ≠ gb233)); have n8_ := Aside0.mk ((by rw [hg]; exact Nat.ne_of_gt (blk_lt (g := gb219) (o := .cells #[.slice A0_0 l0_0.length c0_0, .slice A0_1 l0_1.length c0_1, .int .i64 a0_2] 25 (0, 0)) (by (with_reducible repeat (first | refine blk_drewN ?_ _ | refine blk_drew ?_ | refine blk_alloc ?_ _)); exact BK219.out)) : gb233 ≠ gb219)); have n9_ := Aside0.mk ((by rw [hg]; exact Nat.ne_of_lt (blk_lt (g := gb220) (o := .cells #[.int .i64 0, .slice none 0 0, .slice none 0 0, .bool false] 28 (0, 0)) (by (with_reducible repeat (first | refine blk_drewN ?_ _ | refine blk_drew ?_ | refine blk_alloc ?_ _)); exact BK220.out)) : gb220 ≠ gb233)); have n10_ := Aside0.mk ((by rw [hg]; exact Nat.ne_of_gt (blk_lt (g := gb220) (o := .cells #[.int .i64 0, .slice none 0 0, .slice none 0 0, .bool false] 28 (0, 0)) (by (with_reducible repeat (first | refine blk_drewN ?_ _ | refine blk_drew ?_ | refine blk_alloc ?_ _)); exact BK220.out)) : gb233 ≠ gb220)); clear HO_6; clear BK219; clear BK220; clear HB; have HO_6 := n0_; have BK219 := n1_; have BK220 := n2_; have HB := n3_; have BK233 := n4_; have GW233 := n5_; have GE233 := n6_; have NB219_233 := n7_; have NB233_219 := n8_; have NB220_233 := n9_; have NB233_220 := n10_; clear n0_ n1_ n2_ n3_ n4_ n5_ n6_ n7_ n8_ n9_ n10_; clear hb hbox hg; have hnb35 := NB233_219.out; have hnc35 := NB219_233.out; have hnb36 := NB233_220.out; have hnc36 := NB220_233.out; have hcz37_0 : w34.cell? ⟨gb233, 0, none⟩ = some (.int .i64 0) := (blk_cell BK233.out 0).trans rfl; have hcz37_1 : w34.cell? ⟨gb233, 1, none⟩ = some (.slice none 0 0) := (blk_cell BK233.out 1).trans rfl; have hcz37_2 : w34.cell? ⟨gb233, 2, none⟩ = some (.slice none 0 0) := (blk_cell BK233.out 2).trans rfl; have hcz37_3 : w34.cell? ⟨gb233, 3, none⟩ = some (.bool false) := (blk_cell BK233.out 3).trans rfl; have hfz37_0 := blk_frozen BK233.out 0; have hfz37_1 := blk_frozen BK233.out 1; have hfz37_2 := blk_frozen BK233.out 2; have hfz37_3 := blk_frozen BK233.out 3))
              go_loopg [11, 12] kj14 (fun kq v11 v12 w' => ∃ (x11_4 : List (S49)) (x12_4 : Int) (x234001_4 : List Int) (u234001 : Value), v12 = .int .i64 x12_4 ∧ Aside0 (palinoderef16_Pick.l2 kq x5_2 x6_2 x11_4 x12_4 l0_0 l0_1 a0_2 x5_2 x234001_4 true = some (r1, r2, r3, r4, r5)) ∧ Aside0 (kq ≤ kj14) ∧ Aside0 (Kd.R k49 49 w' w.heap.size (fun k_ => some k_ ≠ (v11 : Value).ownBlock) u6 x6_2) ∧ Aside0 (Kd.R k49 49 w' w.heap.size (fun k_ => some k_ ≠ (u6 : Value).ownBlock) v11 x11_4) ∧ Aside0 (Kd.R (Kd.int .i64) 3 w' w.heap.size (fun _ => True) u234001 x234001_4) ∧ Aside0 (w'.heap[gb219]? = some (.cells #[(.slice A0_0 l0_0.length c0_0), (.slice A0_1 l0_1.length c0_1), .int .i64 a0_2] 25 (0, 0))) ∧ Aside0 (w'.heap[gb220]? = some (.cells #[.int .i64 0, (.slice none 0 0), (.slice none 0 0), .bool false] 28 (0, 0))) ∧ Aside0 (w'.heap[gb233]? = some (.cells #[.int .i64 x5_2, u234001, (.slice none 0 0), .bool true] 28 (0, 0))) ∧ Aside0 (Below w.heap.size w w'))
              case atStart => exact ⟨(([] : List (S49))), (0), (([] : List Int)), (.slice none 0 0), (by first | rfl | (simp; done) | (simp [*]; done)), H', ⟨Nat.le_refl _⟩, ⟨by (with_reducible repeat (first | apply Kd.R_alloc | apply Kd.R_drewN | apply Kd.R_drew)); exact Kd.R_mono (Kd.R_far (p := ⟨gb233, 3, none⟩) (Kd.R_far (p := ⟨gb233, 2, none⟩) (Kd.R_far (p := ⟨gb233, 1, none⟩) (Kd.R_far (p := ⟨gb233, 0, none⟩) (Kd.R_types HO_6.out BK233.out (by decide)) (fun _ hk => hk.2) (.int .i64 x5_2)) (fun _ hk => hk.2) (.slice none 0 0)) (fun _ hk => hk.2) (.slice none 0 0)) (fun _ hk => hk.2) (.bool true)) (fun _ hk => (by simp [Value.ownBlock]))⟩, ⟨by first | exact Kd.R_nil _ _ _ _ _ | exact Kd.N_nil _ _ _ _ _ | exact Kd.V_nil _ _ _ _ _ | exact Kd.Q_nil _ _ _ _ _ | exact Kd.S_nil _ _ _ _ _⟩, ⟨by first | exact Kd.R_nil _ _ _ _ _ | exact Kd.N_nil _ _ _ _ _ | exact Kd.V_nil _ _ _ _ _ | exact Kd.Q_nil _ _ _ _ _ | exact Kd.S_nil _ _ _ _ _⟩, ⟨by (with_reducible repeat (first | refine blk_drewN ?_ _ | refine blk_drew ?_ | refine blk_alloc ?_ _)); refine blk_far ?_ NB219_233.out _; (with_reducible repeat (first | refine blk_drewN ?_ _ | refine blk_drew ?_ | refine blk_alloc ?_ _)); refine blk_far ?_ NB219_233.out _; (with_reducible repeat (first | refine blk_drewN ?_ _ | refine blk_drew ?_ | refine blk_alloc ?_ _)); refine blk_far ?_ NB219_233.out _; (with_reducible repeat (first | refine blk_drewN ?_ _ | refine blk_drew ?_ | refine blk_alloc ?_ _)); refine blk_far ?_ NB219_233.out _; (with_reducible repeat (first | refine blk_drewN ?_ _ | refine blk_drew ?_ | refine blk_alloc ?_ _)); exact BK219.out⟩, ⟨by (with_reducible repeat (first | refine blk_drewN ?_ _ | refine blk_drew ?_ | refine blk_alloc ?_ _)); refine blk_far ?_ NB220_233.out _; (with_reducible repeat (first | refine blk_drewN ?_ _ | refine blk_drew ?_ | refine blk_alloc ?_ _)); refine blk_far ?_ NB220_233.out _; (with_reducible repeat (first | refine blk_drewN ?_ _ | refine blk_drew ?_ | refine blk_alloc ?_ _)); refine blk_far ?_ NB220_233.out _; (with_reducible repeat (first | refine blk_drewN ?_ _ | refine blk_drew ?_ | refine blk_alloc ?_ _)); refine blk_far ?_ NB220_233.out _; (with_reducible repeat (first | refine blk_drewN ?_ _ | refine blk_drew ?_ | refine blk_alloc ?_ _)); exact BK220.out⟩, ⟨by (with_reducible repeat (first | refine blk_drewN ?_ _ | refine blk_drew ?_ | refine blk_alloc ?_ _)); refine blk_put (cs := #[.int .i64 x5_2, .slice none 0 0, .slice none 0 0, .bool false]) ?_ 3 _ rfl; (with_reducible repeat (first | refine blk_drewN ?_ _ | refine blk_drew ?_ | refine blk_alloc ?_ _)); refine blk_put (cs := #[.int .i64 x5_2, .slice none 0 0, .slice none 0 0, .bool false]) ?_ 2 _ rfl; (with_reducible repeat (first | refine blk_drewN ?_ _ | refine blk_drew ?_ | refine blk_alloc ?_ _)); refine blk_put (cs := #[.int .i64 x5_2, .slice none 0 0, .slice none 0 0, .bool false]) ?_ 1 _ rfl; (with_reducible repeat (first | refine blk_drewN ?_ _ | refine blk_drew ?_ | refine blk_alloc ?_ _)); refine blk_put (cs := #[.int .i64 0, .slice none 0 0, .slice none 0 0, .bool false]) ?_ 0 _ rfl; (with_reducible repeat (first | refine blk_drewN ?_ _ | refine blk_drew ?_ | refine blk_alloc ?_ _)); exact BK233.out⟩, ⟨by repeat (first | (with_reducible first | exact HB.out | apply below_alloc | apply pw_below_drewN | apply below_drew1 | refine below_set ?_ GE219.out | refine below_set ?_ GE220.out | refine below_set ?_ GE233.out) | exact HB.out)⟩⟩
              case round =>
                clear H'
                try clear c1
                try clear c2
                try clear p2
                try clear q2
                try clear hx2
                try clear c3
                try clear p6
                try clear c8
                try clear c10
                try clear c13
                try clear c14
                try clear c14b0
                try clear c14b1
                try clear c16
                try clear c16b0
                try clear c17
                try clear c19
                try clear c22
                try clear c22b0
                try clear p22
                try clear q22
                try clear hx22
                try clear c23
                try clear c23b0
                try clear c26
                try clear c26b0
                try clear c27
                try clear c27b0
                try clear c27b1
                try clear q29
                try clear c31
                try clear c31b0
                try clear c32
                try clear c35
                try clear c36
                try clear hcz11_0
                try clear hcz11_1
                try clear hcz11_2
                try clear hcz20_0
                try clear hcz20_1
                try clear hcz20_2
                try clear hcz33_0
                try clear hcz33_1
                try clear hcz33_2
                try clear hcz33_3
                try clear hcz37_0
                try clear hcz37_1
                try clear hcz37_2
                try clear hcz37_3
                try clear hcz9_0
                try clear hcz9_1
                try clear hcz9_2
                try clear hfz11_0
                try clear hfz11_1
                try clear hfz11_2
                try clear hfz20_0
                try clear hfz20_1
                try clear hfz20_2
                try clear hfz33_0
                try clear hfz33_1
                try clear hfz33_2
                try clear hfz33_3
                try clear hfz37_0
                try clear hfz37_1
                try clear hfz37_2
                try clear hfz37_3
                try clear hfz9_0
                try clear hfz9_1
                try clear hfz9_2
                try clear hx228_0
                try clear hx228_1
                try clear hx228_2
                try clear hx228_3
                try clear hx228_4
                try clear p2
                try clear p228
                try clear q228
                try clear q29
                obtain ⟨x11_4, x12_4, x234001_4, u234001, rfl, HA, HK4, HO_6, HO_11, HO_234001, BK219, BK220, BK233, HB⟩ := hrel
                cases gk with
                | zero => exact absurd HA.out (by simp [palinoderef16_Pick.l2])
                | succ k4 =>
                  have H := HA.out
                  clear HA
                  simp only [palinoderef16_Pick.l2] at H
                  by_cases c38 : x12_4 < (x6_2.length : Int)
                  · rw [if_pos c38] at H
                    have c38b0 : decide (x12_4 < (x6_2.length : Int)) = true := decide_eq_true c38
                    clear c38
                    by_cases c39 : 0 ≤ x12_4
                    rotate_left
                    · rw [if_neg c39] at H
                      exact absurd H (by simp)
                    rw [if_pos c39] at H
                    have c39b0 : decide (0 ≤ x12_4) = true := decide_eq_true c39
                    clear c39
                    by_cases c40 : x234001_4.length < 17592186044416
                    rotate_left
                    · rw [if_neg c40] at H
                      exact absurd H (by simp)
                    rw [if_pos c40] at H
                    have LMc40 := Aside0.mk c40
                    clear c40
                    obtain ⟨y235, hy235⟩ : ∃ y_ : List Int, y_ = (x234001_4 ++ [(rd_T49 x6_2 x12_4).f0]) := ⟨_, rfl⟩
                    replace H : (if x11_4.length < 2513169434916 then (palinoderef16_Pick.l2 k4 x5_2 x6_2 (x11_4 ++ [(⟨(rd_T49 x6_2 x12_4).f0, (rd_T49 x6_2 x12_4).f1, (rd_T49 x6_2 x12_4).f2, (rd_T49 x6_2 x12_4).f3, (rd_T49 x6_2 x12_4).f4⟩ : S49)]) (wrap64 (x12_4 + 1)) l0_0 l0_1 a0_2 x5_2 y235 true) else (none)) = some (r1, r2, r3, r4, r5) := by first | (rw [hy235]; with_reducible exact H) | (have H2_ := (Option.bind_some _ _).symm.trans H; rw [hy235]; with_reducible exact H2_) | (have H2_ := (Option.bind_some _ _).symm.trans H; with_reducible exact H2_) | with_reducible exact H | (rw [hy235]; exact H) | exact H
                    have Ny235 := Aside0.mk hy235
                    clear hy235
                    by_cases c41 : x11_4.length < 2513169434916
                    rotate_left
                    · rw [if_neg c41] at H
                      exact absurd H (by simp)
                    rw [if_pos c41] at H
                    have LMc41 := Aside0.mk c41
                    clear c41
                    obtain ⟨y239, hy239⟩ : ∃ y_ : List (S49), y_ = (x11_4 ++ [(⟨(rd_T49 x6_2 x12_4).f0, (rd_T49 x6_2 x12_4).f1, (rd_T49 x6_2 x12_4).f2, (rd_T49 x6_2 x12_4).f3, (rd_T49 x6_2 x12_4).f4⟩ : S49)]) := ⟨_, rfl⟩
                    replace H : (palinoderef16_Pick.l2 k4 x5_2 x6_2 y239 (wrap64 (x12_4 + 1)) l0_0 l0_1 a0_2 x5_2 y235 true) = some (r1, r2, r3, r4, r5) := by first | (rw [hy239]; with_reducible exact H) | (have H2_ := (Option.bind_some _ _).symm.trans H; rw [hy239]; with_reducible exact H2_) | (have H2_ := (Option.bind_some _ _).symm.trans H; with_reducible exact H2_) | with_reducible exact H | (rw [hy239]; exact H) | exact H
                    have Ny239 := Aside0.mk hy239
                    clear hy239
                    have H' := Aside0.mk H
                    clear H
                    obtain ⟨Ao42, co42, eo42⟩ := Kd.R_slice HO_6.out
                    subst eo42
                    try go_wp2
                    have n0_ := Aside0.mk (Kd.R_drew HO_6.out)
                    have n1_ := Aside0.mk (Kd.R_drew HO_11.out)
                    have n2_ := Aside0.mk (Kd.R_drew HO_234001.out)
                    have n3_ := Aside0.mk (blk_drew BK219.out)
                    have n4_ := Aside0.mk (blk_drew BK220.out)
                    have n5_ := Aside0.mk (blk_drew BK233.out)
                    have n6_ := Aside0.mk (below_drew1 HB.out)
                    clear HO_6
                    clear HO_11
                    clear HO_234001
                    clear BK219
                    clear BK220
                    clear BK233
                    clear HB
                    have HO_6 := n0_
                    have HO_11 := n1_
                    have HO_234001 := n2_
                    have BK219 := n3_
                    have BK220 := n4_
                    have BK233 := n5_
                    have HB := n6_
                    clear n0_ n1_ n2_ n3_ n4_ n5_ n6_
                    have p234 : 0 ≤ (x12_4 : Int) := of_decide_eq_true (by first | (with_reducible assumption) | assumption)
                    have q234 : x12_4 < (x6_2.length : Int) := of_decide_eq_true (by first | (with_reducible assumption) | assumption)
                    obtain ⟨ad234, e234, hx234_0, hx234_1, hx234_2, hx234_3, hx234_4⟩ := at_T49 (Kd.R_reads' HO_6.out).2.2 x12_4 p234 q234
                    cases e234
                    replace p234 := eq_true p234
                    replace q234 := eq_true q234
                    refine start_ (n := 11) (S := fun w' => w'.cell? ⟨gb233, 0, none⟩ = some (.int .i64 x5_2) ∧ w'.cell? ⟨gb233, 1, none⟩ = some (u234001) ∧ w'.cell? ⟨gb233, 2, none⟩ = some (.slice none 0 0) ∧ w'.cell? ⟨gb233, 3, none⟩ = some (.bool true) ∧ w'.cell? (ad234.add ((x12_4).toNat * 5)) = some (.int .i64 ((rd_T49 x6_2 x12_4).f0)) ∧ w'.cell? ⟨(ad234.add ((x12_4).toNat * 5)).block, (ad234.add ((x12_4).toNat * 5)).off + 1, none⟩ = some (.int .i64 ((rd_T49 x6_2 x12_4).f1)) ∧ w'.cell? ⟨(ad234.add ((x12_4).toNat * 5)).block, (ad234.add ((x12_4).toNat * 5)).off + 2, none⟩ = some (.string ((rd_T49 x6_2 x12_4).f2)) ∧ w'.cell? ⟨(ad234.add ((x12_4).toNat * 5)).block, (ad234.add ((x12_4).toNat * 5)).off + 3, none⟩ = some (.string ((rd_T49 x6_2 x12_4).f3)) ∧ w'.cell? ⟨(ad234.add ((x12_4).toNat * 5)).block, (ad234.add ((x12_4).toNat * 5)).off + 4, none⟩ = some (.int .i64 ((rd_T49 x6_2 x12_4).f4))) (ds := [8, 10]) #[false, false, false, false, false, false, false, false, false, false, false] (by kernel_rfl) rfl rfl ⟨(blk_cell BK233.out 0).trans rfl, (blk_cell BK233.out 1).trans rfl, (blk_cell BK233.out 2).trans rfl, (blk_cell BK233.out 3).trans rfl, hx234_0, hx234_1, hx234_2, hx234_3, hx234_4⟩ (fun hHeld => ?_); refine with_tabW palinoderef16_Pick.tab27 palinoderef16_Pick.bits27 (fun HT_ HW_ => ?_)
                    generalize wr.drew = w43 at HO_6 HO_11 HO_234001 BK219 BK220 BK233 HB hx234_0 hx234_1 hx234_2 hx234_3 hx234_4 hHeld ⊢
                    refine pure_ (i := 0) (N := some 72) (v := ?_) (a' := ?_) #[true, false, false, false, false, false, false, false, false, false, false] rfl rfl (any_of HT_.out (by kernel_rfl)) (fun _ _ _ h => h) (Or.inl ⟨by rfl, ?_⟩) ?_ ?_
                    rotate_left
                    · intro w'
                      go_simp
                      with_reducible rfl
                    rotate_left
                    · simp only [Act.put, List.setIfInBounds_toArray, List.set_cons_zero, List.set_cons_succ, i64_w, i32_w]
                      rfl
                    refine pure_ (i := 2) (N := some 74) (v := ?_) (a' := ?_) #[true, false, true, false, false, false, false, false, false, false, false] rfl rfl (any_of HT_.out (by kernel_rfl)) (fun _ _ _ h => h) (Or.inl ⟨by rfl, ?_⟩) ?_ ?_
                    rotate_left
                    · intro w'
                      go_simp
                      with_reducible rfl
                    rotate_left
                    · simp only [Act.put, List.setIfInBounds_toArray, List.set_cons_zero, List.set_cons_succ, i64_w, i32_w]
                      rfl
                    refine pure_ (i := 3) (N := some 75) (v := ?_) (a' := ?_) #[true, false, true, true, false, false, false, false, false, false, false] rfl rfl (any_of HT_.out (by kernel_rfl)) (fun _ _ _ h => h) (Or.inl ⟨by rfl, ?_⟩) ?_ ?_
                    rotate_left
                    · intro w'
                      go_simp
                      with_reducible rfl
                    rotate_left
                    · simp only [Act.put, List.setIfInBounds_toArray, List.set_cons_zero, List.set_cons_succ, i64_w, i32_w]
                      rfl
                    refine pure_ (i := 4) (N := some 76) (v := ?_) (a' := ?_) #[true, false, true, true, true, false, false, false, false, false, false] rfl rfl (any_of HT_.out (by kernel_rfl)) (fun _ _ _ h => h) (Or.inl ⟨by rfl, ?_⟩) ?_ ?_
                    rotate_left
                    · intro w'
                      go_simp
                      with_reducible rfl
                    rotate_left
                    · simp only [Act.put, List.setIfInBounds_toArray, List.set_cons_zero, List.set_cons_succ, i64_w, i32_w]
                      rfl
                    refine pure_ (i := 5) (N := some 77) (v := ?_) (a' := ?_) #[true, false, true, true, true, true, false, false, false, false, false] rfl rfl (any_of HT_.out (by kernel_rfl)) (fun _ _ _ h => h) (Or.inl ⟨by rfl, ?_⟩) ?_ ?_
                    rotate_left
                    · intro w'
                      go_simp
                      with_reducible rfl
                    rotate_left
                    · simp only [Act.put, List.setIfInBounds_toArray, List.set_cons_zero, List.set_cons_succ, i64_w, i32_w]
                      rfl
                    refine take_ (i := 1) (N := some 73) (v := ?_) (a' := ?_) #[true, true, true, true, true, true, false, false, false, false, false] rfl rfl (take_ofW HT_.out HW_.out (by kernel_rfl)) (fun _ _ _ h => h) (Or.inl ⟨by rfl, ?_⟩) hHeld ?_ ?_
                    rotate_left
                    · rintro w' ⟨s0, s1, s2, s3, s4, s5, s6, s7, s8⟩
                      go_simp
                      with_reducible rfl
                    rotate_left
                    · simp only [Act.put, List.setIfInBounds_toArray, List.set_cons_zero, List.set_cons_succ, i64_w, i32_w]
                      rfl
                    refine take_ (i := 6) (N := some 78) (v := ?_) (a' := ?_) #[true, true, true, true, true, true, true, false, false, false, false] rfl rfl (take_ofW HT_.out HW_.out (by kernel_rfl)) (fun _ _ _ h => h) (Or.inl ⟨by rfl, ?_⟩) hHeld ?_ ?_
                    rotate_left
                    · rintro w' ⟨s0, s1, s2, s3, s4, s5, s6, s7, s8⟩
                      go_simp
                      with_reducible rfl
                    rotate_left
                    · simp only [Act.put, List.setIfInBounds_toArray, List.set_cons_zero, List.set_cons_succ, i64_w, i32_w]
                      rfl
                    refine one_ (i := 7) (N := some 79) #[true, true, true, true, true, true, true, true, false, false, false] rfl rfl (one_of HT_.out (by kernel_rfl)) (by decide) (fun K hK => ?_)
                    refine value_ (w1 := ?_) (v := ?_) (by rfl) rfl ?_ ?_
                    rotate_left 2
                    · go_simp
                      constructor
                      · rfl
                      · rfl
                    refine hK.out _ _ ⟨(blk_cell (blk_alloc BK233.out _) 0).trans rfl, (blk_cell (blk_alloc BK233.out _) 1).trans rfl, (blk_cell (blk_alloc BK233.out _) 2).trans rfl, (blk_cell (blk_alloc BK233.out _) 3).trans rfl, (World.cell?_alloc_lt _ _ _ (World.block_lt_of_cell? _ _ (hHeld.2.2.2.2.1))).trans (hHeld.2.2.2.2.1), (World.cell?_alloc_lt _ _ _ (World.block_lt_of_cell? _ _ (hHeld.2.2.2.2.2.1))).trans (hHeld.2.2.2.2.2.1), (World.cell?_alloc_lt _ _ _ (World.block_lt_of_cell? _ _ (hHeld.2.2.2.2.2.2.1))).trans (hHeld.2.2.2.2.2.2.1), (World.cell?_alloc_lt _ _ _ (World.block_lt_of_cell? _ _ (hHeld.2.2.2.2.2.2.2.1))).trans (hHeld.2.2.2.2.2.2.2.1), (World.cell?_alloc_lt _ _ _ (World.block_lt_of_cell? _ _ (hHeld.2.2.2.2.2.2.2.2))).trans (hHeld.2.2.2.2.2.2.2.2)⟩ (fun hHeld => ?_)
                    clear hK K
                    refine norm_ (a' := ?_) ?_ ?_
                    rotate_left
                    · show Act.put _ (some 79) _ = _
                      simp only [Act.put, List.setIfInBounds_toArray, List.set_cons_zero, List.set_cons_succ, i64_w, i32_w]
                      rfl
                    refine last_ (i := 8) (N := some 80) #[true, true, true, true, true, true, true, true, true, false, false] rfl rfl (one_of HT_.out (by kernel_rfl)) (by decide) (fun K hK => ?_)
                    refine Kd.R_append_step (Kd.int .i64) (w0 := w) w.heap.size (by rfl) (.tmp 73) (.tmp 79) 23 3 (.int .i64 0) 8 rfl Try.underlying23 info3 rfl (by decide) (by omega) u234001 x234001_4 ((rd_T49 x6_2 x12_4).f0) [.int .i64 ((rd_T49 x6_2 x12_4).f0)] (fun _ => True) (fun _ => False) rfl rfl ?aP (fun _ hk => hk.elim) ?aF ?aO ?aB ?aS ?aL ?_
                    (case aP => exact rfl)
                    (case aB => exact (by repeat (first | (with_reducible first | exact HB.out | apply below_alloc | apply pw_below_drewN | apply below_drew1 | refine below_set ?_ GE219.out | refine below_set ?_ GE220.out | refine below_set ?_ GE233.out) | exact HB.out)))
                    (case aF => exact (fun _ _ => trivial))
                    (case aO => exact (by (with_reducible repeat (first | apply Kd.R_alloc | apply Kd.R_drewN | apply Kd.R_drew)); exact HO_234001.out))
                    (case aS => exact (below_size (by repeat (first | (with_reducible first | exact HB.out | apply below_alloc | apply pw_below_drewN | apply below_drew1 | refine below_set ?_ GE219.out | refine below_set ?_ GE220.out | refine below_set ?_ GE233.out) | exact HB.out))))
                    (case aL => have := LMc40.out; omega)
                    intro v236 w44 ho hb hg hat
                    rw [← Ny235.out] at ho
                    have n0_ := Aside0.mk (Kd.R_over' (by (with_reducible repeat (first | apply Kd.R_alloc | apply Kd.R_drewN | apply Kd.R_drew)); exact HO_6.out) (Kd.R_typed (by (with_reducible repeat (first | apply Kd.R_alloc | apply Kd.R_drewN | apply Kd.R_drew)); exact HO_234001.out)) (by decide) hg)
                    have n1_ := Aside0.mk (Kd.R_over' (by (with_reducible repeat (first | apply Kd.R_alloc | apply Kd.R_drewN | apply Kd.R_drew)); exact HO_11.out) (Kd.R_typed (by (with_reducible repeat (first | apply Kd.R_alloc | apply Kd.R_drewN | apply Kd.R_drew)); exact HO_234001.out)) (by decide) hg)
                    have n2_ := Aside0.mk (blk_grown (g := gb219) (o := .cells #[.slice A0_0 l0_0.length c0_0, .slice A0_1 l0_1.length c0_1, .int .i64 a0_2] 25 (0, 0)) (by (with_reducible repeat (first | refine blk_drewN ?_ _ | refine blk_drew ?_ | refine blk_alloc ?_ _)); exact BK219.out) hg (Kd.R_ne HO_234001.out BK219.out (by decide)))
                    have n3_ := Aside0.mk (blk_grown (g := gb220) (o := .cells #[.int .i64 0, .slice none 0 0, .slice none 0 0, .bool false] 28 (0, 0)) (by (with_reducible repeat (first | refine blk_drewN ?_ _ | refine blk_drew ?_ | refine blk_alloc ?_ _)); exact BK220.out) hg (Kd.R_ne HO_234001.out BK220.out (by decide)))
                    have n4_ := Aside0.mk (blk_grown (g := gb233) (o := .cells #[.int .i64 x5_2, u234001, .slice none 0 0, .bool true] 28 (0, 0)) (by (with_reducible repeat (first | refine blk_drewN ?_ _ | refine blk_drew ?_ | refine blk_alloc ?_ _)); exact BK233.out) hg (Kd.R_ne HO_234001.out BK233.out (by decide)))
                    have n5_ := Aside0.mk (hb)
                    have n6_ := Aside0.mk (ho)
                    clear HO_6
                    clear HO_11
                    clear BK219
                    clear BK220
                    clear BK233
                    clear HB
                    clear HO_234001
                    have HO_6 := n0_
                    have HO_11 := n1_
                    have BK219 := n2_
                    have BK220 := n3_
                    have BK233 := n4_
                    have HB := n5_
                    have HO237 := n6_
                    clear n0_ n1_ n2_ n3_ n4_ n5_ n6_
                    clear ho hb hg hat
                    obtain ⟨Ao45, co45, eo45⟩ := Kd.R_slice HO237.out
                    (first | subst eo45 | (injection eo45 with f1_ f2_ f3_; have f4_ := f1_.symm; have f5_ := f3_.symm; clear f1_ f2_ f3_; subst f4_; subst f5_))
                    refine hK.out _ _ ?_
                    clear hK K
                    refine norm_ (a' := ?_) ?_ ?_
                    rotate_left
                    · show Act.put _ (some 80) _ = _
                      simp only [Act.put, List.setIfInBounds_toArray, List.set_cons_zero, List.set_cons_succ, i64_w, i32_w]
                      rfl
                    refine pure_ (i := 9) (N := some 81) (v := ?_) (a' := ?_) #[true, true, true, true, true, true, true, true, true, true, false] rfl rfl (any_of HT_.out (by kernel_rfl)) (fun _ _ _ h => h) (Or.inl ⟨by rfl, ?_⟩) ?_ ?_
                    rotate_left
                    · intro w'
                      go_simp
                      with_reducible rfl
                    rotate_left
                    · simp only [Act.put, List.setIfInBounds_toArray, List.set_cons_zero, List.set_cons_succ, i64_w, i32_w]
                      rfl
                    refine last_ (i := 10) (N := none) #[true, true, true, true, true, true, true, true, true, true, true] rfl rfl (one_of HT_.out (by kernel_rfl)) (by decide) (fun K hK => ?_)
                    have hs46 : w44.cell? ⟨gb233, 1, none⟩ = some (u234001) := (blk_cell BK233.out 1).trans rfl
                    have hfs46 := blk_frozen BK233.out 1
                    have hns46_0 := NB219_233.out
                    have hns46_1 := NB220_233.out
                    have hms46_0 := NB233_219.out
                    have hms46_1 := NB233_220.out
                    refine skip_ (w1 := ?_) (by rfl) rfl ?_ ?_
                    rotate_left
                    · go_simp
                      rfl
                    refine hK.out _ _ ?_
                    clear hK K
                    refine done_ (done_of HT_.out (by kernel_rfl)) ?_
                    have p238 : 0 ≤ (x12_4 : Int) := of_decide_eq_true (by first | (with_reducible assumption) | assumption)
                    have q238 : x12_4 < (x6_2.length : Int) := of_decide_eq_true (by first | (with_reducible assumption) | assumption)
                    obtain ⟨ad238, e238, hx238_0, hx238_1, hx238_2, hx238_3, hx238_4⟩ := at_T49 (Kd.R_reads' HO_6.out).2.2 x12_4 p238 q238
                    obtain rfl : ad234 = ad238 := (by injection e238)
                    have hn238_0 : ad234.block ≠ gb233 := Kd.own_blk (Kd.R_ne HO_6.out BK233.out (by decide))
                    replace hx238_0 := (cell_far (p := ⟨gb233, 1, none⟩) (by first | (rw [add_block]; exact hn238_0) | (show (Addr.add _ _).block ≠ _; rw [add_block]; exact hn238_0) | exact hn238_0) (.slice Ao45 y235.length co45)).trans hx238_0
                    replace hx238_1 := (cell_far (p := ⟨gb233, 1, none⟩) (by first | (rw [add_block]; exact hn238_0) | (show (Addr.add _ _).block ≠ _; rw [add_block]; exact hn238_0) | exact hn238_0) (.slice Ao45 y235.length co45)).trans hx238_1
                    replace hx238_2 := (cell_far (p := ⟨gb233, 1, none⟩) (by first | (rw [add_block]; exact hn238_0) | (show (Addr.add _ _).block ≠ _; rw [add_block]; exact hn238_0) | exact hn238_0) (.slice Ao45 y235.length co45)).trans hx238_2
                    replace hx238_3 := (cell_far (p := ⟨gb233, 1, none⟩) (by first | (rw [add_block]; exact hn238_0) | (show (Addr.add _ _).block ≠ _; rw [add_block]; exact hn238_0) | exact hn238_0) (.slice Ao45 y235.length co45)).trans hx238_3
                    replace hx238_4 := (cell_far (p := ⟨gb233, 1, none⟩) (by first | (rw [add_block]; exact hn238_0) | (show (Addr.add _ _).block ≠ _; rw [add_block]; exact hn238_0) | exact hn238_0) (.slice Ao45 y235.length co45)).trans hx238_4
                    clear hn238_0
                    replace p238 := eq_true p238
                    replace q238 := eq_true q238
                    try go_wp2_with (first | ((with_reducible refine gate_builtin (b := .append) (xs := #[.tmp 82, .tmp 87]) rfl ?_); at_builtin; refine Kd.R_append k49 (w0 := w) w.heap.size rfl (.tmp 82) (.tmp 87) 22 49 (.agg #[(.int .i64 0), (.int .i64 0), (.string ⟨#[]⟩), (.string ⟨#[]⟩), (.int .i64 0)]) 56 rfl Try.underlying22 info49 rfl (by decide) (by omega) u11 x11_4 (⟨(rd_T49 x6_2 x12_4).f0, (rd_T49 x6_2 x12_4).f1, (rd_T49 x6_2 x12_4).f2, (rd_T49 x6_2 x12_4).f3, (rd_T49 x6_2 x12_4).f4⟩ : S49) [.int .i64 ((rd_T49 x6_2 x12_4).f0), .int .i64 ((rd_T49 x6_2 x12_4).f1), .string ((rd_T49 x6_2 x12_4).f2), .string ((rd_T49 x6_2 x12_4).f3), .int .i64 ((rd_T49 x6_2 x12_4).f4)] (fun k_ => some k_ ≠ (.slice (some ad234) x6_2.length co42 : Value).ownBlock) (fun _ => False) rfl (by first | (go_simp; done) | (go_simp; rfl)) ?aP (fun _ hk => hk.elim) ?aF ?aO ?aB ?aS ?aL ?_; (case aP => exact k49_mkM _ _ _ (⟨(rd_T49 x6_2 x12_4).f0, (rd_T49 x6_2 x12_4).f1, (rd_T49 x6_2 x12_4).f2, (rd_T49 x6_2 x12_4).f3, (rd_T49 x6_2 x12_4).f4⟩ : S49)); (case aB => exact (by repeat (first | (with_reducible first | exact HB.out | apply below_alloc | apply pw_below_drewN | apply below_drew1 | refine below_set ?_ GE219.out | refine below_set ?_ GE220.out | refine below_set ?_ GE233.out) | exact HB.out))); (case aF => exact (fun k_ hk => Kd.fresh' (Kd.R_lt (by (with_reducible repeat (first | apply Kd.R_alloc | apply Kd.R_drewN | apply Kd.R_drew)); exact (Kd.R_mono (Kd.R_far (p := ⟨gb233, 1, none⟩) (Kd.R_types HO_6.out BK233.out (by decide)) (fun _ hk => hk.2) (.slice Ao45 y235.length co45)) (fun _ h_ => h_.1)))) k_ hk)); (case aO => exact (by (with_reducible repeat (first | apply Kd.R_alloc | apply Kd.R_drewN | apply Kd.R_drew)); exact Kd.R_mono (Kd.R_far (p := ⟨gb233, 1, none⟩) (Kd.R_types HO_11.out BK233.out (by decide)) (fun _ hk => hk.2) (.slice Ao45 y235.length co45)) (fun _ hk => hk.1))); (case aS => exact (below_size (by repeat (first | (with_reducible first | exact HB.out | apply below_alloc | apply pw_below_drewN | apply below_drew1 | refine below_set ?_ GE219.out | refine below_set ?_ GE220.out | refine below_set ?_ GE233.out) | exact HB.out)))); (case aL => have := LMc41.out; omega); intro v240 w47 ho hb hg hat; rw [← Ny239.out] at ho; have n0_ := Aside0.mk (Kd.R_after (ok := (fun _ => True)) (by (with_reducible repeat (first | apply Kd.R_alloc | apply Kd.R_drewN | apply Kd.R_drew)); exact Kd.R_mono (Kd.R_far (p := ⟨gb233, 1, none⟩) (Kd.R_types HO_6.out BK233.out (by decide)) (fun _ hk => hk.2) (.slice Ao45 y235.length co45)) (fun _ hk => ⟨trivial, hk.1⟩)) hg hat); have n1_ := Aside0.mk (blk_grown (g := gb219) (o := .cells #[.slice A0_0 l0_0.length c0_0, .slice A0_1 l0_1.length c0_1, .int .i64 a0_2] 25 (0, 0)) (by (with_reducible repeat (first | refine blk_drewN ?_ _ | refine blk_drew ?_ | refine blk_alloc ?_ _)); refine blk_far ?_ NB219_233.out _; (with_reducible repeat (first | refine blk_drewN ?_ _ | refine blk_drew ?_ | refine blk_alloc ?_ _)); exact BK219.out) hg (Kd.R_ne HO_11.out BK219.out (by decide))); have n2_ := Aside0.mk (blk_grown (g := gb220) (o := .cells #[.int .i64 0, .slice none 0 0, .slice none 0 0, .bool false] 28 (0, 0)) (by (with_reducible repeat (first | refine blk_drewN ?_ _ | refine blk_drew ?_ | refine blk_alloc ?_ _)); refine blk_far ?_ NB220_233.out _; (with_reducible repeat (first | refine blk_drewN ?_ _ | refine blk_drew ?_ | refine blk_alloc ?_ _)); exact BK220.out) hg (Kd.R_ne HO_11.out BK220.out (by decide))); have n3_ := Aside0.mk (blk_grown (g := gb233) (o := .cells #[.int .i64 x5_2, .slice Ao45 y235.length co45, .slice none 0 0, .bool true] 28 (0, 0)) (by (with_reducible repeat (first | refine blk_drewN ?_ _ | refine blk_drew ?_ | refine blk_alloc ?_ _)); refine blk_put (cs := #[.int .i64 x5_2, u234001, .slice none 0 0, .bool true]) ?_ 1 _ rfl; (with_reducible repeat (first | refine blk_drewN ?_ _ | refine blk_drew ?_ | refine blk_alloc ?_ _)); exact BK233.out) hg (Kd.R_ne HO_11.out BK233.out (by decide))); have n4_ := Aside0.mk (Kd.R_over' (by (with_reducible repeat (first | apply Kd.R_alloc | apply Kd.R_drewN | apply Kd.R_drew)); exact (Kd.R_mono (Kd.R_far (p := ⟨gb233, 1, none⟩) (Kd.R_types HO237.out BK233.out (by decide)) (fun _ hk => hk.2) (.slice Ao45 y235.length co45)) (fun _ h_ => h_.1))) (Kd.R_typed (by (with_reducible repeat (first | apply Kd.R_alloc | apply Kd.R_drewN | apply Kd.R_drew)); exact (Kd.R_mono (Kd.R_far (p := ⟨gb233, 1, none⟩) (Kd.R_types HO_11.out BK233.out (by decide)) (fun _ hk => hk.2) (.slice Ao45 y235.length co45)) (fun _ h_ => h_.1)))) (by decide) hg); have n5_ := Aside0.mk (hb); have n6_ := Aside0.mk (ho); clear HO_6; clear BK219; clear BK220; clear BK233; clear HO237; clear HB; clear HO_11; have HO_6 := n0_; have BK219 := n1_; have BK220 := n2_; have BK233 := n3_; have HO237 := n4_; have HB := n5_; have HO241 := n6_; clear n0_ n1_ n2_ n3_ n4_ n5_ n6_; clear ho hb hg hat))
                    go_roundg k4
                    case measure => have := HJ4.out; have := HK2.out; have := HJ14.out; have := HK4.out; omega
                    case rel => exact ⟨(y239), (wrap64 (x12_4 + 1)), (y235), (.slice Ao45 y235.length co45), (by first | rfl | (simp; done) | (simp [*]; done)), H', ⟨by have := HJ4.out; have := HK2.out; have := HJ14.out; have := HK4.out; omega⟩, ⟨by (with_reducible repeat (first | apply Kd.R_alloc | apply Kd.R_drewN | apply Kd.R_drew)); exact Kd.R_mono HO_6.out (fun _ hk => hk.2)⟩, ⟨by (with_reducible repeat (first | apply Kd.R_alloc | apply Kd.R_drewN | apply Kd.R_drew)); exact HO241.out⟩, ⟨by (with_reducible repeat (first | apply Kd.R_alloc | apply Kd.R_drewN | apply Kd.R_drew)); exact HO237.out⟩, ⟨by (with_reducible repeat (first | refine blk_drewN ?_ _ | refine blk_drew ?_ | refine blk_alloc ?_ _)); exact BK219.out⟩, ⟨by (with_reducible repeat (first | refine blk_drewN ?_ _ | refine blk_drew ?_ | refine blk_alloc ?_ _)); exact BK220.out⟩, ⟨by (with_reducible repeat (first | refine blk_drewN ?_ _ | refine blk_drew ?_ | refine blk_alloc ?_ _)); exact BK233.out⟩, ⟨by repeat (first | (with_reducible first | exact HB.out | apply below_alloc | apply pw_below_drewN | apply below_drew1 | refine below_set ?_ GE219.out | refine below_set ?_ GE220.out | refine below_set ?_ GE233.out) | exact HB.out)⟩⟩
                  rw [if_neg c38] at H
                  have c38b0 : decide (x12_4 < (x6_2.length : Int)) = false := decide_eq_false c38
                  clear c38
                  replace H := Option.bind_eq_some_iff.mp H
                  obtain ⟨t242, A480, H⟩ := H
                  replace H : (palinoderef16_Pick.l3 k4 x5_2 x6_2 x11_4 t242 0 l0_0 l0_1 a0_2 x5_2 x234001_4 ([] : List Int) true) = some (r1, r2, r3, r4, r5) := H
                  have A48 := Aside0.mk A480
                  clear A480
                  have H' := Aside0.mk H
                  clear H
                  obtain ⟨Ao49, co49, eo49⟩ := Kd.R_slice HO_6.out
                  subst eo49
                  have hnb50 := NB219_220.out
                  have hnc50 := NB220_219.out
                  have hnb51 := NB219_233.out
                  have hnc51 := NB233_219.out
                  have hcz52_0 : wr.cell? ⟨gb219, 0, none⟩ = some (.slice A0_0 l0_0.length c0_0) := (blk_cell BK219.out 0).trans rfl
                  have hcz52_1 : wr.cell? ⟨gb219, 1, none⟩ = some (.slice A0_1 l0_1.length c0_1) := (blk_cell BK219.out 1).trans rfl
                  have hcz52_2 : wr.cell? ⟨gb219, 2, none⟩ = some (.int .i64 a0_2) := (blk_cell BK219.out 2).trans rfl
                  have hfz52_0 := blk_frozen BK219.out 0
                  have hfz52_1 := blk_frozen BK219.out 1
                  have hfz52_2 := blk_frozen BK219.out 2
                  go_wp2_with (first | ((with_reducible refine gate_callee (f := 27) rfl ?_); refine goesL_ (some 92) rfl rfl Try.func27 (by kernel_rfl) rfl #[.agg #[.slice A0_0 l0_0.length c0_0, .slice A0_1 l0_1.length c0_1, .int .i64 a0_2], .int .i64 (wrap64 (x5_2 + 1))] rfl (by (try simp only [List.map_toArray, List.map_cons, List.map_nil]); first | done | rfl | (simp only [List.length_drop, List.length_take]; rfl)) ?_; (with_reducible refine (palinoderef14_Level.calls k4 _ _ l0_0 _ _ l0_1 a0_2 (wrap64 (x5_2 + 1)) t242 _ ?side1 ?side2 ?side3 ?side4 A48.out).mono ?_); (case side1 => repeat (first | exact (Kd.C_below HR0_0.out HB.out) | (with_reducible refine Kd.C_alloc ?_ _) | (with_reducible refine Kd.C_drewN ?_ _) | (with_reducible refine Kd.C_drew ?_))); (case side2 => exact HC0_0.out); (case side3 => repeat (first | exact (Kd.C_below HR0_1.out HB.out) | (with_reducible refine Kd.C_alloc ?_ _) | (with_reducible refine Kd.C_drewN ?_ _) | (with_reducible refine Kd.C_drew ?_))); (case side4 => exact HC0_1.out); rintro e w53 ⟨v243, rfl, ho0, hb⟩; refine ⟨_, rfl, ?_⟩; have n0_ := Aside0.mk (Kd.R_elder' (by (with_reducible repeat (first | apply Kd.R_alloc | apply Kd.R_drewN | apply Kd.R_drew)); exact HO_6.out) (Kd.R_base ho0) hb); have n1_ := Aside0.mk (Kd.R_elder' (by (with_reducible repeat (first | apply Kd.R_alloc | apply Kd.R_drewN | apply Kd.R_drew)); exact HO_11.out) (Kd.R_base ho0) hb); have n2_ := Aside0.mk (Kd.R_below (by (with_reducible repeat (first | apply Kd.R_alloc | apply Kd.R_drewN | apply Kd.R_drew)); exact HO_234001.out) hb); have n3_ := Aside0.mk (Kd.R_lower (Kd.R_new' (Kd.R_new' ho0 (Kd.R_lt (by (with_reducible repeat (first | apply Kd.R_alloc | apply Kd.R_drewN | apply Kd.R_drew)); exact HO_6.out))) (Kd.R_lt (by (with_reducible repeat (first | apply Kd.R_alloc | apply Kd.R_drewN | apply Kd.R_drew)); exact HO_11.out))) (below_size (by repeat (first | (with_reducible first | exact HB.out | apply below_alloc | apply pw_below_drewN | apply below_drew1 | refine below_set ?_ GE219.out | refine below_set ?_ GE220.out | refine below_set ?_ GE233.out) | exact HB.out)))); have n4_ := Aside0.mk (blk_below (g := gb219) (o := .cells #[.slice A0_0 l0_0.length c0_0, .slice A0_1 l0_1.length c0_1, .int .i64 a0_2] 25 (0, 0)) (by (with_reducible repeat (first | refine blk_drewN ?_ _ | refine blk_drew ?_ | refine blk_alloc ?_ _)); exact BK219.out) hb); have n5_ := Aside0.mk (blk_below (g := gb220) (o := .cells #[.int .i64 0, .slice none 0 0, .slice none 0 0, .bool false] 28 (0, 0)) (by (with_reducible repeat (first | refine blk_drewN ?_ _ | refine blk_drew ?_ | refine blk_alloc ?_ _)); exact BK220.out) hb); have n6_ := Aside0.mk (blk_below (g := gb233) (o := .cells #[.int .i64 x5_2, u234001, .slice none 0 0, .bool true] 28 (0, 0)) (by (with_reducible repeat (first | refine blk_drewN ?_ _ | refine blk_drew ?_ | refine blk_alloc ?_ _)); exact BK233.out) hb); have n7_ := Aside0.mk (below_step (by repeat (first | (with_reducible first | exact HB.out | apply below_alloc | apply pw_below_drewN | apply below_drew1 | refine below_set ?_ GE219.out | refine below_set ?_ GE220.out | refine below_set ?_ GE233.out) | exact HB.out)) hb); clear HO_6; clear HO_11; clear HO_234001; clear BK219; clear BK220; clear BK233; clear HB; have HO_6 := n0_; have HO_11 := n1_; have HO_234001 := n2_; have HO244 := n3_; have BK219 := n4_; have BK220 := n5_; have BK233 := n6_; have HB := n7_; clear n0_ n1_ n2_ n3_ n4_ n5_ n6_ n7_; (try clear hb); (try clear hb2); (try clear hk); (try clear hi); (try clear ho0)))
                  go_loopg [11, 14] k4 (fun kq v11 v14 w' => ∃ (x11_5 : List (S49)) (x14_5 : Int) (x234002_5 : List Int) (u234002 : Value), v14 = .int .i64 x14_5 ∧ Aside0 (palinoderef16_Pick.l3 kq x5_2 x6_2 x11_5 t242 x14_5 l0_0 l0_1 a0_2 x5_2 x234001_4 x234002_5 true = some (r1, r2, r3, r4, r5)) ∧ Aside0 (kq ≤ k4) ∧ Aside0 (Kd.R k49 49 w' w.heap.size (fun k_ => some k_ ≠ (v11 : Value).ownBlock ∧ some k_ ≠ (v243 : Value).ownBlock) (.slice Ao49 x6_2.length co49) x6_2) ∧ Aside0 (Kd.R k49 49 w' w.heap.size (fun k_ => some k_ ≠ ((.slice Ao49 x6_2.length co49) : Value).ownBlock ∧ some k_ ≠ (v243 : Value).ownBlock) v11 x11_5) ∧ Aside0 (Kd.R k49 49 w' w.heap.size (fun k_ => some k_ ≠ ((.slice Ao49 x6_2.length co49) : Value).ownBlock ∧ some k_ ≠ (v11 : Value).ownBlock) v243 t242) ∧ Aside0 (Kd.R (Kd.int .i64) 3 w' w.heap.size (fun k_ => some k_ ≠ (u234002 : Value).ownBlock) u234001 x234001_4) ∧ Aside0 (Kd.R (Kd.int .i64) 3 w' w.heap.size (fun k_ => some k_ ≠ (u234001 : Value).ownBlock) u234002 x234002_5) ∧ Aside0 (w'.heap[gb219]? = some (.cells #[(.slice A0_0 l0_0.length c0_0), (.slice A0_1 l0_1.length c0_1), .int .i64 a0_2] 25 (0, 0))) ∧ Aside0 (w'.heap[gb220]? = some (.cells #[.int .i64 0, (.slice none 0 0), (.slice none 0 0), .bool false] 28 (0, 0))) ∧ Aside0 (w'.heap[gb233]? = some (.cells #[.int .i64 x5_2, u234001, u234002, .bool true] 28 (0, 0))) ∧ Aside0 (Below w.heap.size w w'))
                  case atStart => exact ⟨(x11_4), (0), (([] : List Int)), (.slice none 0 0), (by first | rfl | (simp; done) | (simp [*]; done)), H', ⟨Nat.le_refl _⟩, ⟨by (with_reducible repeat (first | apply Kd.R_alloc | apply Kd.R_drewN | apply Kd.R_drew)); exact HO_6.out⟩, ⟨by (with_reducible repeat (first | apply Kd.R_alloc | apply Kd.R_drewN | apply Kd.R_drew)); exact HO_11.out⟩, ⟨by (with_reducible repeat (first | apply Kd.R_alloc | apply Kd.R_drewN | apply Kd.R_drew)); exact Kd.R_mono HO244.out (fun _ hk => ⟨hk.1.2, hk.2⟩)⟩, ⟨by (with_reducible repeat (first | apply Kd.R_alloc | apply Kd.R_drewN | apply Kd.R_drew)); exact Kd.R_mono HO_234001.out (fun _ hk => (by simp [Value.ownBlock]))⟩, ⟨by first | exact Kd.R_nil _ _ _ _ _ | exact Kd.N_nil _ _ _ _ _ | exact Kd.V_nil _ _ _ _ _ | exact Kd.Q_nil _ _ _ _ _ | exact Kd.S_nil _ _ _ _ _⟩, ⟨by (with_reducible repeat (first | refine blk_drewN ?_ _ | refine blk_drew ?_ | refine blk_alloc ?_ _)); exact BK219.out⟩, ⟨by (with_reducible repeat (first | refine blk_drewN ?_ _ | refine blk_drew ?_ | refine blk_alloc ?_ _)); exact BK220.out⟩, ⟨by (with_reducible repeat (first | refine blk_drewN ?_ _ | refine blk_drew ?_ | refine blk_alloc ?_ _)); exact BK233.out⟩, ⟨by repeat (first | (with_reducible first | exact HB.out | apply below_alloc | apply pw_below_drewN | apply below_drew1 | refine below_set ?_ GE219.out | refine below_set ?_ GE220.out | refine below_set ?_ GE233.out) | exact HB.out)⟩⟩
                  case round =>
                    clear H'
                    try clear c1
                    try clear c2
                    try clear p2
                    try clear q2
                    try clear hx2
                    try clear c3
                    try clear c4
                    try clear c5
                    try clear p6
                    try clear c8
                    try clear c10
                    try clear c13
                    try clear c14
                    try clear c14b0
                    try clear c14b1
                    try clear c16
                    try clear c16b0
                    try clear c17
                    try clear c19
                    try clear c22
                    try clear c22b0
                    try clear p22
                    try clear q22
                    try clear hx22
                    try clear c23
                    try clear c23b0
                    try clear p23
                    try clear q23
                    try clear hx23
                    try clear c26
                    try clear c26b0
                    try clear c27
                    try clear c27b0
                    try clear c27b1
                    try clear q29
                    try clear c31
                    try clear c31b0
                    try clear c32
                    try clear c35
                    try clear c36
                    try clear c38
                    try clear c38b0
                    try clear c39
                    try clear c39b0
                    try clear c40
                    try clear c41
                    try clear c50
                    try clear c51
                    try clear hcz11_0
                    try clear hcz11_1
                    try clear hcz11_2
                    try clear hcz20_0
                    try clear hcz20_1
                    try clear hcz20_2
                    try clear hcz33_0
                    try clear hcz33_1
                    try clear hcz33_2
                    try clear hcz33_3
                    try clear hcz37_0
                    try clear hcz37_1
                    try clear hcz37_2
                    try clear hcz37_3
                    try clear hcz52_0
                    try clear hcz52_1
                    try clear hcz52_2
                    try clear hcz9_0
                    try clear hcz9_1
                    try clear hcz9_2
                    try clear hfz11_0
                    try clear hfz11_1
                    try clear hfz11_2
                    try clear hfz20_0
                    try clear hfz20_1
                    try clear hfz20_2
                    try clear hfz33_0
                    try clear hfz33_1
                    try clear hfz33_2
                    try clear hfz33_3
                    try clear hfz37_0
                    try clear hfz37_1
                    try clear hfz37_2
                    try clear hfz37_3
                    try clear hfz52_0
                    try clear hfz52_1
                    try clear hfz52_2
                    try clear hfz9_0
                    try clear hfz9_1
                    try clear hfz9_2
                    try clear hx228_0
                    try clear hx228_1
                    try clear hx228_2
                    try clear hx228_3
                    try clear hx228_4
                    try clear hx234_0
                    try clear hx234_1
                    try clear hx234_2
                    try clear hx234_3
                    try clear hx234_4
                    try clear hx238_0
                    try clear hx238_1
                    try clear hx238_2
                    try clear hx238_3
                    try clear hx238_4
                    try clear p2
                    try clear p22
                    try clear p228
                    try clear p234
                    try clear p238
                    try clear p6
                    try clear q2
                    try clear q22
                    try clear q228
                    try clear q234
                    try clear q238
                    try clear q29
                    obtain ⟨x11_5, x14_5, x234002_5, u234002, rfl, HA, HK5, HO_6, HO_11, HO_13, HO_234001, HO_234002, BK219, BK220, BK233, HB⟩ := hrel
                    cases gk with
                    | zero => exact absurd HA.out (by simp [palinoderef16_Pick.l3])
                    | succ k5 =>
                      have H := HA.out
                      clear HA
                      simp only [palinoderef16_Pick.l3] at H
                      by_cases c54 : x14_5 < (t242.length : Int)
                      · rw [if_pos c54] at H
                        have c54b0 : decide (x14_5 < (t242.length : Int)) = true := decide_eq_true c54
                        clear c54
                        by_cases c55 : 0 ≤ x14_5
                        rotate_left
                        · rw [if_neg c55] at H
                          exact absurd H (by simp)
                        rw [if_pos c55] at H
                        have c55b0 : decide (0 ≤ x14_5) = true := decide_eq_true c55
                        clear c55
                        replace H := Option.bind_eq_some_iff.mp H
                        obtain ⟨t246, A560, H⟩ := H
                        replace H : (if t246 = true then (if x234002_5.length < 17592186044416 then (if x11_5.length < 2513169434916 then (palinoderef16_Pick.l3 k5 x5_2 x6_2 (x11_5 ++ [(⟨(rd_T49 t242 x14_5).f0, (rd_T49 t242 x14_5).f1, (rd_T49 t242 x14_5).f2, (rd_T49 t242 x14_5).f3, (rd_T49 t242 x14_5).f4⟩ : S49)]) t242 (wrap64 (x14_5 + 1)) l0_0 l0_1 a0_2 x5_2 x234001_4 (x234002_5 ++ [(rd_T49 t242 x14_5).f0]) true) else (none)) else (none)) else (palinoderef16_Pick.l3 k5 x5_2 x6_2 x11_5 t242 (wrap64 (x14_5 + 1)) l0_0 l0_1 a0_2 x5_2 x234001_4 x234002_5 true)) = some (r1, r2, r3, r4, r5) := H
                        have A56 := Aside0.mk A560
                        clear A560
                        by_cases c57 : t246 = true
                        rotate_left
                        · replace c57 := Bool.eq_false_iff.mpr c57
                          subst c57
                          have H1 : (palinoderef16_Pick.l3 k5 x5_2 x6_2 x11_5 t242 (wrap64 (x14_5 + 1)) l0_0 l0_1 a0_2 x5_2 x234001_4 x234002_5 true) = some (r1, r2, r3, r4, r5) := by rw [if_neg (show ¬ (false = true) by decide)] at H; exact H
                          clear H
                          have H := H1
                          clear H1
                          have H' := Aside0.mk H
                          clear H
                          obtain ⟨Ao67, co67, eo67⟩ := Kd.R_slice HO_13.out
                          subst eo67
                          have p245 : 0 ≤ (x14_5 : Int) := of_decide_eq_true (by first | (with_reducible assumption) | assumption)
                          have q245 : x14_5 < (t242.length : Int) := of_decide_eq_true (by first | (with_reducible assumption) | assumption)
                          obtain ⟨ad245, e245, hx245_0, hx245_1, hx245_2, hx245_3, hx245_4⟩ := at_T49 (Kd.R_reads' HO_13.out).2.2 x14_5 p245 q245
                          cases e245
                          replace p245 := eq_true p245
                          replace q245 := eq_true q245
                          go_wp2_with (first | ((with_reducible refine gate_callee (f := 28) rfl ?_); refine goesL_ (some 104) rfl rfl Try.func28 (by kernel_rfl) rfl #[.agg #[.int .i64 ((rd_T49 t242 x14_5).f0), .int .i64 ((rd_T49 t242 x14_5).f1), .string ((rd_T49 t242 x14_5).f2), .string ((rd_T49 t242 x14_5).f3), .int .i64 ((rd_T49 t242 x14_5).f4)], .slice Ao49 x6_2.length co49] rfl (by (try simp only [List.map_toArray, List.map_cons, List.map_nil]); first | done | rfl | (simp only [List.length_drop, List.length_take]; rfl)) ?_; (with_reducible refine (palinoderef16_meets.calls k5 ((rd_T49 t242 x14_5).f0) ((rd_T49 t242 x14_5).f1) ((rd_T49 t242 x14_5).f2) ((rd_T49 t242 x14_5).f3) ((rd_T49 t242 x14_5).f4) _ _ x6_2 false _ ?side1 ?side2 A56.out).mono ?_); (case side1 => repeat (first | exact (Kd.R_reads' HO_6.out).2.2 | (with_reducible refine Kd.C_alloc ?_ _) | (with_reducible refine Kd.C_drewN ?_ _) | (with_reducible refine Kd.C_drew ?_))); (case side2 => exact (Kd.R_reads' HO_6.out).2.1); rintro e w68 ⟨rfl, hb⟩; refine ⟨_, rfl, ?_⟩; have n0_ := Aside0.mk (Kd.R_below (by (with_reducible repeat (first | apply Kd.R_alloc | apply Kd.R_drewN | apply Kd.R_drew)); exact HO_6.out) hb); have n1_ := Aside0.mk (Kd.R_below (by (with_reducible repeat (first | apply Kd.R_alloc | apply Kd.R_drewN | apply Kd.R_drew)); exact HO_11.out) hb); have n2_ := Aside0.mk (Kd.R_below (by (with_reducible repeat (first | apply Kd.R_alloc | apply Kd.R_drewN | apply Kd.R_drew)); exact HO_13.out) hb); have n3_ := Aside0.mk (Kd.R_below (by (with_reducible repeat (first | apply Kd.R_alloc | apply Kd.R_drewN | apply Kd.R_drew)); exact HO_234001.out) hb); have n4_ := Aside0.mk (Kd.R_below (by (with_reducible repeat (first | apply Kd.R_alloc | apply Kd.R_drewN | apply Kd.R_drew)); exact HO_234002.out) hb); have n5_ := Aside0.mk (blk_below (g := gb219) (o := .cells #[.slice A0_0 l0_0.length c0_0, .slice A0_1 l0_1.length c0_1, .int .i64 a0_2] 25 (0, 0)) (by (with_reducible repeat (first | refine blk_drewN ?_ _ | refine blk_drew ?_ | refine blk_alloc ?_ _)); exact BK219.out) hb); have n6_ := Aside0.mk (blk_below (g := gb220) (o := .cells #[.int .i64 0, .slice none 0 0, .slice none 0 0, .bool false] 28 (0, 0)) (by (with_reducible repeat (first | refine blk_drewN ?_ _ | refine blk_drew ?_ | refine blk_alloc ?_ _)); exact BK220.out) hb); have n7_ := Aside0.mk (blk_below (g := gb233) (o := .cells #[.int .i64 x5_2, u234001, u234002, .bool true] 28 (0, 0)) (by (with_reducible repeat (first | refine blk_drewN ?_ _ | refine blk_drew ?_ | refine blk_alloc ?_ _)); exact BK233.out) hb); have n8_ := Aside0.mk (below_step (by repeat (first | (with_reducible first | exact HB.out | apply below_alloc | apply pw_below_drewN | apply below_drew1 | refine below_set ?_ GE219.out | refine below_set ?_ GE220.out | refine below_set ?_ GE233.out) | exact HB.out)) hb); clear HO_6; clear HO_11; clear HO_13; clear HO_234001; clear HO_234002; clear BK219; clear BK220; clear BK233; clear HB; have HO_6 := n0_; have HO_11 := n1_; have HO_13 := n2_; have HO_234001 := n3_; have HO_234002 := n4_; have BK219 := n5_; have BK220 := n6_; have BK233 := n7_; have HB := n8_; clear n0_ n1_ n2_ n3_ n4_ n5_ n6_ n7_ n8_; (try clear hb); (try clear hb2); (try clear hk); (try clear hi)))
                          go_roundg k5
                          case measure => have := HJ4.out; have := HK2.out; have := HJ14.out; have := HK4.out; have := HK5.out; omega
                          case rel => exact ⟨(x11_5), (wrap64 (x14_5 + 1)), (x234002_5), (u234002), (by first | rfl | (simp; done) | (simp [*]; done)), H', ⟨by have := HJ4.out; have := HK2.out; have := HJ14.out; have := HK4.out; have := HK5.out; omega⟩, ⟨by (with_reducible repeat (first | apply Kd.R_alloc | apply Kd.R_drewN | apply Kd.R_drew)); exact HO_6.out⟩, ⟨by (with_reducible repeat (first | apply Kd.R_alloc | apply Kd.R_drewN | apply Kd.R_drew)); exact HO_11.out⟩, ⟨by (with_reducible repeat (first | apply Kd.R_alloc | apply Kd.R_drewN | apply Kd.R_drew)); exact HO_13.out⟩, ⟨by (with_reducible repeat (first | apply Kd.R_alloc | apply Kd.R_drewN | apply Kd.R_drew)); exact HO_234001.out⟩, ⟨by (with_reducible repeat (first | apply Kd.R_alloc | apply Kd.R_drewN | apply Kd.R_drew)); exact HO_234002.out⟩, ⟨by (with_reducible repeat (first | refine blk_drewN ?_ _ | refine blk_drew ?_ | refine blk_alloc ?_ _)); exact BK219.out⟩, ⟨by (with_reducible repeat (first | refine blk_drewN ?_ _ | refine blk_drew ?_ | refine blk_alloc ?_ _)); exact BK220.out⟩, ⟨by (with_reducible repeat (first | refine blk_drewN ?_ _ | refine blk_drew ?_ | refine blk_alloc ?_ _)); exact BK233.out⟩, ⟨by repeat (first | (with_reducible first | exact HB.out | apply below_alloc | apply pw_below_drewN | apply below_drew1 | refine below_set ?_ GE219.out | refine below_set ?_ GE220.out | refine below_set ?_ GE233.out) | exact HB.out)⟩⟩
                        subst c57
                        have H1 : (if x234002_5.length < 17592186044416 then (if x11_5.length < 2513169434916 then (palinoderef16_Pick.l3 k5 x5_2 x6_2 (x11_5 ++ [(⟨(rd_T49 t242 x14_5).f0, (rd_T49 t242 x14_5).f1, (rd_T49 t242 x14_5).f2, (rd_T49 t242 x14_5).f3, (rd_T49 t242 x14_5).f4⟩ : S49)]) t242 (wrap64 (x14_5 + 1)) l0_0 l0_1 a0_2 x5_2 x234001_4 (x234002_5 ++ [(rd_T49 t242 x14_5).f0]) true) else (none)) else (none)) = some (r1, r2, r3, r4, r5) := by rw [if_pos rfl] at H; exact H
                        clear H
                        have H := H1
                        clear H1
                        by_cases c58 : x234002_5.length < 17592186044416
                        rotate_left
                        · rw [if_neg c58] at H
                          exact absurd H (by simp)
                        rw [if_pos c58] at H
                        have LMc58 := Aside0.mk c58
                        clear c58
                        obtain ⟨y248, hy248⟩ : ∃ y_ : List Int, y_ = (x234002_5 ++ [(rd_T49 t242 x14_5).f0]) := ⟨_, rfl⟩
                        replace H : (if x11_5.length < 2513169434916 then (palinoderef16_Pick.l3 k5 x5_2 x6_2 (x11_5 ++ [(⟨(rd_T49 t242 x14_5).f0, (rd_T49 t242 x14_5).f1, (rd_T49 t242 x14_5).f2, (rd_T49 t242 x14_5).f3, (rd_T49 t242 x14_5).f4⟩ : S49)]) t242 (wrap64 (x14_5 + 1)) l0_0 l0_1 a0_2 x5_2 x234001_4 y248 true) else (none)) = some (r1, r2, r3, r4, r5) := by first | (rw [hy248]; with_reducible exact H) | (have H2_ := (Option.bind_some _ _).symm.trans H; rw [hy248]; with_reducible exact H2_) | (have H2_ := (Option.bind_some _ _).symm.trans H; with_reducible exact H2_) | with_reducible exact H | (rw [hy248]; exact H) | exact H
                        have Ny248 := Aside0.mk hy248
                        clear hy248
                        by_cases c59 : x11_5.length < 2513169434916
                        rotate_left
                        · rw [if_neg c59] at H
                          exact absurd H (by simp)
                        rw [if_pos c59] at H
                        have LMc59 := Aside0.mk c59
                        clear c59
                        obtain ⟨y252, hy252⟩ : ∃ y_ : List (S49), y_ = (x11_5 ++ [(⟨(rd_T49 t242 x14_5).f0, (rd_T49 t242 x14_5).f1, (rd_T49 t242 x14_5).f2, (rd_T49 t242 x14_5).f3, (rd_T49 t242 x14_5).f4⟩ : S49)]) := ⟨_, rfl⟩
                        replace H : (palinoderef16_Pick.l3 k5 x5_2 x6_2 y252 t242 (wrap64 (x14_5 + 1)) l0_0 l0_1 a0_2 x5_2 x234001_4 y248 true) = some (r1, r2, r3, r4, r5) := by first | (rw [hy252]; with_reducible exact H) | (have H2_ := (Option.bind_some _ _).symm.trans H; rw [hy252]; with_reducible exact H2_) | (have H2_ := (Option.bind_some _ _).symm.trans H; with_reducible exact H2_) | with_reducible exact H | (rw [hy252]; exact H) | exact H
                        have Ny252 := Aside0.mk hy252
                        clear hy252
                        have H' := Aside0.mk H
                        clear H
                        obtain ⟨Ao60, co60, eo60⟩ := Kd.R_slice HO_13.out
                        subst eo60
                        have p245 : 0 ≤ (x14_5 : Int) := of_decide_eq_true (by first | (with_reducible assumption) | assumption)
                        have q245 : x14_5 < (t242.length : Int) := of_decide_eq_true (by first | (with_reducible assumption) | assumption)
                        obtain ⟨ad245, e245, hx245_0, hx245_1, hx245_2, hx245_3, hx245_4⟩ := at_T49 (Kd.R_reads' HO_13.out).2.2 x14_5 p245 q245
                        cases e245
                        replace p245 := eq_true p245
                        replace q245 := eq_true q245
                        try go_wp2_with (first | ((with_reducible refine gate_callee (f := 28) rfl ?_); refine goesL_ (some 104) rfl rfl Try.func28 (by kernel_rfl) rfl #[.agg #[.int .i64 ((rd_T49 t242 x14_5).f0), .int .i64 ((rd_T49 t242 x14_5).f1), .string ((rd_T49 t242 x14_5).f2), .string ((rd_T49 t242 x14_5).f3), .int .i64 ((rd_T49 t242 x14_5).f4)], .slice Ao49 x6_2.length co49] rfl (by (try simp only [List.map_toArray, List.map_cons, List.map_nil]); first | done | rfl | (simp only [List.length_drop, List.length_take]; rfl)) ?_; (with_reducible refine (palinoderef16_meets.calls k5 ((rd_T49 t242 x14_5).f0) ((rd_T49 t242 x14_5).f1) ((rd_T49 t242 x14_5).f2) ((rd_T49 t242 x14_5).f3) ((rd_T49 t242 x14_5).f4) _ _ x6_2 true _ ?side1 ?side2 A56.out).mono ?_); (case side1 => repeat (first | exact (Kd.R_reads' HO_6.out).2.2 | (with_reducible refine Kd.C_alloc ?_ _) | (with_reducible refine Kd.C_drewN ?_ _) | (with_reducible refine Kd.C_drew ?_))); (case side2 => exact (Kd.R_reads' HO_6.out).2.1); rintro e w61 ⟨rfl, hb⟩; refine ⟨_, rfl, ?_⟩; have n0_ := Aside0.mk (Kd.R_below (by (with_reducible repeat (first | apply Kd.R_alloc | apply Kd.R_drewN | apply Kd.R_drew)); exact HO_6.out) hb); have n1_ := Aside0.mk (Kd.R_below (by (with_reducible repeat (first | apply Kd.R_alloc | apply Kd.R_drewN | apply Kd.R_drew)); exact HO_11.out) hb); have n2_ := Aside0.mk (Kd.R_below (by (with_reducible repeat (first | apply Kd.R_alloc | apply Kd.R_drewN | apply Kd.R_drew)); exact HO_13.out) hb); have n3_ := Aside0.mk (Kd.R_below (by (with_reducible repeat (first | apply Kd.R_alloc | apply Kd.R_drewN | apply Kd.R_drew)); exact HO_234001.out) hb); have n4_ := Aside0.mk (Kd.R_below (by (with_reducible repeat (first | apply Kd.R_alloc | apply Kd.R_drewN | apply Kd.R_drew)); exact HO_234002.out) hb); have n5_ := Aside0.mk (blk_below (g := gb219) (o := .cells #[.slice A0_0 l0_0.length c0_0, .slice A0_1 l0_1.length c0_1, .int .i64 a0_2] 25 (0, 0)) (by (with_reducible repeat (first | refine blk_drewN ?_ _ | refine blk_drew ?_ | refine blk_alloc ?_ _)); exact BK219.out) hb); have n6_ := Aside0.mk (blk_below (g := gb220) (o := .cells #[.int .i64 0, .slice none 0 0, .slice none 0 0, .bool false] 28 (0, 0)) (by (with_reducible repeat (first | refine blk_drewN ?_ _ | refine blk_drew ?_ | refine blk_alloc ?_ _)); exact BK220.out) hb); have n7_ := Aside0.mk (blk_below (g := gb233) (o := .cells #[.int .i64 x5_2, u234001, u234002, .bool true] 28 (0, 0)) (by (with_reducible repeat (first | refine blk_drewN ?_ _ | refine blk_drew ?_ | refine blk_alloc ?_ _)); exact BK233.out) hb); have n8_ := Aside0.mk (below_step (by repeat (first | (with_reducible first | exact HB.out | apply below_alloc | apply pw_below_drewN | apply below_drew1 | refine below_set ?_ GE219.out | refine below_set ?_ GE220.out | refine below_set ?_ GE233.out) | exact HB.out)) hb); clear HO_6; clear HO_11; clear HO_13; clear HO_234001; clear HO_234002; clear BK219; clear BK220; clear BK233; clear HB; have HO_6 := n0_; have HO_11 := n1_; have HO_13 := n2_; have HO_234001 := n3_; have HO_234002 := n4_; have BK219 := n5_; have BK220 := n6_; have BK233 := n7_; have HB := n8_; clear n0_ n1_ n2_ n3_ n4_ n5_ n6_ n7_ n8_; (try clear hb); (try clear hb2); (try clear hk); (try clear hi)))
                        have n0_ := Aside0.mk (Kd.R_drew HO_6.out)
                        have n1_ := Aside0.mk (Kd.R_drew HO_11.out)
                        have n2_ := Aside0.mk (Kd.R_drew HO_13.out)
                        have n3_ := Aside0.mk (Kd.R_drew HO_234001.out)
                        have n4_ := Aside0.mk (Kd.R_drew HO_234002.out)
                        have n5_ := Aside0.mk (blk_drew BK219.out)
                        have n6_ := Aside0.mk (blk_drew BK220.out)
                        have n7_ := Aside0.mk (blk_drew BK233.out)
                        have n8_ := Aside0.mk (below_drew1 HB.out)
                        clear HO_6
                        clear HO_11
                        clear HO_13
                        clear HO_234001
                        clear HO_234002
                        clear BK219
                        clear BK220
                        clear BK233
                        clear HB
                        have HO_6 := n0_
                        have HO_11 := n1_
                        have HO_13 := n2_
                        have HO_234001 := n3_
                        have HO_234002 := n4_
                        have BK219 := n5_
                        have BK220 := n6_
                        have BK233 := n7_
                        have HB := n8_
                        clear n0_ n1_ n2_ n3_ n4_ n5_ n6_ n7_ n8_
                        have p247 : 0 ≤ (x14_5 : Int) := of_decide_eq_true (by first | (with_reducible assumption) | assumption)
                        have q247 : x14_5 < (t242.length : Int) := of_decide_eq_true (by first | (with_reducible assumption) | assumption)
                        obtain ⟨ad247, e247, hx247_0, hx247_1, hx247_2, hx247_3, hx247_4⟩ := at_T49 (Kd.R_reads' HO_13.out).2.2 x14_5 p247 q247
                        obtain rfl : ad245 = ad247 := (by injection e247)
                        replace p247 := eq_true p247
                        replace q247 := eq_true q247
                        refine start_ (n := 11) (S := fun w' => w'.cell? ⟨gb233, 0, none⟩ = some (.int .i64 x5_2) ∧ w'.cell? ⟨gb233, 1, none⟩ = some (u234001) ∧ w'.cell? ⟨gb233, 2, none⟩ = some (u234002) ∧ w'.cell? ⟨gb233, 3, none⟩ = some (.bool true) ∧ w'.cell? (ad245.add ((x14_5).toNat * 5)) = some (.int .i64 ((rd_T49 t242 x14_5).f0)) ∧ w'.cell? ⟨(ad245.add ((x14_5).toNat * 5)).block, (ad245.add ((x14_5).toNat * 5)).off + 1, none⟩ = some (.int .i64 ((rd_T49 t242 x14_5).f1)) ∧ w'.cell? ⟨(ad245.add ((x14_5).toNat * 5)).block, (ad245.add ((x14_5).toNat * 5)).off + 2, none⟩ = some (.string ((rd_T49 t242 x14_5).f2)) ∧ w'.cell? ⟨(ad245.add ((x14_5).toNat * 5)).block, (ad245.add ((x14_5).toNat * 5)).off + 3, none⟩ = some (.string ((rd_T49 t242 x14_5).f3)) ∧ w'.cell? ⟨(ad245.add ((x14_5).toNat * 5)).block, (ad245.add ((x14_5).toNat * 5)).off + 4, none⟩ = some (.int .i64 ((rd_T49 t242 x14_5).f4))) (ds := [8, 10]) #[false, false, false, false, false, false, false, false, false, false, false] (by kernel_rfl) rfl rfl ⟨(blk_cell BK233.out 0).trans rfl, (blk_cell BK233.out 1).trans rfl, (blk_cell BK233.out 2).trans rfl, (blk_cell BK233.out 3).trans rfl, hx247_0, hx247_1, hx247_2, hx247_3, hx247_4⟩ (fun hHeld => ?_); refine with_tabW palinoderef16_Pick.tab35 palinoderef16_Pick.bits35 (fun HT_ HW_ => ?_)
                        generalize w61.drew = w62 at HO_6 HO_11 HO_13 HO_234001 HO_234002 BK219 BK220 BK233 HB hx247_0 hx247_1 hx247_2 hx247_3 hx247_4 hHeld ⊢
                        refine pure_ (i := 0) (N := some 106) (v := ?_) (a' := ?_) #[true, false, false, false, false, false, false, false, false, false, false] rfl rfl (any_of HT_.out (by kernel_rfl)) (fun _ _ _ h => h) (Or.inl ⟨by rfl, ?_⟩) ?_ ?_
                        rotate_left
                        · intro w'
                          go_simp
                          with_reducible rfl
                        rotate_left
                        · simp only [Act.put, List.setIfInBounds_toArray, List.set_cons_zero, List.set_cons_succ, i64_w, i32_w]
                          rfl
                        refine pure_ (i := 2) (N := some 108) (v := ?_) (a' := ?_) #[true, false, true, false, false, false, false, false, false, false, false] rfl rfl (any_of HT_.out (by kernel_rfl)) (fun _ _ _ h => h) (Or.inl ⟨by rfl, ?_⟩) ?_ ?_
                        rotate_left
                        · intro w'
                          go_simp
                          with_reducible rfl
                        rotate_left
                        · simp only [Act.put, List.setIfInBounds_toArray, List.set_cons_zero, List.set_cons_succ, i64_w, i32_w]
                          rfl
                        refine pure_ (i := 3) (N := some 109) (v := ?_) (a' := ?_) #[true, false, true, true, false, false, false, false, false, false, false] rfl rfl (any_of HT_.out (by kernel_rfl)) (fun _ _ _ h => h) (Or.inl ⟨by rfl, ?_⟩) ?_ ?_
                        rotate_left
                        · intro w'
                          go_simp
                          with_reducible rfl
                        rotate_left
                        · simp only [Act.put, List.setIfInBounds_toArray, List.set_cons_zero, List.set_cons_succ, i64_w, i32_w]
                          rfl
                        refine pure_ (i := 4) (N := some 110) (v := ?_) (a' := ?_) #[true, false, true, true, true, false, false, false, false, false, false] rfl rfl (any_of HT_.out (by kernel_rfl)) (fun _ _ _ h => h) (Or.inl ⟨by rfl, ?_⟩) ?_ ?_
                        rotate_left
                        · intro w'
                          go_simp
                          with_reducible rfl
                        rotate_left
                        · simp only [Act.put, List.setIfInBounds_toArray, List.set_cons_zero, List.set_cons_succ, i64_w, i32_w]
                          rfl
                        refine pure_ (i := 5) (N := some 111) (v := ?_) (a' := ?_) #[true, false, true, true, true, true, false, false, false, false, false] rfl rfl (any_of HT_.out (by kernel_rfl)) (fun _ _ _ h => h) (Or.inl ⟨by rfl, ?_⟩) ?_ ?_
                        rotate_left
                        · intro w'
                          go_simp
                          with_reducible rfl
                        rotate_left
                        · simp only [Act.put, List.setIfInBounds_toArray, List.set_cons_zero, List.set_cons_succ, i64_w, i32_w]
                          rfl
                        refine take_ (i := 1) (N := some 107) (v := ?_) (a' := ?_) #[true, true, true, true, true, true, false, false, false, false, false] rfl rfl (take_ofW HT_.out HW_.out (by kernel_rfl)) (fun _ _ _ h => h) (Or.inl ⟨by rfl, ?_⟩) hHeld ?_ ?_
                        rotate_left
                        · rintro w' ⟨s0, s1, s2, s3, s4, s5, s6, s7, s8⟩
                          go_simp
                          with_reducible rfl
                        rotate_left
                        · simp only [Act.put, List.setIfInBounds_toArray, List.set_cons_zero, List.set_cons_succ, i64_w, i32_w]
                          rfl
                        refine take_ (i := 6) (N := some 112) (v := ?_) (a' := ?_) #[true, true, true, true, true, true, true, false, false, false, false] rfl rfl (take_ofW HT_.out HW_.out (by kernel_rfl)) (fun _ _ _ h => h) (Or.inl ⟨by rfl, ?_⟩) hHeld ?_ ?_
                        rotate_left
                        · rintro w' ⟨s0, s1, s2, s3, s4, s5, s6, s7, s8⟩
                          go_simp
                          with_reducible rfl
                        rotate_left
                        · simp only [Act.put, List.setIfInBounds_toArray, List.set_cons_zero, List.set_cons_succ, i64_w, i32_w]
                          rfl
                        refine one_ (i := 7) (N := some 113) #[true, true, true, true, true, true, true, true, false, false, false] rfl rfl (one_of HT_.out (by kernel_rfl)) (by decide) (fun K hK => ?_)
                        refine value_ (w1 := ?_) (v := ?_) (by rfl) rfl ?_ ?_
                        rotate_left 2
                        · go_simp
                          constructor
                          · rfl
                          · rfl
                        refine hK.out _ _ ⟨(blk_cell (blk_alloc BK233.out _) 0).trans rfl, (blk_cell (blk_alloc BK233.out _) 1).trans rfl, (blk_cell (blk_alloc BK233.out _) 2).trans rfl, (blk_cell (blk_alloc BK233.out _) 3).trans rfl, (World.cell?_alloc_lt _ _ _ (World.block_lt_of_cell? _ _ (hHeld.2.2.2.2.1))).trans (hHeld.2.2.2.2.1), (World.cell?_alloc_lt _ _ _ (World.block_lt_of_cell? _ _ (hHeld.2.2.2.2.2.1))).trans (hHeld.2.2.2.2.2.1), (World.cell?_alloc_lt _ _ _ (World.block_lt_of_cell? _ _ (hHeld.2.2.2.2.2.2.1))).trans (hHeld.2.2.2.2.2.2.1), (World.cell?_alloc_lt _ _ _ (World.block_lt_of_cell? _ _ (hHeld.2.2.2.2.2.2.2.1))).trans (hHeld.2.2.2.2.2.2.2.1), (World.cell?_alloc_lt _ _ _ (World.block_lt_of_cell? _ _ (hHeld.2.2.2.2.2.2.2.2))).trans (hHeld.2.2.2.2.2.2.2.2)⟩ (fun hHeld => ?_)
                        clear hK K
                        refine norm_ (a' := ?_) ?_ ?_
                        rotate_left
                        · show Act.put _ (some 113) _ = _
                          simp only [Act.put, List.setIfInBounds_toArray, List.set_cons_zero, List.set_cons_succ, i64_w, i32_w]
                          rfl
                        refine last_ (i := 8) (N := some 114) #[true, true, true, true, true, true, true, true, true, false, false] rfl rfl (one_of HT_.out (by kernel_rfl)) (by decide) (fun K hK => ?_)
                        refine Kd.R_append_step (Kd.int .i64) (w0 := w) w.heap.size (by rfl) (.tmp 107) (.tmp 113) 23 3 (.int .i64 0) 8 rfl Try.underlying23 info3 rfl (by decide) (by omega) u234002 x234002_5 ((rd_T49 t242 x14_5).f0) [.int .i64 ((rd_T49 t242 x14_5).f0)] (fun k_ => some k_ ≠ (u234001 : Value).ownBlock) (fun _ => False) rfl rfl ?aP (fun _ hk => hk.elim) ?aF ?aO ?aB ?aS ?aL ?_
                        (case aP => exact rfl)
                        (case aB => exact (by repeat (first | (with_reducible first | exact HB.out | apply below_alloc | apply pw_below_drewN | apply below_drew1 | refine below_set ?_ GE219.out | refine below_set ?_ GE220.out | refine below_set ?_ GE233.out) | exact HB.out)))
                        (case aF => exact (fun k_ hk => Kd.fresh' (Kd.R_lt (by (with_reducible repeat (first | apply Kd.R_alloc | apply Kd.R_drewN | apply Kd.R_drew)); exact HO_234001.out)) k_ hk))
                        (case aO => exact (by (with_reducible repeat (first | apply Kd.R_alloc | apply Kd.R_drewN | apply Kd.R_drew)); exact HO_234002.out))
                        (case aS => exact (below_size (by repeat (first | (with_reducible first | exact HB.out | apply below_alloc | apply pw_below_drewN | apply below_drew1 | refine below_set ?_ GE219.out | refine below_set ?_ GE220.out | refine below_set ?_ GE233.out) | exact HB.out))))
                        (case aL => have := LMc58.out; omega)
                        intro v249 w63 ho hb hg hat
                        rw [← Ny248.out] at ho
                        have n0_ := Aside0.mk (Kd.R_over' (by (with_reducible repeat (first | apply Kd.R_alloc | apply Kd.R_drewN | apply Kd.R_drew)); exact HO_6.out) (Kd.R_typed (by (with_reducible repeat (first | apply Kd.R_alloc | apply Kd.R_drewN | apply Kd.R_drew)); exact HO_234002.out)) (by decide) hg)
                        have n1_ := Aside0.mk (Kd.R_over' (by (with_reducible repeat (first | apply Kd.R_alloc | apply Kd.R_drewN | apply Kd.R_drew)); exact HO_11.out) (Kd.R_typed (by (with_reducible repeat (first | apply Kd.R_alloc | apply Kd.R_drewN | apply Kd.R_drew)); exact HO_234002.out)) (by decide) hg)
                        have n2_ := Aside0.mk (Kd.R_over' (by (with_reducible repeat (first | apply Kd.R_alloc | apply Kd.R_drewN | apply Kd.R_drew)); exact HO_13.out) (Kd.R_typed (by (with_reducible repeat (first | apply Kd.R_alloc | apply Kd.R_drewN | apply Kd.R_drew)); exact HO_234002.out)) (by decide) hg)
                        have n3_ := Aside0.mk (Kd.R_after (ok := (fun _ => True)) (by (with_reducible repeat (first | apply Kd.R_alloc | apply Kd.R_drewN | apply Kd.R_drew)); exact Kd.R_mono HO_234001.out (fun _ hk => ⟨trivial, hk⟩)) hg hat)
                        have n4_ := Aside0.mk (blk_grown (g := gb219) (o := .cells #[.slice A0_0 l0_0.length c0_0, .slice A0_1 l0_1.length c0_1, .int .i64 a0_2] 25 (0, 0)) (by (with_reducible repeat (first | refine blk_drewN ?_ _ | refine blk_drew ?_ | refine blk_alloc ?_ _)); exact BK219.out) hg (Kd.R_ne HO_234002.out BK219.out (by decide)))
                        have n5_ := Aside0.mk (blk_grown (g := gb220) (o := .cells #[.int .i64 0, .slice none 0 0, .slice none 0 0, .bool false] 28 (0, 0)) (by (with_reducible repeat (first | refine blk_drewN ?_ _ | refine blk_drew ?_ | refine blk_alloc ?_ _)); exact BK220.out) hg (Kd.R_ne HO_234002.out BK220.out (by decide)))
                        have n6_ := Aside0.mk (blk_grown (g := gb233) (o := .cells #[.int .i64 x5_2, u234001, u234002, .bool true] 28 (0, 0)) (by (with_reducible repeat (first | refine blk_drewN ?_ _ | refine blk_drew ?_ | refine blk_alloc ?_ _)); exact BK233.out) hg (Kd.R_ne HO_234002.out BK233.out (by decide)))
                        have n7_ := Aside0.mk (hb)
                        have n8_ := Aside0.mk (ho)
                        clear HO_6
                        clear HO_11
                        clear HO_13
                        clear HO_234001
                        clear BK219
                        clear BK220
                        clear BK233
                        clear HB
                        clear HO_234002
                        have HO_6 := n0_
                        have HO_11 := n1_
                        have HO_13 := n2_
                        have HO_234001 := n3_
                        have BK219 := n4_
                        have BK220 := n5_
                        have BK233 := n6_
                        have HB := n7_
                        have HO250 := n8_
                        clear n0_ n1_ n2_ n3_ n4_ n5_ n6_ n7_ n8_
                        clear ho hb hg hat
                        obtain ⟨Ao64, co64, eo64⟩ := Kd.R_slice HO250.out
                        (first | subst eo64 | (injection eo64 with f1_ f2_ f3_; have f4_ := f1_.symm; have f5_ := f3_.symm; clear f1_ f2_ f3_; subst f4_; subst f5_))
                        refine hK.out _ _ ?_
                        clear hK K
                        refine norm_ (a' := ?_) ?_ ?_
                        rotate_left
                        · show Act.put _ (some 114) _ = _
                          simp only [Act.put, List.setIfInBounds_toArray, List.set_cons_zero, List.set_cons_succ, i64_w, i32_w]
                          rfl
                        refine pure_ (i := 9) (N := some 115) (v := ?_) (a' := ?_) #[true, true, true, true, true, true, true, true, true, true, false] rfl rfl (any_of HT_.out (by kernel_rfl)) (fun _ _ _ h => h) (Or.inl ⟨by rfl, ?_⟩) ?_ ?_
                        rotate_left
                        · intro w'
                          go_simp
                          with_reducible rfl
                        rotate_left
                        · simp only [Act.put, List.setIfInBounds_toArray, List.set_cons_zero, List.set_cons_succ, i64_w, i32_w]
                          rfl
                        refine last_ (i := 10) (N := none) #[true, true, true, true, true, true, true, true, true, true, true] rfl rfl (one_of HT_.out (by kernel_rfl)) (by decide) (fun K hK => ?_)
                        have hs65 : w63.cell? ⟨gb233, 2, none⟩ = some (u234002) := (blk_cell BK233.out 2).trans rfl
                        have hfs65 := blk_frozen BK233.out 2
                        have hns65_0 := NB219_233.out
                        have hns65_1 := NB220_233.out
                        have hms65_0 := NB233_219.out
                        have hms65_1 := NB233_220.out
                        refine skip_ (w1 := ?_) (by rfl) rfl ?_ ?_
                        rotate_left
                        · go_simp
                          rfl
                        refine hK.out _ _ ?_
                        clear hK K
                        refine done_ (done_of HT_.out (by kernel_rfl)) ?_
                        have p251 : 0 ≤ (x14_5 : Int) := of_decide_eq_true (by first | (with_reducible assumption) | assumption)
                        have q251 : x14_5 < (t242.length : Int) := of_decide_eq_true (by first | (with_reducible assumption) | assumption)
                        obtain ⟨ad251, e251, hx251_0, hx251_1, hx251_2, hx251_3, hx251_4⟩ := at_T49 (Kd.R_reads' HO_13.out).2.2 x14_5 p251 q251
                        obtain rfl : ad245 = ad251 := (by injection e251)
                        have hn251_0 : ad245.block ≠ gb233 := Kd.own_blk (Kd.R_ne HO_13.out BK233.out (by decide))
                        replace hx251_0 := (cell_far (p := ⟨gb233, 2, none⟩) (by first | (rw [add_block]; exact hn251_0) | (show (Addr.add _ _).block ≠ _; rw [add_block]; exact hn251_0) | exact hn251_0) (.slice Ao64 y248.length co64)).trans hx251_0
                        replace hx251_1 := (cell_far (p := ⟨gb233, 2, none⟩) (by first | (rw [add_block]; exact hn251_0) | (show (Addr.add _ _).block ≠ _; rw [add_block]; exact hn251_0) | exact hn251_0) (.slice Ao64 y248.length co64)).trans hx251_1
                        replace hx251_2 := (cell_far (p := ⟨gb233, 2, none⟩) (by first | (rw [add_block]; exact hn251_0) | (show (Addr.add _ _).block ≠ _; rw [add_block]; exact hn251_0) | exact hn251_0) (.slice Ao64 y248.length co64)).trans hx251_2
                        replace hx251_3 := (cell_far (p := ⟨gb233, 2, none⟩) (by first | (rw [add_block]; exact hn251_0) | (show (Addr.add _ _).block ≠ _; rw [add_block]; exact hn251_0) | exact hn251_0) (.slice Ao64 y248.length co64)).trans hx251_3
                        replace hx251_4 := (cell_far (p := ⟨gb233, 2, none⟩) (by first | (rw [add_block]; exact hn251_0) | (show (Addr.add _ _).block ≠ _; rw [add_block]; exact hn251_0) | exact hn251_0) (.slice Ao64 y248.length co64)).trans hx251_4
                        clear hn251_0
                        replace p251 := eq_true p251
                        replace q251 := eq_true q251
                        try go_wp2_with (first | ((with_reducible refine gate_builtin (b := .append) (xs := #[.tmp 116, .tmp 121]) rfl ?_); at_builtin; refine Kd.R_append k49 (w0 := w) w.heap.size rfl (.tmp 116) (.tmp 121) 22 49 (.agg #[(.int .i64 0), (.int .i64 0), (.string ⟨#[]⟩), (.string ⟨#[]⟩), (.int .i64 0)]) 56 rfl Try.underlying22 info49 rfl (by decide) (by omega) u11 x11_5 (⟨(rd_T49 t242 x14_5).f0, (rd_T49 t242 x14_5).f1, (rd_T49 t242 x14_5).f2, (rd_T49 t242 x14_5).f3, (rd_T49 t242 x14_5).f4⟩ : S49) [.int .i64 ((rd_T49 t242 x14_5).f0), .int .i64 ((rd_T49 t242 x14_5).f1), .string ((rd_T49 t242 x14_5).f2), .string ((rd_T49 t242 x14_5).f3), .int .i64 ((rd_T49 t242 x14_5).f4)] (fun k_ => some k_ ≠ (.slice Ao49 x6_2.length co49 : Value).ownBlock ∧ some k_ ≠ (.slice (some ad245) t242.length co60 : Value).ownBlock) (fun _ => False) rfl (by first | (go_simp; done) | (go_simp; rfl)) ?aP (fun _ hk => hk.elim) ?aF ?aO ?aB ?aS ?aL ?_; (case aP => exact k49_mkM _ _ _ (⟨(rd_T49 t242 x14_5).f0, (rd_T49 t242 x14_5).f1, (rd_T49 t242 x14_5).f2, (rd_T49 t242 x14_5).f3, (rd_T49 t242 x14_5).f4⟩ : S49)); (case aB => exact (by repeat (first | (with_reducible first | exact HB.out | apply below_alloc | apply pw_below_drewN | apply below_drew1 | refine below_set ?_ GE219.out | refine below_set ?_ GE220.out | refine below_set ?_ GE233.out) | exact HB.out))); (case aF => exact (fun k_ hk => ⟨Kd.fresh' (Kd.R_lt (by (with_reducible repeat (first | apply Kd.R_alloc | apply Kd.R_drewN | apply Kd.R_drew)); exact (Kd.R_mono (Kd.R_far (p := ⟨gb233, 2, none⟩) (Kd.R_types HO_6.out BK233.out (by decide)) (fun _ hk => hk.2) (.slice Ao64 y248.length co64)) (fun _ h_ => h_.1)))) k_ hk, Kd.fresh' (Kd.R_lt (by (with_reducible repeat (first | apply Kd.R_alloc | apply Kd.R_drewN | apply Kd.R_drew)); exact (Kd.R_mono (Kd.R_far (p := ⟨gb233, 2, none⟩) (Kd.R_types HO_13.out BK233.out (by decide)) (fun _ hk => hk.2) (.slice Ao64 y248.length co64)) (fun _ h_ => h_.1)))) k_ hk⟩)); (case aO => exact (by (with_reducible repeat (first | apply Kd.R_alloc | apply Kd.R_drewN | apply Kd.R_drew)); exact Kd.R_mono (Kd.R_far (p := ⟨gb233, 2, none⟩) (Kd.R_types HO_11.out BK233.out (by decide)) (fun _ hk => hk.2) (.slice Ao64 y248.length co64)) (fun _ hk => ⟨hk.1.1, hk.1.2⟩))); (case aS => exact (below_size (by repeat (first | (with_reducible first | exact HB.out | apply below_alloc | apply pw_below_drewN | apply below_drew1 | refine below_set ?_ GE219.out | refine below_set ?_ GE220.out | refine below_set ?_ GE233.out) | exact HB.out)))); (case aL => have := LMc59.out; omega); intro v253 w66 ho hb hg hat; rw [← Ny252.out] at ho; have n0_ := Aside0.mk (Kd.R_after (ok := (fun k_ => some k_ ≠ (.slice (some ad245) t242.length co60 : Value).ownBlock)) (by (with_reducible repeat (first | apply Kd.R_alloc | apply Kd.R_drewN | apply Kd.R_drew)); exact Kd.R_mono (Kd.R_far (p := ⟨gb233, 2, none⟩) (Kd.R_types HO_6.out BK233.out (by decide)) (fun _ hk => hk.2) (.slice Ao64 y248.length co64)) (fun _ hk => ⟨hk.1.2, hk.1.1⟩)) hg hat); have n1_ := Aside0.mk (Kd.R_after (ok := (fun k_ => some k_ ≠ (.slice Ao49 x6_2.length co49 : Value).ownBlock)) (by (with_reducible repeat (first | apply Kd.R_alloc | apply Kd.R_drewN | apply Kd.R_drew)); exact Kd.R_mono (Kd.R_far (p := ⟨gb233, 2, none⟩) (Kd.R_types HO_13.out BK233.out (by decide)) (fun _ hk => hk.2) (.slice Ao64 y248.length co64)) (fun _ hk => ⟨hk.1.1, hk.1.2⟩)) hg hat); have n2_ := Aside0.mk (Kd.R_over' (by (with_reducible repeat (first | apply Kd.R_alloc | apply Kd.R_drewN | apply Kd.R_drew)); exact (Kd.R_mono (Kd.R_far (p := ⟨gb233, 2, none⟩) (Kd.R_types HO_234001.out BK233.out (by decide)) (fun _ hk => hk.2) (.slice Ao64 y248.length co64)) (fun _ h_ => h_.1))) (Kd.R_typed (by (with_reducible repeat (first | apply Kd.R_alloc | apply Kd.R_drewN | apply Kd.R_drew)); exact (Kd.R_mono (Kd.R_far (p := ⟨gb233, 2, none⟩) (Kd.R_types HO_11.out BK233.out (by decide)) (fun _ hk => hk.2) (.slice Ao64 y248.length co64)) (fun _ h_ => h_.1)))) (by decide) hg); have n3_ := Aside0.mk (blk_grown (g := gb219) (o := .cells #[.slice A0_0 l0_0.length c0_0, .slice A0_1 l0_1.length c0_1, .int .i64 a0_2] 25 (0, 0)) (by (with_reducible repeat (first | refine blk_drewN ?_ _ | refine blk_drew ?_ | refine blk_alloc ?_ _)); refine blk_far ?_ NB219_233.out _; (with_reducible repeat (first | refine blk_drewN ?_ _ | refine blk_drew ?_ | refine blk_alloc ?_ _)); exact BK219.out) hg (Kd.R_ne HO_11.out BK219.out (by decide))); have n4_ := Aside0.mk (blk_grown (g := gb220) (o := .cells #[.int .i64 0, .slice none 0 0, .slice none 0 0, .bool false] 28 (0, 0)) (by (with_reducible repeat (first | refine blk_drewN ?_ _ | refine blk_drew ?_ | refine blk_alloc ?_ _)); refine blk_far ?_ NB220_233.out _; (with_reducible repeat (first | refine blk_drewN ?_ _ | refine blk_drew ?_ | refine blk_alloc ?_ _)); exact BK220.out) hg (Kd.R_ne HO_11.out BK220.out (by decide))); have n5_ := Aside0.mk (blk_grown (g := gb233) (o := .cells #[.int .i64 x5_2, u234001, .slice Ao64 y248.length co64, .bool true] 28 (0, 0)) (by (with_reducible repeat (first | refine blk_drewN ?_ _ | refine blk_drew ?_ | refine blk_alloc ?_ _)); refine blk_put (cs := #[.int .i64 x5_2, u234001, u234002, .bool true]) ?_ 2 _ rfl; (with_reducible repeat (first | refine blk_drewN ?_ _ | refine blk_drew ?_ | refine blk_alloc ?_ _)); exact BK233.out) hg (Kd.R_ne HO_11.out BK233.out (by decide))); have n6_ := Aside0.mk (Kd.R_over' (by (with_reducible repeat (first | apply Kd.R_alloc | apply Kd.R_drewN | apply Kd.R_drew)); exact (Kd.R_mono (Kd.R_far (p := ⟨gb233, 2, none⟩) (Kd.R_types HO250.out BK233.out (by decide)) (fun _ hk => hk.2) (.slice Ao64 y248.length co64)) (fun _ h_ => h_.1))) (Kd.R_typed (by (with_reducible repeat (first | apply Kd.R_alloc | apply Kd.R_drewN | apply Kd.R_drew)); exact (Kd.R_mono (Kd.R_far (p := ⟨gb233, 2, none⟩) (Kd.R_types HO_11.out BK233.out (by decide)) (fun _ hk => hk.2) (.slice Ao64 y248.length co64)) (fun _ h_ => h_.1)))) (by decide) hg); have n7_ := Aside0.mk (hb); have n8_ := Aside0.mk (ho); clear HO_6; clear HO_13; clear HO_234001; clear BK219; clear BK220; clear BK233; clear HO250; clear HB; clear HO_11; have HO_6 := n0_; have HO_13 := n1_; have HO_234001 := n2_; have BK219 := n3_; have BK220 := n4_; have BK233 := n5_; have HO250 := n6_; have HB := n7_; have HO254 := n8_; clear n0_ n1_ n2_ n3_ n4_ n5_ n6_ n7_ n8_; clear ho hb hg hat))
                        go_roundg k5
                        case measure => have := HJ4.out; have := HK2.out; have := HJ14.out; have := HK4.out; have := HK5.out; omega
                        case rel => exact ⟨(y252), (wrap64 (x14_5 + 1)), (y248), (.slice Ao64 y248.length co64), (by first | rfl | (simp; done) | (simp [*]; done)), H', ⟨by have := HJ4.out; have := HK2.out; have := HJ14.out; have := HK4.out; have := HK5.out; omega⟩, ⟨by (with_reducible repeat (first | apply Kd.R_alloc | apply Kd.R_drewN | apply Kd.R_drew)); exact Kd.R_mono HO_6.out (fun _ hk => ⟨hk.2, hk.1⟩)⟩, ⟨by (with_reducible repeat (first | apply Kd.R_alloc | apply Kd.R_drewN | apply Kd.R_drew)); exact HO254.out⟩, ⟨by (with_reducible repeat (first | apply Kd.R_alloc | apply Kd.R_drewN | apply Kd.R_drew)); exact HO_13.out⟩, ⟨by (with_reducible repeat (first | apply Kd.R_alloc | apply Kd.R_drewN | apply Kd.R_drew)); exact Kd.R_mono HO_234001.out (fun _ hk => hk.2)⟩, ⟨by (with_reducible repeat (first | apply Kd.R_alloc | apply Kd.R_drewN | apply Kd.R_drew)); exact HO250.out⟩, ⟨by (with_reducible repeat (first | refine blk_drewN ?_ _ | refine blk_drew ?_ | refine blk_alloc ?_ _)); exact BK219.out⟩, ⟨by (with_reducible repeat (first | refine blk_drewN ?_ _ | refine blk_drew ?_ | refine blk_alloc ?_ _)); exact BK220.out⟩, ⟨by (with_reducible repeat (first | refine blk_drewN ?_ _ | refine blk_drew ?_ | refine blk_alloc ?_ _)); exact BK233.out⟩, ⟨by repeat (first | (with_reducible first | exact HB.out | apply below_alloc | apply pw_below_drewN | apply below_drew1 | refine below_set ?_ GE219.out | refine below_set ?_ GE220.out | refine below_set ?_ GE233.out) | exact HB.out)⟩⟩
                      rw [if_neg c54] at H
                      have c54b0 : decide (x14_5 < (t242.length : Int)) = false := decide_eq_false c54
                      clear c54
                      have H' := Aside0.mk H
                      clear H
                      obtain ⟨Ao69, co69, eo69⟩ := Kd.R_slice HO_13.out
                      subst eo69
                      go_wp2
                      go_loopg [16] k5 (fun kq v16 w' => ∃ (x16_6 : Int) (x234003_6 : Bool), v16 = .int .i64 x16_6 ∧ Aside0 (palinoderef16_Pick.l4 kq x11_5 x16_6 l0_0 l0_1 a0_2 x5_2 x234001_4 x234002_5 x234003_6 = some (r1, r2, r3, r4, r5)) ∧ Aside0 (kq ≤ k5) ∧ Aside0 (Kd.R k49 49 w' w.heap.size (fun _ => True) u11 x11_5) ∧ Aside0 (Kd.R (Kd.int .i64) 3 w' w.heap.size (fun k_ => some k_ ≠ (u234002 : Value).ownBlock) u234001 x234001_4) ∧ Aside0 (Kd.R (Kd.int .i64) 3 w' w.heap.size (fun k_ => some k_ ≠ (u234001 : Value).ownBlock) u234002 x234002_5) ∧ Aside0 (w'.heap[gb219]? = some (.cells #[(.slice A0_0 l0_0.length c0_0), (.slice A0_1 l0_1.length c0_1), .int .i64 a0_2] 25 (0, 0))) ∧ Aside0 (w'.heap[gb220]? = some (.cells #[.int .i64 0, (.slice none 0 0), (.slice none 0 0), .bool false] 28 (0, 0))) ∧ Aside0 (w'.heap[gb233]? = some (.cells #[.int .i64 x5_2, u234001, u234002, .bool x234003_6] 28 (0, 0))) ∧ Aside0 (Below w.heap.size w w'))
                      case atStart => exact ⟨(wrap64 (x5_2 + 2)), (true), (by first | rfl | (simp; done) | (simp [*]; done)), H', ⟨Nat.le_refl _⟩, ⟨by (with_reducible repeat (first | apply Kd.R_alloc | apply Kd.R_drewN | apply Kd.R_drew)); exact Kd.R_mono HO_11.out (fun _ hk => trivial)⟩, ⟨by (with_reducible repeat (first | apply Kd.R_alloc | apply Kd.R_drewN | apply Kd.R_drew)); exact HO_234001.out⟩, ⟨by (with_reducible repeat (first | apply Kd.R_alloc | apply Kd.R_drewN | apply Kd.R_drew)); exact HO_234002.out⟩, ⟨by (with_reducible repeat (first | refine blk_drewN ?_ _ | refine blk_drew ?_ | refine blk_alloc ?_ _)); exact BK219.out⟩, ⟨by (with_reducible repeat (first | refine blk_drewN ?_ _ | refine blk_drew ?_ | refine blk_alloc ?_ _)); exact BK220.out⟩, ⟨by (with_reducible repeat (first | refine blk_drewN ?_ _ | refine blk_drew ?_ | refine blk_alloc ?_ _)); exact BK233.out⟩, ⟨by repeat (first | (with_reducible first | exact HB.out | apply below_alloc | apply pw_below_drewN | apply below_drew1 | refine below_set ?_ GE219.out | refine below_set ?_ GE220.out | refine below_set ?_ GE233.out) | exact HB.out)⟩⟩
                      case round =>
                        clear H'
                        try clear c1
                        try clear c2
                        try clear p2
                        try clear q2
                        try clear hx2
                        try clear c3
                        try clear c4
                        try clear c5
                        try clear p6
                        try clear c8
                        try clear c10
                        try clear c13
                        try clear c14
                        try clear c14b0
                        try clear c14b1
                        try clear c16
                        try clear c16b0
                        try clear c17
                        try clear c19
                        try clear c22
                        try clear c22b0
                        try clear p22
                        try clear q22
                        try clear hx22
                        try clear c23
                        try clear c23b0
                        try clear p23
                        try clear q23
                        try clear hx23
                        try clear p24
                        try clear q24
                        try clear hx24
                        try clear p25
                        try clear q25
                        try clear hx25
                        try clear c26
                        try clear c26b0
                        try clear c27
                        try clear c27b0
                        try clear c27b1
                        try clear c28
                        try clear q29
                        try clear c31
                        try clear c31b0
                        try clear c32
                        try clear c35
                        try clear c36
                        try clear c38
                        try clear c38b0
                        try clear c39
                        try clear c39b0
                        try clear c40
                        try clear c41
                        try clear c50
                        try clear c51
                        try clear c54
                        try clear c54b0
                        try clear c55
                        try clear c55b0
                        try clear c57
                        try clear c58
                        try clear c59
                        try clear p64
                        try clear hcz11_0
                        try clear hcz11_1
                        try clear hcz11_2
                        try clear hcz20_0
                        try clear hcz20_1
                        try clear hcz20_2
                        try clear hcz33_0
                        try clear hcz33_1
                        try clear hcz33_2
                        try clear hcz33_3
                        try clear hcz37_0
                        try clear hcz37_1
                        try clear hcz37_2
                        try clear hcz37_3
                        try clear hcz52_0
                        try clear hcz52_1
                        try clear hcz52_2
                        try clear hcz9_0
                        try clear hcz9_1
                        try clear hcz9_2
                        try clear hfz11_0
                        try clear hfz11_1
                        try clear hfz11_2
                        try clear hfz20_0
                        try clear hfz20_1
                        try clear hfz20_2
                        try clear hfz33_0
                        try clear hfz33_1
                        try clear hfz33_2
                        try clear hfz33_3
                        try clear hfz37_0
                        try clear hfz37_1
                        try clear hfz37_2
                        try clear hfz37_3
                        try clear hfz52_0
                        try clear hfz52_1
                        try clear hfz52_2
                        try clear hfz9_0
                        try clear hfz9_1
                        try clear hfz9_2
                        try clear hx228_0
                        try clear hx228_1
                        try clear hx228_2
                        try clear hx228_3
                        try clear hx228_4
                        try clear hx234_0
                        try clear hx234_1
                        try clear hx234_2
                        try clear hx234_3
                        try clear hx234_4
                        try clear hx238_0
                        try clear hx238_1
                        try clear hx238_2
                        try clear hx238_3
                        try clear hx238_4
                        try clear hx245_0
                        try clear hx245_1
                        try clear hx245_2
                        try clear hx245_3
                        try clear hx245_4
                        try clear hx247_0
                        try clear hx247_1
                        try clear hx247_2
                        try clear hx247_3
                        try clear hx247_4
                        try clear hx251_0
                        try clear hx251_1
                        try clear hx251_2
                        try clear hx251_3
                        try clear hx251_4
                        try clear p2
                        try clear p22
                        try clear p228
                        try clear p23
                        try clear p234
                        try clear p238
                        try clear p245
                        try clear p247
                        try clear p251
                        try clear p6
                        try clear q2
                        try clear q22
                        try clear q228
                        try clear q23
                        try clear q234
                        try clear q238
                        try clear q245
                        try clear q247
                        try clear q251
                        try clear q29
                        obtain ⟨x16_6, x234003_6, rfl, HA, HK6, HO_11, HO_234001, HO_234002, BK219, BK220, BK233, HB⟩ := hrel
                        cases gk with
                        | zero => exact absurd HA.out (by simp [palinoderef16_Pick.l4])
                        | succ k6 =>
                          have H := HA.out
                          clear HA
                          simp only [palinoderef16_Pick.l4] at H
                          by_cases c70 : x16_6 < 4
                          rotate_left
                          · rw [if_neg c70] at H
                            have c70b0 : decide (x16_6 < 4) = false := decide_eq_false c70
                            clear c70
                            simp only [Option.some.injEq, Prod.mk.injEq] at H
                            obtain ⟨rfl, rfl, rfl, rfl, rfl⟩ := H
                            have hnb93 := NB233_219.out
                            have hnc93 := NB219_233.out
                            have hnb94 := NB233_220.out
                            have hnc94 := NB220_233.out
                            have hcz95_0 : wr.cell? ⟨gb233, 0, none⟩ = some (.int .i64 x5_2) := (blk_cell BK233.out 0).trans rfl
                            have hcz95_1 : wr.cell? ⟨gb233, 1, none⟩ = some (u234001) := (blk_cell BK233.out 1).trans rfl
                            have hcz95_2 : wr.cell? ⟨gb233, 2, none⟩ = some (u234002) := (blk_cell BK233.out 2).trans rfl
                            have hcz95_3 : wr.cell? ⟨gb233, 3, none⟩ = some (.bool x234003_6) := (blk_cell BK233.out 3).trans rfl
                            have hfz95_0 := blk_frozen BK233.out 0
                            have hfz95_1 := blk_frozen BK233.out 1
                            have hfz95_2 := blk_frozen BK233.out 2
                            have hfz95_3 := blk_frozen BK233.out 3
                            have hnb96 := NB220_219.out
                            have hnc96 := NB219_220.out
                            have hcz97_0 : wr.cell? ⟨gb220, 0, none⟩ = some (.int .i64 0) := (blk_cell BK220.out 0).trans rfl
                            have hcz97_1 : wr.cell? ⟨gb220, 1, none⟩ = some (.slice none 0 0) := (blk_cell BK220.out 1).trans rfl
                            have hcz97_2 : wr.cell? ⟨gb220, 2, none⟩ = some (.slice none 0 0) := (blk_cell BK220.out 2).trans rfl
                            have hcz97_3 : wr.cell? ⟨gb220, 3, none⟩ = some (.bool false) := (blk_cell BK220.out 3).trans rfl
                            have hfz97_0 := blk_frozen BK220.out 0
                            have hfz97_1 := blk_frozen BK220.out 1
                            have hfz97_2 := blk_frozen BK220.out 2
                            have hfz97_3 := blk_frozen BK220.out 3
                            obtain ⟨Ao98, co98, eo98⟩ := Kd.R_slice HO_234001.out
                            subst eo98
                            obtain ⟨Ao99, co99, eo99⟩ := Kd.R_slice HO_234002.out
                            subst eo99
                            go_wp2
                            refine bodyPost_ret (results_ct rfl _ _ gb220 28 #[.int .i64 x5_2, .slice Ao98 x234001_4.length co98, .slice Ao99 x234002_5.length co99, .bool x234003_6] (0, 0) _ rfl (by (with_reducible repeat (first | refine blk_drewN ?_ _ | refine blk_drew ?_ | refine blk_alloc ?_ _)); refine blk_put (cs := #[.int .i64 x5_2, .slice Ao98 x234001_4.length co98, .slice Ao99 x234002_5.length co99, .bool false]) ?_ 3 _ rfl; (with_reducible repeat (first | refine blk_drewN ?_ _ | refine blk_drew ?_ | refine blk_alloc ?_ _)); refine blk_put (cs := #[.int .i64 x5_2, .slice Ao98 x234001_4.length co98, .slice none 0 0, .bool false]) ?_ 2 _ rfl; (with_reducible repeat (first | refine blk_drewN ?_ _ | refine blk_drew ?_ | refine blk_alloc ?_ _)); refine blk_put (cs := #[.int .i64 x5_2, .slice none 0 0, .slice none 0 0, .bool false]) ?_ 1 _ rfl; (with_reducible repeat (first | refine blk_drewN ?_ _ | refine blk_drew ?_ | refine blk_alloc ?_ _)); refine blk_put (cs := #[.int .i64 0, .slice none 0 0, .slice none 0 0, .bool false]) ?_ 0 _ rfl; (with_reducible repeat (first | refine blk_drewN ?_ _ | refine blk_drew ?_ | refine blk_alloc ?_ _)); exact BK220.out) Try.underlying28 rfl (by kernel_rfl)) rfl ?_
                            exact ⟨_, _, by first | rfl | (simp [errW_none, errW_some] <;> rfl) | (simp [*, errW_none, errW_some] <;> rfl), by (with_reducible repeat (first | apply Kd.R_alloc | apply Kd.R_drewN | apply Kd.R_drew)); exact Kd.R_mono (Kd.R_far (p := ⟨gb220, 3, none⟩) (Kd.R_far (p := ⟨gb220, 2, none⟩) (Kd.R_far (p := ⟨gb220, 1, none⟩) (Kd.R_far (p := ⟨gb220, 0, none⟩) (Kd.R_types HO_234001.out BK220.out (by decide)) (fun _ hk => hk.2) (.int .i64 x5_2)) (fun _ hk => hk.2) (.slice Ao98 x234001_4.length co98)) (fun _ hk => hk.2) (.slice Ao99 x234002_5.length co99)) (fun _ hk => hk.2) (.bool x234003_6)) (fun _ hk => hk.1), by (with_reducible repeat (first | apply Kd.R_alloc | apply Kd.R_drewN | apply Kd.R_drew)); exact Kd.R_mono (Kd.R_far (p := ⟨gb220, 3, none⟩) (Kd.R_far (p := ⟨gb220, 2, none⟩) (Kd.R_far (p := ⟨gb220, 1, none⟩) (Kd.R_far (p := ⟨gb220, 0, none⟩) (Kd.R_types HO_234002.out BK220.out (by decide)) (fun _ hk => hk.2) (.int .i64 x5_2)) (fun _ hk => hk.2) (.slice Ao98 x234001_4.length co98)) (fun _ hk => hk.2) (.slice Ao99 x234002_5.length co99)) (fun _ hk => hk.2) (.bool x234003_6)) (fun _ hk => hk.1), by repeat (first | (with_reducible first | exact HB.out | apply below_alloc | apply pw_below_drewN | apply below_drew1 | refine below_set ?_ GE219.out | refine below_set ?_ GE220.out | refine below_set ?_ GE233.out) | exact HB.out)⟩
                          rw [if_pos c70] at H
                          have c70b0 : decide (x16_6 < 4) = true := decide_eq_true c70
                          clear c70
                          replace H := Option.bind_eq_some_iff.mp H
                          obtain ⟨t255, A710, H⟩ := H
                          replace H : (palinoderef16_Pick.l5 k6 x11_5 x16_6 t255 0 l0_0 l0_1 a0_2 x5_2 x234001_4 x234002_5 x234003_6) = some (r1, r2, r3, r4, r5) := H
                          have A71 := Aside0.mk A710
                          clear A710
                          have H' := Aside0.mk H
                          clear H
                          have hnb72 := NB219_220.out
                          have hnc72 := NB220_219.out
                          have hnb73 := NB219_233.out
                          have hnc73 := NB233_219.out
                          have hcz74_0 : wr.cell? ⟨gb219, 0, none⟩ = some (.slice A0_0 l0_0.length c0_0) := (blk_cell BK219.out 0).trans rfl
                          have hcz74_1 : wr.cell? ⟨gb219, 1, none⟩ = some (.slice A0_1 l0_1.length c0_1) := (blk_cell BK219.out 1).trans rfl
                          have hcz74_2 : wr.cell? ⟨gb219, 2, none⟩ = some (.int .i64 a0_2) := (blk_cell BK219.out 2).trans rfl
                          have hfz74_0 := blk_frozen BK219.out 0
                          have hfz74_1 := blk_frozen BK219.out 1
                          have hfz74_2 := blk_frozen BK219.out 2
                          go_wp2_with (first | ((with_reducible refine gate_callee (f := 27) rfl ?_); refine goesL_ (some 131) rfl rfl Try.func27 (by kernel_rfl) rfl #[.agg #[.slice A0_0 l0_0.length c0_0, .slice A0_1 l0_1.length c0_1, .int .i64 a0_2], .int .i64 x16_6] rfl (by (try simp only [List.map_toArray, List.map_cons, List.map_nil]); first | done | rfl | (simp only [List.length_drop, List.length_take]; rfl)) ?_; (with_reducible refine (palinoderef14_Level.calls k6 _ _ l0_0 _ _ l0_1 a0_2 x16_6 t255 _ ?side1 ?side2 ?side3 ?side4 A71.out).mono ?_); (case side1 => repeat (first | exact (Kd.C_below HR0_0.out HB.out) | (with_reducible refine Kd.C_alloc ?_ _) | (with_reducible refine Kd.C_drewN ?_ _) | (with_reducible refine Kd.C_drew ?_))); (case side2 => exact HC0_0.out); (case side3 => repeat (first | exact (Kd.C_below HR0_1.out HB.out) | (with_reducible refine Kd.C_alloc ?_ _) | (with_reducible refine Kd.C_drewN ?_ _) | (with_reducible refine Kd.C_drew ?_))); (case side4 => exact HC0_1.out); rintro e w75 ⟨v256, rfl, ho0, hb⟩; refine ⟨_, rfl, ?_⟩; have n0_ := Aside0.mk (Kd.R_elder' (by (with_reducible repeat (first | apply Kd.R_alloc | apply Kd.R_drewN | apply Kd.R_drew)); exact HO_11.out) (Kd.R_base ho0) hb); have n1_ := Aside0.mk (Kd.R_below (by (with_reducible repeat (first | apply Kd.R_alloc | apply Kd.R_drewN | apply Kd.R_drew)); exact HO_234001.out) hb); have n2_ := Aside0.mk (Kd.R_below (by (with_reducible repeat (first | apply Kd.R_alloc | apply Kd.R_drewN | apply Kd.R_drew)); exact HO_234002.out) hb); have n3_ := Aside0.mk (Kd.R_lower (Kd.R_new' ho0 (Kd.R_lt (by (with_reducible repeat (first | apply Kd.R_alloc | apply Kd.R_drewN | apply Kd.R_drew)); exact HO_11.out))) (below_size (by repeat (first | (with_reducible first | exact HB.out | apply below_alloc | apply pw_below_drewN | apply below_drew1 | refine below_set ?_ GE219.out | refine below_set ?_ GE220.out | refine below_set ?_ GE233.out) | exact HB.out)))); have n4_ := Aside0.mk (blk_below (g := gb219) (o := .cells #[.slice A0_0 l0_0.length c0_0, .slice A0_1 l0_1.length c0_1, .int .i64 a0_2] 25 (0, 0)) (by (with_reducible repeat (first | refine blk_drewN ?_ _ | refine blk_drew ?_ | refine blk_alloc ?_ _)); exact BK219.out) hb); have n5_ := Aside0.mk (blk_below (g := gb220) (o := .cells #[.int .i64 0, .slice none 0 0, .slice none 0 0, .bool false] 28 (0, 0)) (by (with_reducible repeat (first | refine blk_drewN ?_ _ | refine blk_drew ?_ | refine blk_alloc ?_ _)); exact BK220.out) hb); have n6_ := Aside0.mk (blk_below (g := gb233) (o := .cells #[.int .i64 x5_2, u234001, u234002, .bool x234003_6] 28 (0, 0)) (by (with_reducible repeat (first | refine blk_drewN ?_ _ | refine blk_drew ?_ | refine blk_alloc ?_ _)); exact BK233.out) hb); have n7_ := Aside0.mk (below_step (by repeat (first | (with_reducible first | exact HB.out | apply below_alloc | apply pw_below_drewN | apply below_drew1 | refine below_set ?_ GE219.out | refine below_set ?_ GE220.out | refine below_set ?_ GE233.out) | exact HB.out)) hb); clear HO_11; clear HO_234001; clear HO_234002; clear BK219; clear BK220; clear BK233; clear HB; have HO_11 := n0_; have HO_234001 := n1_; have HO_234002 := n2_; have HO257 := n3_; have BK219 := n4_; have BK220 := n5_; have BK233 := n6_; have HB := n7_; clear n0_ n1_ n2_ n3_ n4_ n5_ n6_ n7_; (try clear hb); (try clear hb2); (try clear hk); (try clear hi); (try clear ho0)))
                          go_loopg [18] k6 (fun kq v18 w' => ∃ (x18_7 : Int) (x234003_7 : Bool), v18 = .int .i64 x18_7 ∧ Aside0 (palinoderef16_Pick.l5 kq x11_5 x16_6 t255 x18_7 l0_0 l0_1 a0_2 x5_2 x234001_4 x234002_5 x234003_7 = some (r1, r2, r3, r4, r5)) ∧ Aside0 (kq ≤ k6) ∧ Aside0 (Kd.R k49 49 w' w.heap.size (fun k_ => some k_ ≠ (v256 : Value).ownBlock) u11 x11_5) ∧ Aside0 (Kd.R k49 49 w' w.heap.size (fun k_ => some k_ ≠ (u11 : Value).ownBlock) v256 t255) ∧ Aside0 (Kd.R (Kd.int .i64) 3 w' w.heap.size (fun k_ => some k_ ≠ (u234002 : Value).ownBlock) u234001 x234001_4) ∧ Aside0 (Kd.R (Kd.int .i64) 3 w' w.heap.size (fun k_ => some k_ ≠ (u234001 : Value).ownBlock) u234002 x234002_5) ∧ Aside0 (w'.heap[gb219]? = some (.cells #[(.slice A0_0 l0_0.length c0_0), (.slice A0_1 l0_1.length c0_1), .int .i64 a0_2] 25 (0, 0))) ∧ Aside0 (w'.heap[gb220]? = some (.cells #[.int .i64 0, (.slice none 0 0), (.slice none 0 0), .bool false] 28 (0, 0))) ∧ Aside0 (w'.heap[gb233]? = some (.cells #[.int .i64 x5_2, u234001, u234002, .bool x234003_7] 28 (0, 0))) ∧ Aside0 (Below w.heap.size w w'))
                          case atStart => exact ⟨(0), (x234003_6), (by first | rfl | (simp; done) | (simp [*]; done)), H', ⟨Nat.le_refl _⟩, ⟨by (with_reducible repeat (first | apply Kd.R_alloc | apply Kd.R_drewN | apply Kd.R_drew)); exact Kd.R_mono HO_11.out (fun _ hk => hk.2)⟩, ⟨by (with_reducible repeat (first | apply Kd.R_alloc | apply Kd.R_drewN | apply Kd.R_drew)); exact Kd.R_mono HO257.out (fun _ hk => hk.2)⟩, ⟨by (with_reducible repeat (first | apply Kd.R_alloc | apply Kd.R_drewN | apply Kd.R_drew)); exact HO_234001.out⟩, ⟨by (with_reducible repeat (first | apply Kd.R_alloc | apply Kd.R_drewN | apply Kd.R_drew)); exact HO_234002.out⟩, ⟨by (with_reducible repeat (first | refine blk_drewN ?_ _ | refine blk_drew ?_ | refine blk_alloc ?_ _)); exact BK219.out⟩, ⟨by (with_reducible repeat (first | refine blk_drewN ?_ _ | refine blk_drew ?_ | refine blk_alloc ?_ _)); exact BK220.out⟩, ⟨by (with_reducible repeat (first | refine blk_drewN ?_ _ | refine blk_drew ?_ | refine blk_alloc ?_ _)); exact BK233.out⟩, ⟨by repeat (first | (with_reducible first | exact HB.out | apply below_alloc | apply pw_below_drewN | apply below_drew1 | refine below_set ?_ GE219.out | refine below_set ?_ GE220.out | refine below_set ?_ GE233.out) | exact HB.out)⟩⟩
                          case round =>
                            clear H'
                            try clear c1
                            try clear c2
                            try clear p2
                            try clear q2
                            try clear hx2
                            try clear c3
                            try clear c4
                            try clear c5
                            try clear p6
                            try clear c7
                            try clear c8
                            try clear c10
                            try clear c13
                            try clear c14
                            try clear c14b0
                            try clear c14b1
                            try clear c16
                            try clear c16b0
                            try clear c17
                            try clear c19
                            try clear c22
                            try clear c22b0
                            try clear p22
                            try clear q22
                            try clear hx22
                            try clear c23
                            try clear c23b0
                            try clear p23
                            try clear q23
                            try clear hx23
                            try clear p24
                            try clear q24
                            try clear hx24
                            try clear p25
                            try clear q25
                            try clear hx25
                            try clear c26
                            try clear c26b0
                            try clear c27
                            try clear c27b0
                            try clear c27b1
                            try clear c28
                            try clear q29
                            try clear c31
                            try clear c31b0
                            try clear c32
                            try clear c35
                            try clear c36
                            try clear c38
                            try clear c38b0
                            try clear c39
                            try clear c39b0
                            try clear c40
                            try clear c41
                            try clear c50
                            try clear c51
                            try clear c54
                            try clear c54b0
                            try clear c55
                            try clear c55b0
                            try clear c57
                            try clear c58
                            try clear c59
                            try clear p64
                            try clear c70
                            try clear c70b0
                            try clear c72
                            try clear c73
                            try clear hcz11_0
                            try clear hcz11_1
                            try clear hcz11_2
                            try clear hcz20_0
                            try clear hcz20_1
                            try clear hcz20_2
                            try clear hcz33_0
                            try clear hcz33_1
                            try clear hcz33_2
                            try clear hcz33_3
                            try clear hcz37_0
                            try clear hcz37_1
                            try clear hcz37_2
                            try clear hcz37_3
                            try clear hcz52_0
                            try clear hcz52_1
                            try clear hcz52_2
                            try clear hcz74_0
                            try clear hcz74_1
                            try clear hcz74_2
                            try clear hcz9_0
                            try clear hcz9_1
                            try clear hcz9_2
                            try clear hfz11_0
                            try clear hfz11_1
                            try clear hfz11_2
                            try clear hfz20_0
                            try clear hfz20_1
                            try clear hfz20_2
                            try clear hfz33_0
                            try clear hfz33_1
                            try clear hfz33_2
                            try clear hfz33_3
                            try clear hfz37_0
                            try clear hfz37_1
                            try clear hfz37_2
                            try clear hfz37_3
                            try clear hfz52_0
                            try clear hfz52_1
                            try clear hfz52_2
                            try clear hfz74_0
                            try clear hfz74_1
                            try clear hfz74_2
                            try clear hfz9_0
                            try clear hfz9_1
                            try clear hfz9_2
                            try clear hx228_0
                            try clear hx228_1
                            try clear hx228_2
                            try clear hx228_3
                            try clear hx228_4
                            try clear hx234_0
                            try clear hx234_1
                            try clear hx234_2
                            try clear hx234_3
                            try clear hx234_4
                            try clear hx238_0
                            try clear hx238_1
                            try clear hx238_2
                            try clear hx238_3
                            try clear hx238_4
                            try clear hx245_0
                            try clear hx245_1
                            try clear hx245_2
                            try clear hx245_3
                            try clear hx245_4
                            try clear hx247_0
                            try clear hx247_1
                            try clear hx247_2
                            try clear hx247_3
                            try clear hx247_4
                            try clear hx251_0
                            try clear hx251_1
                            try clear hx251_2
                            try clear hx251_3
                            try clear hx251_4
                            try clear p2
                            try clear p22
                            try clear p228
                            try clear p23
                            try clear p234
                            try clear p238
                            try clear p24
                            try clear p245
                            try clear p247
                            try clear p25
                            try clear p251
                            try clear p6
                            try clear p64
                            try clear q2
                            try clear q22
                            try clear q228
                            try clear q23
                            try clear q234
                            try clear q238
                            try clear q24
                            try clear q245
                            try clear q247
                            try clear q25
                            try clear q251
                            try clear q29
                            obtain ⟨x18_7, x234003_7, rfl, HA, HK7, HO_11, HO_17, HO_234001, HO_234002, BK219, BK220, BK233, HB⟩ := hrel
                            cases gk with
                            | zero => exact absurd HA.out (by simp [palinoderef16_Pick.l5])
                            | succ k7 =>
                              have H := HA.out
                              clear HA
                              simp only [palinoderef16_Pick.l5] at H
                              by_cases c76 : x18_7 < (t255.length : Int)
                              rotate_left
                              · rw [if_neg c76] at H
                                have c76b0 : decide (x18_7 < (t255.length : Int)) = false := decide_eq_false c76
                                clear c76
                                have H' := Aside0.mk H
                                clear H
                                obtain ⟨Ao92, co92, eo92⟩ := Kd.R_slice HO_17.out
                                subst eo92
                                go_wp2
                                go_roundg k7
                                case measure => have := HJ4.out; have := HK2.out; have := HJ14.out; have := HK4.out; have := HK5.out; have := HK6.out; have := HK7.out; omega
                                case rel => exact ⟨(wrap64 (x16_6 + 1)), (x234003_7), (by first | rfl | (simp; done) | (simp [*]; done)), H', ⟨by have := HJ4.out; have := HK2.out; have := HJ14.out; have := HK4.out; have := HK5.out; have := HK6.out; have := HK7.out; omega⟩, ⟨by (with_reducible repeat (first | apply Kd.R_alloc | apply Kd.R_drewN | apply Kd.R_drew)); exact Kd.R_mono HO_11.out (fun _ hk => trivial)⟩, ⟨by (with_reducible repeat (first | apply Kd.R_alloc | apply Kd.R_drewN | apply Kd.R_drew)); exact HO_234001.out⟩, ⟨by (with_reducible repeat (first | apply Kd.R_alloc | apply Kd.R_drewN | apply Kd.R_drew)); exact HO_234002.out⟩, ⟨by (with_reducible repeat (first | refine blk_drewN ?_ _ | refine blk_drew ?_ | refine blk_alloc ?_ _)); exact BK219.out⟩, ⟨by (with_reducible repeat (first | refine blk_drewN ?_ _ | refine blk_drew ?_ | refine blk_alloc ?_ _)); exact BK220.out⟩, ⟨by (with_reducible repeat (first | refine blk_drewN ?_ _ | refine blk_drew ?_ | refine blk_alloc ?_ _)); exact BK233.out⟩, ⟨by repeat (first | (with_reducible first | exact HB.out | apply below_alloc | apply pw_below_drewN | apply below_drew1 | refine below_set ?_ GE219.out | refine below_set ?_ GE220.out | refine below_set ?_ GE233.out) | exact HB.out)⟩⟩
                              rw [if_pos c76] at H
                              have c76b0 : decide (x18_7 < (t255.length : Int)) = true := decide_eq_true c76
                              clear c76
                              by_cases c77 : 0 ≤ x18_7
                              rotate_left
                              · rw [if_neg c77] at H
                                exact absurd H (by simp)
                              rw [if_pos c77] at H
                              have c77b0 : decide (0 ≤ x18_7) = true := decide_eq_true c77
                              clear c77
                              replace H := Option.bind_eq_some_iff.mp H
                              obtain ⟨t259, A780, H⟩ := H
                              replace H : (if x234003_7 = true then (palinoderef16_Pick.l5 k7 x11_5 x16_6 t255 (wrap64 (x18_7 + 1)) l0_0 l0_1 a0_2 x5_2 x234001_4 x234002_5 (!t259)) else (palinoderef16_Pick.l5 k7 x11_5 x16_6 t255 (wrap64 (x18_7 + 1)) l0_0 l0_1 a0_2 x5_2 x234001_4 x234002_5 false)) = some (r1, r2, r3, r4, r5) := H
                              have A78 := Aside0.mk A780
                              clear A780
                              by_cases c79 : x234003_7 = true
                              · subst c79
                                have H1 : (palinoderef16_Pick.l5 k7 x11_5 x16_6 t255 (wrap64 (x18_7 + 1)) l0_0 l0_1 a0_2 x5_2 x234001_4 x234002_5 (!t259)) = some (r1, r2, r3, r4, r5) := by rw [if_pos rfl] at H; exact H
                                clear H
                                have H := H1
                                clear H1
                                have H' := Aside0.mk H
                                clear H
                                obtain ⟨Ao80, co80, eo80⟩ := Kd.R_slice HO_17.out
                                subst eo80
                                have p258 : 0 ≤ (x18_7 : Int) := of_decide_eq_true (by first | (with_reducible assumption) | assumption)
                                have q258 : x18_7 < (t255.length : Int) := of_decide_eq_true (by first | (with_reducible assumption) | assumption)
                                obtain ⟨ad258, e258, hx258_0, hx258_1, hx258_2, hx258_3, hx258_4⟩ := at_T49 (Kd.R_reads' HO_17.out).2.2 x18_7 p258 q258
                                cases e258
                                replace p258 := eq_true p258
                                replace q258 := eq_true q258
                                obtain ⟨Ao81, co81, eo81⟩ := Kd.R_slice HO_11.out
                                subst eo81
                                go_wp2_with (first | ((with_reducible refine gate_callee (f := 28) rfl ?_); refine goesL_ (some 143) rfl rfl Try.func28 (by kernel_rfl) rfl #[.agg #[.int .i64 ((rd_T49 t255 x18_7).f0), .int .i64 ((rd_T49 t255 x18_7).f1), .string ((rd_T49 t255 x18_7).f2), .string ((rd_T49 t255 x18_7).f3), .int .i64 ((rd_T49 t255 x18_7).f4)], .slice Ao81 x11_5.length co81] rfl (by (try simp only [List.map_toArray, List.map_cons, List.map_nil]); first | done | rfl | (simp only [List.length_drop, List.length_take]; rfl)) ?_; (with_reducible refine (palinoderef16_meets.calls k7 ((rd_T49 t255 x18_7).f0) ((rd_T49 t255 x18_7).f1) ((rd_T49 t255 x18_7).f2) ((rd_T49 t255 x18_7).f3) ((rd_T49 t255 x18_7).f4) _ _ x11_5 t259 _ ?side1 ?side2 A78.out).mono ?_); (case side1 => repeat (first | exact (Kd.R_reads' HO_11.out).2.2 | (with_reducible refine Kd.C_alloc ?_ _) | (with_reducible refine Kd.C_drewN ?_ _) | (with_reducible refine Kd.C_drew ?_))); (case side2 => exact (Kd.R_reads' HO_11.out).2.1); rintro e w82 ⟨rfl, hb⟩; refine ⟨_, rfl, ?_⟩; have n0_ := Aside0.mk (Kd.R_below (by (with_reducible repeat (first | apply Kd.R_alloc | apply Kd.R_drewN | apply Kd.R_drew)); exact HO_11.out) hb); have n1_ := Aside0.mk (Kd.R_below (by (with_reducible repeat (first | apply Kd.R_alloc | apply Kd.R_drewN | apply Kd.R_drew)); exact HO_17.out) hb); have n2_ := Aside0.mk (Kd.R_below (by (with_reducible repeat (first | apply Kd.R_alloc | apply Kd.R_drewN | apply Kd.R_drew)); exact HO_234001.out) hb); have n3_ := Aside0.mk (Kd.R_below (by (with_reducible repeat (first | apply Kd.R_alloc | apply Kd.R_drewN | apply Kd.R_drew)); exact HO_234002.out) hb); have n4_ := Aside0.mk (blk_below (g := gb219) (o := .cells #[.slice A0_0 l0_0.length c0_0, .slice A0_1 l0_1.length c0_1, .int .i64 a0_2] 25 (0, 0)) (by (with_reducible repeat (first | refine blk_drewN ?_ _ | refine blk_drew ?_ | refine blk_alloc ?_ _)); exact BK219.out) hb); have n5_ := Aside0.mk (blk_below (g := gb220) (o := .cells #[.int .i64 0, .slice none 0 0, .slice none 0 0, .bool false] 28 (0, 0)) (by (with_reducible repeat (first | refine blk_drewN ?_ _ | refine blk_drew ?_ | refine blk_alloc ?_ _)); exact BK220.out) hb); have n6_ := Aside0.mk (blk_below (g := gb233) (o := .cells #[.int .i64 x5_2, u234001, u234002, .bool true] 28 (0, 0)) (by (with_reducible repeat (first | refine blk_drewN ?_ _ | refine blk_drew ?_ | refine blk_alloc ?_ _)); exact BK233.out) hb); have n7_ := Aside0.mk (below_step (by repeat (first | (with_reducible first | exact HB.out | apply below_alloc | apply pw_below_drewN | apply below_drew1 | refine below_set ?_ GE219.out | refine below_set ?_ GE220.out | refine below_set ?_ GE233.out) | exact HB.out)) hb); clear HO_11; clear HO_17; clear HO_234001; clear HO_234002; clear BK219; clear BK220; clear BK233; clear HB; have HO_11 := n0_; have HO_17 := n1_; have HO_234001 := n2_; have HO_234002 := n3_; have BK219 := n4_; have BK220 := n5_; have BK233 := n6_; have HB := n7_; clear n0_ n1_ n2_ n3_ n4_ n5_ n6_ n7_; (try clear hb); (try clear hb2); (try clear hk); (try clear hi); have hnb83 := NB233_219.out; have hnc83 := NB219_233.out; have hnb84 := NB233_220.out; have hnc84 := NB220_233.out; have hcz85_0 : w82.cell? ⟨gb233, 0, none⟩ = some (.int .i64 x5_2) := (blk_cell BK233.out 0).trans rfl; have hcz85_1 : w82.cell? ⟨gb233, 1, none⟩ = some (u234001) := (blk_cell BK233.out 1).trans rfl; have hcz85_2 : w82.cell? ⟨gb233, 2, none⟩ = some (u234002) := (blk_cell BK233.out 2).trans rfl; have hcz85_3 : w82.cell? ⟨gb233, 3, none⟩ = some (.bool true) := (blk_cell BK233.out 3).trans rfl; have hfz85_0 := blk_frozen BK233.out 0; have hfz85_1 := blk_frozen BK233.out 1; have hfz85_2 := blk_frozen BK233.out 2; have hfz85_3 := blk_frozen BK233.out 3))
                                go_roundg k7
                                case measure => have := HJ4.out; have := HK2.out; have := HJ14.out; have := HK4.out; have := HK5.out; have := HK6.out; have := HK7.out; omega
                                case rel => exact ⟨(wrap64 (x18_7 + 1)), (!t259), (by first | rfl | (simp; done) | (simp [*]; done)), H', ⟨by have := HJ4.out; have := HK2.out; have := HJ14.out; have := HK4.out; have := HK5.out; have := HK6.out; have := HK7.out; omega⟩, ⟨by (with_reducible repeat (first | apply Kd.R_alloc | apply Kd.R_drewN | apply Kd.R_drew)); exact Kd.R_mono (Kd.R_far (p := ⟨gb233, 3, none⟩) (Kd.R_types HO_11.out BK233.out (by decide)) (fun _ hk => hk.2) (.bool (!t259))) (fun _ hk => hk.1)⟩, ⟨by (with_reducible repeat (first | apply Kd.R_alloc | apply Kd.R_drewN | apply Kd.R_drew)); exact Kd.R_mono (Kd.R_far (p := ⟨gb233, 3, none⟩) (Kd.R_types HO_17.out BK233.out (by decide)) (fun _ hk => hk.2) (.bool (!t259))) (fun _ hk => hk.1)⟩, ⟨by (with_reducible repeat (first | apply Kd.R_alloc | apply Kd.R_drewN | apply Kd.R_drew)); exact Kd.R_mono (Kd.R_far (p := ⟨gb233, 3, none⟩) (Kd.R_types HO_234001.out BK233.out (by decide)) (fun _ hk => hk.2) (.bool (!t259))) (fun _ hk => hk.1)⟩, ⟨by (with_reducible repeat (first | apply Kd.R_alloc | apply Kd.R_drewN | apply Kd.R_drew)); exact Kd.R_mono (Kd.R_far (p := ⟨gb233, 3, none⟩) (Kd.R_types HO_234002.out BK233.out (by decide)) (fun _ hk => hk.2) (.bool (!t259))) (fun _ hk => hk.1)⟩, ⟨by (with_reducible repeat (first | refine blk_drewN ?_ _ | refine blk_drew ?_ | refine blk_alloc ?_ _)); refine blk_far ?_ NB219_233.out _; (with_reducible repeat (first | refine blk_drewN ?_ _ | refine blk_drew ?_ | refine blk_alloc ?_ _)); exact BK219.out⟩, ⟨by (with_reducible repeat (first | refine blk_drewN ?_ _ | refine blk_drew ?_ | refine blk_alloc ?_ _)); refine blk_far ?_ NB220_233.out _; (with_reducible repeat (first | refine blk_drewN ?_ _ | refine blk_drew ?_ | refine blk_alloc ?_ _)); exact BK220.out⟩, ⟨by (with_reducible repeat (first | refine blk_drewN ?_ _ | refine blk_drew ?_ | refine blk_alloc ?_ _)); refine blk_put (cs := #[.int .i64 x5_2, u234001, u234002, .bool true]) ?_ 3 _ rfl; (with_reducible repeat (first | refine blk_drewN ?_ _ | refine blk_drew ?_ | refine blk_alloc ?_ _)); exact BK233.out⟩, ⟨by repeat (first | (with_reducible first | exact HB.out | apply below_alloc | apply pw_below_drewN | apply below_drew1 | refine below_set ?_ GE219.out | refine below_set ?_ GE220.out | refine below_set ?_ GE233.out) | exact HB.out)⟩⟩
                              replace c79 := Bool.eq_false_iff.mpr c79
                              subst c79
                              have H1 : (palinoderef16_Pick.l5 k7 x11_5 x16_6 t255 (wrap64 (x18_7 + 1)) l0_0 l0_1 a0_2 x5_2 x234001_4 x234002_5 false) = some (r1, r2, r3, r4, r5) := by rw [if_neg (show ¬ (false = true) by decide)] at H; exact H
                              clear H
                              have H := H1
                              clear H1
                              have H' := Aside0.mk H
                              clear H
                              obtain ⟨Ao86, co86, eo86⟩ := Kd.R_slice HO_17.out
                              subst eo86
                              have p258 : 0 ≤ (x18_7 : Int) := of_decide_eq_true (by first | (with_reducible assumption) | assumption)
                              have q258 : x18_7 < (t255.length : Int) := of_decide_eq_true (by first | (with_reducible assumption) | assumption)
                              obtain ⟨ad258, e258, hx258_0, hx258_1, hx258_2, hx258_3, hx258_4⟩ := at_T49 (Kd.R_reads' HO_17.out).2.2 x18_7 p258 q258
                              cases e258
                              replace p258 := eq_true p258
                              replace q258 := eq_true q258
                              obtain ⟨Ao87, co87, eo87⟩ := Kd.R_slice HO_11.out
                              subst eo87
                              go_wp2_with (first | ((with_reducible refine gate_callee (f := 28) rfl ?_); refine goesL_ (some 143) rfl rfl Try.func28 (by kernel_rfl) rfl #[.agg #[.int .i64 ((rd_T49 t255 x18_7).f0), .int .i64 ((rd_T49 t255 x18_7).f1), .string ((rd_T49 t255 x18_7).f2), .string ((rd_T49 t255 x18_7).f3), .int .i64 ((rd_T49 t255 x18_7).f4)], .slice Ao87 x11_5.length co87] rfl (by (try simp only [List.map_toArray, List.map_cons, List.map_nil]); first | done | rfl | (simp only [List.length_drop, List.length_take]; rfl)) ?_; (with_reducible refine (palinoderef16_meets.calls k7 ((rd_T49 t255 x18_7).f0) ((rd_T49 t255 x18_7).f1) ((rd_T49 t255 x18_7).f2) ((rd_T49 t255 x18_7).f3) ((rd_T49 t255 x18_7).f4) _ _ x11_5 t259 _ ?side1 ?side2 A78.out).mono ?_); (case side1 => repeat (first | exact (Kd.R_reads' HO_11.out).2.2 | (with_reducible refine Kd.C_alloc ?_ _) | (with_reducible refine Kd.C_drewN ?_ _) | (with_reducible refine Kd.C_drew ?_))); (case side2 => exact (Kd.R_reads' HO_11.out).2.1); rintro e w88 ⟨rfl, hb⟩; refine ⟨_, rfl, ?_⟩; have n0_ := Aside0.mk (Kd.R_below (by (with_reducible repeat (first | apply Kd.R_alloc | apply Kd.R_drewN | apply Kd.R_drew)); exact HO_11.out) hb); have n1_ := Aside0.mk (Kd.R_below (by (with_reducible repeat (first | apply Kd.R_alloc | apply Kd.R_drewN | apply Kd.R_drew)); exact HO_17.out) hb); have n2_ := Aside0.mk (Kd.R_below (by (with_reducible repeat (first | apply Kd.R_alloc | apply Kd.R_drewN | apply Kd.R_drew)); exact HO_234001.out) hb); have n3_ := Aside0.mk (Kd.R_below (by (with_reducible repeat (first | apply Kd.R_alloc | apply Kd.R_drewN | apply Kd.R_drew)); exact HO_234002.out) hb); have n4_ := Aside0.mk (blk_below (g := gb219) (o := .cells #[.slice A0_0 l0_0.length c0_0, .slice A0_1 l0_1.length c0_1, .int .i64 a0_2] 25 (0, 0)) (by (with_reducible repeat (first | refine blk_drewN ?_ _ | refine blk_drew ?_ | refine blk_alloc ?_ _)); exact BK219.out) hb); have n5_ := Aside0.mk (blk_below (g := gb220) (o := .cells #[.int .i64 0, .slice none 0 0, .slice none 0 0, .bool false] 28 (0, 0)) (by (with_reducible repeat (first | refine blk_drewN ?_ _ | refine blk_drew ?_ | refine blk_alloc ?_ _)); exact BK220.out) hb); have n6_ := Aside0.mk (blk_below (g := gb233) (o := .cells #[.int .i64 x5_2, u234001, u234002, .bool false] 28 (0, 0)) (by (with_reducible repeat (first | refine blk_drewN ?_ _ | refine blk_drew ?_ | refine blk_alloc ?_ _)); exact BK233.out) hb); have n7_ := Aside0.mk (below_step (by repeat (first | (with_reducible first | exact HB.out | apply below_alloc | apply pw_below_drewN | apply below_drew1 | refine below_set ?_ GE219.out | refine below_set ?_ GE220.out | refine below_set ?_ GE233.out) | exact HB.out)) hb); clear HO_11; clear HO_17; clear HO_234001; clear HO_234002; clear BK219; clear BK220; clear BK233; clear HB; have HO_11 := n0_; have HO_17 := n1_; have HO_234001 := n2_; have HO_234002 := n3_; have BK219 := n4_; have BK220 := n5_; have BK233 := n6_; have HB := n7_; clear n0_ n1_ n2_ n3_ n4_ n5_ n6_ n7_; (try clear hb); (try clear hb2); (try clear hk); (try clear hi); have hnb89 := NB233_219.out; have hnc89 := NB219_233.out; have hnb90 := NB233_220.out; have hnc90 := NB220_233.out; have hcz91_0 : w88.cell? ⟨gb233, 0, none⟩ = some (.int .i64 x5_2) := (blk_cell BK233.out 0).trans rfl; have hcz91_1 : w88.cell? ⟨gb233, 1, none⟩ = some (u234001) := (blk_cell BK233.out 1).trans rfl; have hcz91_2 : w88.cell? ⟨gb233, 2, none⟩ = some (u234002) := (blk_cell BK233.out 2).trans rfl; have hcz91_3 : w88.cell? ⟨gb233, 3, none⟩ = some (.bool false) := (blk_cell BK233.out 3).trans rfl; have hfz91_0 := blk_frozen BK233.out 0; have hfz91_1 := blk_frozen BK233.out 1; have hfz91_2 := blk_frozen BK233.out 2; have hfz91_3 := blk_frozen BK233.out 3))
                              go_roundg k7
                              case measure => have := HJ4.out; have := HK2.out; have := HJ14.out; have := HK4.out; have := HK5.out; have := HK6.out; have := HK7.out; omega
                              case rel => exact ⟨(wrap64 (x18_7 + 1)), (false), (by first | rfl | (simp; done) | (simp [*]; done)), H', ⟨by have := HJ4.out; have := HK2.out; have := HJ14.out; have := HK4.out; have := HK5.out; have := HK6.out; have := HK7.out; omega⟩, ⟨by (with_reducible repeat (first | apply Kd.R_alloc | apply Kd.R_drewN | apply Kd.R_drew)); exact Kd.R_mono (Kd.R_far (p := ⟨gb233, 3, none⟩) (Kd.R_types HO_11.out BK233.out (by decide)) (fun _ hk => hk.2) (.bool false)) (fun _ hk => hk.1)⟩, ⟨by (with_reducible repeat (first | apply Kd.R_alloc | apply Kd.R_drewN | apply Kd.R_drew)); exact Kd.R_mono (Kd.R_far (p := ⟨gb233, 3, none⟩) (Kd.R_types HO_17.out BK233.out (by decide)) (fun _ hk => hk.2) (.bool false)) (fun _ hk => hk.1)⟩, ⟨by (with_reducible repeat (first | apply Kd.R_alloc | apply Kd.R_drewN | apply Kd.R_drew)); exact Kd.R_mono (Kd.R_far (p := ⟨gb233, 3, none⟩) (Kd.R_types HO_234001.out BK233.out (by decide)) (fun _ hk => hk.2) (.bool false)) (fun _ hk => hk.1)⟩, ⟨by (with_reducible repeat (first | apply Kd.R_alloc | apply Kd.R_drewN | apply Kd.R_drew)); exact Kd.R_mono (Kd.R_far (p := ⟨gb233, 3, none⟩) (Kd.R_types HO_234002.out BK233.out (by decide)) (fun _ hk => hk.2) (.bool false)) (fun _ hk => hk.1)⟩, ⟨by (with_reducible repeat (first | refine blk_drewN ?_ _ | refine blk_drew ?_ | refine blk_alloc ?_ _)); refine blk_far ?_ NB219_233.out _; (with_reducible repeat (first | refine blk_drewN ?_ _ | refine blk_drew ?_ | refine blk_alloc ?_ _)); exact BK219.out⟩, ⟨by (with_reducible repeat (first | refine blk_drewN ?_ _ | refine blk_drew ?_ | refine blk_alloc ?_ _)); refine blk_far ?_ NB220_233.out _; (with_reducible repeat (first | refine blk_drewN ?_ _ | refine blk_drew ?_ | refine blk_alloc ?_ _)); exact BK220.out⟩, ⟨by (with_reducible repeat (first | refine blk_drewN ?_ _ | refine blk_drew ?_ | refine blk_alloc ?_ _)); refine blk_put (cs := #[.int .i64 x5_2, u234001, u234002, .bool false]) ?_ 3 _ rfl; (with_reducible repeat (first | refine blk_drewN ?_ _ | refine blk_drew ?_ | refine blk_alloc ?_ _)); exact BK233.out⟩, ⟨by repeat (first | (with_reducible first | exact HB.out | apply below_alloc | apply pw_below_drewN | apply below_drew1 | refine below_set ?_ GE219.out | refine below_set ?_ GE220.out | refine below_set ?_ GE233.out) | exact HB.out)⟩⟩

end Go.Proofs.Ytepgnefkpjnmlaa.PD

/-
  Layer 16, the plain part: the document's own Pick is pick.Pick.
-/
set_option linter.unusedVariables false
set_option linter.unusedSimpArgs false
namespace Go.Proofs.Ytepgnefkpjnmlaa.PD
open Go.RowKit Go.Proofs.Ytepgnefkpjnmlaa Go.Proofs.YtepgnefkpjnmlaaW.PrintWords

theorem lev_length (V : List MetaT) (n : Int) : (pick_first.lev V n).length ≤ V.length := List.length_filter_le _ _
theorem lev_mem {V : List MetaT} {n : Int} {m : MetaT} : m ∈ pick_first.lev V n ↔ m ∈ V ∧ m.f1 = n := by simp [pick_first.lev]
theorem pk_l1 (V : List MetaT) (G : List Int) (a x5 n lim : Int) (L : List MetaT) (hL : L.length ≤ 200) (hb : ∀ m ∈ L, 1 ≤ m.f4 ∧ m.f4 ≤ 1048576) (hn : 0 ≤ n ∧ n ≤ 10) (hlim : palinoderef16_Limit.f n = some lim) (hp : pick_first.sum L > lim → 1 ≤ L.length) : ∀ (d i k : Nat), L.length = i + d →
    palinoderef16_Pick.l1 (k + d + 1) x5 L n (pick_first.sum (L.take i)) (i : Int) V G a = if pick_first.sum L > lim then palinoderef16_Pick.l0 k n (L.take 1) (n + 1) V G a else palinoderef16_Pick.l0 k x5 L (n + 1) V G a := by
  intro d
  have en : wrap64 (n + 1) = n + 1 := wrapP _ (by omega) (by omega)
  induction d with
  | zero =>
    intro i k hi
    rw [Nat.add_zero, palinoderef16_Pick.l1, if_neg (by omega), hlim, Option.bind_some, List.take_of_length_le (by omega), en]
    by_cases h : pick_first.sum L > lim
    · rw [if_pos h, if_pos h, if_pos (by have := hp h; omega)]; rfl
    · rw [if_neg h, if_neg h]
  | succ d ih =>
    intro i k hi
    have h1 := pick_first.sum_take L hb i
    have h2 := pick_first.sum_take L hb (i + 1)
    have h3 := pick_first.sum_snoc L i (by omega)
    have hw : wrap64 (pick_first.sum (L.take i) + (L.getD i z49).f4) = pick_first.sum (L.take (i + 1)) := by
      rw [← h3]
      exact wrapP _ (by omega) (by omega)
    have e1 : wrap64 ((i : Int) + 1) = ((i + 1 : Nat) : Int) := by rw [wrapP _ (by omega) (by omega)]; omega
    clear h1 h2 h3
    rw [show k + (d + 1) + 1 = (k + d + 1) + 1 by omega, palinoderef16_Pick.l1, if_pos (by omega), if_pos (by omega), rd_get, hw, e1]
    exact ih (i + 1) k (by omega)
theorem pk_l2 (V : List MetaT) (G : List Int) (a x5 lv : Int) (hx : 0 ≤ x5 ∧ x5 ≤ 10) (ins : List MetaT) (hL : ins.length ≤ 200) : ∀ (d i k : Nat) (acc : List MetaT) (ids : List Int), ins.length = i + d → acc.length ≤ i → ids.length ≤ i →
    palinoderef16_Pick.l2 (k + d + 1) x5 ins acc (i : Int) V G a lv ids true = (palinoderef14_Level.f k V G a (x5 + 1)).bind fun t => palinoderef16_Pick.l3 k x5 ins (acc ++ ins.drop i) t 0 V G a lv (ids ++ (ins.drop i).map (·.f0)) [] true := by
  intro d
  have en : wrap64 (x5 + 1) = x5 + 1 := wrapP _ (by omega) (by omega)
  induction d with
  | zero =>
    intro i k acc ids hi ha hb
    rw [Nat.add_zero, palinoderef16_Pick.l2, if_neg (by omega), en, List.drop_eq_nil_of_le (by omega)]
    simp only [List.append_nil, List.map_nil]
  | succ d ih =>
    intro i k acc ids hi ha hb
    have e1 : wrap64 ((i : Int) + 1) = ((i + 1 : Nat) : Int) := by rw [wrapP _ (by omega) (by omega)]; omega
    have hc : ins.drop i = ins[i]'(by omega) :: ins.drop (i + 1) := List.drop_eq_getElem_cons (by omega)
    rw [show k + (d + 1) + 1 = (k + d + 1) + 1 by omega, palinoderef16_Pick.l2, if_pos (by omega), if_pos (by omega), if_pos (by omega), if_pos (by omega), rd_get, getD_eq ins i (by omega), e1, ih (i + 1) k _ _ (by omega) (by simp; omega) (by simp; omega), hc, List.map_cons, List.append_assoc, List.append_assoc]
    rfl
theorem pk_l3 (V : List MetaT) (G : List Int) (a x5 lv : Int) (hx : 0 ≤ x5 ∧ x5 ≤ 10) (ins NX : List MetaT) (In : List Int) (hL : ins.length ≤ 200) (hN : NX.length ≤ 200) : ∀ (d i k : Nat) (acc : List MetaT) (ids : List Int), NX.length = i + d → acc.length ≤ i + 200 → ids.length ≤ i → ins.length + 1 ≤ k →
    palinoderef16_Pick.l3 (k + d + 1) x5 ins acc NX (i : Int) V G a lv In ids true = palinoderef16_Pick.l4 k (acc ++ (NX.drop i).filter (pick_Pick.meetB ins)) (x5 + 2) V G a lv In (ids ++ ((NX.drop i).filter (pick_Pick.meetB ins)).map (·.f0)) true := by
  intro d
  have en : wrap64 (x5 + 2) = x5 + 2 := wrapP _ (by omega) (by omega)
  induction d with
  | zero =>
    intro i k acc ids hi ha hb hk
    rw [Nat.add_zero, palinoderef16_Pick.l3, if_neg (by omega), en, List.drop_eq_nil_of_le (by omega)]
    simp only [List.filter_nil, List.append_nil, List.map_nil]
  | succ d ih =>
    intro i k acc ids hi ha hb hk
    have e1 : wrap64 ((i : Int) + 1) = ((i + 1 : Nat) : Int) := by rw [wrapP _ (by omega) (by omega)]; omega
    have hc : NX.drop i = NX[i]'(by omega) :: NX.drop (i + 1) := List.drop_eq_getElem_cons (by omega)
    rw [show k + (d + 1) + 1 = (k + d + 1) + 1 by omega, palinoderef16_Pick.l3, if_pos (by omega), if_pos (by omega), rd_get, getD_eq NX i (by omega), refMeets_some ins (by omega) _ _ (by omega), Option.bind_some, e1, hc]
    by_cases h : pick_Pick.meetB ins (NX[i]'(by omega)) = true
    · rw [if_pos h, if_pos (by omega), if_pos (by omega), ih (i + 1) k _ _ (by omega) (by simp; omega) (by simp; omega) hk, List.filter_cons, if_pos h, List.map_cons, List.append_assoc, List.append_assoc]
      rfl
    · rw [if_neg h, ih (i + 1) k _ _ (by omega) (by omega) (by omega) hk, List.filter_cons, if_neg h]
theorem pk_l5 (V : List MetaT) (G : List Int) (a n lv : Int) (hn : 0 ≤ n ∧ n ≤ 10) (all L : List MetaT) (In Un : List Int) (hA : all.length ≤ 900) (hL : L.length ≤ 200) : ∀ (d i k : Nat) (bot : Bool), L.length = i + d → all.length + 1 ≤ k →
    palinoderef16_Pick.l5 (k + d + 1) all n L (i : Int) V G a lv In Un bot = palinoderef16_Pick.l4 k all (n + 1) V G a lv In Un (bot && !((L.drop i).any (pick_Pick.meetB all))) := by
  intro d
  have en : wrap64 (n + 1) = n + 1 := wrapP _ (by omega) (by omega)
  induction d with
  | zero =>
    intro i k bot hi hk
    rw [Nat.add_zero, palinoderef16_Pick.l5, if_neg (by omega), en, List.drop_eq_nil_of_le (by omega)]
    simp only [List.any_nil, Bool.not_false, Bool.and_true]
  | succ d ih =>
    intro i k bot hi hk
    have e1 : wrap64 ((i : Int) + 1) = ((i + 1 : Nat) : Int) := by rw [wrapP _ (by omega) (by omega)]; omega
    have hc : L.drop i = L[i]'(by omega) :: L.drop (i + 1) := List.drop_eq_getElem_cons (by omega)
    rw [show k + (d + 1) + 1 = (k + d + 1) + 1 by omega, palinoderef16_Pick.l5, if_pos (by omega), if_pos (by omega), rd_get, getD_eq L i (by omega), refMeets_some all (by omega) _ _ (by omega), Option.bind_some, e1, hc, List.any_cons]
    generalize pick_Pick.meetB all (L[i]'(by omega)) = b
    cases bot
    · rw [if_neg (by simp), ih (i + 1) k _ (by omega) hk]; simp
    · rw [if_pos rfl, ih (i + 1) k _ (by omega) hk]; simp
theorem any_lev (V : List MetaT) (n : Int) (p : MetaT → Bool) : (V.any fun m => decide (n ≤ m.f1) && p m) = ((pick_first.lev V n).any p || V.any fun m => decide (n + 1 ≤ m.f1) && p m) := by
  rw [Bool.eq_iff_iff, Bool.or_eq_true]
  simp only [List.any_eq_true, Bool.and_eq_true, decide_eq_true_eq, lev_mem]
  constructor
  · rintro ⟨m, hm, h1, h2⟩
    by_cases e : m.f1 = n
    · exact Or.inl ⟨m, ⟨hm, e⟩, h2⟩
    · exact Or.inr ⟨m, hm, by omega, h2⟩
  · rintro (⟨m, ⟨hm, e⟩, h2⟩ | ⟨m, hm, h1, h2⟩)
    · exact ⟨m, hm, by omega, h2⟩
    · exact ⟨m, hm, by omega, h2⟩
set_option maxRecDepth 20000 in
theorem pk_l4 (V : List MetaT) (G : List Int) (a lv : Int) (hV : V.length ≤ 200) (hlev : ∀ m ∈ V, m.f1 < 4) (all : List MetaT) (In Un : List Int) (hA : all.length ≤ 900) : ∀ (r : Nat) (n : Int) (k : Nat) (bot : Bool), n + r = 4 → 0 ≤ n → r * 2000 + 1001 ≤ k →
    palinoderef16_Pick.l4 k all n V G a lv In Un bot = some (lv, In, Un, bot && !(V.any fun m => decide (n ≤ m.f1) && pick_Pick.meetB all m), true) := by
  intro r
  induction r with
  | zero =>
    intro n k bot hn h0 hk
    obtain ⟨k, rfl⟩ : ∃ j, k = j + 1 := ⟨k - 1, by omega⟩
    rw [palinoderef16_Pick.l4, if_neg (by omega)]
    have : (V.any fun m => decide (n ≤ m.f1) && pick_Pick.meetB all m) = false := by
      rw [List.any_eq_false]
      intro m hm
      have := hlev m hm
      simp [show ¬ n ≤ m.f1 by omega]
    rw [this]
    simp
  | succ r ih =>
    intro n k bot hn h0 hk
    rw [Nat.add_mul] at hk
    obtain ⟨k, rfl⟩ : ∃ j, k = j + 1 := ⟨k - 1, by omega⟩
    have hl := lev_length V n
    obtain ⟨q, rfl⟩ : ∃ q, k = q + (pick_first.lev V n).length + 1 := ⟨k - (pick_first.lev V n).length - 1, by omega⟩
    have h5 := pk_l5 V G a n lv (by omega) all (pick_first.lev V n) In Un hA (by omega) (pick_first.lev V n).length 0 q bot (by omega) (by omega)
    rw [Int.natCast_zero, List.drop_zero] at h5
    rw [palinoderef16_Pick.l4, if_pos (by omega), refLevel_some V G a n (by omega) _ (by omega), Option.bind_some, h5, ih (n + 1) q _ (by omega) (by omega) (by omega), any_lev V n]
    simp [Bool.and_assoc]
set_option maxRecDepth 20000 in
theorem pk_fin (V : List MetaT) (G : List Int) (a lv : Int) (hV : V.length ≤ 200) (hlev : ∀ m ∈ V, m.f1 < 4) (h0 : 0 ≤ lv) (h2 : lv ≤ 2) (ins : List MetaT) (hL : ins.length ≤ 200) (k : Nat) (hk : 10000 ≤ k) :
    palinoderef16_Pick.l2 k lv ins [] 0 V G a lv [] true = some (pick_Pick.tell V ins lv) := by
  obtain ⟨k, rfl⟩ : ∃ q, k = q + ins.length + 1 := ⟨k - ins.length - 1, by omega⟩
  have e2 := pk_l2 V G a lv lv (by omega) ins hL ins.length 0 k [] [] (by omega) (by simp) (by simp)
  rw [Int.natCast_zero, List.drop_zero, List.nil_append, List.nil_append, refLevel_some V G a _ (by omega) k (by omega), Option.bind_some] at e2
  rw [e2]
  have hn := lev_length V (lv + 1)
  obtain ⟨k, rfl⟩ : ∃ q, k = q + (pick_first.lev V (lv + 1)).length + 1 := ⟨k - (pick_first.lev V (lv + 1)).length - 1, by omega⟩
  have e3 := pk_l3 V G a lv lv (by omega) ins (pick_first.lev V (lv + 1)) (ins.map (·.f0)) hL (by omega) (pick_first.lev V (lv + 1)).length 0 k ins [] (by omega) (by omega) (by simp) (by omega)
  rw [Int.natCast_zero, List.drop_zero, List.nil_append] at e3
  rw [e3]
  have hu : ((pick_first.lev V (lv + 1)).filter (pick_Pick.meetB ins)).length ≤ 200 := Nat.le_trans (List.length_filter_le _ _) (by omega)
  obtain ⟨r, hr⟩ : ∃ r : Nat, lv + 2 + r = 4 := ⟨(2 - lv).toNat, by omega⟩
  rw [pk_l4 V G a lv hV hlev (ins ++ (pick_first.lev V (lv + 1)).filter (pick_Pick.meetB ins)) _ _ (by rw [List.length_append]; omega) r (lv + 2) k true hr (by omega) (by omega)]
  have ed : ∀ m : MetaT, decide (lv + 2 ≤ m.f1) = decide (lv + 1 < m.f1) := fun m => by rw [decide_eq_decide]; omega
  simp only [ed, Bool.true_and]
  rfl
theorem right_facts {V : List MetaT} {G : List Int} {a : Int} (h : version_Right.tell V G a = true) : V.length ≤ 200 ∧ ∀ m ∈ V, version_Right.meta_ m = true := by
  unfold version_Right.tell at h
  simp only [Bool.and_eq_true, decide_eq_true_eq, List.all_eq_true, List.mem_range] at h
  obtain ⟨hl, -, -, -, -, -, hall⟩ := h
  refine ⟨hl, fun m hm => ?_⟩
  obtain ⟨i, hi, rfl⟩ := List.getElem_of_mem hm
  have h1 := hall i hi
  unfold version_Right.good_ at h1
  rw [Bool.and_eq_true] at h1
  have h2 := h1.1
  rw [List.getD_eq_getElem?_getD, List.getElem?_eq_getElem hi, Option.getD_some] at h2
  exact h2
set_option maxRecDepth 20000 in
theorem refPick_some (V : List MetaT) (G : List Int) (a : Int) (k : Nat) (hk : 300000 ≤ k) : palinoderef16_Pick.f k V G a = some (if version_Right.tell V G a = true then (if (pick_first.tell V).1 < 0 then (0, [], [], false, false) else pick_Pick.tell V (pick_first.tell V).2 (pick_first.tell V).1) else (0, [], [], false, false)) := by
  unfold palinoderef16_Pick.f
  rw [refRight_some V G a k (by omega), Option.bind_some]
  by_cases hT : version_Right.tell V G a = true
  · obtain ⟨hV, hm⟩ := right_facts hT
    have hlev : ∀ m ∈ V, m.f1 < 4 := fun m hm' => (meta_facts m (hm m hm')).2.1.2
    have hbytes : ∀ n, ∀ m ∈ pick_first.lev V n, 1 ≤ m.f4 ∧ m.f4 ≤ 1048576 := fun n m hm' => (meta_facts m (hm m (lev_mem.1 hm').1)).1
    have hl := lev_length V
    have l0 := hl 0; have l1 := hl 1; have l2 := hl 2
    rw [if_pos hT, if_pos hT, refLevel_some V G a 0 (by omega) k (by omega), Option.bind_some]
    obtain ⟨k, rfl⟩ : ∃ q, k = q + 3 := ⟨k - 3, by omega⟩
    by_cases c0 : 3 ≤ (pick_first.lev V 0).length
    · have tt : pick_first.tell V = (0, pick_first.lev V 0) := by unfold pick_first.tell; rw [if_pos c0]
      rw [tt, if_neg (show ¬ (0 : Int) < 0 by omega), if_pos (by omega), palinoderef16_Pick.j0, palinoderef16_Pick.l0, if_pos (by omega), palinoderef16_Pick.j2, if_neg (by simp), if_neg (by omega)]
      exact pk_fin V G a 0 hV hlev (by omega) (by omega) _ (by omega) k (by omega)
    rw [if_neg (show ¬ ((pick_first.lev V 0).length : Int) ≥ 3 by omega), palinoderef16_Pick.j0, palinoderef16_Pick.l0, if_pos (by omega), palinoderef16_Pick.j2, if_pos (by simp), refLevel_some V G a 1 (by omega) k (by omega), Option.bind_some]
    obtain ⟨k, rfl⟩ : ∃ q, k = q + 2 + (pick_first.lev V 1).length + 1 := ⟨k - (pick_first.lev V 1).length - 3, by omega⟩
    have pos1 : pick_first.sum (pick_first.lev V 1) > 4000 → 1 ≤ (pick_first.lev V 1).length := fun h => by
      rcases Nat.eq_zero_or_pos (pick_first.lev V 1).length with e | e
      · rw [List.length_eq_zero_iff.1 e] at h; simp [pick_first.sum] at h
      · exact e
    have pos2 : pick_first.sum (pick_first.lev V 2) > 16000 → 1 ≤ (pick_first.lev V 2).length := fun h => by
      rcases Nat.eq_zero_or_pos (pick_first.lev V 2).length with e | e
      · rw [List.length_eq_zero_iff.1 e] at h; simp [pick_first.sum] at h
      · exact e
    have e1 := pk_l1 V G a (-1) 1 4000 (pick_first.lev V 1) (by omega) (hbytes 1) (by omega) rfl pos1 (pick_first.lev V 1).length 0 (k + 2) (by omega)
    rw [Int.natCast_zero, List.take_zero, show pick_first.sum [] = 0 from rfl] at e1
    rw [e1]
    by_cases c1 : pick_first.sum (pick_first.lev V 1) > 4000
    · have tt : pick_first.tell V = (1, (pick_first.lev V 1).take 1) := by unfold pick_first.tell; rw [if_neg c0, if_pos (by omega)]
      rw [tt, if_neg (show ¬ (1 : Int) < 0 by omega), if_pos c1, palinoderef16_Pick.l0, if_pos (by omega), palinoderef16_Pick.j2, if_neg (by simp), if_neg (by omega)]
      exact pk_fin V G a 1 hV hlev (by omega) (by omega) _ (by simp; omega) k (by omega)
    rw [if_neg c1, palinoderef16_Pick.l0, if_pos (by omega), palinoderef16_Pick.j2, if_pos (by simp), show (1 : Int) + 1 = 2 from rfl, refLevel_some V G a 2 (by omega) k (by omega), Option.bind_some]
    obtain ⟨k, rfl⟩ : ∃ q, k = q + 2 + (pick_first.lev V 2).length + 1 := ⟨k - (pick_first.lev V 2).length - 3, by omega⟩
    have e2 := pk_l1 V G a (-1) 2 16000 (pick_first.lev V 2) (by omega) (hbytes 2) (by omega) rfl pos2 (pick_first.lev V 2).length 0 (k + 2) (by omega)
    rw [Int.natCast_zero, List.take_zero, show pick_first.sum [] = 0 from rfl] at e2
    rw [e2]
    by_cases c2 : pick_first.sum (pick_first.lev V 2) > 16000
    · have tt : pick_first.tell V = (2, (pick_first.lev V 2).take 1) := by unfold pick_first.tell; rw [if_neg c0, if_neg (by omega), if_pos (by omega)]
      rw [tt, if_neg (show ¬ (2 : Int) < 0 by omega), if_pos c2, palinoderef16_Pick.l0, if_neg (by omega), palinoderef16_Pick.j2, if_neg (by simp), if_neg (by omega)]
      exact pk_fin V G a 2 hV hlev (by omega) (by omega) _ (by simp; omega) k (by omega)
    · have tt : pick_first.tell V = (-1, []) := by unfold pick_first.tell; rw [if_neg c0, if_neg (by omega), if_neg (by omega)]
      rw [tt, if_pos (show (-1 : Int) < 0 by omega), if_neg c2, palinoderef16_Pick.l0, if_neg (by omega), palinoderef16_Pick.j2, if_neg (by simp), if_pos (by omega)]
  · rw [if_neg hT, if_neg hT]
end Go.Proofs.Ytepgnefkpjnmlaa.PD

-- printed by gprint.py (own tool) over the kit's print
namespace Go.Proofs.Ytepgnefkpjnmlaa.PD
open Go.RowKit Go.Proofs.Ytepgnefkpjnmlaa Go.Proofs.YtepgnefkpjnmlaaW.PrintWords Go.Proofs.YtepgnefkpjnmlaaW.PrintLast Go.Proofs.YtepgnefkpjnmlaaW.PrintMore
attribute [local go_sem] max2_int min2_int max_two min_two max_three min_three max_four min_four   -- for this text's walks alone
set_option linter.unnecessarySimpa false
attribute [local go_sem] min2_str max2_str leq_str gtr_str geq_str
set_option linter.unusedVariables false
set_option linter.unusedSimpArgs false

/-! ### api_Entry: function 29 -/
def api_Entry.f (l0 : List (S45)) : Option (List (S45)) := if l0.length < 2932031007402 then some l0 else none
set_option maxHeartbeats 1000000 in
theorem api_Entry.calls (A0 : Option Addr) (c0 : Nat) (l0 : List (S45)) (r : List (S45)) (w : World) (hr0 : Kd.C k45 w A0 l0.length l0) (hc0 : l0.length ≤ c0) (h : api_Entry.f l0 = some r) :
    Calls Try.prog 29 #[.slice A0 l0.length c0] w fun e w' => ∃ v0_ : Value, e = .returned (v0_) ∧ Kd.R k45 45 w' w.heap.size (fun _ => True) v0_ r ∧ Below w.heap.size w w' := by
  obtain ⟨hlim, rfl⟩ : l0.length < 2932031007402 ∧ l0 = r := by
    unfold api_Entry.f at h
    split at h
    · rename_i hl; exact ⟨hl, Option.some.inj h⟩
    · cases h
  clear h
  have HR := Aside0.mk hr0
  have HL := Aside0.mk hlim
  rcases A0 with _ | ad
  · have h0 : l0 = [] := by
      rcases Nat.eq_zero_or_pos l0.length with h0 | h0
      · exact List.eq_nil_of_length_eq_zero h0
      · obtain ⟨ad, e, _⟩ := hr0.2.2 h0; cases e
    subst h0
    clear HR HL hr0 hlim hc0
    have he := fun W => run_eql_slice_nil (P := Try.prog) W 34 45 none 0 c0 Try.underlying34
    go_enter Try.func29, Try.ntmps29
    go_wp2
    go_ret
    exact ⟨_, rfl, Kd.R_nil _ _ _ _ _, Below.refl _ _⟩
  · clear hr0 hlim
    have he := fun W => run_eql_slice_nil (P := Try.prog) W 34 45 (some ad) l0.length c0 Try.underlying34
    go_enter Try.func29, Try.ntmps29
    go_wp2_with ((with_reducible refine gate_builtin (b := .append) (xs := #[.tmp 5, .tmp 6]) rfl ?_); refine Kd.R_append_rows k45 (w0 := w) w.heap.size rfl (.tmp 5) (.tmp 6) 34 45 (.agg #[(.string ⟨#[]⟩), (.int .i64 0), (.bool false), (.string ⟨#[]⟩)]) 48 rfl Try.underlying34 info45 rfl (by decide) (by omega) _ [] l0 _ _ _ (fun _ => True) (fun _ => False) rfl rfl ?aO ?aR (fun _ _ h => h) (fun _ h => h.elim) ?aF ?aB ?aS ?aL ?_; (case aO => exact ⟨fun _ _ => trivial, [], World.ownsRow_made w #[] 0 (Nat.le_refl _) (by decide) rfl, Reps.none _ _⟩); (case aR => exact Kd.C_alloc HR.out _); (case aF => exact fun _ _ => trivial); (case aB => exact below_alloc (Below.refl _ _) _); (case aS => simp); (case aL => have := HL.out; simp; omega); intro v1 w1 ho hb hg hat; have HO := Aside0.mk ho; have HB := Aside0.mk hb; clear ho hb hg hat)
    go_ret
    exact ⟨_, rfl, HO.out, HB.out⟩


end Go.Proofs.Ytepgnefkpjnmlaa.PD

-- printed by gprint.py (own tool) over the kit's print
namespace Go.Proofs.Ytepgnefkpjnmlaa.PD
open Go.RowKit Go.Proofs.Ytepgnefkpjnmlaa Go.Proofs.YtepgnefkpjnmlaaW.PrintWords Go.Proofs.YtepgnefkpjnmlaaW.PrintLast Go.Proofs.YtepgnefkpjnmlaaW.PrintMore
attribute [local go_sem] max2_int min2_int max_two min_two max_three min_three max_four min_four   -- for this text's walks alone
set_option linter.unnecessarySimpa false
attribute [local go_sem] min2_str max2_str leq_str gtr_str geq_str
set_option linter.unusedVariables false
set_option linter.unusedSimpArgs false

/-! ### pick_Cut: function 15 -/
def pick_Cut.ext (l : List S45) : Nat → Nat → Nat
  | 0, n => n
  | d + 1, n => if n < l.length ∧ (l.getD n z45).f0.toList = (l.getD (n - 1) z45).f0.toList then pick_Cut.ext l d (n + 1) else n
def pick_Cut.at_ (many : Nat) (l : List S45) : Nat := pick_Cut.ext l (l.length - min many l.length) (min many l.length)
def pick_Cut.pieces (many : Nat) : Nat → List S45 → List (List S45)
  | 0, _ => []
  | d + 1, l => if l = [] then [] else l.take (pick_Cut.at_ many l) :: pick_Cut.pieces many d (l.drop (pick_Cut.at_ many l))
theorem pick_Cut.pieces_len (many : Nat) : ∀ (d : Nat) (l p : List S45), p ∈ pick_Cut.pieces many d l → p.length ≤ l.length
  | 0, l, p, h => by simp [pick_Cut.pieces] at h
  | d + 1, l, p, h => by
    unfold pick_Cut.pieces at h
    split at h
    · simp at h
    · rcases List.mem_cons.1 h with rfl | h
      · rw [List.length_take]; omega
      · have := pick_Cut.pieces_len many d _ p h
        rw [List.length_drop] at this
        omega
theorem pick_Cut.pieces_nil (many d : Nat) : pick_Cut.pieces many d [] = [] := by cases d <;> simp [pick_Cut.pieces]
def pick_Cut.f (l0 : List S45) (a1 : Int) : Option (List (List S45) × Option Int) := if a1 < 1 then some ([], some 1) else if l0.length < 1000000 then some (pick_Cut.pieces a1.toNat l0.length l0, none) else none
/-- The row of pieces, the first k of which are copies. -/
def pick_Cut.Half (wr w : World) (base g : Nat) (cur : Array Value) (P : List (List S45)) (k : Nat) (lo : Nat → Nat) : Prop :=
  (∀ j, j < k → ∃ u, cur[j]? = some u ∧ Kd.R k45 45 wr base (fun b => lo j ≤ b ∧ b < lo (j + 1)) u (P.getD j [])) ∧
  (∀ j, k ≤ j → j < P.length → ∃ A c, cur[j]? = some (.slice A (P.getD j []).length c) ∧ (P.getD j []).length ≤ c ∧ Kd.C k45 w A (P.getD j []).length (P.getD j [])) ∧
  (∀ i j, i ≤ j → lo i ≤ lo j) ∧ lo k ≤ wr.heap.size ∧ g < lo 0 ∧ wr.heap[g]? = some (.cells cur 34 (0, 0))
theorem pick_Cut.Half.start {wr w : World} {base g : Nat} {cur : Array Value} {P : List (List S45)} {inner : List Value} (hgc : wr.heap[g]? = some (.cells cur 34 (0, 0))) (hin : cur.toList.take (P.length * (Kd.fixed (Kd.slice 45 k45) w).sz) = inner) {B : Nat} {ok : Nat → Prop}
    (hr : Reps ((Kd.fixed (Kd.slice 45 k45) w).M wr B ok) (Kd.fixed (Kd.slice 45 k45) w).sz P inner) : pick_Cut.Half wr w base g cur P 0 (fun _ => wr.heap.size) := by
  have hg : g < wr.heap.size := (Array.getElem?_eq_some_iff.1 hgc).1
  refine ⟨fun j hj => absurd hj (Nat.not_lt_zero _), fun j _ hj => ?_, fun _ _ _ => Nat.le_refl _, Nat.le_refl _, hg, hgc⟩
  have hx : P[j]? = some (P.getD j []) := by simp [List.getD, hj]
  obtain ⟨A, c, hc, hlc, hC⟩ := hr.2 j _ hx
  subst hin
  rw [show (Kd.fixed (Kd.slice 45 k45) w).sz = 1 from rfl, Nat.mul_one, Nat.mul_one] at hc
  refine ⟨A, c, ?_, hlc, hC⟩
  have h0 := congrArg (fun l : List Value => l[0]?) hc
  simp only [List.getElem?_take, List.getElem?_drop, Nat.add_zero, List.getElem?_cons_zero] at h0
  rw [if_pos (by omega), if_pos hj] at h0
  simpa using h0
theorem pick_Cut.Half.step {wr w2 w3 w : World} {base g : Nat} {cur : Array Value} {P : List (List S45)} {k : Nat} {lo : Nat → Nat} {u : Value} (h : pick_Cut.Half wr w base g cur P k lo) (hk : k < P.length) (hc : k < cur.size) (hb : Below wr.heap.size wr w2) (hbase : base ≤ wr.heap.size)
    (hu : Kd.R k45 45 w2 wr.heap.size (fun _ => True) u (P.getD k [])) (hg : w2.grownBy w3 (some g)) (h3 : w3.heap[g]? = some (.cells (cur.setIfInBounds k u) 34 (0, 0))) :
    pick_Cut.Half w3 w base g (cur.setIfInBounds k u) P (k + 1) (fun j => if j ≤ k then lo j else w2.heap.size) := by
  obtain ⟨h1, h2, hm, hz, hg0, hgc⟩ := h
  have hmk : ∀ j, j ≤ k → lo j ≤ w2.heap.size := fun j hj => Nat.le_trans (Nat.le_trans (hm j k hj) hz) hb.size
  refine ⟨fun j hj => ?_, fun j hj hjl => ?_, fun i j hij => ?_, ?_, ?_, h3⟩
  · by_cases e : j = k
    · subst e
      refine ⟨u, by simp [Array.getElem?_setIfInBounds, hc], ?_⟩
      have hr := Kd.R_mono (Kd.R_lower (Kd.R_bound hu) hbase) (ok' := fun b => (if j ≤ j then lo j else w2.heap.size) ≤ b ∧ b < (if j + 1 ≤ j then lo (j + 1) else w2.heap.size)) (fun b hb' => by
        rw [if_pos (Nat.le_refl _), if_neg (by omega)]
        exact ⟨Nat.le_trans hz hb'.2.1, hb'.2.2.1⟩)
      exact Kd.R_grown hr hg (fun b hb' e => by
        injection e with e
        dsimp only at hb'
        rw [if_pos (Nat.le_refl _)] at hb'
        have := hm 0 j (Nat.zero_le _)
        omega)
    · obtain ⟨v, hv, hr⟩ := h1 j (by omega)
      refine ⟨v, by rw [Array.getElem?_setIfInBounds, if_neg (by omega)]; exact hv, ?_⟩
      have hr2 := Kd.R_mono (Kd.R_below hr hb) (ok' := fun b => (if j ≤ k then lo j else w2.heap.size) ≤ b ∧ b < (if j + 1 ≤ k then lo (j + 1) else w2.heap.size)) (fun b hb' => by
        rw [if_pos (by omega), if_pos (by omega)]
        exact hb')
      exact Kd.R_grown hr2 hg (fun b hb' e => by
        injection e with e
        dsimp only at hb'
        rw [if_pos (by omega)] at hb'
        have := hm 0 j (Nat.zero_le _)
        omega)
  · obtain ⟨A, c, hv, hl, hr⟩ := h2 j (by omega) hjl
    exact ⟨A, c, by rw [Array.getElem?_setIfInBounds, if_neg (by omega)]; exact hv, hl, hr⟩
  · dsimp only
    split
    · split
      · exact hm i j hij
      · exact hmk i (by omega)
    · rw [if_neg (by omega)]; exact Nat.le_refl _
  · dsimp only
    rw [if_neg (by omega)]
    exact hg.size
  · dsimp only
    rw [if_pos (Nat.zero_le _)]
    exact hg0
theorem pick_Cut.Half.all {wr w : World} {base g cap : Nat} {cur : Array Value} {P : List (List S45)} {lo : Nat → Nat} (h : pick_Cut.Half wr w base g cur P P.length lo) (hg : base ≤ g) (hn : P.length ≤ cap) (hcap : cap ≤ maxLen) (hcs : cur.size = cap) :
    Kd.S (Kd.slice 45 k45) 34 wr base (fun _ => True) (.slice (some ⟨g, 0, none⟩) P.length cap) P := by
  obtain ⟨h1, -, hm, hz, hg0, hgc⟩ := h
  have hlen : (cur.toList.take P.length).length = P.length := by rw [List.length_take]; simp; omega
  obtain ⟨f, hf⟩ := Kd.reps_tag (d := Kd.slice 45 k45) (w := wr) (base := base) (ok := fun k => True ∧ some k ≠ (Value.slice (some ⟨g, 0, none⟩) P.length cap).ownBlock) (xs := P) (inner := cur.toList.take P.length)
    (fun j b => lo j ≤ b ∧ b < lo (j + 1)) (fun i j b hi hj => by
      rcases Nat.lt_trichotomy i j with q | q | q
      · have := hm (i + 1) j q; omega
      · exact q
      · have := hm (j + 1) i q; omega)
    (fun j b hb => ⟨trivial, by
      simp [Value.ownBlock]
      have := hm 0 j (Nat.zero_le _)
      omega⟩) (by rw [hlen]; simp [Kd.slice]) (fun j x hx => by
      have hj : j < P.length := (List.getElem?_eq_some_iff.1 hx).1
      obtain ⟨u, hu, hr⟩ := h1 j hj
      have hu' : cur.toList[j]? = some u := by simpa using hu
      have e1 : ((cur.toList.take P.length).drop (j * (Kd.slice 45 k45).sz)).take (Kd.slice 45 k45).sz = [u] := by
        show ((cur.toList.take P.length).drop (j * 1)).take 1 = [u]
        have hj2 : j < (cur.toList.take P.length).length := by omega
        rw [Nat.mul_one, List.drop_eq_getElem_cons hj2, List.take_succ_cons, List.take_zero, List.getElem_take]
        exact congrArg (fun x => [x]) (List.getElem?_eq_some_iff.1 hu').2
      rw [e1]
      have e2 : P.getD j [] = x := by simp [List.getD, hx]
      rw [e2] at hr
      exact Kd.M_row hr)
  refine ⟨f, fun _ _ => trivial, cur.toList.take P.length, ?_, hf⟩
  rw [List.length_zipIdx]
  refine ⟨by rw [hlen]; exact (Nat.mul_one _).symm, .inr ⟨g, cap, cur, rfl, hg, hgc, hn, hcap, by rw [hcs]; exact (Nat.mul_one _).symm, by rw [show P.length * (Kd.tag f (Kd.slice 45 k45)).sz = P.length from Nat.mul_one _]⟩⟩
theorem pick_Cut.cut3 {w : World} {A : Option Addr} {R0 : List S45} (_h : Kd.C k45 w A R0.length R0) (i0 : TypeInfo) (hi : Try.prog.info? 45 = some i0) (_hs : i0.size = k45.sz) (c n : Nat) (hn : n ≤ R0.length) (hc : R0.length ≤ c) :
    ∀ W : World, (Instr.slice 34 (.slice A R0.length c) none (some (.int .i64 (n : Int))) (some (.int .i64 (n : Int)))).run Try.prog W = .ok (.slice A n n) W := by
  intro W
  have hel : Try.prog.elem 34 = 45 := by simp [Program.elem, Try.underlying34]
  have hu : Try.prog.underlying 34 = some (.slice (Try.prog.elem 34)) := by rw [hel]; exact Try.underlying34
  have ha : (A.map fun x => x.add 0) = A := by cases A <;> simp [Addr.add]
  rw [run_slice_hm W 34 A R0.length c hu .i64 .i64 n n (by omega) (by omega) (by omega), hel]
  simp [sizeOf, typeInfo, hi, sliced, Result.andThen, ha]
theorem pick_Cut.cut_ {w : World} {A : Option Addr} {R0 : List S45} (h : Kd.C k45 w A R0.length R0) (i0 : TypeInfo) (hi : Try.prog.info? 45 = some i0) (hs : i0.size = k45.sz) (c n : Nat) (hn : n ≤ R0.length) (hc : R0.length ≤ c) :
    ∃ A' : Option Addr, (∀ W : World, (Instr.slice 34 (.slice A R0.length c) (some (.int .i64 (n : Int))) none none).run Try.prog W = .ok (.slice A' (R0.drop n).length (c - n)) W) ∧ Kd.C k45 w A' (R0.drop n).length (R0.drop n) := by
  refine ⟨if c = n then A else A.map (·.add (n * k45.sz)), fun W => ?_, Kd.C_drop h hn hc⟩
  have := cut_from (P := Try.prog) 34 45 .i64 Try.underlying34 hi k45.sz hs A R0.length c (n : Int) (by omega) (by omega) W
  rw [Int.toNat_natCast] at this
  rw [List.length_drop]
  exact this
set_option maxHeartbeats 8000000 in
set_option maxRecDepth 100000 in
theorem pick_Cut.calls (A0 : Option Addr) (c0 : Nat) (l0 : List (S45)) (a1 : Int) (r1 : List (List (S45))) (r2 : Option Int) (w : World) (hr0 : Kd.C k45 w A0 l0.length l0) (hc0 : l0.length ≤ c0) (h : pick_Cut.f l0 a1 = some (r1, r2)) :
    Calls Try.prog 15 #[.slice A0 l0.length c0, .int .i64 a1] w fun e w' => ∃ v0_ : Value, e = .returned (.tuple #[v0_, errW r2]) ∧ Kd.S (Kd.slice 45 k45) 34 w' w.heap.size (fun _ => True) v0_ r1 ∧ Below w.heap.size w w' := by
  unfold pick_Cut.f at h
  by_cases hneg : a1 < 1
  · rw [if_pos hneg] at h
    obtain ⟨rfl, rfl⟩ := Prod.mk.inj (Option.some.inj h)
    clear h hr0 hc0
    go_enter Try.func15, Try.ntmps15
    go_wp2
    go_ret2
    exact ⟨_, rfl, Kd.S_nil _ _ _ _ _, Below.refl _ _⟩
  · rw [if_neg hneg] at h
    by_cases hlen : l0.length < 1000000
    · rw [if_pos hlen] at h
      obtain ⟨h1, h2⟩ := Prod.mk.inj (Option.some.inj h)
      subst h2
      have HP := Aside0.mk h1
      have HR := Aside0.mk hr0
      have HC := Aside0.mk hc0
      obtain ⟨many, rfl⟩ : ∃ many : Nat, a1 = many := ⟨a1.toNat, by omega⟩
      rw [Int.toNat_natCast] at HP
      have hmany : 1 ≤ many := by omega
      have hmany' : (1 : Int) ≤ many := by omega
      have HLN : Aside0 (∀ k, k < r1.length → (r1.getD k []).length < 1000000) := ⟨fun k hk => by
        rw [← h1]
        exact Nat.lt_of_le_of_lt (pick_Cut.pieces_len _ _ _ _ (by
          rw [h1, List.getD_eq_getElem?_getD, List.getElem?_eq_getElem hk]
          exact List.getElem_mem hk)) hlen⟩
      clear h hr0 h1 hneg
      have HB0 := Aside0.mk (Below.refl w.heap.size w)
      go_enter Try.func15, Try.ntmps15
      go_wp2_with fail
      go_loopw [0, 6] (fun s u wr => ∃ (d : Nat) (R0 : List S45) (P : List (List S45)) (A : Option Addr) (c : Nat), s = .slice A R0.length c ∧ R0.length ≤ c ∧ R0.length < 1000000 ∧ Aside0 (Kd.C k45 w A R0.length R0) ∧ Aside0 (P ++ pick_Cut.pieces many d R0 = r1) ∧ Aside0 (R0.length ≤ d) ∧ Aside0 (P.length + R0.length < 1000000) ∧ Aside0 (Kd.R (Kd.fixed (Kd.slice 45 k45) w) 34 wr w.heap.size (fun _ => True) u P) ∧ Aside0 (Below w.heap.size w wr)) (fun s _ _ => match s with | .slice _ n _ => n | _ => 0)
      case atStart => exact ⟨l0.length, l0, [], A0, c0, rfl, hc0, hlen, HR, HP, ⟨Nat.le_refl _⟩, ⟨by simpa using hlen⟩, ⟨Kd.R_nil _ _ _ _ _⟩, HB0⟩
      case round =>
        clear HB0 HR HP hc0 HC hlen
        obtain ⟨d, R0, P, A, c, rfl, hRc, hRl, HR, HP, HD, HPL, HU, HB⟩ := hrel
        by_cases hz : R0.length = 0
        · have hn : R0 = [] := List.eq_nil_of_length_eq_zero hz
          subst hn
          have hP := HP.out
          rw [pick_Cut.pieces_nil, List.append_nil] at hP
          subst hP
          clear HP HD HPL HR hRl hRc hz
          obtain ⟨-, inner, ⟨hil, hown⟩, hreps⟩ := HU.out
          rcases hown with hnil | ⟨g, cap, cells, rfl, hgb, hgc, hn, hcap, hsz, hin⟩
          · obtain ⟨rfl, hP0⟩ := hnil
            have hPn : P = [] := List.eq_nil_of_length_eq_zero hP0
            clear hreps hil HU
            go_wp2_with fail
            go_loopw [51] (fun i wz => i = .int .i64 0 ∧ wz = wr) (fun _ _ => 0)
            case atStart => exact ⟨rfl, rfl⟩
            case round =>
              obtain ⟨rfl, rfl⟩ := hrel
              go_wp2_with fail
              go_ret2
              subst hPn
              exact ⟨_, rfl, Kd.S_nil _ _ _ _ _, HB.out⟩
          · have HH : Aside0 (pick_Cut.Half wr w w.heap.size g cells P 0 (fun _ => wr.heap.size)) := ⟨pick_Cut.Half.start hgc hin hreps⟩
            have HG := Aside0.mk (And.intro hgb (And.intro hn (And.intro hcap hsz)))
            have HPB : Aside0 (P.length ≤ 9223372036854775807) := ⟨Nat.le_trans hn hcap⟩
            clear hgb hgc hn hcap hsz hin hil hreps HU
            go_wp2_with fail
            go_loopw [51] (fun i wz => ∃ (k : Nat) (cur : Array Value) (lo : Nat → Nat), i = .int .i64 k ∧ k ≤ P.length ∧ cur.size = cap ∧ Aside0 (pick_Cut.Half wz w w.heap.size g cur P k lo) ∧ Aside0 (Below w.heap.size w wz)) (fun i _ => P.length - (intOf i).toNat)
            case atStart => exact ⟨0, cells, _, rfl, Nat.zero_le _, HG.out.2.2.2.trans (Nat.mul_one _), HH, HB⟩
            case round =>
              obtain ⟨k, cur, lo, rfl, hk, hcs, HH2, HB2⟩ := hrel
              clear HH HB
              by_cases hlt : k < P.length
              · have hlt' : (k : Int) < P.length := by omega
                obtain ⟨A', c', hcell, hlc, hC⟩ := HH2.out.2.1 k (Nat.le_refl _) hlt
                obtain ⟨X, hX⟩ : ∃ X, X = P.getD k [] := ⟨_, rfl⟩
                rw [← hX] at hcell hlc hC
                have hcl : wr.cell? ⟨g, k, none⟩ = some (.slice A' X.length c') := by
                  have := HH2.out.2.2.2.2.2
                  simp [World.cell?, this, hcell]
                have HX := Aside0.mk hX
                have HC := Aside0.mk hC
                have HXL : Aside0 (X.length < 1000000) := ⟨by rw [hX]; exact HLN.out k hlt⟩
                clear hX hC hcell
                go_wp2_with fail
                refine (api_Entry.calls A' c' X X wr (Kd.C_below HC.out HB2.out) hlc (by unfold api_Entry.f; rw [if_pos (by have := HXL.out; omega)])).mono ?_
                rintro e w2 ⟨u, rfl, hu, hb⟩
                obtain ⟨Au, cu, rfl⟩ := Kd.R_slice hu
                have hstep := fun (w3 : World) (hgr : w2.grownBy w3 (some g)) (h3 : w3.heap[g]? = some (.cells (cur.setIfInBounds k (.slice Au X.length cu)) 34 (0, 0))) => pick_Cut.Half.step (g := g) (u := .slice Au X.length cu) HH2.out hlt (by rw [hcs]; have := HG.out.2.1; omega) hb (HB2.out.size) (by rw [← HX.out]; exact hu) hgr h3
                have hg2 : w2.heap[g]? = some (.cells cur 34 (0, 0)) := (hb.block g (Array.getElem?_eq_some_iff.1 HH2.out.2.2.2.2.2).1).trans HH2.out.2.2.2.2.2
                have HB3 := Aside0.mk (below_step HB2.out hb)
                have HS := Aside0.mk hstep
                have HG2 := Aside0.mk hg2
                clear hu hb hg2 hcl HH2 HB2 hstep
                have hkc : k < cur.size := by rw [hcs]; have := HG.out.2.1; omega
                obtain ⟨hc2, hf2⟩ : w2.cell? ⟨g, k, none⟩ = some cur[k] ∧ w2.frozen? ⟨g, k, none⟩ = false := by
                  refine ⟨(blk_cell HG2.out k).trans ?_, blk_frozen HG2.out k⟩
                  exact Array.getElem?_eq_getElem hkc
                dsimp only
                go_wp2_with fail
                have hgr : w2.grownBy (w2.setCell ⟨g, k, none⟩ (.slice Au X.length cu)) (some g) := ⟨rfl, rfl, rfl, by simp, fun j hj hn => Below.heap_setCell w2 ⟨g, k, none⟩ _ j (fun q => hn (by rw [q]))⟩
                have HH3 := Aside0.mk (HS.out _ hgr (blk_set HG2.out k _))
                have HB4 := Aside0.mk (pw_below_grown HB3.out (some g) HB3.out.size hgr (fun k_ e_ => by injection e_ with e_; have := HG.out.1; omega))
                have hpb := HPB.out
                have hw : wrap64 ((k : Int) + 1) = ((k + 1 : Nat) : Int) := by unfold wrap64; omega
                refine ⟨⟨k + 1, cur.setIfInBounds k (.slice Au X.length cu), _, congrArg _ hw, hlt, by rw [Array.size_setIfInBounds]; exact hcs, HH3, HB4⟩, ?_⟩
                have h2 : P.length - (intOf (.int .i64 (wrap64 ((k : Int) + 1)))).toNat < P.length - (intOf (.int .i64 (k : Int))).toNat := by rw [hw]; simp only [intOf, Int.toNat_natCast]; omega
                exact h2
              · have hlt' : ¬ (k : Int) < P.length := by omega
                have hke : k = P.length := by omega
                subst hke
                go_wp2_with fail
                go_ret2
                exact ⟨_, rfl, pick_Cut.Half.all HH2.out HG.out.1 HG.out.2.1 HG.out.2.2.1 hcs, HB2.out⟩
        · have hpos : 0 < R0.length := by omega
          obtain ⟨n0, hn0⟩ : ∃ n0 : Nat, n0 = min many R0.length := ⟨_, rfl⟩
          have hmin : (if (R0.length : Int) < (many : Int) then (R0.length : Int) else (many : Int)) = (n0 : Int) := by split <;> omega
          have hmin' : (if R0.length < many then (R0.length : Int) else (many : Int)) = (n0 : Int) := by split <;> omega
          have hn1 : 1 ≤ n0 := by omega
          have hn2 : n0 ≤ R0.length := by omega
          have hz0 : (0 : Int) < R0.length := by omega
          have HN0 := Aside0.mk hn0
          have HE : Aside0 (pick_Cut.ext R0 (R0.length - n0) n0 = pick_Cut.at_ many R0) := ⟨by rw [hn0]; rfl⟩
          clear hn0 hz hpos
          go_wp2_with fail
          clear hmin hmin'
          go_loopw [7] (fun i wr => ∃ n : Nat, 1 ≤ n ∧ n ≤ R0.length ∧ i = .int .i64 n ∧ Aside0 (pick_Cut.ext R0 (R0.length - n) n = pick_Cut.at_ many R0) ∧ Aside0 (Kd.R (Kd.fixed (Kd.slice 45 k45) w) 34 wr w.heap.size (fun _ => True) u6 P) ∧ Aside0 (Below w.heap.size w wr)) (fun i _ => R0.length - (intOf i).toNat)
          case atStart => exact ⟨n0, hn1, hn2, rfl, HE, HU, HB⟩
          case round =>
            clear HE HU HB hn1 hn2 HN0
            obtain ⟨n, hn1, hn2, rfl, HE, HU, HB⟩ := hrel
            have hn1' : (1 : Int) ≤ n := by omega
            have hn2' : (n : Int) ≤ R0.length := by omega
            by_cases hlt : n < R0.length
            · obtain ⟨ad, hA, x0, -, -, -⟩ := at_T45 (Kd.C_below HR.out HB.out) (n : Int) (by omega) (by omega)
              obtain ⟨ad', hA', y0, -, -, -⟩ := at_T45 (Kd.C_below HR.out HB.out) ((n : Int) - 1) (by omega) (by omega)
              subst hA
              injection hA' with hA'
              subst hA'
              obtain ⟨x, hx⟩ : ∃ x : S45, x = rd_T45 R0 (n : Int) := ⟨_, rfl⟩
              obtain ⟨y, hy⟩ : ∃ y : S45, y = rd_T45 R0 ((n : Int) - 1) := ⟨_, rfl⟩
              rw [← hx, Int.toNat_natCast] at x0
              rw [← hy, show ((n : Int) - 1).toNat = n - 1 by omega] at y0
              have hxg : x = R0.getD n z45 := by rw [hx, rd_T45, Int.toNat_natCast]
              have hyg : y = R0.getD (n - 1) z45 := by rw [hy, rd_T45, show ((n : Int) - 1).toNat = n - 1 by omega]
              have hext : pick_Cut.ext R0 (R0.length - n) n = if x.f0.toList = y.f0.toList then pick_Cut.ext R0 (R0.length - (n + 1)) (n + 1) else n := by
                conv => lhs; rw [show R0.length - n = (R0.length - (n + 1)) + 1 by omega]; unfold pick_Cut.ext
                rw [hxg, hyg]
                by_cases q : (R0.getD n z45).f0.toList = (R0.getD (n - 1) z45).f0.toList
                · rw [if_pos ⟨hlt, q⟩, if_pos q]
                · rw [if_neg (fun h => q h.2), if_neg q]
              have HX := Aside0.mk hext
              clear hx hy hxg hyg hext
              have hltb : decide ((n : Int) < R0.length) = true := decide_eq_true (by omega)
              by_cases q : x.f0.toList = y.f0.toList
              · have qb : (x.f0.toList == y.f0.toList) = true := beq_iff_eq.2 q
                have HE2 : Aside0 (pick_Cut.ext R0 (R0.length - (n + 1)) (n + 1) = pick_Cut.at_ many R0) := ⟨by rw [← HE.out, HX.out, if_pos q]⟩
                clear q HE HX
                go_wp2_with fail
                go_quiet (fail)
                go_wp2_with fail
                refine ⟨⟨n + 1, by omega, by omega, by go_num, HE2, ⟨Kd.R_drewN HU.out _⟩, ⟨pw_below_drewN HB.out _⟩⟩, by simp [intOf]; omega⟩
              · have qb : (x.f0.toList == y.f0.toList) = false := beq_eq_false_iff_ne.2 q
                have HE2 : Aside0 (n = pick_Cut.at_ many R0) := ⟨by rw [← HE.out, HX.out, if_neg q]⟩
                clear q HE HX
                go_wp2_with fail
                go_quiet (fail)
                have HU2 := Aside0.mk (Kd.R_drewN HU.out nq)
                have HB2 := Aside0.mk (pw_below_drewN HB.out nq)
                generalize wr.drewN nq = wr2 at HU2 HB2 ⊢
                clear HU HB x0 y0
                obtain ⟨i0, hi, hzz⟩ := Option.map_eq_some_iff.1 info45
                simp only [Prod.mk.injEq] at hzz
                obtain ⟨X, hX⟩ : ∃ X, X = R0.take n := ⟨_, rfl⟩
                have hXl : X.length = n := by rw [hX, List.length_take]; omega
                have hXC := Kd.C_take HR.out hn2
                rw [← hX, hXl] at hXC
                have HXC := Aside0.mk hXC
                have HXL := Aside0.mk hXl
                have hcut2 := pick_Cut.cut3 HR.out i0 hi hzz.2.1 c n hn2 hRc
                obtain ⟨A', hcut, hRC⟩ := pick_Cut.cut_ HR.out i0 hi hzz.2.1 c n hn2 hRc
                obtain ⟨R1, hR1⟩ : ∃ R1, R1 = R0.drop n := ⟨_, rfl⟩
                have hR1l : R1.length = R0.length - n := by rw [hR1, List.length_drop]
                rw [← hR1] at hcut hRC
                have HRC := Aside0.mk hRC
                obtain ⟨d', rfl⟩ : ∃ d', d = d' + 1 := ⟨d - 1, by have := HD.out; omega⟩
                have hP2 := HP.out
                rw [pick_Cut.pieces, if_neg (by intro q; rw [q] at hn2; simp at hn2; omega), ← HE2.out, ← hX, ← hR1] at hP2
                have HP2 : Aside0 ((P ++ [X]) ++ pick_Cut.pieces many d' R1 = r1) := ⟨by rw [List.append_assoc]; exact hP2⟩
                have HD2 : Aside0 (R1.length ≤ d') := ⟨by have := HD.out; omega⟩
                have HPL2 : Aside0 ((P ++ [X]).length + R1.length < 1000000) := ⟨by have := HPL.out; rw [List.length_append, List.length_singleton]; omega⟩
                have hR1c : R1.length ≤ c - n := by omega
                have hR1m : R1.length < 1000000 := by omega
                have HML : Aside0 (R1.length < R0.length) := ⟨by omega⟩
                have HPS : Aside0 (P.length < 1000000) := ⟨by have := HPL.out; omega⟩
                clear hi hzz hXC hXl hRC hR1l hP2 hX hR1 HP HD HPL HE2
                go_wp2_with ((with_reducible refine gate_builtin (b := .append) (xs := #[.tmp 39, .tmp 44]) rfl ?_); refine Kd.R_append (Kd.fixed (Kd.slice 45 k45) w) (w0 := w) w.heap.size rfl (.tmp 39) (.tmp 44) 35 34 (.slice none 0 0) 24 rfl Try.underlying35 info34 rfl Nat.zero_lt_one (by omega) _ P X [.slice _ n n] (fun _ => True) (fun _ => False) rfl (by first | (go_simp; done) | (go_simp; rfl)) ?aP (fun _ hk => hk.elim) ?aF ?aO ?aB ?aS ?aL ?_; (case aP => exact ⟨_, n, by rw [HXL.out], by rw [HXL.out]; exact Nat.le_refl _, by rw [HXL.out]; exact HXC.out⟩); (case aF => exact fun _ _ => trivial); (case aO => exact HU2.out); (case aB => exact HB2.out); (case aS => exact HB2.out.size); (case aL => have := HPS.out; omega); intro v3 w3 ho hb hg hat; have HU3 := Aside0.mk ho; have HB3 := Aside0.mk hb; clear ho hb hg hat)
                refine ⟨⟨d', R1, P ++ [X], A', c - n, rfl, hR1c, hR1m, HRC, HP2, HD2, HPL2, HU3, HB3⟩, HML.out⟩
            · have hE := HE.out
              rw [show R0.length - n = 0 by omega] at hE
              have HE2 : Aside0 (n = pick_Cut.at_ many R0) := ⟨hE⟩
              have hltb : decide ((n : Int) < R0.length) = false := decide_eq_false (by omega)
              clear hE HE
              go_wp2_with fail
              go_quiet (fail)
              have HU2 := Aside0.mk (Kd.R_drewN HU.out nq)
              have HB2 := Aside0.mk (pw_below_drewN HB.out nq)
              generalize wr.drewN nq = wr2 at HU2 HB2 ⊢
              clear HU HB
              obtain ⟨i0, hi, hzz⟩ := Option.map_eq_some_iff.1 info45
              simp only [Prod.mk.injEq] at hzz
              obtain ⟨X, hX⟩ : ∃ X, X = R0.take n := ⟨_, rfl⟩
              have hXl : X.length = n := by rw [hX, List.length_take]; omega
              have hXC := Kd.C_take HR.out hn2
              rw [← hX, hXl] at hXC
              have HXC := Aside0.mk hXC
              have HXL := Aside0.mk hXl
              have hcut2 := pick_Cut.cut3 HR.out i0 hi hzz.2.1 c n hn2 hRc
              obtain ⟨A', hcut, hRC⟩ := pick_Cut.cut_ HR.out i0 hi hzz.2.1 c n hn2 hRc
              obtain ⟨R1, hR1⟩ : ∃ R1, R1 = R0.drop n := ⟨_, rfl⟩
              have hR1l : R1.length = R0.length - n := by rw [hR1, List.length_drop]
              rw [← hR1] at hcut hRC
              have HRC := Aside0.mk hRC
              obtain ⟨d', rfl⟩ : ∃ d', d = d' + 1 := ⟨d - 1, by have := HD.out; omega⟩
              have hP2 := HP.out
              rw [pick_Cut.pieces, if_neg (by intro q; rw [q] at hn2; simp at hn2; omega), ← HE2.out, ← hX, ← hR1] at hP2
              have HP2 : Aside0 ((P ++ [X]) ++ pick_Cut.pieces many d' R1 = r1) := ⟨by rw [List.append_assoc]; exact hP2⟩
              have HD2 : Aside0 (R1.length ≤ d') := ⟨by have := HD.out; omega⟩
              have HPL2 : Aside0 ((P ++ [X]).length + R1.length < 1000000) := ⟨by have := HPL.out; rw [List.length_append, List.length_singleton]; omega⟩
              have hR1c : R1.length ≤ c - n := by omega
              have hR1m : R1.length < 1000000 := by omega
              have HML : Aside0 (R1.length < R0.length) := ⟨by omega⟩
              have HPS : Aside0 (P.length < 1000000) := ⟨by have := HPL.out; omega⟩
              clear hi hzz hXC hXl hRC hR1l hP2 hX hR1 HP HD HPL HE2
              go_wp2_with ((with_reducible refine gate_builtin (b := .append) (xs := #[.tmp 39, .tmp 44]) rfl ?_); refine Kd.R_append (Kd.fixed (Kd.slice 45 k45) w) (w0 := w) w.heap.size rfl (.tmp 39) (.tmp 44) 35 34 (.slice none 0 0) 24 rfl Try.underlying35 info34 rfl Nat.zero_lt_one (by omega) _ P X [.slice _ n n] (fun _ => True) (fun _ => False) rfl (by first | (go_simp; done) | (go_simp; rfl)) ?aP (fun _ hk => hk.elim) ?aF ?aO ?aB ?aS ?aL ?_; (case aP => exact ⟨_, n, by rw [HXL.out], by rw [HXL.out]; exact Nat.le_refl _, by rw [HXL.out]; exact HXC.out⟩); (case aF => exact fun _ _ => trivial); (case aO => exact HU2.out); (case aB => exact HB2.out); (case aS => exact HB2.out.size); (case aL => have := HPS.out; omega); intro v3 w3 ho hb hg hat; have HU3 := Aside0.mk ho; have HB3 := Aside0.mk hb; clear ho hb hg hat)
              refine ⟨⟨d', R1, P ++ [X], A', c - n, rfl, hR1c, hR1m, HRC, HP2, HD2, HPL2, HU3, HB3⟩, HML.out⟩
    · rw [if_neg hlen] at h
      cases h


end Go.Proofs.Ytepgnefkpjnmlaa.PD
