/-
  PickJobs: the plain law. What is picked are tables of the version, of one level and the next one, each once; of the next one just those that have a key between the least and the greatest one of what goes down; what stays of that level has none between those of all.
-/
import Derived.Test.YtepgnefkpjnmlaaP3x
set_option linter.unusedVariables false
set_option linter.unusedSimpArgs false
namespace Go.Proofs.Ytepgnefkpjnmlaa.P3
open Go.RowKit Go.Proofs.Ytepgnefkpjnmlaa Go.Proofs.YtepgnefkpjnmlaaW.PrintWords

/-! ### the order of texts -/
theorem less_trans : ∀ x y z : List UInt8, Op.bytesLess x y = true → Op.bytesLess y z = true → Op.bytesLess x z = true
  | x, y, [], _, h => by cases y <;> simp [Op.bytesLess] at h
  | x, [], _ :: _, h, _ => by cases x <;> simp [Op.bytesLess] at h
  | [], _ :: _, _ :: _, _, _ => rfl
  | a :: x, b :: y, c :: z, h1, h2 => by
    simp only [Op.bytesLess, Bool.or_eq_true, decide_eq_true_eq, Bool.and_eq_true, beq_iff_eq] at h1 h2 ⊢
    rcases h1 with h1 | ⟨rfl, h1⟩
    · rcases h2 with h2 | ⟨rfl, h2⟩
      · exact .inl (by
          have := UInt8.lt_iff_toNat_lt.1 h1
          have := UInt8.lt_iff_toNat_lt.1 h2
          exact UInt8.lt_iff_toNat_lt.2 (by omega))
      · exact .inl h1
    · rcases h2 with h2 | ⟨rfl, h2⟩
      · exact .inl h2
      · exact .inr ⟨rfl, less_trans x y z h1 h2⟩
/-- One text is less than another one. -/
def Lt (a b : ByteArray) : Prop := Op.bytesLess a.toList b.toList = true
instance (a b : ByteArray) : Decidable (Lt a b) := inferInstanceAs (Decidable (_ = true))
theorem Lt.trans {a b c : ByteArray} (h : Lt a b) (k : Lt b c) : Lt a c := less_trans _ _ _ h k
theorem lt_of_not {a b c : ByteArray} (h : Lt a b) (k : ¬ Lt c b) : Lt a c := by
  have := less_or_eq b.toList c.toList
  unfold Lt at h k ⊢
  rw [Bool.not_eq_true] at k
  rw [k, Bool.not_false, Bool.or_eq_true, beq_iff_eq] at this
  rcases this with this | this
  · exact less_trans _ _ _ h this
  · rw [← this]; exact h
theorem not_lt_of {a b c : ByteArray} (h : ¬ Lt b a) (k : Lt b c) : Lt a c := by
  have := less_or_eq a.toList b.toList
  unfold Lt at h k ⊢
  rw [Bool.not_eq_true] at h
  rw [h, Bool.not_false, Bool.or_eq_true, beq_iff_eq] at this
  rcases this with this | this
  · exact less_trans _ _ _ this k
  · rw [this]; exact k
theorem lt_irr (a : ByteArray) : ¬ Lt a a := by
  intro h
  have := less_or_eq a.toList a.toList
  rw [show Op.bytesLess a.toList a.toList = true from h] at this
  simp at this
theorem lt_min (s x y : ByteArray) : Lt s (minB x y) ↔ Lt s x ∧ Lt s y := by
  unfold minB
  split
  · rename_i h
    exact ⟨fun k => ⟨k.trans h, k⟩, fun k => k.2⟩
  · rename_i h
    exact ⟨fun k => ⟨k, lt_of_not k h⟩, fun k => k.1⟩
theorem max_lt (s x y : ByteArray) : Lt (maxB x y) s ↔ Lt x s ∧ Lt y s := by
  unfold maxB
  split
  · rename_i h
    exact ⟨fun k => ⟨Lt.trans h k, k⟩, fun k => k.2⟩
  · rename_i h
    exact ⟨fun k => ⟨k, not_lt_of h k⟩, fun k => k.1⟩
theorem lt_lo (s : ByteArray) : ∀ (l : List S49) (x : ByteArray), Lt s (pick_Pick.lo l x) ↔ Lt s x ∧ ∀ y ∈ l, Lt s y.f2
  | [], x => by simp [pick_Pick.lo]
  | y :: l, x => by
    have := lt_lo s l (minB x y.f2)
    unfold pick_Pick.lo at this ⊢
    rw [List.foldl_cons, this, lt_min]
    simp [and_assoc]
theorem hi_lt (s : ByteArray) : ∀ (l : List S49) (x : ByteArray), Lt (pick_Pick.hi l x) s ↔ Lt x s ∧ ∀ y ∈ l, Lt y.f3 s
  | [], x => by simp [pick_Pick.hi]
  | y :: l, x => by
    have := hi_lt s l (maxB x y.f3)
    unfold pick_Pick.hi at this ⊢
    rw [List.foldl_cons, this, max_lt]
    simp [and_assoc]
/-- A table has a key between the least and the greatest one of some. -/
def Meets (l : List S49) (m : S49) : Prop := l ≠ [] ∧ ¬ (∀ y ∈ l, Lt y.f3 m.f2) ∧ ¬ ∀ y ∈ l, Lt m.f3 y.f2
theorem meetB_iff (l : List S49) (m : S49) : pick_Pick.meetB l m = true ↔ Meets l m := by
  cases l with
  | nil => simp [pick_Pick.meetB, Meets]
  | cons x l =>
    have h1 := hi_lt m.f2 (x :: l) x.f3
    have h2 := lt_lo m.f3 (x :: l) x.f2
    have e1 : (Lt x.f3 m.f2 ∧ ∀ y ∈ x :: l, Lt y.f3 m.f2) ↔ ∀ y ∈ x :: l, Lt y.f3 m.f2 := ⟨fun h => h.2, fun h => ⟨h x (by simp), h⟩⟩
    have e2 : (Lt m.f3 x.f2 ∧ ∀ y ∈ x :: l, Lt m.f3 y.f2) ↔ ∀ y ∈ x :: l, Lt m.f3 y.f2 := ⟨fun h => h.2, fun h => ⟨h x (by simp), h⟩⟩
    rw [e1] at h1
    rw [e2] at h2
    unfold pick_Pick.meetB Meets
    rw [← h1, ← h2]
    simp only [Bool.and_eq_true, Bool.not_eq_true', ne_eq, List.cons_ne_nil, not_false_eq_true, true_and, Lt, Bool.not_eq_true]
theorem Meets.same {l l' : List S49} {m : S49} (h : ∀ x, x ∈ l ↔ x ∈ l') : Meets l m ↔ Meets l' m := by
  have e : l = [] ↔ l' = [] := by
    constructor
    · rintro rfl
      exact List.eq_nil_iff_forall_not_mem.2 fun x hx => by simpa using (h x).2 hx
    · rintro rfl
      exact List.eq_nil_iff_forall_not_mem.2 fun x hx => by simpa using (h x).1 hx
  unfold Meets
  simp only [ne_eq, e, h]

/-! ### what the law's loops tell -/
theorem wrap_fit (n : Int) (h0 : -9223372036854775808 ≤ n) (h : n ≤ 9223372036854775807) : wrap64 n = n := by unfold wrap64; omega
theorem within_loop (l : List Int) (n : Int) (hl : l.length < 1000000) : ∀ (d i k : Nat), l.length = i + d → d + 1 ≤ k → palinodelaw16_within.l0 k l n (i : Int) = some (decide (n ∈ l.drop i))
  | 0, i, k, he, hk => by
    obtain ⟨k, rfl⟩ : ∃ k', k = k' + 1 := ⟨k - 1, by omega⟩
    unfold palinodelaw16_within.l0
    rw [if_neg (by omega), List.drop_eq_nil_of_le (by omega)]
    simp
  | d + 1, i, k, he, hk => by
    obtain ⟨k, rfl⟩ : ∃ k', k = k' + 1 := ⟨k - 1, by omega⟩
    have hlt : i < l.length := by omega
    have hx : rd l (i : Int) = l[i] := by rw [rd, Int.toNat_natCast, List.getD_eq_getElem?_getD, List.getElem?_eq_getElem hlt, Option.getD_some]
    have hw : wrap64 ((i : Int) + 1) = ((i + 1 : Nat) : Int) := wrap_fit _ (by omega) (by omega)
    unfold palinodelaw16_within.l0
    rw [if_pos (by omega), if_pos (by omega), hx, hw, within_loop l n hl d (i + 1) k (by omega) (by omega), List.drop_eq_getElem_cons hlt]
    by_cases h : l[i] = n
    · rw [if_pos h]; simp [h]
    · rw [if_neg h]
      refine congrArg some (decide_eq_decide.2 ?_)
      rw [List.mem_cons]
      exact ⟨.inr, fun q => q.resolve_left (fun e => h e.symm)⟩
theorem within_some (l : List Int) (n : Int) (hl : l.length < 1000000) (k : Nat) (hk : l.length + 1 ≤ k) : palinodelaw16_within.f k l n = some (decide (n ∈ l)) := by
  have := within_loop l n hl l.length 0 k (by omega) hk
  simpa [palinodelaw16_within.f] using this
def Res (p q : ByteArray) (m : S49) : Bool := if Op.bytesLess m.f3.toList p.toList = true then false else !(Op.bytesLess q.toList m.f2.toList)
theorem meets_loop (V : List S49) (ids G : List Int) (a : Int) (m : S49) (hV : V.length ≤ 200) (hi : ids.length < 1000000) : ∀ (d i k : Nat) (p q : ByteArray) (any : Bool), V.length = i + d → d + ids.length + 2 ≤ k →
    palinodelaw16_meets.l0 k ids p q any (i : Int) V G a m.f0 m.f1 m.f2 m.f3 m.f4 = some (match any, (V.drop i).filter (fun x => decide (x.f0 ∈ ids)) with
      | true, F => Res (pick_Pick.lo F p) (pick_Pick.hi F q) m
      | false, [] => false
      | false, x :: F => Res (pick_Pick.lo F x.f2) (pick_Pick.hi (x :: F) q) m)
  | 0, i, k, p, q, any, he, hk => by
    obtain ⟨k, rfl⟩ : ∃ k', k = k' + 1 := ⟨k - 1, by omega⟩
    unfold palinodelaw16_meets.l0
    rw [if_neg (by omega), List.drop_eq_nil_of_le (by omega)]
    cases any with
    | false => rfl
    | true =>
      rw [if_pos rfl]
      show (if Op.bytesLess m.f3.toList p.toList = true then some false else some (!(Op.bytesLess q.toList m.f2.toList))) = some (Res p q m)
      unfold Res
      by_cases c : Op.bytesLess m.f3.toList p.toList = true
      · rw [if_pos c, if_pos c]
      · rw [if_neg c, if_neg c]
  | d + 1, i, k, p, q, any, he, hk => by
    obtain ⟨k, rfl⟩ : ∃ k', k = k' + 1 := ⟨k - 1, by omega⟩
    have hlt : i < V.length := by omega
    have hx : rd_T49 V (i : Int) = V[i] := by rw [rd_T49, Int.toNat_natCast, List.getD_eq_getElem?_getD, List.getElem?_eq_getElem hlt, Option.getD_some]
    have hw : wrap64 ((i : Int) + 1) = ((i + 1 : Nat) : Int) := wrap_fit _ (by omega) (by omega)
    unfold palinodelaw16_meets.l0
    rw [if_pos (by omega), if_pos (by omega), hx, hw, within_some ids _ hi k (by omega), Option.bind_some, List.drop_eq_getElem_cons hlt, List.filter_cons]
    have rec_ := fun p q any => meets_loop V ids G a m hV hi d (i + 1) k p q any (by omega) (by omega)
    by_cases h : V[i].f0 ∈ ids
    · rw [if_pos (decide_eq_true h), if_pos (decide_eq_true h)]
      cases any with
      | true =>
        rw [if_pos rfl]
        by_cases hl : Op.bytesLess V[i].f2.toList p.toList = true
        · rw [if_pos hl, rec_]
          simp only [pick_Pick.lo, pick_Pick.hi, List.foldl_cons, minB, if_pos hl]
        · rw [if_neg hl, rec_]
          simp only [pick_Pick.lo, pick_Pick.hi, List.foldl_cons, minB, if_neg hl]
      | false =>
        rw [if_neg (by decide), rec_]
        rfl
    · rw [if_neg (by simpa using h), if_neg (by simpa using h), rec_]
theorem meets_some (V : List S49) (ids G : List Int) (a : Int) (m : S49) (hV : V.length ≤ 200) (hi : ids.length < 1000000) (k : Nat) (hk : V.length + ids.length + 2 ≤ k) :
    palinodelaw16_meets.f k V G a ids m.f0 m.f1 m.f2 m.f3 m.f4 = some (pick_Pick.meetB (V.filter fun x => decide (x.f0 ∈ ids)) m) := by
  unfold palinodelaw16_meets.f
  have := meets_loop V ids G a m hV hi V.length 0 k ⟨#[]⟩ ⟨#[]⟩ false (by omega) hk
  rw [List.drop_zero] at this
  refine this.trans (congrArg some ?_)
  cases hF : V.filter (fun x => decide (x.f0 ∈ ids)) with
  | nil => rfl
  | cons x F =>
    show Res (pick_Pick.lo F x.f2) (pick_Pick.hi (x :: F) ⟨#[]⟩) m = pick_Pick.meetB (x :: F) m
    rw [Bool.eq_iff_iff, meetB_iff]
    have h1 := hi_lt m.f2 (x :: F) ⟨#[]⟩
    have h2 := lt_lo m.f3 F x.f2
    have e1 : (Lt ⟨#[]⟩ m.f2 ∧ ∀ y ∈ x :: F, Lt y.f3 m.f2) ↔ ∀ y ∈ x :: F, Lt y.f3 m.f2 := ⟨fun h => h.2, fun h => ⟨by
      have := h x (by simp)
      unfold Lt at this ⊢
      rw [show (⟨#[]⟩ : ByteArray).toList = [] by kernel_rfl]
      cases hm : m.f2.toList with
      | nil => rw [hm] at this; cases x.f3.toList <;> simp [Op.bytesLess] at this
      | cons b t => rfl, h⟩⟩
    have e2 : (Lt m.f3 x.f2 ∧ ∀ y ∈ F, Lt m.f3 y.f2) ↔ ∀ y ∈ x :: F, Lt m.f3 y.f2 := by simp
    rw [e1] at h1
    rw [e2] at h2
    unfold Meets Res
    rw [← h1, ← h2]
    by_cases c : Op.bytesLess m.f3.toList (pick_Pick.lo F x.f2).toList = true
    · rw [if_pos c]
      simp [Lt, c]
    · rw [if_neg c]
      simp [Lt, c]

/-! ### a right version -/
theorem meta_true (m : S49) (h : version_Right.meta_ m = true) : (1 ≤ m.f4 ∧ m.f4 ≤ 1048576) ∧ (0 ≤ m.f1 ∧ m.f1 < 4) ∧ ¬ Lt m.f3 m.f2 := by
  unfold version_Right.meta_ version_meta.f at h
  repeat' split at h
  all_goals first | (exfalso; revert h; simp; done) | exact ⟨⟨by omega, by omega⟩, ⟨by omega, by omega⟩, by unfold Lt; assumption⟩
theorem right_facts {V : List S49} {G : List Int} {a : Int} (h : version_Right.tell V G a = true) :
    V.length ≤ 200 ∧ (V.map (·.f0)).Nodup ∧ (∀ m ∈ V, version_Right.meta_ m = true) ∧ ∀ i, i + 1 < V.length → version_Right.step_ (V.getD i z49) (V.getD (i + 1) z49) = true := by
  unfold version_Right.tell at h
  simp only [Bool.and_eq_true, decide_eq_true_eq, List.all_eq_true, List.mem_range] at h
  obtain ⟨hl, -, -, -, hnd, -, hall⟩ := h
  refine ⟨hl, (List.nodup_append.1 hnd).1, fun m hm => ?_, fun i hi => ?_⟩
  · obtain ⟨i, hi, rfl⟩ := List.getElem_of_mem hm
    have h1 := hall i hi
    unfold version_Right.good_ at h1
    rw [Bool.and_eq_true] at h1
    have h2 := h1.1
    rw [List.getD_eq_getElem?_getD, List.getElem?_eq_getElem hi, Option.getD_some] at h2
    exact h2
  · have h1 := hall (i + 1) hi
    unfold version_Right.good_ at h1
    rw [Bool.and_eq_true] at h1
    simpa using h1.2
theorem step_le {a b : S49} (h : version_Right.step_ a b = true) : a.f1 ≤ b.f1 ∧ (a.f1 = b.f1 → 0 < a.f1 → Lt a.f3 b.f2) := by
  unfold version_Right.step_ at h
  rw [Bool.and_eq_true, decide_eq_true_eq] at h
  refine ⟨?_, fun e hp => ?_⟩
  · refine Decidable.byContradiction fun hn => ?_
    have h1 := h.1
    have e1 : ¬ a.f1 < b.f1 := by omega
    have e2 : b.f1 < a.f1 := by omega
    by_cases c : a.f1 > 0 <;> simp [version_Right.ord, e1, e2, c] at h1
  · have h2 := h.2
    simp only [e, decide_true, Bool.true_and, show (0 : Int) < b.f1 by omega, Bool.not_not, Bool.not_eq_true'] at h2
    exact h2
theorem mono_lev {V : List S49} (hs : ∀ i, i + 1 < V.length → version_Right.step_ (V.getD i z49) (V.getD (i + 1) z49) = true) : ∀ d i, i + d < V.length → (V.getD i z49).f1 ≤ (V.getD (i + d) z49).f1
  | 0, i, h => Int.le_refl _
  | d + 1, i, h => Int.le_trans (mono_lev hs d i (by omega)) (step_le (hs (i + d) (by omega))).1
theorem apart_at {V : List S49} (hm : ∀ m ∈ V, version_Right.meta_ m = true) (hs : ∀ i, i + 1 < V.length → version_Right.step_ (V.getD i z49) (V.getD (i + 1) z49) = true) :
    ∀ d i, i + d + 1 < V.length → (V.getD i z49).f1 = (V.getD (i + d + 1) z49).f1 → 0 < (V.getD i z49).f1 → Lt (V.getD i z49).f3 (V.getD (i + d + 1) z49).f2
  | 0, i, h, he, hp => (step_le (hs i h)).2 he hp
  | d + 1, i, h, he, hp => by
    have h1 := (step_le (hs i (by omega))).1
    have h2 := mono_lev hs (d + 1) (i + 1) (by omega)
    rw [show i + 1 + (d + 1) = i + (d + 1) + 1 by omega] at h2
    have h3 : (V.getD i z49).f1 = (V.getD (i + 1) z49).f1 := by omega
    have h4 := apart_at hm hs d (i + 1) (by omega) (by rw [show i + 1 + d + 1 = i + (d + 1) + 1 by omega]; omega) (by omega)
    rw [show i + 1 + d + 1 = i + (d + 1) + 1 by omega] at h4
    have hi1 : i + 1 < V.length := by omega
    have h5 := (meta_true _ (hm _ (show V.getD (i + 1) z49 ∈ V by rw [List.getD_eq_getElem?_getD, List.getElem?_eq_getElem hi1]; exact List.getElem_mem hi1))).2.2
    exact ((step_le (hs i (by omega))).2 h3 hp).trans (not_lt_of h5 h4)
theorem apart {V : List S49} (hm : ∀ m ∈ V, version_Right.meta_ m = true) (hs : ∀ i, i + 1 < V.length → version_Right.step_ (V.getD i z49) (V.getD (i + 1) z49) = true) {m u : S49} (h1 : m ∈ V) (h2 : u ∈ V) (hne : m ≠ u) (he : m.f1 = u.f1) (hp : 0 < m.f1) : Lt m.f3 u.f2 ∨ Lt u.f3 m.f2 := by
  obtain ⟨i, hi, rfl⟩ := List.getElem_of_mem h1
  obtain ⟨j, hj, rfl⟩ := List.getElem_of_mem h2
  have gi : ∀ i (h : i < V.length), V[i] = V.getD i z49 := fun i h => by rw [List.getD_eq_getElem?_getD, List.getElem?_eq_getElem h, Option.getD_some]
  rw [gi i hi, gi j hj] at he hne ⊢
  rw [gi i hi] at hp
  rcases Nat.lt_trichotomy i j with h | h | h
  · obtain ⟨d, rfl⟩ : ∃ d, j = i + d + 1 := ⟨j - i - 1, by omega⟩
    exact .inl (apart_at hm hs d i hj he hp)
  · subst h
    exact absurd rfl hne
  · obtain ⟨d, rfl⟩ : ∃ d, i = j + d + 1 := ⟨i - j - 1, by omega⟩
    exact .inr (apart_at hm hs d j hi he.symm (by omega))
theorem inj_of : ∀ (V : List S49), (V.map (·.f0)).Nodup → ∀ m ∈ V, ∀ u ∈ V, m.f0 = u.f0 → m = u
  | [], _, m, hm, _, _, _ => by simp at hm
  | x :: V, h, m, hm, u, hu, e => by
    rw [List.map_cons, List.nodup_cons] at h
    rcases List.mem_cons.1 hm with h1 | h1
    · rcases List.mem_cons.1 hu with h2 | h2
      · rw [h1, h2]
      · subst h1
        exact (h.1 (List.mem_map.2 ⟨u, h2, e.symm⟩)).elim
    · rcases List.mem_cons.1 hu with h2 | h2
      · subst h2
        exact (h.1 (List.mem_map.2 ⟨m, h1, e⟩)).elim
      · exact inj_of V h.2 m h1 u h2 e
theorem mem_ids {V : List S49} (hnd : (V.map (·.f0)).Nodup) {l : List S49} (hl : ∀ x ∈ l, x ∈ V) {m : S49} (hm : m ∈ V) : m.f0 ∈ l.map (·.f0) ↔ m ∈ l := by
  constructor
  · intro h
    obtain ⟨x, hx, e⟩ := List.mem_map.1 h
    exact inj_of V hnd x (hl x hx) m hm e ▸ hx
  · exact fun h => List.mem_map.2 ⟨m, h, rfl⟩
/-- What goes down. -/
theorem first_facts (V : List S49) (hn : ¬ (pick_first.tell V).1 < 0) : (0 ≤ (pick_first.tell V).1 ∧ (pick_first.tell V).1 ≤ 2) ∧ (pick_first.tell V).2 ≠ [] ∧ (pick_first.tell V).2.Sublist V ∧ ∀ x ∈ (pick_first.tell V).2, x.f1 = (pick_first.tell V).1 := by
  have hsub : ∀ n, (pick_first.lev V n).Sublist V := fun n => List.filter_sublist
  have hlev : ∀ n, ∀ x ∈ pick_first.lev V n, x.f1 = n := fun n x hx => by simpa using (List.mem_filter.1 hx).2
  have hne : ∀ n, 0 < pick_first.sum (pick_first.lev V n) → (pick_first.lev V n).take 1 ≠ [] := fun n h => by
    cases hl : pick_first.lev V n with
    | nil => rw [hl] at h; exact absurd h (by simp [pick_first.sum])
    | cons x l => simp
  unfold pick_first.tell at hn ⊢
  by_cases c0 : 3 ≤ (pick_first.lev V 0).length
  · rw [if_pos c0]
    exact ⟨by simp, fun e => by change pick_first.lev V 0 = [] at e; rw [e] at c0; simp at c0, hsub 0, hlev 0⟩
  · by_cases c1 : 4000 < pick_first.sum (pick_first.lev V 1)
    · rw [if_neg c0, if_pos c1]
      exact ⟨by simp, hne 1 (by omega), (List.take_sublist _ _).trans (hsub 1), fun x hx => hlev 1 x (List.mem_of_mem_take hx)⟩
    · by_cases c2 : 16000 < pick_first.sum (pick_first.lev V 2)
      · rw [if_neg c0, if_neg c1, if_pos c2]
        exact ⟨by simp, hne 2 (by omega), (List.take_sublist _ _).trans (hsub 2), fun x hx => hlev 2 x (List.mem_of_mem_take hx)⟩
      · rw [if_neg c0, if_neg c1, if_neg c2] at hn
        exact absurd (show (-1 : Int) < 0 by decide) hn

/-! ### the law's loops over what is picked -/
theorem uniq_l1 (L : List Int) (hL : L.length < 1000000) (hnd : L.Nodup) (V : List S49) (G In Un : List Int) (a lv : Int) (bot : Bool) (i : Nat) (hi : i < L.length) (K0 : Nat)
    (hnext : ∀ k, K0 ≤ k → palinodelaw16_PickJobs.l0 k true L ((i + 1 : Nat) : Int) V G a lv In Un bot = some true) :
    ∀ (d j k : Nat), i = j + d → K0 + d + 1 ≤ k → palinodelaw16_PickJobs.l1 k true L (i : Int) (j : Int) V G a lv In Un bot = some true
  | 0, j, k, he, hk => by
    obtain ⟨k, rfl⟩ : ∃ k', k = k' + 1 := ⟨k - 1, by omega⟩
    have hw : wrap64 ((i : Int) + 1) = ((i + 1 : Nat) : Int) := wrap_fit _ (by omega) (by omega)
    unfold palinodelaw16_PickJobs.l1
    rw [if_neg (by omega), hw]
    exact hnext k (by omega)
  | d + 1, j, k, he, hk => by
    obtain ⟨k, rfl⟩ : ∃ k', k = k' + 1 := ⟨k - 1, by omega⟩
    have hj : j < L.length := by omega
    have hw : wrap64 ((j : Int) + 1) = ((j + 1 : Nat) : Int) := wrap_fit _ (by omega) (by omega)
    have e1 : rd L (i : Int) = L[i] := by rw [rd, Int.toNat_natCast, List.getD_eq_getElem?_getD, List.getElem?_eq_getElem hi, Option.getD_some]
    have e2 : rd L (j : Int) = L[j] := by rw [rd, Int.toNat_natCast, List.getD_eq_getElem?_getD, List.getElem?_eq_getElem hj, Option.getD_some]
    have hne : ¬ L[i] = L[j] := fun e => by
      exact (List.pairwise_iff_getElem.1 hnd) j i hj hi (by omega) e.symm
    unfold palinodelaw16_PickJobs.l1
    rw [if_pos (by omega), if_pos (by omega), if_pos (by omega), if_pos (by omega), if_pos (by omega), e1, e2, if_neg hne, hw]
    exact uniq_l1 L hL hnd V G In Un a lv bot i hi K0 hnext d (j + 1) k (by omega) (by omega)
theorem uniq_l0 (L : List Int) (hL : L.length < 1000000) (hnd : L.Nodup) (V : List S49) (G In Un : List Int) (a lv : Int) (bot : Bool) (K0 : Nat)
    (hnext : ∀ k, K0 ≤ k → palinodelaw16_PickJobs.l2 k true L 0 0 V G a lv In Un bot = some true) :
    ∀ (d i k : Nat), L.length = i + d → K0 + d * (L.length + 2) + 1 ≤ k → palinodelaw16_PickJobs.l0 k true L (i : Int) V G a lv In Un bot = some true
  | 0, i, k, he, hk => by
    obtain ⟨k, rfl⟩ : ∃ k', k = k' + 1 := ⟨k - 1, by omega⟩
    unfold palinodelaw16_PickJobs.l0
    rw [if_neg (by omega)]
    exact hnext k (by omega)
  | d + 1, i, k, he, hk => by
    obtain ⟨k, rfl⟩ : ∃ k', k = k' + 1 := ⟨k - 1, by omega⟩
    rw [Nat.succ_mul] at hk
    unfold palinodelaw16_PickJobs.l0
    rw [if_pos (by omega)]
    exact uniq_l1 L hL hnd V G In Un a lv bot i (by omega) (K0 + d * (L.length + 2) + 1) (fun k hk => uniq_l0 L hL hnd V G In Un a lv bot K0 hnext d (i + 1) k (by omega) hk) i 0 k (by omega) (by omega)
/-- What is told of a table. -/
structure Told (V ins un : List S49) (lv : Int) (In Un L : List Int) : Prop where
  big : V.length ≤ 200 ∧ In.length ≤ 200 ∧ Un.length ≤ 200 ∧ L.length ≤ 400
  lo : 0 ≤ lv ∧ lv ≤ 2
  inn : ∀ m ∈ V, m.f0 ∈ In ↔ m ∈ ins
  unn : ∀ m ∈ V, m.f0 ∈ Un ↔ m ∈ un
  inl : ∀ m ∈ ins, m.f1 = lv
  unl : ∀ m ∈ un, m.f1 = lv + 1
  met : ∀ m ∈ V, m.f1 = lv + 1 → (pick_Pick.meetB (V.filter fun x => decide (x.f0 ∈ In)) m = true ↔ m ∈ un)
  off : ∀ m ∈ V, m.f1 = lv + 1 → m ∉ un → pick_Pick.meetB (V.filter fun x => decide (x.f0 ∈ L)) m = false
def hit (In Un : List Int) (m : S49) : Bool := decide (m.f0 ∈ In) || decide (m.f0 ∈ Un)
theorem jobs_l2 (V ins un : List S49) (lv : Int) (In Un L G : List Int) (a : Int) (bot : Bool) (ht : Told V ins un lv In Un L) (hc : (V.filter (hit In Un)).length = L.length) :
    ∀ (d i k : Nat), V.length = i + d → 4 * d + 700 ≤ k → palinodelaw16_PickJobs.l2 k true L (((V.take i).filter (hit In Un)).length : Int) (i : Int) V G a lv In Un bot = some true
  | 0, i, k, he, hk => by
    obtain ⟨k, rfl⟩ : ∃ k', k = k' + 1 := ⟨k - 1, by omega⟩
    unfold palinodelaw16_PickJobs.l2
    rw [if_neg (by omega), if_pos rfl, List.take_of_length_le (by omega), hc]
    simp
  | d + 1, i, k, he, hk => by
    obtain ⟨k, rfl⟩ : ∃ k', k = k' + 4 := ⟨k - 4, by omega⟩
    have hb := ht.big
    have hlt : i < V.length := by omega
    have hx : rd_T49 V (i : Int) = V[i] := by rw [rd_T49, Int.toNat_natCast, List.getD_eq_getElem?_getD, List.getElem?_eq_getElem hlt, Option.getD_some]
    have hw : wrap64 ((i : Int) + 1) = ((i + 1 : Nat) : Int) := wrap_fit _ (by omega) (by omega)
    have hV : V[i] ∈ V := List.getElem_mem hlt
    obtain ⟨m, hm⟩ : ∃ m, m = V[i] := ⟨_, rfl⟩
    rw [← hm] at hx hV
    have hlen : ((V.take i).filter (hit In Un)).length ≤ 200 := Nat.le_trans (List.length_filter_le _ _) (by rw [List.length_take]; omega)
    have hcnt : ((V.take (i + 1)).filter (hit In Un)).length = ((V.take i).filter (hit In Un)).length + (if hit In Un m = true then 1 else 0) := by
      rw [List.take_succ_eq_append_getElem hlt, List.filter_append, List.length_append, ← hm]
      by_cases h : hit In Un m = true <;> simp [h]
    have hrec := jobs_l2 V ins un lv In Un L G a bot ht hc d (i + 1) k (by omega) (by omega)
    have hwl : wrap64 (lv + 1) = lv + 1 := wrap_fit _ (by have := ht.lo; omega) (by have := ht.lo; omega)
    have h6 : palinodelaw16_PickJobs.j6 (k + 1) true L (((V.take (i + 1)).filter (hit In Un)).length : Int) (i : Int) (decide (m.f0 ∈ Un)) V G a lv In Un bot m.f0 m.f1 m.f2 m.f3 m.f4 = some true := by
      unfold palinodelaw16_PickJobs.j6
      rw [hwl, hw]
      by_cases hl : m.f1 = lv + 1
      · have e : pick_Pick.meetB (V.filter fun x => decide (x.f0 ∈ In)) m = decide (m.f0 ∈ Un) := by
          rw [Bool.eq_iff_iff, ht.met m hV hl, decide_eq_true_eq, ht.unn m hV]
        rw [if_pos hl, meets_some V In G a m hb.1 (by omega) k (by omega), Option.bind_some, e, if_neg (by simp)]
        by_cases hu : m ∈ un
        · rw [if_pos (decide_eq_true ((ht.unn m hV).2 hu))]
          exact hrec
        · rw [if_neg (by simp [ht.unn m hV, hu]), meets_some V L G a m hb.1 (by omega) k (by omega), Option.bind_some, ht.off m hV hl hu, if_neg (by decide)]
          exact hrec
      · rw [if_neg hl]
        exact hrec
    have h5 : palinodelaw16_PickJobs.j5 (k + 2) true L (((V.take i).filter (hit In Un)).length : Int) (i : Int) (decide (m.f0 ∈ Un)) (hit In Un m) V G a lv In Un bot m.f0 m.f1 m.f2 m.f3 m.f4 = some true := by
      unfold palinodelaw16_PickJobs.j5
      by_cases h : hit In Un m = true
      · have hw2 : wrap64 ((((V.take i).filter (hit In Un)).length : Int) + 1) = (((V.take (i + 1)).filter (hit In Un)).length : Int) := by
          rw [hcnt, if_pos h]
          exact wrap_fit _ (by omega) (by omega)
        rw [if_pos h, hw2]
        exact h6
      · have e : ((V.take (i + 1)).filter (hit In Un)).length = ((V.take i).filter (hit In Un)).length := by rw [hcnt, if_neg h, Nat.add_zero]
        rw [if_neg h, ← e]
        exact h6
    have h4 : palinodelaw16_PickJobs.j4 (k + 3) true L (((V.take i).filter (hit In Un)).length : Int) (i : Int) (decide (m.f0 ∈ In)) (decide (m.f0 ∈ Un)) false V G a lv In Un bot m.f0 m.f1 m.f2 m.f3 m.f4 = some true := by
      unfold palinodelaw16_PickJobs.j4
      rw [if_neg (by decide)]
      by_cases h : m.f0 ∈ In
      · have e : hit In Un m = true := by simp [hit, h]
        rw [e] at h5
        rw [if_pos (decide_eq_true h)]
        exact h5
      · have e : hit In Un m = decide (m.f0 ∈ Un) := by simp [hit, h]
        rw [e] at h5
        rw [if_neg (by simpa using h)]
        exact h5
    unfold palinodelaw16_PickJobs.l2
    rw [if_pos (by omega), if_pos (by omega), hx, within_some In _ (by omega) _ (by omega), Option.bind_some, within_some Un _ (by omega) _ (by omega), Option.bind_some]
    by_cases h : m.f0 ∈ In
    · have h1 := ht.inl m ((ht.inn m hV).1 h)
      have hu : m.f0 ∉ Un := fun q => by
        have := ht.unl m ((ht.unn m hV).1 q)
        omega
      rw [if_pos (decide_eq_true h), if_pos h1, if_neg (by simpa using hu)]
      exact h4
    · rw [if_neg (by simpa using h)]
      by_cases hu : m.f0 ∈ Un
      · have h1 := ht.unl m ((ht.unn m hV).1 hu)
        rw [if_pos (decide_eq_true hu), hwl, show (m.f1 != lv + 1) = false by simp [h1]]
        exact h4
      · rw [if_neg (by simpa using hu)]
        exact h4
/-- All of it, of a right version. -/
theorem told_of {V : List S49} {G : List Int} {a : Int} (hT : version_Right.tell V G a = true) (hn : ¬ (pick_first.tell V).1 < 0) (ins un : List S49) (lv : Int) (hi : ins = (pick_first.tell V).2) (hlv : lv = (pick_first.tell V).1) (hu : un = pick_Pick.under V ins lv) :
    Told V ins un lv (ins.map (·.f0)) (un.map (·.f0)) (ins.map (·.f0) ++ un.map (·.f0)) ∧ (ins.map (·.f0) ++ un.map (·.f0)).Nodup ∧ (V.filter (hit (ins.map (·.f0)) (un.map (·.f0)))).length = (ins.map (·.f0) ++ un.map (·.f0)).length ∧ ins ≠ [] := by
  obtain ⟨hV, hnd, hm, hs⟩ := right_facts hT
  obtain ⟨hlo, hne, hsub, hil⟩ := first_facts V hn
  rw [← hi, ← hlv] at *
  have hus : un.Sublist V := by
    rw [hu]
    exact (List.filter_sublist).trans List.filter_sublist
  have humem : ∀ m, m ∈ un ↔ m ∈ V ∧ m.f1 = lv + 1 ∧ Meets ins m := fun m => by
    rw [hu, pick_Pick.under, List.mem_filter, pick_first.lev, List.mem_filter, meetB_iff]
    simp [and_assoc]
  have hinn : ∀ m ∈ V, m.f0 ∈ ins.map (·.f0) ↔ m ∈ ins := fun m h => mem_ids hnd (fun x hx => hsub.subset hx) h
  have hunn : ∀ m ∈ V, m.f0 ∈ un.map (·.f0) ↔ m ∈ un := fun m h => mem_ids hnd (fun x hx => hus.subset hx) h
  have hil1 : ins.length ≤ 200 := Nat.le_trans hsub.length_le hV
  have hul1 : un.length ≤ 200 := Nat.le_trans hus.length_le hV
  have hLnd : (ins.map (·.f0) ++ un.map (·.f0)).Nodup := by
    refine List.nodup_append.2 ⟨(hsub.map _).nodup hnd, (hus.map _).nodup hnd, fun x hx y hy e => ?_⟩
    subst e
    obtain ⟨m, hm1, e1⟩ := List.mem_map.1 hx
    have hmV := hsub.subset hm1
    have h2 := (hunn m hmV).1 (by rw [e1]; exact hy)
    have := hil m hm1
    have := ((humem m).1 h2).2.1
    omega
  refine ⟨⟨⟨hV, by simpa using hil1, by simpa using hul1, by simp; omega⟩, hlo, hinn, hunn, hil, fun m h => ((humem m).1 h).2.1, fun m hmV hml => ?_, fun m hmV hml hmu => ?_⟩, hLnd, ?_, hne⟩
  · rw [meetB_iff, humem, Meets.same (l' := ins) (fun x => ?_)]
    · exact ⟨fun h => ⟨hmV, hml, h⟩, fun h => h.2.2⟩
    · rw [List.mem_filter, decide_eq_true_eq]
      exact ⟨fun h => (hinn x h.1).1 h.2, fun h => ⟨hsub.subset h, (hinn x (hsub.subset h)).2 h⟩⟩
  · rw [← Bool.not_eq_true, meetB_iff]
    rintro ⟨-, g1, g2⟩
    have hnm : ¬ Meets ins m := fun h => hmu ((humem m).2 ⟨hmV, hml, h⟩)
    have hall : ∀ (p : S49 → Prop), (∀ y ∈ ins, p y) → (∀ y ∈ un, p y) → ∀ y ∈ V.filter (fun x => decide (x.f0 ∈ ins.map (·.f0) ++ un.map (·.f0))), p y := fun p h1 h2 y hy => by
      rw [List.mem_filter, decide_eq_true_eq, List.mem_append] at hy
      rcases hy.2 with h | h
      · exact h1 y ((hinn y hy.1).1 h)
      · exact h2 y ((hunn y hy.1).1 h)
    have hmm := (meta_true m (hm m hmV)).2.2
    by_cases hA : ∀ y ∈ ins, Lt y.f3 m.f2
    · refine g1 (hall _ hA fun u hu' => ?_)
      obtain ⟨huV, hul, hum⟩ := (humem u).1 hu'
      rcases apart hm hs hmV huV (fun e => hmu (e ▸ hu')) (by omega) (by omega) with h | h
      · exact absurd (fun y hy => (hA y hy).trans (not_lt_of hmm h)) hum.2.1
      · exact h
    · by_cases hB : ∀ y ∈ ins, Lt m.f3 y.f2
      · refine g2 (hall _ hB fun u hu' => ?_)
        obtain ⟨huV, hul, hum⟩ := (humem u).1 hu'
        rcases apart hm hs hmV huV (fun e => hmu (e ▸ hu')) (by omega) (by omega) with h | h
        · exact h
        · exact absurd (fun y hy => h.trans (not_lt_of hmm (hB y hy))) hum.2.2
      · exact hnm ⟨hne, hA, hB⟩
  · have hp : ((V.filter (hit (ins.map (·.f0)) (un.map (·.f0)))).map (·.f0)).Perm (ins.map (·.f0) ++ un.map (·.f0)) := by
      refine (List.perm_ext_iff_of_nodup ((List.filter_sublist.map _).nodup hnd) hLnd).2 fun n => ?_
      rw [List.mem_map, List.mem_append]
      constructor
      · rintro ⟨m, h, rfl⟩
        rw [List.mem_filter, hit, Bool.or_eq_true, decide_eq_true_eq, decide_eq_true_eq] at h
        exact h.2
      · intro h
        have : ∃ m ∈ V, m.f0 = n := by
          rcases h with h | h
          · obtain ⟨m, h1, h2⟩ := List.mem_map.1 h
            exact ⟨m, hsub.subset h1, h2⟩
          · obtain ⟨m, h1, h2⟩ := List.mem_map.1 h
            exact ⟨m, hus.subset h1, h2⟩
        obtain ⟨m, h1, rfl⟩ := this
        refine ⟨m, List.mem_filter.2 ⟨h1, ?_⟩, rfl⟩
        rw [hit, Bool.or_eq_true, decide_eq_true_eq, decide_eq_true_eq]
        exact h
    have := hp.length_eq
    rwa [List.length_map] at this
theorem jobs_j0 (k : Nat) (V : List S49) (G In Un : List Int) (a lv : Int) (bot : Bool) (h1 : In.length < 1000000) (h2 : Un.length < 1000000) : palinodelaw16_PickJobs.j0 (k + 1) true false V G a lv In Un bot = palinodelaw16_PickJobs.l0 k true (In ++ Un) 0 V G a lv In Un bot := by
  refine Eq.trans (b := if ([] : List Int).length + In.length < 17592186044416 then ((some (([] : List Int) ++ In : List Int)).bind fun y => (if y.length + Un.length < 17592186044416 then palinodelaw16_PickJobs.l0 k true (y ++ Un) 0 V G a lv In Un bot else none)) else none) rfl ?_
  rw [if_pos (by simp; omega), Option.bind_some, if_pos (by simp; omega)]
  rfl
/-- The plain law. -/
theorem PickJobs_true (V : List S49) (G : List Int) (a : Int) (hg : (V.length ≤ 9223372036854775807 ∧ ∀ m ∈ V, -9223372036854775808 ≤ m.f0 ∧ m.f0 ≤ 9223372036854775807) ∧ (∀ n ∈ G, -9223372036854775808 ≤ n ∧ n ≤ 9223372036854775807)) :
    ∃ k, palinodelaw16_PickJobs.f k V G a = some true := by
  obtain ⟨k, hk⟩ : ∃ k : Nat, 200000 ≤ k := ⟨200000, Nat.le_refl _⟩
  refine ⟨k + 1, ?_⟩
  have hR : version_Right.f V G a = some (version_Right.tell V G a) := by rw [version_Right.f, if_pos ⟨hg.1.2, hg.2⟩]
  unfold palinodelaw16_PickJobs.f
  rw [palinodelaw16_examples.sure, Option.bind_some]
  unfold pick_Pick.f
  rw [hR, Option.bind_some]
  cases hT : version_Right.tell V G a with
  | false =>
    rw [if_neg (by simp), Option.bind_some, if_neg (by simp), if_pos rfl]
    rfl
  | true =>
    obtain ⟨hV, -, hm, -⟩ := right_facts hT
    have hF : pick_first.f V G a = some (pick_first.tell V) := by rw [pick_first.f, if_pos ⟨hV, fun m h => (meta_true m (hm m h)).1⟩]
    rw [if_pos rfl, hF, Option.bind_some]
    by_cases hn : (pick_first.tell V).1 < 0
    · rw [if_pos hn, Option.bind_some, if_neg (by simp), if_pos rfl]
      rfl
    · obtain ⟨hto, hnd, hc, hne⟩ := told_of hT hn (pick_first.tell V).2 (pick_Pick.under V (pick_first.tell V).2 (pick_first.tell V).1) (pick_first.tell V).1 rfl rfl rfl
      have hb := hto.big
      obtain ⟨bot, hP⟩ : ∃ bot, pick_Pick.tell V (pick_first.tell V).2 (pick_first.tell V).1 = ((pick_first.tell V).1, (pick_first.tell V).2.map (·.f0), (pick_Pick.under V (pick_first.tell V).2 (pick_first.tell V).1).map (·.f0), bot, true) := ⟨_, rfl⟩
      rw [if_neg hn, hP, Option.bind_some]
      dsimp only
      rw [if_pos rfl, Option.bind_some, if_pos rfl, if_neg (by have := hto.lo; omega), if_neg (by have := hto.lo; omega)]
      have he : ((((pick_first.tell V).2.map (·.f0)).length : Int) == 0) = false := by
        rw [List.length_map]
        have := List.length_pos_iff.2 hne
        simp
        exact hne
      rw [he, jobs_j0 k _ _ _ _ _ _ _ (by omega) (by omega)]
      refine uniq_l0 _ (by omega) hnd V G _ _ a _ _ 1500 (fun k hk => ?_) _ 0 k (Nat.zero_add _).symm ?_
      · have := jobs_l2 V _ _ _ _ _ _ G a bot hto hc V.length 0 k (by omega) (by omega)
        exact this
      · have h4 := hb.2.2.2
        have : ∀ n : Nat, n ≤ 400 → 1500 + n * (n + 2) + 1 ≤ 200000 := fun n h => by
          have := Nat.mul_le_mul h (show n + 2 ≤ 402 by omega)
          omega
        exact Nat.le_trans (this _ h4) hk
end Go.Proofs.Ytepgnefkpjnmlaa.P3
