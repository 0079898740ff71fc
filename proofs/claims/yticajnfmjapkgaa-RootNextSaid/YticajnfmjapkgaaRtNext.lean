/-
  RootNext: the plain law. A right root with a file more behind all is right, if it has room.
-/
import Derived.Test.YticajnfmjapkgaaRtB
import Derived.Test.YticajnfmjapkgaaPDx39
set_option linter.unusedVariables false
set_option linter.unusedSimpArgs false
namespace Go.Proofs.Yticajnfmjapkgaa.PD
open Go.RowKit Go.Proofs.Yticajnfmjapkgaa Go.Proofs.YticajnfmjapkgaaW.PrintWords

def endOf (a : Int) (l : List FileT) : Int := l.foldl (fun a f => max a (f.f1 + f.f2)) a
theorem endOf_ge (l : List FileT) : ∀ a, a ≤ endOf a l ∧ ∀ f ∈ l, f.f1 + f.f2 ≤ endOf a l := by
  induction l with
  | nil => intro a; simp [endOf]
  | cons x l ih =>
    intro a
    have := ih (max a (x.f1 + x.f2))
    have e : endOf a (x :: l) = endOf (max a (x.f1 + x.f2)) l := rfl
    rw [e]
    refine ⟨by omega, fun f hf => ?_⟩
    rcases List.mem_cons.1 hf with rfl | hf
    · omega
    · exact this.2 f hf
theorem endOf_le (l : List FileT) (m : Int) : ∀ a, a ≤ m → (∀ f ∈ l, f.f1 + f.f2 ≤ m) → endOf a l ≤ m := by
  induction l with
  | nil => intro a h _; exact h
  | cons x l ih =>
    intro a h hl
    exact ih (max a (x.f1 + x.f2)) (by have := hl x (by simp); omega) (fun f hf => hl f (by simp [hf]))
theorem fok_snoc (next : Int) (l : List FileT) (g : FileT) (hg : g.f0 = next) (h18 : 18 ≤ g.f1) : ∀ last, last < next → fok next last l = true → fok (next + 1) last (l ++ [g]) = true := by
  induction l with
  | nil =>
    intro last h _
    simp only [List.nil_append, fok, Bool.and_eq_true, decide_eq_true_eq]
    refine ⟨?_, ?_, ?_, ?_⟩ <;> first | omega | trivial
  | cons x l ih =>
    intro last h hf
    obtain ⟨h1, h2, h3, h4⟩ := fok_cons hf
    have := ih _ h2 h4
    simp only [List.cons_append, fok, Bool.and_eq_true, decide_eq_true_eq]
    exact ⟨h1, by omega, h3, this⟩
theorem next_good (total seq next cur many : Int) (l : List FileT) (h : rgood total seq next cur l = true) (h1 : seq < 9007199254740991) (h2 : next < 9007199254740991) :
    rgood total (seq + 1) (next + 1) cur (l ++ [⟨next, endOf 18 l, many⟩]) = decide (1 ≤ many ∧ endOf 18 l ≤ total ∧ many ≤ total - endOf 18 l ∧ l.length + 1 ≤ 24) := by
  obtain ⟨a1, a2, a3, a4⟩ := (rgood_iff _ _ _ _ _).1 h
  obtain ⟨g1, g2, g3, g4⟩ := good_of a4
  obtain ⟨v1, v2⟩ := (ok_iff _ _).1 g4
  have hge := endOf_ge l 18
  rw [Bool.eq_iff_iff, decide_eq_true_eq, rgood_iff]
  constructor
  · rintro ⟨b1, b2, b3, b4⟩
    have hv := good_valid b4 (runOf ⟨next, endOf 18 l, many⟩) (List.mem_map.2 ⟨_, by simp, rfl⟩)
    simp only [valid, runOf] at hv
    simp only [List.length_append, List.length_singleton] at b1
    omega
  · rintro ⟨b1, b2, b3, b4⟩
    refine ⟨by simp only [List.length_append, List.length_singleton]; omega, fok_snoc next l _ rfl (by simp; omega) 0 (by omega) a2, ?_, ?_⟩
    · rcases a3 with a3 | ⟨f, hf, a3⟩
      · exact Or.inl a3
      · exact Or.inr ⟨f, by simp [hf], a3⟩
    · simp only [good, Bool.and_eq_true, decide_eq_true_eq]
      refine ⟨⟨g1, g2, by simp; omega⟩, (ok_iff _ _).2 ?_⟩
      rw [List.map_append, List.pairwise_append]
      refine ⟨fun r hr => ?_, v2, by simp, fun r hr s hs => ?_⟩
      · rcases List.mem_append.1 hr with hr | hr
        · exact v1 r hr
        · simp only [List.map_cons, List.map_nil, List.mem_singleton] at hr
          subst hr
          simp only [valid, runOf]
          omega
      · simp only [List.map_cons, List.map_nil, List.mem_singleton] at hs
        subst hs
        obtain ⟨f, hf, rfl⟩ := List.mem_map.1 hr
        have := hge.2 f hf
        simp only [apartR, runOf]
        omega
theorem none_good (total seq next cur : Int) (l : List FileT) (h : rgood total seq next cur l = true) : rgood total seq next 0 [] = true := by
  obtain ⟨a1, a2, a3, a4⟩ := (rgood_iff _ _ _ _ _).1 h
  obtain ⟨g1, g2, g3, g4⟩ := good_of a4
  refine (rgood_iff _ _ _ _ _).2 ⟨by simp; omega, rfl, Or.inl rfl, ?_⟩
  simp only [good, Bool.and_eq_true, decide_eq_true_eq]
  exact ⟨⟨g1, g2, by simp⟩, (ok_iff _ _).2 ⟨by simp, by simp⟩⟩
theorem Next_loop (total many seq next cur : Int) (xs : List FileT) (hx : xs.length ≤ 24) (hb : ∀ f ∈ xs, 18 ≤ f.f1 ∧ f.f1 ≤ 4000 ∧ 1 ≤ f.f2 ∧ f.f2 ≤ 4000) : ∀ (rest pre : List FileT) (a : Int) (j : Nat), xs = pre ++ rest → 
    palinodelaw06_RootNext.l0 (j + rest.length + 1) total many true a pre.length seq next cur xs = palinodelaw06_RootNext.l0 (j + 1) total many true (endOf a rest) xs.length seq next cur xs := by
  intro rest
  induction rest with
  | nil => intro pre a j h; simp at h; subst h; rfl
  | cons x rest ih =>
    intro pre a j h
    have hf := hb x (by rw [h]; simp)
    have hp : pre.length < xs.length := by rw [h]; simp
    have hr : rd_T42 xs (pre.length : Int) = x := by rw [h]; exact rdF_mid pre rest x
    have e1 : wrap64 (x.f1 + x.f2) = x.f1 + x.f2 := wrapS _ (by omega) (by omega)
    have e2 : wrap64 ((pre.length : Int) + 1) = ((pre ++ [x]).length : Int) := by rw [wrapS _ (by omega) (by omega)]; simp
    have e3 : mx a (x.f1 + x.f2) = max a (x.f1 + x.f2) := by unfold mx; split <;> omega
    have e4 : j + (x :: rest).length + 1 = (j + rest.length + 1) + 1 := by simp; omega
    rw [e4, palinodelaw06_RootNext.l0, if_pos (by omega), if_pos (by omega), hr, e1, e2, e3]
    exact ih (pre ++ [x]) _ j (by rw [h]; simp)
theorem Next_j2 (total seq next cur many : Int) (l : List FileT) (h : rgood total seq next cur l = true) (h1 : seq < 9007199254740991) (h2 : next < 9007199254740991) (hl : l.length ≤ 24) (k : Nat) (hk : 100 ≤ k) (b : Bool)
    (hb : b = decide (1 ≤ many ∧ endOf 18 l ≤ total ∧ many ≤ total - endOf 18 l ∧ l.length + 1 ≤ 24)) :
    palinodelaw06_RootNext.j2 (k + 1) total true b seq next cur l (wrap64 (seq + 1)) (wrap64 (next + 1)) cur (l ++ [⟨next, endOf 18 l, many⟩]) = some true := by
  obtain ⟨a1, _, _, _⟩ := (rgood_iff _ _ _ _ _).1 h
  have e1 : wrap64 (seq + 1) = seq + 1 := by unfold wrap64; omega
  have e2 : wrap64 (next + 1) = next + 1 := by unfold wrap64; omega
  rw [palinodelaw06_RootNext.j2, if_pos rfl, e1, e2]
  rw [rRight_some _ _ _ _ _ k (by simp; omega) (by simp; omega), Option.bind_some, next_good total seq next cur many l h h1 h2, ← hb]
  rw [if_pos (by simp), rRight_some _ _ _ _ _ k (by simp; omega) (by simp), Option.bind_some, none_good _ _ _ _ _ h]
theorem RootNext_true (a0 seq next cur : Int) (l : List FileT) (a2 : Int) (_h0 : -9223372036854775808 ≤ a0 ∧ a0 ≤ 9223372036854775807) (hg0 : l.length ≤ 5864062014804 ∧ (∀ b ∈ l, (-9223372036854775808 ≤ b.f0 ∧ b.f0 ≤ 9223372036854775807) ∧ (-9223372036854775808 ≤ b.f1 ∧ b.f1 ≤ 9223372036854775807) ∧ (-9223372036854775808 ≤ b.f2 ∧ b.f2 ≤ 9223372036854775807)) ∧ (-9223372036854775808 ≤ seq ∧ seq ≤ 9223372036854775807) ∧ (-9223372036854775808 ≤ next ∧ next ≤ 9223372036854775807) ∧ (-9223372036854775808 ≤ cur ∧ cur ≤ 9223372036854775807)) (h2 : -9223372036854775808 ≤ a2 ∧ a2 ≤ 9223372036854775807) :
    ∃ k, palinodelaw06_RootNext.f k a0 seq next cur l a2 = some true := by
  have hl : l.length ≤ 8796093022207 := by have := hg0.1; omega
  obtain ⟨K, hK⟩ : ∃ K, K = l.length + 1000 := ⟨_, rfl⟩
  refine ⟨K + 1, ?_⟩
  unfold palinodelaw06_RootNext.f
  rw [ex_some _ (by omega), Option.bind_some, rRight_some a0 seq next cur l _ (by omega) hl, Option.bind_some]
  have out : palinodelaw06_RootNext.j0 (K + 1) a0 a2 true true seq next cur l = some true := by rw [palinodelaw06_RootNext.j0, if_pos rfl]
  by_cases hg : rgood a0 seq next cur l = true
  · rw [if_pos hg]
    by_cases h1 : seq ≥ 9007199254740991
    · rw [if_pos h1]; exact out
    · rw [if_neg h1]
      by_cases h3 : next ≥ 9007199254740991
      · have : decide (next ≥ 9007199254740991) = true := decide_eq_true h3
        rw [this]; exact out
      · have : decide (next ≥ 9007199254740991) = false := decide_eq_false h3
        obtain ⟨a1, a2', a3, a4⟩ := (rgood_iff _ _ _ _ _).1 hg
        obtain ⟨g1, g2, g3, g4⟩ := good_of a4
        have hv := good_valid a4
        have hb : ∀ f ∈ l, 18 ≤ f.f1 ∧ f.f1 ≤ 4000 ∧ 1 ≤ f.f2 ∧ f.f2 ≤ 4000 := fun f hf => by
          have q1 := fok_all next l 0 a2' f hf
          have q2 := hv (runOf f) (List.mem_map.2 ⟨f, hf, rfl⟩)
          simp only [valid, runOf] at q2
          omega
        have hend := endOf_ge l 18
        have hlen := a1.2.2.2.2
        rw [this, palinodelaw06_RootNext.j0, if_neg (by simp)]
        obtain ⟨j, hj⟩ : ∃ j, K = (j + 101) + l.length + 1 := ⟨K - 102 - l.length, by omega⟩
        have hloop := Next_loop a0 a2 seq next cur l hlen hb l [] 18 (j + 101) rfl
        rw [List.length_nil] at hloop
        rw [hj]
        refine hloop.trans ?_
        rw [palinodelaw06_RootNext.l0, if_neg (by omega), if_pos (by simp; omega)]
        simp only [Option.bind_some, List.nil_append]
        rw [if_pos (by simp; omega)]
        have key := fun (b : Bool) hb => Next_j2 a0 seq next cur a2 l hg (by omega) (by omega) hlen (j + 100) (by omega) b hb
        by_cases c1 : a2 ≥ 1
        · rw [if_pos c1]
          by_cases c2 : endOf 18 l ≤ a0
          · have e : wrap64 (a0 - endOf 18 l) = a0 - endOf 18 l := wrapS _ (by omega) (by omega)
            rw [if_pos c2, e]
            by_cases c3 : a2 ≤ a0 - endOf 18 l
            · rw [if_pos c3]
              refine key _ ?_
              simp only [List.length_append, List.length_singleton]
              rw [decide_eq_decide]
              omega
            · rw [if_neg c3]
              exact key _ (decide_eq_false (by omega)).symm
          · rw [if_neg c2]
            exact key _ (decide_eq_false (by omega)).symm
        · rw [if_neg c1]
          exact key _ (decide_eq_false (by omega)).symm
  · rw [if_neg hg]; exact out
end Go.Proofs.Yticajnfmjapkgaa.PD
