/-
  Layer 5, the plain part of the document's own answer: sector by sector it is what the runs' order gives.
-/
import Derived.Test.YtgmfmlnkifeikaaSpA
import Derived.Test.YtgmfmlnkifeikaaPDx31
import Derived.Test.YtgmfmlnkifeikaaPDx32
set_option linter.unusedVariables false
set_option linter.unusedSimpArgs false
namespace Go.Proofs.Ytgmfmlnkifeikaa.PD
open Go.RowKit Go.Proofs.Ytgmfmlnkifeikaa Go.Proofs.YtgmfmlnkifeikaaW.PrintWords

def valid (total : Int) (r : RunT) : Prop := 1 ≤ r.f1 ∧ 0 ≤ r.f0 ∧ r.f0 ≤ total ∧ r.f1 ≤ total - r.f0
instance (total : Int) (r : RunT) : Decidable (valid total r) := by unfold valid; exact inferInstance
def apartR (r s : RunT) : Prop := r.f0 + r.f1 ≤ s.f0 ∨ s.f0 + s.f1 ≤ r.f0
instance (r s : RunT) : Decidable (apartR r s) := by unfold apartR; exact inferInstance
theorem apartR_symm {r s : RunT} (h : apartR r s) : apartR s r := by unfold apartR at *; omega

theorem ok_apart (total : Int) (l : List RunT) : ∀ e, 0 ≤ e → space_sorted.ok total e l = true → l.Pairwise apartR := by
  induction l with
  | nil => intro e _ _; exact List.Pairwise.nil
  | cons r l ih =>
    intro e he h
    obtain ⟨h1, h2, h3, h4, h5⟩ := ok_cons h
    rw [List.pairwise_cons]
    exact ⟨fun s hs => Or.inl (ok_all total l _ (by omega) h5 s hs).1, ih _ (by omega) h5⟩
theorem ok_of (total : Int) (l : List RunT) : ∀ e, (∀ s ∈ l, e ≤ s.f0) → (l.Pairwise fun a b => a.f0 ≤ b.f0) → (∀ r ∈ l, valid total r) → l.Pairwise apartR → space_sorted.ok total e l = true := by
  induction l with
  | nil => intro e _ _ _ _; rfl
  | cons r l ih =>
    intro e he hs hv hp
    rw [List.pairwise_cons] at hs hp
    have hr := hv r (by simp)
    unfold valid at hr
    have h0 := he r (by simp)
    simp only [space_sorted.ok, Bool.and_eq_true, decide_eq_true_eq]
    refine ⟨hr.1, h0, hr.2.2.1, hr.2.2.2, ih _ (fun s hs2 => ?_) hs.2 (fun s hs2 => hv s (by simp [hs2])) hp.2⟩
    have h1 := hs.1 s hs2
    have h2 := hp.1 s hs2
    have h3 := hv s (by simp [hs2])
    unfold valid at h3
    unfold apartR at h2
    omega
theorem ok_iff (total : Int) (l : List RunT) : space_sorted.ok total 0 (space_sorted.sort l) = true ↔ (∀ r ∈ l, valid total r) ∧ l.Pairwise apartR := by
  have hp := space_sorted.sort_perm l
  constructor
  · intro h
    refine ⟨fun r hr => ?_, (hp.pairwise_iff (fun h => apartR_symm h)).1 (ok_apart total _ 0 (by omega) h)⟩
    have := ok_all total _ 0 (by omega) h r (hp.mem_iff.2 hr)
    unfold valid
    omega
  · rintro ⟨h1, h2⟩
    exact ok_of total _ 0 (fun s hs => (h1 s (hp.mem_iff.1 hs)).2.1) (space_sorted.sort_sorted l) (fun r hr => h1 r (hp.mem_iff.1 hr)) ((hp.pairwise_iff (fun h => apartR_symm h)).2 h2)

/-- The sectors, as a list. -/
def secs (n : Nat) (f : Nat → Bool) : List Bool := (List.range n).map f
theorem secs_length (n : Nat) (f : Nat → Bool) : (secs n f).length = n := by simp [secs]
theorem secs_get (n : Nat) (f : Nat → Bool) (j : Nat) (hj : j < n) : rdOf false (secs n f) (j : Int) = f j := by
  simp [rdOf, secs, List.getD, hj]
theorem secs_set (n : Nat) (f : Nat → Bool) (j : Nat) : (secs n f).set j true = secs n (fun k => if k = j then true else f k) := by
  apply List.ext_getElem?
  intro t
  simp only [secs, List.getElem?_set, List.getElem?_map, List.length_map, List.length_range]
  by_cases h : j = t
  · subst h
    by_cases hj : j < n
    · simp [hj]
    · simp [hj]
  · have : ¬ t = j := fun e => h e.symm
    simp [h, this]
    by_cases ht : t < n
    · simp [ht, this]
    · simp [ht]
theorem secs_congr (n : Nat) {f g : Nat → Bool} (h : ∀ k, k < n → f k = g k) : secs n f = secs n g := by
  apply List.map_congr_left
  intro k hk
  exact h k (by simpa using hk)
def cov (k : Nat) (r : RunT) : Bool := decide (r.f0 ≤ k ∧ (k : Int) < r.f0 + r.f1)
def occ (l : List RunT) (k : Nat) : Bool := l.any (cov k)

theorem inner_ok (x0 : Int) (x1 : List RunT) (x7 : Int) (a b : Int) (n : Nat) (hn : n ≤ 4000) (he : a + b ≤ n) : ∀ (d k j : Nat) (f : Nat → Bool), (j : Int) + d = a + b → d + 1 ≤ k → (∀ t : Nat, j ≤ t → (t : Int) < a + b → f t = false) →
    palinoderef05_taken.l1 k x0 x1 (secs n f) x7 (j : Int) a b = palinoderef05_taken.l0 (k - (d + 1)) x0 x1 (secs n fun t => f t || decide (j ≤ t ∧ (t : Int) < a + b)) (wrap64 (x7 + 1)) := by
  intro d
  induction d with
  | zero =>
    intro k j f hj hk hf
    obtain ⟨k, rfl⟩ : ∃ m, k = m + 1 := ⟨k - 1, by omega⟩
    have e1 : wrap64 (a + b) = a + b := wrapS _ (by omega) (by omega)
    simp only [palinoderef05_taken.l1]
    rw [e1, if_neg (by omega)]
    have : (secs n fun t => f t || decide (j ≤ t ∧ (t : Int) < a + b)) = secs n f := secs_congr n fun t _ => by
      have : ¬ (j ≤ t ∧ (t : Int) < a + b) := by omega
      simp [this]
    rw [this]
    rfl
  | succ d ih =>
    intro k j f hj hk hf
    obtain ⟨k, rfl⟩ : ∃ m, k = m + 1 := ⟨k - 1, by omega⟩
    have e1 : wrap64 (a + b) = a + b := wrapS _ (by omega) (by omega)
    have e2 : wrap64 ((j : Int) + 1) = ((j + 1 : Nat) : Int) := by rw [wrapS _ (by omega) (by omega)]; omega
    have hl := secs_length n f
    simp only [palinoderef05_taken.l1]
    rw [e1, if_pos (by omega), if_pos (by omega), if_pos (by omega), secs_get n f j (by omega), hf j (Nat.le_refl _) (by omega), e2, Int.toNat_natCast, secs_set]
    rw [if_neg (by simp), ih k (j + 1) _ (by omega) (by omega) (fun t h1 h2 => by rw [if_neg (by omega)]; exact hf t (by omega) h2)]
    rw [show k + 1 - (d + 1 + 1) = k - (d + 1) by omega]
    congr 1
    apply secs_congr
    intro t _
    by_cases h : t = j
    · subst h
      have : t ≤ t ∧ (t : Int) < a + b := by omega
      simp [this]
    · by_cases h2 : j ≤ t ∧ (t : Int) < a + b
      · have h3 : j + 1 ≤ t ∧ (t : Int) < a + b := by omega
        simp [h, h2, h3]
      · have h3 : ¬ (j + 1 ≤ t ∧ (t : Int) < a + b) := by omega
        simp only [h, if_false, h2, h3]
theorem inner_bad (x0 : Int) (x1 : List RunT) (x7 : Int) (a b : Int) (n : Nat) (hn : n ≤ 4000) (he : a + b ≤ n) : ∀ (d k j : Nat) (f : Nat → Bool), (j : Int) + d = a + b → d + 1 ≤ k → (∃ t : Nat, j ≤ t ∧ (t : Int) < a + b ∧ f t = true) →
    palinoderef05_taken.l1 k x0 x1 (secs n f) x7 (j : Int) a b = some ([], false) := by
  intro d
  induction d with
  | zero => intro k j f hj hk ⟨t, h1, h2, _⟩; omega
  | succ d ih =>
    intro k j f hj hk ⟨t, h1, h2, h3⟩
    obtain ⟨k, rfl⟩ : ∃ m, k = m + 1 := ⟨k - 1, by omega⟩
    have e1 : wrap64 (a + b) = a + b := wrapS _ (by omega) (by omega)
    have e2 : wrap64 ((j : Int) + 1) = ((j + 1 : Nat) : Int) := by rw [wrapS _ (by omega) (by omega)]; omega
    have hl := secs_length n f
    simp only [palinoderef05_taken.l1]
    rw [e1, if_pos (by omega), if_pos (by omega), if_pos (by omega), secs_get n f j (by omega), e2, Int.toNat_natCast, secs_set]
    by_cases hf : f j = true
    · rw [if_pos hf]
    · rw [if_neg hf]
      have hne : t ≠ j := fun e => hf (by rw [← e]; exact h3)
      exact ih k (j + 1) _ (by omega) (by omega) ⟨t, by omega, h2, by rw [if_neg hne]; exact h3⟩

/-- Run by run: each is valid, and apart from those ahead of it. -/
def tk (total : Int) : List RunT → List RunT → Bool
  | _, [] => true
  | pre, r :: l => decide (valid total r ∧ ∀ s ∈ pre, apartR s r) && tk total (pre ++ [r]) l
theorem tk_iff (total : Int) (l : List RunT) : ∀ pre, tk total pre l = true ↔ (∀ r ∈ l, valid total r) ∧ l.Pairwise apartR ∧ ∀ r ∈ l, ∀ s ∈ pre, apartR s r := by
  induction l with
  | nil => intro pre; simp [tk]
  | cons r l ih =>
    intro pre
    simp only [tk, Bool.and_eq_true, decide_eq_true_eq, ih, List.pairwise_cons, List.mem_cons, List.mem_append, List.not_mem_nil, or_false]
    constructor
    · rintro ⟨⟨h1, h2⟩, h3, h4, h5⟩
      refine ⟨fun x hx => ?_, ⟨fun s hs => h5 s hs r (Or.inr rfl), h4⟩, fun x hx s hs => ?_⟩
      · rcases hx with rfl | hx; exact h1; exact h3 x hx
      · rcases hx with rfl | hx; exact h2 s hs; exact h5 x hx s (Or.inl hs)
    · rintro ⟨h1, ⟨h2, h3⟩, h4⟩
      refine ⟨⟨h1 r (Or.inl rfl), fun s hs => h4 r (Or.inl rfl) s hs⟩, fun x hx => h1 x (Or.inr hx), h3, fun x hx s hs => ?_⟩
      rcases hs with hs | rfl
      · exact h4 x (Or.inr hx) s hs
      · exact h2 x hx

theorem taken_loop (total : Int) (xs : List RunT) (h0 : 0 ≤ total) (h1 : total ≤ 4000) (hx : xs.length ≤ 200) : ∀ (rest pre : List RunT) (k : Nat), xs = pre ++ rest → (∀ s ∈ pre, valid total s) → rest.length * 4010 + 10 ≤ k →
    palinoderef05_taken.l0 k total xs (secs total.toNat (occ pre)) (pre.length : Int) = some (if tk total pre rest = true then (secs total.toNat (occ xs), true) else ([], false)) := by
  intro rest
  induction rest with
  | nil =>
    intro pre k he hp hk
    obtain ⟨k, rfl⟩ : ∃ m, k = m + 1 := ⟨k - 1, by omega⟩
    have hl : xs.length = pre.length := by rw [he]; simp
    simp only [palinoderef05_taken.l0]
    rw [if_neg (by omega)]
    have : xs = pre := by simpa using he
    simp [tk, this]
  | cons r rest ih =>
    intro pre k he hp hk
    obtain ⟨k, rfl⟩ : ∃ m, k = m + 2 := ⟨k - 2, by omega⟩
    have hl : xs.length = pre.length + (rest.length + 1) := by rw [he]; simp
    have hrd : rd_T32 xs (pre.length : Int) = r := by rw [he]; exact rd_mid pre rest r
    have e1 : wrap64 ((pre.length : Int) + 1) = ((pre.length + 1 : Nat) : Int) := by rw [wrapS _ (by omega) (by omega)]; omega
    simp only [palinoderef05_taken.l0]
    rw [if_pos (by omega), if_pos (by omega), hrd]
    have bad : ¬ valid total r → tk total pre (r :: rest) = false := fun h => by simp [tk, h]
    by_cases b1 : r.f1 < 1
    · rw [if_pos b1]
      simp only [palinoderef05_taken.j2, if_true]
      rw [bad (fun h => by unfold valid at h; omega)]
      rfl
    rw [if_neg b1]
    by_cases b2 : r.f0 < 0
    · rw [if_pos b2]
      simp only [palinoderef05_taken.j2, if_true]
      rw [bad (fun h => by unfold valid at h; omega)]
      rfl
    rw [if_neg b2]
    by_cases b3 : r.f0 > total
    · rw [if_pos b3]
      simp only [palinoderef05_taken.j2, if_true]
      rw [bad (fun h => by unfold valid at h; omega)]
      rfl
    rw [if_neg b3]
    have e2 : wrap64 (total - r.f0) = total - r.f0 := wrapS _ (by omega) (by omega)
    rw [e2]
    simp only [palinoderef05_taken.j2]
    by_cases b4 : r.f1 > total - r.f0
    · rw [if_pos (by simpa using b4)]
      rw [bad (fun h => by unfold valid at h; omega)]
      rfl
    rw [if_neg (by simpa using b4)]
    have hv : valid total r := by unfold valid; omega
    obtain ⟨j, hj⟩ := Int.eq_ofNat_of_zero_le (show 0 ≤ r.f0 by omega)
    obtain ⟨d, hd⟩ := Int.eq_ofNat_of_zero_le (show 0 ≤ r.f1 by omega)
    have hlen : (r :: rest).length * 4010 = rest.length * 4010 + 4010 := by rw [List.length_cons]; omega
    rw [hlen] at hk
    by_cases hap : ∀ s ∈ pre, apartR s r
    · have hfree : ∀ t : Nat, j ≤ t → (t : Int) < r.f0 + r.f1 → occ pre t = false := fun t ht1 ht2 => by
        unfold occ
        rw [List.any_eq_false]
        intro s hs
        have := hap s hs
        unfold apartR at this
        simp only [cov, decide_eq_true_eq]
        omega
      rw [hj, inner_ok total xs _ (j : Int) r.f1 total.toNat (by omega) (by omega) d k j _ (by omega) (by omega) (fun t h1 h2 => hfree t h1 (by omega)), e1]
      have hpre : (secs total.toNat fun t => occ pre t || decide (j ≤ t ∧ (t : Int) < (j : Int) + r.f1)) = secs total.toNat (occ (pre ++ [r])) := secs_congr _ fun t _ => by
        simp only [occ, List.any_append, List.any_cons, List.any_nil, Bool.or_false]
        congr 1
        simp only [cov, hj]
        congr 1
        apply propext
        omega
      have := ih (pre ++ [r]) (k - (d + 1)) (by rw [he]; simp) (fun s hs => by
        rcases List.mem_append.1 hs with hs | hs
        · exact hp s hs
        · simp at hs; subst hs; exact hv) (by
          have hd4 : d ≤ 4000 := by clear e1 e2 ih bad hap hfree hpre hk; omega
          clear e1 e2 ih bad hap hfree hpre hlen hj hd hv b1 b2 b3 b4 hrd hl hp he
          generalize rest.length * 4010 = M at hk ⊢
          omega)
      simp only [List.length_append, List.length_singleton] at this
      rw [hpre, this]
      have : tk total pre (r :: rest) = tk total (pre ++ [r]) rest := by
        simp only [tk]
        rw [decide_eq_true (⟨hv, hap⟩ : valid total r ∧ ∀ s ∈ pre, apartR s r), Bool.true_and]
      rw [this]
    · have hb : tk total pre (r :: rest) = false := by
        simp only [tk]
        rw [decide_eq_false (fun h : valid total r ∧ ∀ s ∈ pre, apartR s r => hap h.2), Bool.false_and]
      have hex : ∃ s ∈ pre, ¬ apartR s r := by
        apply Classical.byContradiction
        intro hc
        exact hap fun s hs => Classical.byContradiction fun hn => hc ⟨s, hs, hn⟩
      obtain ⟨s, hs, hns⟩ := hex
      have hvs := hp s hs
      unfold valid at hvs
      unfold apartR at hns
      obtain ⟨t, ht⟩ := Int.eq_ofNat_of_zero_le (show 0 ≤ max s.f0 r.f0 by omega)
      rw [hj, inner_bad total xs _ (j : Int) r.f1 total.toNat (by omega) (by omega) d k j _ (by omega) (by omega) ⟨t, by omega, by omega, by
        unfold occ
        rw [List.any_eq_true]
        exact ⟨s, hs, by simp only [cov, decide_eq_true_eq]; omega⟩⟩, hb]
      rfl
theorem good_iff (total : Int) (l : List RunT) : good total l = true ↔ (0 ≤ total ∧ total ≤ 4000 ∧ l.length ≤ 200) ∧ tk total [] l = true := by
  simp only [good, Bool.and_eq_true, decide_eq_true_eq, ok_iff, tk_iff]
  constructor
  · rintro ⟨h1, h2, h3⟩; exact ⟨h1, h2, h3, fun _ _ s hs => by simp at hs⟩
  · rintro ⟨h1, h2, h3, _⟩; exact ⟨h1, h2, h3⟩
theorem taken_some (total : Int) (l : List RunT) (k : Nat) (hk : 900000 ≤ k) : palinoderef05_taken.f k total l = some (if good total l = true then (secs total.toNat (occ l), true) else ([], false)) := by
  obtain ⟨k, rfl⟩ : ∃ m, k = m + 1 := ⟨k - 1, by omega⟩
  unfold palinoderef05_taken.f
  by_cases hg : 0 ≤ total ∧ total ≤ 4000 ∧ l.length ≤ 200
  · obtain ⟨g1, g2, g3⟩ := hg
    rw [if_neg (by omega), if_neg (by omega)]
    simp only [palinoderef05_taken.j0]
    rw [if_neg (by simp; omega), if_pos (by omega), if_pos (by omega)]
    have h0 : List.replicate total.toNat false = secs total.toNat (occ []) := by
      apply List.ext_getElem?
      intro t
      simp only [secs, occ, List.any_nil, List.getElem?_replicate, List.getElem?_map]
      by_cases ht : t < total.toNat
      · simp [ht, occ]
      · simp [ht]
    rw [h0]
    have := taken_loop total l g1 g2 g3 l [] k rfl (by simp) (by omega)
    simp only [List.length_nil, Int.natCast_zero] at this
    rw [this]
    by_cases ht : tk total [] l = true
    · rw [if_pos ht, if_pos ((good_iff total l).2 ⟨⟨g1, g2, g3⟩, ht⟩)]
    · rw [if_neg ht, if_neg (fun h => ht ((good_iff total l).1 h).2)]
  · have hng : ¬ good total l = true := fun h => hg ((good_iff total l).1 h).1
    rw [if_neg hng]
    by_cases c1 : total < 0
    · rw [if_pos c1]; simp [palinoderef05_taken.j0]
    · rw [if_neg c1]
      by_cases c2 : total > 4000
      · rw [if_pos c2]; simp [palinoderef05_taken.j0]
      · rw [if_neg c2]
        have : decide ((l.length : Int) > 200) = true := by simp; omega
        rw [this]
        simp [palinoderef05_taken.j0]
end Go.Proofs.Ytgmfmlnkifeikaa.PD
