/-
  Layer 5, the plain part of the document's own answer: Free, Fit, Room.
-/
import Derived.Test.YtgmfmlnkifeikaaSpC
set_option linter.unusedVariables false
set_option linter.unusedSimpArgs false
namespace Go.Proofs.Ytgmfmlnkifeikaa.PD
open Go.RowKit Go.Proofs.Ytgmfmlnkifeikaa Go.Proofs.YtgmfmlnkifeikaaW.PrintWords

theorem scan_used (n : Nat) (hn : n ≤ 4000) (f : Nat → Bool) (acc : List RunT) : ∀ (d k i : Nat), i + d ≤ n → (∀ t, i ≤ t → t < i + d → f t = true) → d ≤ k →
    palinoderef05_Free.l0 k (n : Int) (secs n f) acc (i : Int) = palinoderef05_Free.l0 (k - d) (n : Int) (secs n f) acc ((i + d : Nat) : Int) := by
  intro d
  induction d with
  | zero => intro k i _ _ _; rfl
  | succ d ih =>
    intro k i hi hf hk
    obtain ⟨k, rfl⟩ : ∃ m, k = m + 1 := ⟨k - 1, by omega⟩
    have hl := secs_length n f
    have e1 : wrap64 ((i : Int) + 1) = ((i + 1 : Nat) : Int) := by rw [wrapS _ (by omega) (by omega)]; omega
    have := ih k (i + 1) (by omega) (fun t h1 h2 => hf t (by omega) (by omega)) (by omega)
    rw [palinoderef05_Free.l0, if_pos (by omega), if_pos (by omega), if_pos (by omega), secs_get n f i (by omega), hf i (by omega) (by omega), if_pos rfl, e1, this]
    rw [show k + 1 - (d + 1) = k - d by omega, show i + 1 + d = i + (d + 1) by omega]
theorem set_last (acc : List RunT) (a b : RunT) : (acc ++ [a]).set acc.length b = acc ++ [b] := by
  simp [List.set_append_right]
theorem scan_more (n : Nat) (hn : n ≤ 4000) (f : Nat → Bool) (acc : List RunT) (hacc : acc.length ≤ 100000) (a : Int) : ∀ (d k i : Nat) (m : Int), i + d ≤ n → (∀ t, i ≤ t → t < i + d → f t = false) → 1 ≤ i → f (i - 1) = false → 0 ≤ m → m + d ≤ 100000 → d ≤ k →
    palinoderef05_Free.l0 k (n : Int) (secs n f) (acc ++ [⟨a, m⟩]) (i : Int) = palinoderef05_Free.l0 (k - d) (n : Int) (secs n f) (acc ++ [⟨a, m + d⟩]) ((i + d : Nat) : Int) := by
  intro d
  induction d with
  | zero => intro k i m _ _ _ _ _ _ _; simp
  | succ d ih =>
    intro k i m hi hf hi1 hfp hm0 hm1 hk
    obtain ⟨k, rfl⟩ : ∃ q, k = q + 1 := ⟨k - 1, by omega⟩
    have hl := secs_length n f
    have e1 : wrap64 ((i : Int) + 1) = ((i + 1 : Nat) : Int) := by rw [wrapS _ (by omega) (by omega)]; omega
    have e2 : wrap64 ((i : Int) - 1) = ((i - 1 : Nat) : Int) := by rw [wrapS _ (by omega) (by omega)]; omega
    have hlen : ((acc ++ [(⟨a, m⟩ : RunT)]).length : Int) = (acc.length : Int) + 1 := by simp
    have e3 : wrap64 (((acc ++ [(⟨a, m⟩ : RunT)]).length : Int) - 1) = (acc.length : Int) := by rw [hlen, wrapS _ (by omega) (by omega)]; omega
    have hrd : rd_T32 (acc ++ [(⟨a, m⟩ : RunT)]) (acc.length : Int) = ⟨a, m⟩ := rd_mid acc [] ⟨a, m⟩
    have e4 : wrap64 (m + 1) = m + 1 := wrapS _ (by omega) (by omega)
    have hd := hf i (by omega) (by omega)
    rw [palinoderef05_Free.l0, if_pos (by omega), if_pos (by omega), if_pos (by omega), secs_get n f i (by omega), hd, if_neg (by simp), if_pos (by omega), e2, if_pos (by omega), if_pos (by omega), secs_get n f (i - 1) (by omega), hfp, if_neg (by simp), e3, if_pos (by omega), if_pos (by rw [hlen]; omega), hrd, Int.toNat_natCast, set_last, e1]
    simp only [e4]
    clear e1 e2 e3 e4
    rw [ih k (i + 1) (m + 1) (by omega) (fun t h1 h2 => hf t (by omega) (by omega)) (by omega) (by simpa using hd) (by omega) (by omega) (by omega)]
    rw [show k + 1 - (d + 1) = k - d by omega, show i + 1 + d = i + (d + 1) by omega, show m + 1 + (d : Int) = m + ((d + 1 : Nat) : Int) by omega]
theorem scan_free (n : Nat) (hn : n ≤ 4000) (f : Nat → Bool) (acc : List RunT) (hacc : acc.length ≤ 100000) (d k i : Nat) (hi : i + d ≤ n) (hf : ∀ t, i ≤ t → t < i + d → f t = false) (h0 : i = 0 ∨ f (i - 1) = true) (hk : d ≤ k) :
    palinoderef05_Free.l0 k (n : Int) (secs n f) acc (i : Int) = palinoderef05_Free.l0 (k - d) (n : Int) (secs n f) (acc ++ if 0 < d then [⟨(i : Int), (d : Int)⟩] else []) ((i + d : Nat) : Int) := by
  cases d with
  | zero => simp
  | succ d =>
    obtain ⟨k, rfl⟩ : ∃ q, k = q + 1 := ⟨k - 1, by omega⟩
    have hl := secs_length n f
    have e1 : wrap64 ((i : Int) + 1) = ((i + 1 : Nat) : Int) := by rw [wrapS _ (by omega) (by omega)]; omega
    have hd := hf i (by omega) (by omega)
    have first : palinoderef05_Free.l0 (k + 1) (n : Int) (secs n f) acc (i : Int) = palinoderef05_Free.l0 k (n : Int) (secs n f) (acc ++ [⟨(i : Int), 1⟩]) ((i + 1 : Nat) : Int) := by
      rw [palinoderef05_Free.l0, if_pos (by omega), if_pos (by omega), if_pos (by omega), secs_get n f i (by omega), hd, if_neg (by simp)]
      by_cases hz : i = 0
      · rw [if_neg (by omega), if_pos (by omega), e1]
      · have e2 : wrap64 ((i : Int) - 1) = ((i - 1 : Nat) : Int) := by rw [wrapS _ (by omega) (by omega)]; omega
        have hp : f (i - 1) = true := by rcases h0 with h | h; exact absurd h hz; exact h
        rw [if_pos (by omega), e2, if_pos (by omega), if_pos (by omega), secs_get n f (i - 1) (by omega), hp, if_pos rfl, if_pos (by omega), e1]
    rw [first]
    clear e1 first
    rw [scan_more n hn f acc hacc (i : Int) d k (i + 1) 1 (by omega) (fun t h1 h2 => hf t (by omega) (by omega)) (by omega) (by simpa using hd) (by omega) (by omega) (by omega), if_pos (by omega)]
    rw [show k + 1 - (d + 1) = k - d by omega, show i + 1 + d = i + (d + 1) by omega, show (1 : Int) + (d : Int) = ((d + 1 : Nat) : Int) by omega]

theorem occ_app (a b : List RunT) (k : Nat) : occ (a ++ b) k = (occ a k || occ b k) := by simp [occ]
theorem Free_scan (n : Nat) (hn : n ≤ 4000) (sl : List RunT) (hsl : sl.length ≤ 200) : ∀ (rest pre acc : List RunT) (a k : Nat), sl = pre ++ rest → space_sorted.ok (n : Int) (a : Int) rest = true → (∀ s ∈ pre, s.f0 + s.f1 ≤ a) → (a = 0 ∨ occ sl (a - 1) = true) → a ≤ n → acc.length ≤ pre.length → n - a + 1 ≤ k →
    palinoderef05_Free.l0 k (n : Int) (secs n (occ sl)) acc (a : Int) = some (acc ++ gaps (n : Int) (a : Int) rest, true) := by
  intro rest
  induction rest with
  | nil =>
    intro pre acc a k he hok hpre ha han hacc hk
    have hl : sl.length = pre.length := by rw [he]; simp
    have hfree : ∀ t, a ≤ t → t < a + (n - a) → occ sl t = false := fun t h1 h2 => by
      rw [he, List.append_nil]
      unfold occ
      rw [List.any_eq_false]
      intro s hs
      have := hpre s hs
      simp only [cov, decide_eq_true_eq]
      omega
    rw [scan_free n hn (occ sl) acc (by omega) (n - a) k a (by omega) hfree ha (by omega)]
    obtain ⟨q, hq⟩ : ∃ q, k - (n - a) = q + 1 := ⟨k - (n - a) - 1, by omega⟩
    rw [hq, show a + (n - a) = n by omega, palinoderef05_Free.l0, if_neg (by omega)]
    simp only [gaps, List.nil_append, gapsS, List.append_nil]
    by_cases h : 0 < n - a
    · rw [if_pos h, if_pos (by omega : (n : Int) > (a : Int)), show ((n - a : Nat) : Int) = (n : Int) - (a : Int) by omega]
    · rw [if_neg h, if_neg (by omega : ¬ (n : Int) > (a : Int))]
  | cons r rest ih =>
    intro pre acc a k he hok hpre ha han hacc hk
    have hl : sl.length = pre.length + (rest.length + 1) := by rw [he]; simp
    obtain ⟨h1, h2, h3, h4, h5⟩ := ok_cons hok
    have hrest := ok_all (n : Int) rest _ (by omega) h5
    obtain ⟨j, hj⟩ := Int.eq_ofNat_of_zero_le (show 0 ≤ r.f0 by omega)
    obtain ⟨m, hm⟩ := Int.eq_ofNat_of_zero_le (show 0 ≤ r.f1 by omega)
    have hfree : ∀ t, a ≤ t → t < a + (j - a) → occ sl t = false := fun t q1 q2 => by
      rw [he]
      unfold occ
      rw [List.any_eq_false]
      intro s hs
      simp only [cov, decide_eq_true_eq]
      rcases List.mem_append.1 hs with hs | hs
      · have := hpre s hs; omega
      · rcases List.mem_cons.1 hs with rfl | hs
        · omega
        · have := (hrest s hs).1; omega
    have hused : ∀ t, j ≤ t → t < j + m → occ sl t = true := fun t q1 q2 => by
      rw [he]
      unfold occ
      rw [List.any_eq_true]
      exact ⟨r, by simp, by simp only [cov, decide_eq_true_eq]; omega⟩
    rw [scan_free n hn (occ sl) acc (by omega) (j - a) k a (by omega) hfree ha (by omega), show a + (j - a) = j by omega]
    rw [scan_used n hn (occ sl) _ m (k - (j - a)) j (by omega) hused (by omega)]
    have := ih (pre ++ [r]) (acc ++ if 0 < j - a then [⟨(a : Int), ((j - a : Nat) : Int)⟩] else []) (j + m) (k - (j - a) - m) (by rw [he]; simp) (by rw [show ((j + m : Nat) : Int) = r.f0 + r.f1 by omega]; exact h5) (fun s hs => by
      rcases List.mem_append.1 hs with hs | hs
      · have := hpre s hs; omega
      · simp at hs; subst hs; omega) (Or.inr (hused _ (by omega) (by omega))) (by omega) (by split <;> simp <;> omega) (by omega)
    rw [this, List.append_assoc]
    congr 2
    simp only [gaps, List.cons_append, gapsS, hj, hm]
    rw [show ((j + m : Nat) : Int) = (j : Int) + (m : Int) by omega]
    by_cases h : 0 < j - a
    · rw [if_pos h, if_pos (by omega : (j : Int) > (a : Int)), show ((j - a : Nat) : Int) = (j : Int) - (a : Int) by omega]
    · rw [if_neg h, if_neg (by omega : ¬ (j : Int) > (a : Int))]
theorem occ_perm {a b : List RunT} (h : a.Perm b) (k : Nat) : occ a k = occ b k := by
  unfold occ
  rw [Bool.eq_iff_iff, List.any_eq_true, List.any_eq_true]
  constructor
  · rintro ⟨x, hx, q⟩; exact ⟨x, h.mem_iff.1 hx, q⟩
  · rintro ⟨x, hx, q⟩; exact ⟨x, h.mem_iff.2 hx, q⟩
theorem refFree_some (total : Int) (l : List RunT) (k : Nat) (hk : 900000 ≤ k) : palinoderef05_Free.f k total l = some (if good total l = true then (gaps total 0 (space_sorted.sort l), true) else ([], false)) := by
  unfold palinoderef05_Free.f
  rw [taken_some total l k hk]
  simp only [Option.bind_some]
  by_cases hg : good total l = true
  · rw [if_pos hg, if_pos hg]
    obtain ⟨g1, g2, g3, g4⟩ := good_of hg
    simp only [if_true]
    obtain ⟨n, rfl⟩ := Int.eq_ofNat_of_zero_le g1
    have hs := sort_length l
    have := Free_scan n (by omega) (space_sorted.sort l) (by omega) (space_sorted.sort l) [] [] 0 k rfl g4 (by simp) (Or.inl rfl) (by omega) (by simp) (by omega)
    simp only [Int.natCast_zero, List.nil_append] at this
    rw [Int.toNat_natCast, ← this]
    congr 1
    exact secs_congr _ fun t _ => occ_perm (space_sorted.sort_perm l).symm t
  · rw [if_neg hg, if_neg hg]
    simp

theorem refFit_loop (many : Int) (xs : List RunT) (hx : xs.length ≤ 1000) : ∀ (rest pre : List RunT) (k : Nat), xs = pre ++ rest → rest.length + 1 ≤ k →
    palinoderef05_Fit.l0 k many xs (pre.length : Int) = some (match firstFit many rest with | some p => (p, 0) | none => (0, 7)) := by
  intro rest
  induction rest with
  | nil =>
    intro pre k he hk
    obtain ⟨k, rfl⟩ : ∃ m, k = m + 1 := ⟨k - 1, by omega⟩
    have hl : xs.length = pre.length := by rw [he]; simp
    simp only [palinoderef05_Fit.l0]
    rw [if_neg (by omega)]
    rfl
  | cons r rest ih =>
    intro pre k he hk
    obtain ⟨k, rfl⟩ : ∃ m, k = m + 1 := ⟨k - 1, by omega⟩
    have hl : xs.length = pre.length + (rest.length + 1) := by rw [he]; simp
    have hrd : rd_T32 xs (pre.length : Int) = r := by rw [he]; exact rd_mid pre rest r
    have hi := ih (pre ++ [r]) k (by rw [he]; simp) (by simp at hk; omega)
    simp only [List.length_append, List.length_singleton] at hi
    have e1 : wrap64 ((pre.length : Int) + 1) = ((pre.length + 1 : Nat) : Int) := by rw [wrapS _ (by omega) (by omega)]; omega
    simp only [palinoderef05_Fit.l0]
    rw [if_pos (by omega), if_pos (by omega), hrd, e1]
    by_cases hm : r.f1 ≥ many
    · rw [if_pos hm]
      simp [firstFit, hm]
    · rw [if_neg hm, hi]
      simp [firstFit, hm]
theorem refFit_some (total : Int) (l : List RunT) (many : Int) (k : Nat) (hk : 900000 ≤ k) : palinoderef05_Fit.f k total l many = some ((fitOf total l many).1, (fitOf total l many).2.getD 0) := by
  unfold palinoderef05_Fit.f fitOf
  rw [refFree_some total l k hk]
  simp only [Option.bind_some]
  obtain ⟨k, rfl⟩ : ∃ m, k = m + 1 := ⟨k - 1, by omega⟩
  by_cases hg : good total l = true
  · obtain ⟨h1, h2, h3, h4⟩ := good_of hg
    have hs := sort_length l
    rw [if_pos hg]
    simp only [if_true, palinoderef05_Fit.j0]
    by_cases hm : many < 1
    · have : ¬ (good total l = true ∧ 1 ≤ many) := fun h => by omega
      rw [if_pos (by simpa using hm), if_neg this]
      rfl
    · rw [if_neg (by simpa using hm), if_pos ⟨hg, by omega⟩]
      have hl := gaps_length total 0 (space_sorted.sort l)
      have := refFit_loop many (gaps total 0 (space_sorted.sort l)) (by omega) (gaps total 0 (space_sorted.sort l)) [] k rfl (by omega)
      simp only [List.length_nil, Int.natCast_zero] at this
      rw [this]
      cases firstFit many (gaps total 0 (space_sorted.sort l)) <;> rfl
  · rw [if_neg hg]
    simp [palinoderef05_Fit.j0, hg]
theorem refRoom_loop (e : Bool) (xs : List RunT) (hb : ∀ r ∈ xs, 0 ≤ r.f1 ∧ r.f1 ≤ 4000) (hx : xs.length ≤ 1000) : ∀ (rest pre : List RunT) (acc : Int) (k : Nat), xs = pre ++ rest → 0 ≤ acc → acc ≤ 4000 * pre.length → rest.length + 1 ≤ k →
    palinoderef05_Room.l0 k xs e acc (pre.length : Int) = some (acc + sum1 rest, e) := by
  intro rest
  induction rest with
  | nil =>
    intro pre acc k he h0 h1 hk
    obtain ⟨k, rfl⟩ : ∃ m, k = m + 1 := ⟨k - 1, by omega⟩
    have hl : xs.length = pre.length := by rw [he]; simp
    simp only [palinoderef05_Room.l0]
    rw [if_neg (by omega)]
    simp [sum1]
  | cons r rest ih =>
    intro pre acc k he h0 h1 hk
    obtain ⟨k, rfl⟩ : ∃ m, k = m + 1 := ⟨k - 1, by omega⟩
    have hl : xs.length = pre.length + (rest.length + 1) := by rw [he]; simp
    have hrd : rd_T32 xs (pre.length : Int) = r := by rw [he]; exact rd_mid pre rest r
    have hr := hb r (by rw [he]; simp)
    have hi := ih (pre ++ [r]) (acc + r.f1) k (by rw [he]; simp) (by omega) (by simp; omega) (by simp at hk; omega)
    simp only [List.length_append, List.length_singleton] at hi
    have e1 : wrap64 ((pre.length : Int) + 1) = ((pre.length + 1 : Nat) : Int) := by rw [wrapS _ (by omega) (by omega)]; omega
    have e2 : wrap64 (acc + r.f1) = acc + r.f1 := wrapS _ (by omega) (by omega)
    simp only [palinoderef05_Room.l0]
    rw [if_pos (by omega), if_pos (by omega), hrd, e1, e2, hi, sum1_cons, Int.add_assoc]
theorem refRoom_some (total : Int) (l : List RunT) (k : Nat) (hk : 900000 ≤ k) : palinoderef05_Room.f k total l = some (if good total l = true then (total - sum1 l, true) else (0, false)) := by
  unfold palinoderef05_Room.f
  rw [refFree_some total l k hk]
  simp only [Option.bind_some]
  by_cases hg : good total l = true
  · obtain ⟨h1, h2, h3, h4⟩ := good_of hg
    have hs := sort_length l
    rw [if_pos hg, if_pos hg]
    have hb := gaps_each total _ 0 (by omega) h1 h4
    have hl := gaps_length total 0 (space_sorted.sort l)
    have := refRoom_loop true (gaps total 0 (space_sorted.sort l)) (fun r hr => by have := hb r hr; omega) (by omega) (gaps total 0 (space_sorted.sort l)) [] 0 k rfl (by omega) (by simp) (by omega)
    simp only [List.length_nil, Int.natCast_zero, Int.zero_add] at this
    rw [this, gaps_sum total _ 0 h1 h4, sum1_perm (space_sorted.sort_perm l), Int.sub_zero]
  · rw [if_neg hg, if_neg hg]
    obtain ⟨k, rfl⟩ : ∃ m, k = m + 1 := ⟨k - 1, by omega⟩
    simp [palinoderef05_Room.l0]
end Go.Proofs.Ytgmfmlnkifeikaa.PD
