/-
  SpaceAll: the plain law. What is free and what is used are all sectors, each once; and where there is room the run there is free.
-/
import Derived.Test.YtgmfmlnkifeikaaSpC
import Derived.Test.YtgmfmlnkifeikaaPDx34
set_option linter.unusedVariables false
set_option linter.unusedSimpArgs false
namespace Go.Proofs.Ytgmfmlnkifeikaa.PD
open Go.RowKit Go.Proofs.Ytgmfmlnkifeikaa Go.Proofs.YtgmfmlnkifeikaaW.PrintWords

theorem ex_first : palinodelaw05_examples.f 20 = some true := by kernel_rfl
theorem ex_some (k : Nat) (hk : 20 ≤ k) : palinodelaw05_examples.f k = some true := by
  obtain ⟨j, rfl⟩ : ∃ j, k = 20 + j := ⟨k - 20, by omega⟩
  clear hk
  induction j with
  | zero => exact ex_first
  | succ j ih => exact palinodelaw05_examples.mono (20 + j) _ ih

/-- How many runs hold a sector. -/
def cnt (l : List RunT) (k : Nat) : Int := (l.filter (cov k)).length
theorem cnt_nil (k : Nat) : cnt [] k = 0 := rfl
theorem cnt_cons (r : RunT) (l : List RunT) (k : Nat) : cnt (r :: l) k = (if cov k r = true then 1 else 0) + cnt l k := by
  unfold cnt
  by_cases h : cov k r = true
  · simp [List.filter_cons, h]; omega
  · simp [List.filter_cons, h]
theorem cnt_append (a b : List RunT) (k : Nat) : cnt (a ++ b) k = cnt a k + cnt b k := by simp [cnt]
theorem cnt_perm {a b : List RunT} (h : a.Perm b) (k : Nat) : cnt a k = cnt b k := by
  unfold cnt
  rw [(h.filter _).length_eq]
theorem cnt_le (l : List RunT) (k : Nat) : 0 ≤ cnt l k ∧ cnt l k ≤ l.length := by
  unfold cnt
  have := List.length_filter_le (cov k) l
  omega
theorem cov_iff (k : Nat) (r : RunT) : cov k r = true ↔ r.f0 ≤ k ∧ (k : Int) < r.f0 + r.f1 := by simp [cov]
theorem cnt_zero (l : List RunT) (k : Nat) (h : ∀ r ∈ l, (k : Int) < r.f0) : cnt l k = 0 := by
  induction l with
  | nil => rfl
  | cons r l ih =>
    rw [cnt_cons, ih (fun r hr => h r (by simp [hr])), if_neg]
    · rfl
    · rw [cov_iff]
      have := h r (by simp)
      omega
theorem cnt_gaps (total : Int) (k : Nat) (hk : (k : Int) < total) (l : List RunT) : ∀ at_ : Int, 0 ≤ at_ → at_ ≤ k → space_sorted.ok total at_ l = true → cnt l k + cnt (gaps total at_ l) k = 1 := by
  induction l with
  | nil =>
    intro at_ h0 h1 _
    simp only [gaps, List.nil_append, gapsS, List.append_nil]
    rw [if_pos (by omega), cnt_nil, cnt_cons, cnt_nil, if_pos]
    · rfl
    · rw [cov_iff]; simp only; omega
  | cons r l ih =>
    intro at_ h0 h1 hok
    obtain ⟨g1, g2, g3, g4, g5⟩ := ok_cons hok
    have hall := ok_all total l _ (by omega) g5
    have hgs := gaps_each total l (r.f0 + r.f1) (by omega) (by omega) g5
    have e : gaps total at_ (r :: l) = (if r.f0 > at_ then [⟨at_, r.f0 - at_⟩] else []) ++ gaps total (r.f0 + r.f1) l := rfl
    rw [e, cnt_cons, cnt_append]
    have hgap : cnt (if r.f0 > at_ then [(⟨at_, r.f0 - at_⟩ : RunT)] else []) k = if (k : Int) < r.f0 then 1 else 0 := by
      by_cases q : r.f0 > at_
      · rw [if_pos q, cnt_cons, cnt_nil]
        by_cases q2 : (k : Int) < r.f0
        · rw [if_pos ((cov_iff _ _).2 ⟨h1, by simp only; omega⟩), if_pos q2]; rfl
        · rw [if_neg (fun h => q2 (by have := (cov_iff _ _).1 h; simp only at this; omega)), if_neg q2]; rfl
      · rw [if_neg q, cnt_nil, if_neg (by omega)]
    rw [hgap]
    by_cases q1 : (k : Int) < r.f0
    · rw [if_pos q1, if_neg (fun h => by have := (cov_iff _ _).1 h; omega), cnt_zero l k (fun s hs => by have := (hall s hs).1; omega), cnt_zero (gaps total (r.f0 + r.f1) l) k (fun s hs => by have := (hgs s hs).1; omega)]
      rfl
    · rw [if_neg q1]
      by_cases q2 : (k : Int) < r.f0 + r.f1
      · rw [if_pos ((cov_iff _ _).2 ⟨by omega, q2⟩), cnt_zero l k (fun s hs => by have := (hall s hs).1; omega), cnt_zero (gaps total (r.f0 + r.f1) l) k (fun s hs => by have := (hgs s hs).1; omega)]
        rfl
      · rw [if_neg (fun h => by have := (cov_iff _ _).1 h; omega)]
        have := ih (r.f0 + r.f1) (by omega) (by omega) g5
        omega
theorem gaps_apart (total : Int) (l : List RunT) : ∀ at_ : Int, 0 ≤ at_ → at_ ≤ total → space_sorted.ok total at_ l = true → ∀ g ∈ gaps total at_ l, ∀ s ∈ l, apartR s g := by
  induction l with
  | nil => intro at_ _ _ _ g _ s hs; simp at hs
  | cons r l ih =>
    intro at_ h0 h1 hok g hg s hs
    obtain ⟨g1, g2, g3, g4, g5⟩ := ok_cons hok
    have hall := ok_all total l _ (by omega) g5
    have hgs := gaps_each total l (r.f0 + r.f1) (by omega) (by omega) g5
    have e : gaps total at_ (r :: l) = (if r.f0 > at_ then [⟨at_, r.f0 - at_⟩] else []) ++ gaps total (r.f0 + r.f1) l := rfl
    rw [e] at hg
    rcases List.mem_append.1 hg with hg | hg
    · split at hg
      · simp at hg
        subst hg
        right
        simp only
        rcases List.mem_cons.1 hs with rfl | hs
        · omega
        · have := hall s hs; omega
      · simp at hg
    · rcases List.mem_cons.1 hs with rfl | hs
      · left; have := hgs g hg; omega
      · exact ih _ (by omega) (by omega) g5 g hg s hs
theorem sum_many (l : List RunT) (h : ∀ r ∈ l, 1 ≤ r.f1) : (l.length : Int) ≤ sum1 l := by
  induction l with
  | nil => simp [sum1]
  | cons r l ih =>
    have := ih (fun r hr => h r (by simp [hr]))
    have := h r (by simp)
    rw [sum1_cons, List.length_cons]
    omega
theorem sum_mem (l : List RunT) (h : ∀ r ∈ l, 1 ≤ r.f1) (g : RunT) (hg : g ∈ l) : g.f1 ≤ sum1 l := by
  induction l with
  | nil => simp at hg
  | cons r l ih =>
    have h1 := sum_many l (fun r hr => h r (by simp [hr]))
    have h2 := h r (by simp)
    rw [sum1_cons]
    rcases List.mem_cons.1 hg with rfl | hg
    · omega
    · have := ih (fun r hr => h r (by simp [hr])) hg; omega
/-- Where there is room the run there may be used, too. -/
theorem fit_good (total : Int) (l : List RunT) (many p : Int) (ht : total ≤ 200) (hf : fitOf total l many = (p, none)) : good total (l ++ [⟨p, many⟩]) = true := by
  unfold fitOf at hf
  split at hf
  · rename_i hg
    obtain ⟨hg, hm⟩ := hg
    obtain ⟨g1, g2, g3, g4⟩ := good_of hg
    cases hff : firstFit many (gaps total 0 (space_sorted.sort l)) with
    | none => rw [hff] at hf; simp at hf
    | some q =>
      rw [hff] at hf
      simp at hf
      subst hf
      obtain ⟨g, hgm, hg0, hg1⟩ := firstFit_mem _ _ _ hff
      have hb := gaps_each total _ 0 (by omega) g1 g4 g hgm
      have hap := gaps_apart total _ 0 (by omega) g1 g4 g hgm
      have hall := ok_all total _ 0 (by omega) g4
      have hp := space_sorted.sort_perm l
      have hsum := gaps_sum total _ 0 g1 g4
      have h1 := sum_mem _ (fun r hr => (gaps_each total _ 0 (by omega) g1 g4 r hr).2.1) g hgm
      have h2 := sum_many (space_sorted.sort l) (fun r hr => (hall r hr).2.2.1)
      have hlen := sort_length l
      obtain ⟨v1, v2⟩ := (ok_iff total l).1 g4
      simp only [good, Bool.and_eq_true, decide_eq_true_eq]
      refine ⟨⟨g1, g2, by simp; omega⟩, (ok_iff _ _).2 ⟨fun r hr => ?_, ?_⟩⟩
      · rcases List.mem_append.1 hr with hr | hr
        · exact v1 r hr
        · simp at hr; subst hr; unfold valid; simp only; omega
      · rw [List.pairwise_append]
        refine ⟨v2, by simp, fun a ha b hb2 => ?_⟩
        simp at hb2
        subst hb2
        have := hap a (hp.mem_iff.2 ha)
        unfold apartR at *
        simp only
        omega
  · simp at hf

/-- Whole numbers, sector by sector. -/
def nums (n : Nat) (f : Nat → Int) : List Int := (List.range n).map f
theorem nums_length (n : Nat) (f : Nat → Int) : (nums n f).length = n := by simp [nums]
theorem nums_get (n : Nat) (f : Nat → Int) (j : Nat) (hj : j < n) : rd (nums n f) (j : Int) = f j := by simp [rd, nums, List.getD, hj]
theorem nums_set (n : Nat) (f : Nat → Int) (j : Nat) (v : Int) : (nums n f).set j v = nums n (fun k => if k = j then v else f k) := by
  apply List.ext_getElem?
  intro t
  simp only [nums, List.getElem?_set, List.getElem?_map, List.length_map, List.length_range]
  by_cases h : j = t
  · subst h
    by_cases hj : j < n
    · simp [hj]
    · simp [hj]
  · have : ¬ t = j := fun e => h e.symm
    simp [h, this]
    by_cases ht : t < n
    · simp [ht, this]
    · simp [ht]
theorem nums_congr (n : Nat) {f g : Nat → Int} (h : ∀ k, k < n → f k = g k) : nums n f = nums n g := by
  apply List.map_congr_left
  intro k hk
  exact h k (by simpa using hk)

theorem All_inner (n : Nat) (hn : n ≤ 200) (x1 : List RunT) (x2 : Int) (x7 : Bool) (x10 : Option Int) (xs : List RunT) (i : Nat) (hi : i < xs.length) (r : RunT) (hr : rd_T32 xs (i : Int) = r) (hr0 : 0 ≤ r.f0) (hr1 : 0 ≤ r.f1) (he : r.f0 + r.f1 ≤ n) : ∀ (d k j : Nat) (f : Nat → Int), (j : Int) + d = r.f0 + r.f1 → d + 1 ≤ k → (∀ t, j ≤ t → 0 ≤ f t ∧ f t ≤ 1000) →
    palinodelaw05_SpaceAll.l1 k (n : Int) x1 x2 x7 (nums n f) x10 xs (i : Int) (j : Int) = palinodelaw05_SpaceAll.l0 (k - (d + 1)) (n : Int) x1 x2 x7 (nums n fun t => f t + if j ≤ t ∧ (t : Int) < r.f0 + r.f1 then 1 else 0) x10 xs (wrap64 ((i : Int) + 1)) := by
  intro d
  induction d with
  | zero =>
    intro k j f hj hk hf
    obtain ⟨k, rfl⟩ : ∃ m, k = m + 1 := ⟨k - 1, by omega⟩
    have e1 : wrap64 (r.f0 + r.f1) = r.f0 + r.f1 := wrapS _ (by omega) (by omega)
    rw [palinodelaw05_SpaceAll.l1, if_pos (by omega), if_pos (by omega), hr, e1, if_neg (by omega)]
    have : (nums n fun t => f t + if j ≤ t ∧ (t : Int) < r.f0 + r.f1 then 1 else 0) = nums n f := nums_congr n fun t _ => by
      rw [if_neg (by omega), Int.add_zero]
    rw [this]
    rfl
  | succ d ih =>
    intro k j f hj hk hf
    obtain ⟨k, rfl⟩ : ∃ m, k = m + 1 := ⟨k - 1, by omega⟩
    have hl := nums_length n f
    have E1 : Hid (wrap64 (r.f0 + r.f1) = r.f0 + r.f1) := Lib.hid (wrapS _ (by omega) (by omega))
    have E2 : Hid (wrap64 ((j : Int) + 1) = ((j + 1 : Nat) : Int)) := Lib.hid (by rw [wrapS _ (by omega) (by omega)]; omega)
    have hfj := hf j (Nat.le_refl _)
    have E3 : Hid (wrap64 (f j + 1) = f j + 1) := Lib.hid (wrapS _ (by omega) (by omega))
    rw [palinodelaw05_SpaceAll.l1, if_pos (by omega), if_pos (by omega), hr, E1.out, if_pos (by omega), if_neg (by omega), if_neg (by omega), if_pos (by omega), if_pos (by omega), nums_get n f j (by omega), E3.out, E2.out, Int.toNat_natCast, nums_set]
    rw [ih k (j + 1) _ (by omega) (by omega) (fun t ht => by rw [if_neg (by omega)]; exact hf t (by omega))]
    rw [show k + 1 - (d + 1 + 1) = k - (d + 1) by omega]
    congr 1
    apply nums_congr
    intro t _
    by_cases h : t = j
    · subst h
      rw [if_pos rfl, if_neg (by omega), if_pos (by omega), Int.add_zero]
    · rw [if_neg h]
      congr 1
      by_cases h2 : j ≤ t ∧ (t : Int) < r.f0 + r.f1
      · rw [if_pos h2, if_pos (by omega)]
      · rw [if_neg h2, if_neg (by omega)]
theorem All_outer (n : Nat) (hn : n ≤ 200) (x1 : List RunT) (x2 : Int) (x7 : Bool) (x10 : Option Int) (xs : List RunT) (hx : xs.length ≤ 900) (hall : ∀ r ∈ xs, 0 ≤ r.f0 ∧ 0 ≤ r.f1 ∧ r.f0 + r.f1 ≤ n) : ∀ (rest pre : List RunT) (k : Nat), xs = pre ++ rest → rest.length * 205 + 10 ≤ k →
    ∃ q, k ≤ q + (rest.length * 205 + 5) ∧ palinodelaw05_SpaceAll.l0 k (n : Int) x1 x2 x7 (nums n (cnt pre)) x10 xs (pre.length : Int) = palinodelaw05_SpaceAll.l2 q (n : Int) x1 x2 x7 (nums n (cnt xs)) x10 0 := by
  intro rest
  induction rest with
  | nil =>
    intro pre k he hk
    obtain ⟨k, rfl⟩ : ∃ m, k = m + 1 := ⟨k - 1, by omega⟩
    have hl : xs.length = pre.length := by rw [he]; simp
    have : xs = pre := by simpa using he
    refine ⟨k, by omega, ?_⟩
    rw [palinodelaw05_SpaceAll.l0, if_neg (by omega), this]
  | cons r rest ih =>
    intro pre k he hk
    obtain ⟨k, rfl⟩ : ∃ m, k = m + 1 := ⟨k - 1, by omega⟩
    have hl : xs.length = pre.length + (rest.length + 1) := by rw [he]; simp
    have hrd : rd_T32 xs (pre.length : Int) = r := by rw [he]; exact rd_mid pre rest r
    have hr := hall r (by rw [he]; simp)
    obtain ⟨j, hj⟩ := Int.eq_ofNat_of_zero_le hr.1
    obtain ⟨d, hd⟩ := Int.eq_ofNat_of_zero_le hr.2.1
    have hd2 : d ≤ 200 := by omega
    have hlen : (r :: rest).length * 205 = rest.length * 205 + 205 := by rw [List.length_cons]; omega
    rw [hlen] at hk ⊢
    have E1 : Hid (wrap64 ((pre.length : Int) + 1) = ((pre.length + 1 : Nat) : Int)) := Lib.hid (by rw [wrapS _ (by omega) (by omega)]; omega)
    have hpl : pre.length ≤ 900 := by omega
    have hk2 : d + 1 ≤ k := by clear hl hrd hr hj hd he; omega
    have h1 := All_inner n hn x1 x2 x7 x10 xs pre.length (by omega) r hrd hr.1 hr.2.1 hr.2.2 d k j (cnt pre) (by omega) hk2 (fun t _ => by have := cnt_le pre t; omega)
    have hpre : (nums n fun t => cnt pre t + if j ≤ t ∧ (t : Int) < r.f0 + r.f1 then 1 else 0) = nums n (cnt (pre ++ [r])) := nums_congr n fun t _ => by
      rw [cnt_append, cnt_cons, cnt_nil, Int.add_zero]
      congr 1
      by_cases h2 : j ≤ t ∧ (t : Int) < r.f0 + r.f1
      · rw [if_pos h2, if_pos ((cov_iff _ _).2 (by omega))]
      · rw [if_neg h2, if_neg (fun h => h2 (by have := (cov_iff _ _).1 h; omega))]
    rw [hpre, E1.out, ← hj] at h1
    have hk3 : rest.length * 205 + 10 ≤ k - (d + 1) := by
      clear hl hrd hr hj hd he h1 hpre ih hlen
      generalize rest.length * 205 = M at hk ⊢
      omega
    obtain ⟨q, hq, h2⟩ := ih (pre ++ [r]) (k - (d + 1)) (by rw [he]; simp) hk3
    refine ⟨q, by clear hl hrd hr hj hd he h1 h2 hpre ih hlen; generalize rest.length * 205 = M at hk hq ⊢; omega, ?_⟩
    simp only [List.length_append, List.length_singleton] at h2
    rw [palinodelaw05_SpaceAll.l0, if_pos (by omega), if_pos (by omega), hrd, h1, h2]
theorem All_last (n : Nat) (hn : n ≤ 200) (l : List RunT) (a2 : Int) (hg : good (n : Int) l = true) (f : Nat → Int) (hf : ∀ k, k < n → f k = 1) : ∀ (d i k : Nat), i + d = n → d + 300 ≤ k →
    palinodelaw05_SpaceAll.l2 k (n : Int) l a2 true (nums n f) none (i : Int) = some true := by
  intro d
  induction d with
  | zero =>
    intro i k hi hk
    obtain ⟨k, rfl⟩ : ∃ m, k = m + 1 := ⟨k - 1, by omega⟩
    obtain ⟨g1, g2, g3, g4⟩ := good_of hg
    rw [palinodelaw05_SpaceAll.l2, if_neg (by omega), Fit_some _ l a2 k (by omega)]
    simp only [Option.bind_some]
    cases hfit : fitOf (n : Int) l a2 with
    | mk p o =>
      cases o with
      | none =>
        have := fit_good (n : Int) l a2 p (by omega) hfit
        simp only [Option.isNone_none, if_true, List.length_nil, List.nil_append, Option.bind_some]
        rw [if_pos (by omega), if_pos (by omega), Right_some, this]
        rfl
      | some c => simp
  | succ d ih =>
    intro i k hi hk
    obtain ⟨k, rfl⟩ : ∃ m, k = m + 1 := ⟨k - 1, by omega⟩
    have hl := nums_length n f
    have E1 : Hid (wrap64 ((i : Int) + 1) = ((i + 1 : Nat) : Int)) := Lib.hid (by rw [wrapS _ (by omega) (by omega)]; omega)
    rw [palinodelaw05_SpaceAll.l2, if_pos (by omega), if_pos (by omega), if_pos (by omega), nums_get n f i (by omega), if_pos (hf i (by omega)), E1.out]
    exact ih (i + 1) k (by omega) (by omega)
theorem SpaceAll_true (a0 : Int) (l1 : List RunT) (a2 : Int) (_h0 : -9223372036854775808 ≤ a0 ∧ a0 ≤ 9223372036854775807) (_h1 : l1.length ≤ 8796093022207 ∧ ∀ x ∈ l1, (-9223372036854775808 ≤ x.f0 ∧ x.f0 ≤ 9223372036854775807) ∧ (-9223372036854775808 ≤ x.f1 ∧ x.f1 ≤ 9223372036854775807)) (_h2 : -9223372036854775808 ≤ a2 ∧ a2 ≤ 9223372036854775807) : ∃ k, palinodelaw05_SpaceAll.f k a0 l1 a2 = some true := by
  obtain ⟨K, hK⟩ : ∃ K, K = 200000 := ⟨_, rfl⟩
  refine ⟨K + 1, ?_⟩
  unfold palinodelaw05_SpaceAll.f
  rw [ex_some _ (by omega)]
  simp only [Option.bind_some]
  have out : palinodelaw05_SpaceAll.j0 (K + 1) a0 l1 a2 true true = some true := by rw [palinodelaw05_SpaceAll.j0, if_pos rfl]
  by_cases c1 : a0 < 0
  · rw [if_pos c1]; exact out
  · rw [if_neg c1]
    by_cases c2 : a0 > 200
    · rw [if_pos c2]; exact out
    · rw [if_neg c2, Right_some]
      simp only [Option.bind_some]
      by_cases hg : good a0 l1 = true
      · obtain ⟨g1, g2, g3, g4⟩ := good_of hg
        obtain ⟨n, rfl⟩ := Int.eq_ofNat_of_zero_le g1
        have hs := sort_length l1
        have hgl := gaps_length (n : Int) 0 (space_sorted.sort l1)
        have hge := gaps_each (n : Int) _ 0 (by omega) g1 g4
        have hall := ok_all (n : Int) _ 0 (by omega) g4
        have hp := space_sorted.sort_perm l1
        rw [hg, palinodelaw05_SpaceAll.j0, if_neg (by simp), if_pos (by omega), if_pos (by omega), Free_some _ l1 K (by omega), if_pos hg]
        simp only [Option.bind_some, List.length_nil, List.nil_append]
        rw [if_pos (by omega), if_pos (by omega)]
        have h0 : List.replicate (n : Int).toNat (0 : Int) = nums n (cnt []) := by
          apply List.ext_getElem?
          intro t
          simp only [nums, List.getElem?_replicate, List.getElem?_map, Int.toNat_natCast]
          by_cases ht : t < n
          · simp [ht, cnt_nil]
          · simp [ht]
        rw [h0]
        have hlen : (l1 ++ gaps (n : Int) 0 (space_sorted.sort l1)).length ≤ 500 := by simp; omega
        obtain ⟨q, hq, h1⟩ := All_outer n (by omega) l1 a2 true none (l1 ++ gaps (n : Int) 0 (space_sorted.sort l1)) (by omega) (fun r hr => by
          rcases List.mem_append.1 hr with hr | hr
          · have := hall r (hp.mem_iff.2 hr); omega
          · have := hge r hr; omega) (l1 ++ gaps (n : Int) 0 (space_sorted.sort l1)) [] K rfl (by omega)
        simp only [List.length_nil, Int.natCast_zero] at h1
        rw [h1]
        have h2 := All_last n (by omega) l1 a2 hg (cnt (l1 ++ gaps (n : Int) 0 (space_sorted.sort l1))) (fun k hk => by
          rw [cnt_append, cnt_perm hp.symm k]
          exact cnt_gaps (n : Int) k (by omega) _ 0 (by omega) (by omega) g4) n 0 q (by omega) (by omega)
        simpa using h2
      · have hg2 : good a0 l1 = false := by simpa using hg
        rw [hg2]
        exact out
end Go.Proofs.Ytgmfmlnkifeikaa.PD
