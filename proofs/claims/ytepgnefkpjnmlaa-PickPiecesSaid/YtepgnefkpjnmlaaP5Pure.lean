/-
  PickPieces: the plain law. Pieces, one behind the other, are the list; none is empty, none but the last one shorter than asked for; no key stands in two.
-/
import Derived.Test.YtepgnefkpjnmlaaP5x
set_option linter.unusedVariables false
set_option linter.unusedSimpArgs false
namespace Go.Proofs.Ytepgnefkpjnmlaa.P5
open Go.RowKit Go.Proofs.Ytepgnefkpjnmlaa Go.Proofs.YtepgnefkpjnmlaaW.PrintWords

theorem wrap_small (n : Int) (h0 : 0 ≤ n) (h : n ≤ 9223372036854775807) : wrap64 n = n := by unfold wrap64; omega
theorem entries_self (l : List S45) (hl : l.length < 1000000) : ∀ (d : Nat) (i k : Nat), l.length = i + d → d + 1 ≤ k → palinodelaw16_entries.l0 k l l (i : Int) = some true
  | 0, i, k, he, hk => by
    obtain ⟨k, rfl⟩ : ∃ k', k = k' + 1 := ⟨k - 1, by omega⟩
    unfold palinodelaw16_entries.l0
    rw [if_neg (by omega)]
  | d + 1, i, k, he, hk => by
    obtain ⟨k, rfl⟩ : ∃ k', k = k' + 1 := ⟨k - 1, by omega⟩
    unfold palinodelaw16_entries.l0
    rw [if_pos (by omega), if_pos (by omega), if_pos (by omega), if_neg (by simp), wrap_small _ (by omega) (by omega)]
    exact_mod_cast entries_self l hl d (i + 1) k (by omega) (by omega)

theorem ext_stop (l : List S45) : ∀ (d n : Nat), l.length ≤ n + d → pick_Cut.ext l d n < l.length → (l.getD (pick_Cut.ext l d n) z45).f0.toList ≠ (l.getD (pick_Cut.ext l d n - 1) z45).f0.toList
  | 0, n, h, hlt => by unfold pick_Cut.ext at hlt; omega
  | d + 1, n, h, hlt => by
    unfold pick_Cut.ext at hlt ⊢
    split
    · rename_i hc
      rw [if_pos hc] at hlt
      exact ext_stop l d (n + 1) (by omega) hlt
    · rename_i hc
      rw [if_neg hc] at hlt
      exact fun e => hc ⟨hlt, e⟩
theorem at_stop (many : Nat) (l : List S45) (h : pick_Cut.at_ many l < l.length) : (l.getD (pick_Cut.at_ many l) z45).f0.toList ≠ (l.getD (pick_Cut.at_ many l - 1) z45).f0.toList :=
  ext_stop l _ _ (by omega) h
theorem pieces_step (many d : Nat) (l : List S45) (h : l ≠ []) : pick_Cut.pieces many (d + 1) l = l.take (pick_Cut.at_ many l) :: pick_Cut.pieces many d (l.drop (pick_Cut.at_ many l)) := by
  rw [pick_Cut.pieces, if_neg h]
theorem at_pos (many : Nat) (hm : 1 ≤ many) (l : List S45) (h : l ≠ []) : 1 ≤ pick_Cut.at_ many l := by
  have := (pick_Cut.at_le many l).1
  have : 0 < l.length := List.length_pos_iff.2 h
  omega
theorem pieces_flat (many : Nat) (hm : 1 ≤ many) : ∀ (d : Nat) (l : List S45), l.length ≤ d → (pick_Cut.pieces many d l).flatten = l
  | 0, l, h => by
    have : l = [] := List.eq_nil_of_length_eq_zero (by omega)
    subst this
    rfl
  | d + 1, l, h => by
    by_cases hl : l = []
    · subst hl
      rw [pick_Cut.pieces_nil]
      rfl
    · have h1 := at_pos many hm l hl
      rw [pieces_step many d l hl, List.flatten_cons, pieces_flat many hm d _ (by rw [List.length_drop]; omega), List.take_append_drop]
theorem pieces_some (many : Nat) (hm : 1 ≤ many) : ∀ (d : Nat) (l p : List S45), p ∈ pick_Cut.pieces many d l → 0 < p.length
  | 0, l, p, h => by simp [pick_Cut.pieces] at h
  | d + 1, l, p, h => by
    by_cases hl : l = []
    · subst hl
      rw [pick_Cut.pieces_nil] at h
      simp at h
    · have h1 := at_pos many hm l hl
      have h2 := (pick_Cut.at_le many l).2
      rw [pieces_step many d l hl] at h
      rcases List.mem_cons.1 h with rfl | h
      · rw [List.length_take]; omega
      · exact pieces_some many hm d _ p h
theorem pieces_next (many : Nat) (hm : 1 ≤ many) : ∀ (d i : Nat) (l : List S45), i + 1 < (pick_Cut.pieces many d l).length →
    many ≤ ((pick_Cut.pieces many d l).getD i []).length ∧ (((pick_Cut.pieces many d l).getD i []).getD (((pick_Cut.pieces many d l).getD i []).length - 1) z45).f0.toList ≠ (((pick_Cut.pieces many d l).getD (i + 1) []).getD 0 z45).f0.toList
  | 0, i, l, h => by simp [pick_Cut.pieces] at h
  | d + 1, i, l, h => by
    by_cases hl : l = []
    · subst hl
      rw [pick_Cut.pieces_nil] at h
      simp at h
    · have h1 := at_pos many hm l hl
      have h2 := pick_Cut.at_le many l
      rw [pieces_step many d l hl] at h ⊢
      cases i with
      | succ i =>
        simp only [List.length_cons] at h
        have := pieces_next many hm d i (l.drop (pick_Cut.at_ many l)) (by omega)
        simpa only [List.getD_cons_succ] using this
      | zero =>
        simp only [List.length_cons] at h
        have hne : l.drop (pick_Cut.at_ many l) ≠ [] := by
          intro e
          rw [e, pick_Cut.pieces_nil] at h
          simp at h
        have hlt : pick_Cut.at_ many l < l.length := by
          have : 0 < (l.drop (pick_Cut.at_ many l)).length := List.length_pos_iff.2 hne
          rw [List.length_drop] at this
          omega
        obtain ⟨d', rfl⟩ : ∃ d', d = d' + 1 := by
          cases d with
          | zero => simp [pick_Cut.pieces] at h
          | succ d => exact ⟨d, rfl⟩
        rw [pieces_step many d' _ hne]
        have h3 := at_pos many hm _ hne
        simp only [List.getD_cons_zero, List.getD_cons_succ, List.length_take]
        refine ⟨by omega, ?_⟩
        have e1 : (l.take (pick_Cut.at_ many l)).getD (min (pick_Cut.at_ many l) l.length - 1) z45 = l.getD (pick_Cut.at_ many l - 1) z45 := by
          rw [List.getD_eq_getElem?_getD, List.getD_eq_getElem?_getD, List.getElem?_take, if_pos (by omega), Nat.min_eq_left (by omega)]
        have e2 : ((l.drop (pick_Cut.at_ many l)).take (pick_Cut.at_ many (l.drop (pick_Cut.at_ many l)))).getD 0 z45 = l.getD (pick_Cut.at_ many l) z45 := by
          rw [List.getD_eq_getElem?_getD, List.getD_eq_getElem?_getD, List.getElem?_take, if_pos (by omega), List.getElem?_drop, Nat.add_zero]
        rw [e1, e2]
        exact fun e => at_stop many l hlt e.symm
theorem take_flat (P : List (List S45)) (i : Nat) (h : i < P.length) : (P.take i).flatten ++ P.getD i [] = (P.take (i + 1)).flatten := by
  rw [List.take_add_one, List.flatten_append, List.getD_eq_getElem?_getD, List.getElem?_eq_getElem h]
  simp
theorem take_flat_len (P : List (List S45)) (i : Nat) : (P.take i).flatten.length ≤ P.flatten.length := by
  conv => rhs; rw [← List.take_append_drop i P, List.flatten_append, List.length_append]
  omega
theorem walk_l0 (L : List S45) (a1 : Int) (many : Nat) (ha : a1 = many) (hm : 1 ≤ many) (P : List (List S45)) (hL : L.length < 1000000) (hPl : P.length < 1000000) (hf : P.flatten = L) (hs : ∀ p ∈ P, 0 < p.length)
    (hn : ∀ i, i + 1 < P.length → many ≤ (P.getD i []).length ∧ ((P.getD i []).getD ((P.getD i []).length - 1) z45).f0.toList ≠ ((P.getD (i + 1) []).getD 0 z45).f0.toList) :
    ∀ (d i k : Nat), P.length = i + d → 2 * d + L.length + 10 ≤ k → palinodelaw16_PickPieces.l0 k L a1 true P none (P.take i).flatten (i : Int) = some true
  | 0, i, k, he, hk => by
    obtain ⟨k, rfl⟩ : ∃ k', k = k' + 1 := ⟨k - 1, by omega⟩
    unfold palinodelaw16_PickPieces.l0
    rw [if_neg (by omega), List.take_of_length_le (by omega), hf]
    have e : palinodelaw16_entries.f k L L = some true := by
      unfold palinodelaw16_entries.f
      rw [if_pos rfl]
      exact_mod_cast entries_self L hL L.length 0 k (by omega) (by omega)
    rw [e]
    rfl
  | d + 1, i, k, he, hk => by
    obtain ⟨k, rfl⟩ : ∃ k', k = k' + 1 + 1 := ⟨k - 2, by omega⟩
    have hpos : ∀ j, j < P.length → 0 < (P.getD j []).length := fun j hj => by
      refine hs _ ?_
      rw [List.getD_eq_getElem?_getD, List.getElem?_eq_getElem hj]
      exact List.getElem_mem hj
    have hlen : ∀ j, j < P.length → (P.getD j []).length ≤ L.length := fun j hj => by
      have h1 := take_flat_len P (j + 1)
      rw [← take_flat P j hj, hf, List.length_append] at h1
      omega
    have h0 := hpos i (by omega)
    have hrec := walk_l0 L a1 many ha hm P hL hPl hf hs hn d (i + 1) k (by omega) (by omega)
    have hx : (P.take i).flatten.length + (P.getD i []).length < 2932031007402 := by
      have h1 := take_flat_len P (i + 1)
      rw [← take_flat P i (by omega), hf, List.length_append] at h1
      omega
    have ei : (rd_L6 P (i : Int)) = P.getD i [] := by rw [rd_L6, Int.toNat_natCast]
    have hj : palinodelaw16_PickPieces.j1 (k + 1) L a1 true P none (P.take i).flatten (i : Int) false = some true := by
      unfold palinodelaw16_PickPieces.j1
      rw [if_neg (by simp)]
      by_cases hi : (i : Int) > 0
      · obtain ⟨j, rfl⟩ : ∃ j, i = j + 1 := ⟨i - 1, by omega⟩
        have e1 : wrap64 (((j + 1 : Nat) : Int) - 1) = (j : Int) := by unfold wrap64; omega
        have ej : rd_L6 P (j : Int) = P.getD j [] := by rw [rd_L6, Int.toNat_natCast]
        have hp := hpos j (by omega)
        have hlj := hlen j (by omega)
        have e2 : wrap64 (((P.getD j []).length : Int) - 1) = (((P.getD j []).length - 1 : Nat) : Int) := by unfold wrap64; omega
        have hne := (hn j (by omega)).2
        rw [if_pos hi, e1, if_pos (by omega), if_pos (by omega), ej, if_pos (by omega), e2, if_pos (by omega), if_pos (by omega), if_pos (by omega), if_pos (by omega), ei, if_pos (by omega), if_neg (by rw [rd_T45, rd_T45, Int.toNat_natCast]; exact hne), if_pos hx, take_flat P (j + 1) (by omega), wrap_small _ (by omega) (by omega)]
        exact_mod_cast hrec
      · rw [if_neg hi, if_pos (by omega), if_pos (by omega), ei, if_pos hx, take_flat P i (by omega), wrap_small _ (by omega) (by omega)]
        exact_mod_cast hrec
    unfold palinodelaw16_PickPieces.l0
    rw [if_pos (by omega), if_pos (by omega), ei, if_neg (by omega)]
    by_cases hq : (i : Int) < wrap64 ((P.length : Int) - 1)
    · have e3 : wrap64 ((P.length : Int) - 1) = (P.length : Int) - 1 := by unfold wrap64; omega
      have hlong := (hn i (by omega)).1
      rw [if_pos hq, show decide (((P.getD i []).length : Int) < a1) = false from decide_eq_false (by omega)]
      exact hj
    · rw [if_neg hq]
      exact hj
theorem pieces_many (many : Nat) (hm : 1 ≤ many) : ∀ (d : Nat) (l : List S45), (pick_Cut.pieces many d l).length ≤ d
  | 0, l => by simp [pick_Cut.pieces]
  | d + 1, l => by
    by_cases hl : l = []
    · subst hl
      rw [pick_Cut.pieces_nil]
      exact Nat.zero_le _
    · rw [pieces_step many d l hl, List.length_cons]
      have := pieces_many many hm d (l.drop (pick_Cut.at_ many l))
      omega
/-- The plain law. -/
theorem PickPieces_true (l : List S45) (a1 : Int) (hl : l.length ≤ 9223372036854775807) (_ha : -9223372036854775808 ≤ a1 ∧ a1 ≤ 9223372036854775807) : ∃ k, palinodelaw16_PickPieces.f k l a1 = some true := by
  obtain ⟨n, hn⟩ : ∃ n : Nat, mn (l.length : Int) 200 = (n : Int) ∧ n ≤ 200 ∧ n ≤ l.length := by
    unfold mn
    split
    · exact ⟨200, rfl, by omega, by omega⟩
    · exact ⟨l.length, rfl, by omega, by omega⟩
  obtain ⟨hn, hn2, hn3⟩ := hn
  have hL : (l.take n).length = n := by rw [List.length_take]; omega
  refine ⟨1000, ?_⟩
  unfold palinodelaw16_PickPieces.f
  rw [palinodelaw16_examples.sure, Option.bind_some, hn, if_pos (by omega), if_pos (by omega), Int.toNat_natCast, Option.bind_some]
  by_cases ha : a1 < 1
  · have e : pick_Cut.f (l.take n) a1 = some ([], some 1) := by rw [pick_Cut.f, if_pos ha]
    rw [e, Option.bind_some, if_pos ha, if_pos rfl]
    rfl
  · obtain ⟨many, rfl⟩ : ∃ many : Nat, a1 = many := ⟨a1.toNat, by omega⟩
    have e : pick_Cut.f (l.take n) (many : Int) = some (pick_Cut.pieces many n (l.take n), none) := by rw [pick_Cut.f, if_neg ha, if_pos (by omega), hL, Int.toNat_natCast]
    rw [e, Option.bind_some, if_neg ha]
    have hm : 1 ≤ many := by omega
    have hp := pieces_many many hm n (l.take n)
    have := walk_l0 (l.take n) many many rfl hm (pick_Cut.pieces many n (l.take n)) (by omega) (by omega) (pieces_flat many hm n _ (by omega)) (fun p hp => pieces_some many hm n _ p hp) (fun i hi => pieces_next many hm n i _ hi)
      (pick_Cut.pieces many n (l.take n)).length 0 1000 (by omega) (by omega)
    exact this
end Go.Proofs.Ytepgnefkpjnmlaa.P5
