/-
  RootTorn: the plain law. A head torn between two writes reads as one of them, or as none.
-/
import Derived.Test.YticajnfmjapkgaaRtH
import Derived.Test.YticajnfmjapkgaaPDx37
set_option linter.unusedVariables false
set_option linter.unusedSimpArgs false
namespace Go.Proofs.Yticajnfmjapkgaa.PD
open Go.RowKit Go.Proofs.Yticajnfmjapkgaa Go.Proofs.YticajnfmjapkgaaW.PrintWords

theorem torn_head {A B : List Int} {c i : Nat} (hA : A.length = 64) (hc : c ≤ 64) (hi : i ≤ c) : (A.take c ++ B.drop c).take i = A.take i := by
  rw [List.take_append_of_le_length (by simp; omega), List.take_take, Nat.min_eq_left hi]
theorem torn_tail {A B : List Int} {c i : Nat} (hA : A.length = 64) (hc : c ≤ 64) (hi : c ≤ i) : (A.take c ++ B.drop c).drop i = B.drop i := by
  have hl : (A.take c).length = c := by rw [List.length_take, hA]; omega
  rw [List.drop_append, List.drop_eq_nil_of_le (by omega), List.nil_append, List.drop_drop, hl]
  congr 1
  omega
theorem snoc_inj {a b : List Int} {x y : Int} (h : a ++ [x] = b ++ [y]) : a = b ∧ x = y := by
  have := List.append_inj' h rfl
  exact ⟨this.1, by simpa using this.2⟩
theorem torn_one {one a s z : Int} {B : List Int} {c : Nat} (h1 : inR one a) (hs : inR s z) (hc : c ≤ 64) (h11 : 11 ≤ c) (h : (headL one a).take c ++ B.drop c = headL s z) : s = one ∧ z = a := by
  have q := congrArg (List.take 11) h
  rw [torn_head (headL_length _ _) hc h11, headL_11, headL_11] at q
  obtain ⟨q1, q2⟩ := List.append_inj' q (by rw [root_Head.be_length, root_Head.be_length])
  exact ⟨((headL_inj hs h1).1 ((List.append_cancel_left q1).symm)), ((headL_inj hs h1).2 q2.symm)⟩
theorem torn_over {one two a b s z : Int} {c : Nat} (h1 : inR one a) (h2 : inR two b) (hn : one ≠ two) (hs : inR s z) (hc : c ≤ 64) (h11 : c ≤ 10) (h : (headL one a).take c ++ (headL two b).drop c = headL s z) : s = two ∧ z = b := by
  have q := congrArg (List.drop 56) h
  rw [torn_tail (headL_length _ _) hc (by omega), headL_56, headL_56] at q
  have e : s = two := (headL_inj hs h2).1 ((List.append_cancel_right q).symm)
  refine ⟨e, ?_⟩
  by_cases h10 : c = 10
  · exfalso
    have q := congrArg (List.take 9) h
    rw [torn_head (headL_length _ _) hc (by omega), headL_9, headL_9] at q
    have := (headL_inj hs h1).1 ((List.append_cancel_left q).symm)
    exact hn (by rw [← this, e])
  · have q := congrArg (fun l => (List.drop 9 l).take 2) h
    simp only [torn_tail (headL_length _ _) hc (show c ≤ 9 by omega), headL_92] at q
    exact (headL_inj hs h2).2 q.symm
theorem torn_zero {one a s z : Int} {c : Nat} (hc : c ≤ 10) (h : (headL one a).take c ++ (List.replicate 64 0).drop c = headL s z) : False := by
  have q := congrArg (List.drop 56) h
  rw [torn_tail (headL_length _ _) (by omega) (by omega), headL_56] at q
  have e : (List.replicate 64 (0 : Int)).drop 56 = List.replicate 7 0 ++ [0] := by rfl
  rw [e] at q
  exact absurd (snoc_inj q).2 (by decide)
/-- What the torn bytes are read as. -/
theorem torn_read (one a : Int) (B : List Int) (hB : B.length = 64) (hBb : ∀ x ∈ B, 0 ≤ x ∧ x < 256) (c : Nat) (hc : c ≤ 64) :
    (root_ReadHead.f ((strOfNums (headL one a)).extract 0 c ++ (strOfNums B).extract c (strOfNums B).size) = some (0, 0, some 3)) ∨
    ∃ s z, inR s z ∧ (headL one a).take c ++ B.drop c = headL s z ∧ root_ReadHead.f ((strOfNums (headL one a)).extract 0 c ++ (strOfNums B).extract c (strOfNums B).size) = some (s, z, none) := by
  have z1 : (strOfNums (headL one a)).size = 64 := by rw [str_size, headL_length]
  have z2 : (strOfNums B).size = 64 := by rw [str_size, hB]
  have hz : ((strOfNums (headL one a)).extract 0 c ++ (strOfNums B).extract c (strOfNums B).size).size = 64 := by
    rw [ByteArray.size_append, ByteArray.size_extract, ByteArray.size_extract, z1, z2]; omega
  rcases Read_some _ hz with h | ⟨s, z, hs, hb, h⟩
  · exact Or.inl h
  · refine Or.inr ⟨s, z, hs, ?_, h⟩
    rw [← hb, bytesOf_append, bytesOf_extract, bytesOf_extract, bytesOf_str _ (headL_bound _ _), bytesOf_str _ hBb, z2]
    simp only [List.drop_zero, Nat.sub_zero]
    rw [List.take_of_length_le (l := B.drop c) (by simp; omega)]
theorem Torn_j2 (one two a b : Int) (c : Nat) (over : Bool) (h1 : inR one a) (h2 : inR two b) (hn : one ≠ two) (hc : c ≤ 64) (k : Nat) :
    palinodelaw06_RootTorn.j2 (k + 1) one two a b (c : Int) over true (strOfNums (headL one a)) (strOfNums (if over = true then headL two b else List.replicate 64 0)) = some true := by
  have z1 : (strOfNums (headL one a)).size = 64 := by rw [str_size, headL_length]
  obtain ⟨B, hB⟩ : ∃ B : List Int, B = (if over = true then headL two b else List.replicate 64 0) := ⟨_, rfl⟩
  have hBl : B.length = 64 := by rw [hB]; split <;> simp [headL_length]
  have hBb : ∀ x ∈ B, 0 ≤ x ∧ x < 256 := by
    rw [hB]; split
    · exact headL_bound _ _
    · intro x hx; have := (List.mem_replicate.1 hx).2; omega
  have z2 : (strOfNums B).size = 64 := by rw [str_size, hBl]
  rw [← hB, palinodelaw06_RootTorn.j2, if_pos (by omega), if_pos (by omega), if_pos (by omega), if_pos (by rw [ByteArray.size_extract, ByteArray.size_extract]; omega)]
  rw [Int.toNat_natCast]
  rcases torn_read one a B hBl hBb c hc with h | ⟨s, z, hs, hh, h⟩
  · rw [h, Option.bind_some, if_neg (by simp), if_pos rfl]
    simp [palinodelaw06_is.f]
  · rw [h, Option.bind_some]
    rw [if_pos rfl, if_pos rfl]
    by_cases h11 : 11 ≤ c
    · obtain ⟨e1, e2⟩ := torn_one h1 hs hc h11 hh
      simp [e1, e2]
    · cases over with
      | false => exact (torn_zero (c := c) (by omega) (by rw [hB] at hh; simpa using hh)).elim
      | true =>
        obtain ⟨e1, e2⟩ := torn_over h1 h2 hn hs hc (by omega) (by rw [hB] at hh; simpa using hh)
        subst e1 e2
        have hn' : ¬ s = one := fun e => hn e.symm
        simp [hn']
theorem Torn_j1 (one two a b : Int) (c : Int) (over : Bool) (h1 : inR one a) (h2 : inR two b) (hn : one ≠ two) (h0 : 0 ≤ c) (hc : c ≤ 64) (k : Nat) :
    palinodelaw06_RootTorn.j1 (k + 2) one two a b c over true (strOfNums (headL one a)) none (strOfNums (headL two b)) none (one == two) = some true := by
  obtain ⟨n, rfl⟩ : ∃ n : Nat, c = n := ⟨c.toNat, by omega⟩
  have hq : (one == two) = false := by simp [hn]
  rw [palinodelaw06_RootTorn.j1, hq, if_neg (by simp)]
  cases over with
  | false => 
    rw [if_neg (by simp), if_pos (by omega)]
    exact Torn_j2 one two a b n false h1 h2 hn (by omega) k
  | true => 
    rw [if_pos rfl]
    exact Torn_j2 one two a b n true h1 h2 hn (by omega) k
theorem Torn_j0 (one two a b : Int) (c : Int) (over : Bool) (h0 : 0 ≤ c) (k : Nat) :
    palinodelaw06_RootTorn.j0 (k + 3) one two a b c over true = some true := by
  rw [palinodelaw06_RootTorn.j0, Head_some, Head_some, Option.bind_some, Option.bind_some]
  have hm : Int.tmod c 65 = c % 65 := Int.tmod_eq_emod_of_nonneg h0
  have zz (s z : Int) : ((strOfNums (headL s z)).size : Int) = 64 := by rw [str_size, headL_length]; rfl
  by_cases h1 : inR one a
  · by_cases h2 : inR two b
    · rw [if_pos h1, if_pos h2]
      simp only [Option.isNone_none, if_true, zz]
      by_cases hn : one = two
      · have hq : (one == two) = true := by simp [hn]
        rw [hq, palinodelaw06_RootTorn.j1]
        simp [hn]
      · exact Torn_j1 one two a b _ over h1 h2 hn (by omega) (by omega) k
    · rw [if_pos h1, if_neg h2]
      simp [palinodelaw06_RootTorn.j1]
  · rw [if_neg h1]
    simp [palinodelaw06_RootTorn.j1]
theorem RootTorn_true (a0 a1 a2 a3 a4 : Int) (a5 : Bool) (_h0 : -9223372036854775808 ≤ a0 ∧ a0 ≤ 9223372036854775807) (_h1 : -9223372036854775808 ≤ a1 ∧ a1 ≤ 9223372036854775807) (_h2 : -9223372036854775808 ≤ a2 ∧ a2 ≤ 9223372036854775807) (_h3 : -9223372036854775808 ≤ a3 ∧ a3 ≤ 9223372036854775807) (h4 : -9223372036854775808 ≤ a4 ∧ a4 ≤ 9223372036854775807) :
    ∃ k, palinodelaw06_RootTorn.f k a0 a1 a2 a3 a4 a5 = some true := by
  refine ⟨100 + 3, ?_⟩
  unfold palinodelaw06_RootTorn.f
  rw [ex_some _ (by omega), Option.bind_some]
  by_cases n : a4 < 0
  · rw [if_pos n, neg_wrap a4 h4.1 n]; exact Torn_j0 _ _ _ _ _ _ (by omega) 100
  · rw [if_neg n]; exact Torn_j0 _ _ _ _ _ _ (by omega) 100
end Go.Proofs.Yticajnfmjapkgaa.PD
