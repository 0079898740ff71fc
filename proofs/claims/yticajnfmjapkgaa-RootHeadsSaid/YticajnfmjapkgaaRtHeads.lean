/-
  RootHeads: the plain law. The head, and what is read of bytes, are the reference's.
-/
import Derived.Test.YticajnfmjapkgaaRtH
import Derived.Test.YticajnfmjapkgaaPDx36
set_option linter.unusedVariables false
set_option linter.unusedSimpArgs false
namespace Go.Proofs.Yticajnfmjapkgaa.PD
open Go.RowKit Go.Proofs.Yticajnfmjapkgaa Go.Proofs.YticajnfmjapkgaaW.PrintWords

theorem bt_of (b : ByteArray) (i : Nat) (h : i < b.size) : bt b (i : Int) = (bytesOf b)[i]'(by rw [bytesOf_length]; exact h) := by
  have h2 : ((i : Int)).toNat < b.size := by rw [Int.toNat_natCast]; exact h
  rw [← bt_at b (i : Int) h2]
  simp only [bytesOf, List.getElem_map, Array.getElem_toList]
  rfl
theorem bytes_range (b : ByteArray) : ∀ x ∈ bytesOf b, 0 ≤ x ∧ x < 256 := by
  intro x hx
  unfold bytesOf at hx
  obtain ⟨y, _, rfl⟩ := List.mem_map.1 hx
  have := y.toNat_lt
  omega
theorem headR_eq (s z : Int) (h : inR s z) : palinoderef06_Head.headR s z = headL s z := by
  unfold inR at h
  have : z / 256 = z / 256 % 256 := by omega
  simp only [palinoderef06_Head.headR, headL, pack_Num.be, List.append_assoc]
  simp
  omega
theorem refHead_some (s z : Int) : palinoderef06_Head.f s z = some (if inR s z then (strOfNums (headL s z), true) else (⟨#[]⟩, false)) := by
  unfold palinoderef06_Head.f
  by_cases h : inR s z
  · have : ¬ (s < 1 ∨ 9007199254740991 < s ∨ z < 0 ∨ 512 < z) := by unfold inR at h; omega
    rw [if_pos h, if_neg this, headR_eq s z h]
  · have : s < 1 ∨ 9007199254740991 < s ∨ z < 0 ∨ 512 < z := by unfold inR at h; omega
    rw [if_neg h, if_pos this]
theorem take_more (b : ByteArray) (j : Nat) (h : 2 + j < b.size) : ((bytesOf b).drop 2).take (j + 1) = ((bytesOf b).drop 2).take j ++ [bt b ((2 + j : Nat) : Int)] := by
  rw [bt_of b _ h, List.take_add_one, List.getElem?_drop, List.getElem?_eq_getElem (by rw [bytesOf_length]; exact h)]
  rfl
theorem small_ (b : ByteArray) (i j : Nat) (hj : j ≤ 6) : 0 ≤ root_ReadHead.num (((bytesOf b).drop i).take j) ∧ root_ReadHead.num (((bytesOf b).drop i).take j) ≤ 281474976710655 :=
  root_ReadHead.num_small _ (fun x hx => bytes_range b x (List.mem_of_mem_drop (List.mem_of_mem_take hx))) (by rw [List.length_take]; omega)
theorem Read_loop (b : ByteArray) (hb : b.size = 64) (k : Nat) : ∀ m j : Nat, j + m = 7 →
    palinoderef06_ReadHead.l0 (k + m + 1) b (root_ReadHead.num (((bytesOf b).drop 2).take j)) ((2 + j : Nat) : Int) = palinoderef06_ReadHead.l0 (k + 1) b (root_ReadHead.num (((bytesOf b).drop 2).take 7)) ((9 : Nat) : Int) := by
  intro m
  induction m with
  | zero =>
    intro j h
    obtain rfl : j = 7 := by omega
    rfl
  | succ m ih =>
    intro j h
    have hs := small_ b 2 j (by omega)
    have hr := bt_range b ((2 + j : Nat) : Int)
    have e : root_ReadHead.num (((bytesOf b).drop 2).take (j + 1)) = root_ReadHead.num (((bytesOf b).drop 2).take j) * 256 + bt b ((2 + j : Nat) : Int) := by
      rw [take_more b j (by omega), root_ReadHead.num_snoc]
    have h2 := ih (j + 1) (by omega)
    rw [e] at h2
    generalize root_ReadHead.num (((bytesOf b).drop 2).take j) = x at hs h2 ⊢
    generalize hbt : bt b ((2 + j : Nat) : Int) = y at hr h2 ⊢
    have e1 : wrap64 ((wrap64 (256 * x)) + (wrap64 y)) = x * 256 + y := by unfold wrap64; omega
    have e2 : wrap64 (((2 + j : Nat) : Int) + 1) = ((2 + (j + 1) : Nat) : Int) := by unfold wrap64; omega
    rw [show k + (m + 1) + 1 = (k + m + 1) + 1 from rfl, palinoderef06_ReadHead.l0, if_pos (by omega), if_pos (by omega), if_pos (by omega), hbt, e1, e2]
    exact h2
theorem two_bytes (b : ByteArray) (hb : b.size = 64) : root_ReadHead.num (((bytesOf b).drop 9).take 2) = bt b 9 * 256 + bt b 10 := by
  have l : (bytesOf b).length = 64 := by rw [bytesOf_length, hb]
  have h9 := bt_of b 9 (by omega)
  have h10 := bt_of b 10 (by omega)
  rw [show ((9 : Nat) : Int) = 9 from rfl] at h9
  rw [show ((10 : Nat) : Int) = 10 from rfl] at h10
  rw [List.drop_eq_getElem_cons (by omega), List.drop_eq_getElem_cons (by omega), List.take_succ_cons, List.take_succ_cons, List.take_zero, h9, h10]
  simp [root_ReadHead.num]
theorem toList_iff (a b : ByteArray) : a.toList = b.toList ↔ a = b := by
  constructor
  · intro h
    apply ByteArray.ext
    apply Array.toList_inj.1
    rw [← ByteArray.toList_eq, ← ByteArray.toList_eq, h]
  · rintro rfl; rfl
theorem refRead_some (b : ByteArray) (k : Nat) : palinoderef06_ReadHead.f (k + 8) b = some ((root_ReadHead.tell b).1, (root_ReadHead.tell b).2.1, (root_ReadHead.tell b).2.2.getD 0) := by
  unfold palinoderef06_ReadHead.f root_ReadHead.tell
  by_cases h1 : b.size < 64
  · rw [if_pos (by omega), if_pos h1]; rfl
  · rw [if_neg (by omega), if_neg h1]
    by_cases h2 : 64 < b.size
    · rw [if_pos (by omega), if_pos h2]; rfl
    · rw [if_neg (by omega), if_neg h2]
      have hb : b.size = 64 := by omega
      have hl := Read_loop b hb k 7 0 rfl
      refine hl.trans ?_
      have ht := two_bytes b hb
      have r9 := bt_range b 9
      have r10 := bt_range b 10
      have e : wrap64 ((wrap64 (256 * (wrap64 (bt b 9)))) + (wrap64 (bt b 10))) = bt b 9 * 256 + bt b 10 := by
        generalize bt b 9 = x at r9 ⊢
        generalize bt b 10 = y at r10 ⊢
        unfold wrap64; omega
      rw [palinoderef06_ReadHead.l0, if_neg (by omega), if_pos (by omega), if_pos (by omega), e, ← ht]
      generalize root_ReadHead.num (((bytesOf b).drop 2).take 7) = s
      generalize root_ReadHead.num (((bytesOf b).drop 9).take 2) = z
      rw [refHead_some, Option.bind_some]
      by_cases hr : inR s z
      · rw [if_pos hr, if_pos rfl]
        by_cases hc : strOfNums (headL s z) = b
        · rw [if_pos ((toList_iff _ _).2 hc), if_neg (by unfold inR at hr; rw [cells_eq]; intro q; rcases q with q | q | q | q | q <;> first | omega | exact q hc)]
          rfl
        · rw [if_neg (fun q => hc ((toList_iff _ _).1 q)), if_pos (by rw [cells_eq]; exact Or.inr (Or.inr (Or.inr (Or.inr hc))))]
          rfl
      · rw [if_neg hr, if_neg (by simp), if_pos (by unfold inR at hr; rcases (by omega : s < 1 ∨ 9007199254740991 < s ∨ z < 0 ∨ 512 < z) with q | q | q | q <;> simp [q])]
        rfl
theorem is_same (e : Option Int) (h : e ≠ some 0) : palinodelaw06_is.f e (e.getD 0) = some true := by
  unfold palinodelaw06_is.f
  cases e with
  | none => simp
  | some x =>
    have : ¬ x = 0 := fun q => h (by rw [q])
    simp [this]
theorem tell_err (b : ByteArray) : (root_ReadHead.tell b).2.2 ≠ some 0 := by
  unfold root_ReadHead.tell
  split
  · simp
  · split
    · simp
    · split <;> simp
theorem RootHeads_true (a0 a1 : Int) (a2 : ByteArray) (_h0 : -9223372036854775808 ≤ a0 ∧ a0 ≤ 9223372036854775807) (_h1 : -9223372036854775808 ≤ a1 ∧ a1 ≤ 9223372036854775807) (_h2 : a2.size ≤ reachBytes) :
    ∃ k, palinodelaw06_RootHeads.f k a0 a1 a2 = some true := by
  refine ⟨92 + 8, ?_⟩
  unfold palinodelaw06_RootHeads.f
  rw [ex_some _ (by omega), Option.bind_some, Head_some, Option.bind_some, refHead_some, Option.bind_some, refRead_some]
  have hr : root_ReadHead.f a2 = some (root_ReadHead.tell a2) := rfl
  rw [hr, Option.bind_some, Option.bind_some]
  have hi := is_same _ (tell_err a2)
  have h1 : palinodelaw06_is.f (some 1) 1 = some true := rfl
  by_cases h : inR a0 a1
  · rw [if_pos h, if_pos h]
    simp only [hi, Option.bind_some, if_true, Option.isNone_none]
  · rw [if_neg h, if_neg h]
    simp [hi, h1]
end Go.Proofs.Yticajnfmjapkgaa.PD
