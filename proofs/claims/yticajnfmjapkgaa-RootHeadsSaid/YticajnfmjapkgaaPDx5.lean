-- printed by gprint.py (own tool) over the kit's print
import Derived.Test.YticajnfmjapkgaaPDx0
import Derived.Test.YticajnfmjapkgaaPDx3
namespace Go.Proofs.Yticajnfmjapkgaa.PD
open Go.RowKit Go.Proofs.Yticajnfmjapkgaa Go.Proofs.YticajnfmjapkgaaW.PrintWords Go.Proofs.YticajnfmjapkgaaW.PrintLast Go.Proofs.YticajnfmjapkgaaW.PrintMore
attribute [local go_sem] max2_int min2_int max_two min_two max_three min_three max_four min_four   -- for this text's walks alone
set_option linter.unnecessarySimpa false
attribute [local go_sem] min2_str max2_str leq_str gtr_str geq_str
set_option linter.unusedVariables false
set_option linter.unusedSimpArgs false

/-! ### root_ReadHead: function 12 -/
/-- The number that bytes make, the greatest first. -/
def root_ReadHead.num (l : List Int) : Int := l.foldl (fun a c => a * 256 + c) 0
theorem root_ReadHead.num_snoc (l : List Int) (c : Int) : root_ReadHead.num (l ++ [c]) = root_ReadHead.num l * 256 + c := by simp [root_ReadHead.num]
theorem root_ReadHead.fold_bound (l : List Int) : ∀ a : Int, 0 ≤ a → (∀ x ∈ l, 0 ≤ x ∧ x < 256) → 0 ≤ l.foldl (fun a c => a * 256 + c) a ∧ l.foldl (fun a c => a * 256 + c) a < (a + 1) * 256 ^ l.length := by
  induction l with
  | nil => intro a ha _; simp; omega
  | cons x l ih =>
    intro a ha hb
    have h1 := ih (a * 256 + x) (by have := hb x (by simp); omega) (fun y hy => hb y (by simp [hy]))
    have h2 := hb x (by simp)
    rw [List.foldl_cons, List.length_cons, Int.pow_succ]
    refine ⟨h1.1, Int.lt_of_lt_of_le h1.2 ?_⟩
    have hp : (0 : Int) < 256 ^ l.length := Int.pow_pos (by omega)
    have h3 : (a * 256 + x + 1) * 256 ^ l.length ≤ ((a + 1) * 256) * 256 ^ l.length := Int.mul_le_mul_of_nonneg_right (by omega) (Int.le_of_lt hp)
    have h4 : ((a + 1) * 256) * (256 : Int) ^ l.length = (a + 1) * (256 ^ l.length * 256) := by rw [Int.mul_assoc, Int.mul_comm 256]
    omega
theorem root_ReadHead.num_bound (l : List Int) (hb : ∀ x ∈ l, 0 ≤ x ∧ x < 256) : 0 ≤ root_ReadHead.num l ∧ root_ReadHead.num l < 256 ^ l.length := by
  have := root_ReadHead.fold_bound l 0 (by omega) hb
  simpa [root_ReadHead.num] using this
theorem root_ReadHead.num_small (l : List Int) (hb : ∀ x ∈ l, 0 ≤ x ∧ x < 256) (hl : l.length ≤ 6) : 0 ≤ root_ReadHead.num l ∧ root_ReadHead.num l ≤ 281474976710655 := by
  have h := root_ReadHead.num_bound l hb
  have : (256 : Int) ^ l.length ≤ 256 ^ 6 := by
    obtain ⟨d, hd⟩ : ∃ d, 6 = l.length + d := ⟨6 - l.length, by omega⟩
    rw [hd, Int.pow_add]
    have h1 : (0 : Int) < 256 ^ l.length := Int.pow_pos (by omega)
    have h2 : (1 : Int) ≤ 256 ^ d := by have : (0 : Int) < 256 ^ d := Int.pow_pos (by omega); omega
    have := Int.mul_le_mul_of_nonneg_left h2 (Int.le_of_lt h1)
    omega
  omega
set_option maxHeartbeats 2000000 in
set_option maxRecDepth 100000 in
theorem root_ReadHead.get_ (g : Nat) (bs : List Int) (p many : Nat) (W : World) (hl : bs.length = 64) (hp : p < 64) (hm : p + many ≤ 64) (hm7 : many ≤ 7) (hb : ∀ x ∈ bs, 0 ≤ x ∧ x < 256) (hg : BytesAt W g 56 bs) :
    Calls Try.prog 23 #[.pointer (some ⟨g, 0, none⟩), .int .i64 p, .int .i64 many] W fun e w' => e = .returned (.int .i64 (root_ReadHead.num ((bs.drop p).take many))) ∧ w' = W := by
  have HG := Aside0.mk hg
  have HL := Aside0.mk hl
  have HB := Aside0.mk hb
  have e1 : (p : Int) + many ≤ 64 := by omega
  have e2 : (p : Int) ≤ (p : Int) + many := by omega
  have e3 : (p : Int) + many - p = many := by omega
  have e4 : (0 : Int) ≤ p := by omega
  have e5 : ¬ 64 = p := by omega
  clear hg hl hb
  go_enter Try.func23, Try.ntmps23
  go_wp2
  go_loop [6, 17] (fun v i => ∃ k : Nat, k ≤ many ∧ i = .int .i64 k ∧ v = .int .i64 (root_ReadHead.num ((bs.drop p).take k))) (fun _ i => many - (intOf i).toNat)
  case atStart => exact ⟨0, Nat.zero_le _, rfl, rfl⟩
  case round =>
    obtain ⟨k, hk, rfl, rfl⟩ := hrel
    by_cases hlt : k < many
    · have hc := HG.out.cell (p + k) (by rw [HL.out]; omega)
      obtain ⟨c, hc0⟩ : ∃ c : Int, c = bs.getD (p + k) 0 := ⟨_, rfl⟩
      rw [← hc0] at hc
      have hcb : 0 ≤ c ∧ c < 256 := by rw [hc0]; exact HB.out _ (by rw [List.getD_eq_getElem?_getD, List.getElem?_eq_getElem (by rw [HL.out]; omega)]; exact List.getElem_mem _)
      obtain ⟨c1, c2⟩ := hcb
      obtain ⟨v, hv⟩ : ∃ v, v = root_ReadHead.num ((bs.drop p).take k) := ⟨_, rfl⟩
      rw [← hv]
      have vb : 0 ≤ v ∧ v ≤ 281474976710655 := by rw [hv]; exact root_ReadHead.num_small _ (fun x hx => HB.out x (List.mem_of_mem_drop (List.mem_of_mem_take hx))) (by simp; omega)
      obtain ⟨v1, v2⟩ := vb
      have hor := or_byte v c v1 (by omega) c1 c2
      have hsn : root_ReadHead.num ((bs.drop p).take (k + 1)) = v * 256 + c := by
        have hlen : k < (bs.drop p).length := by rw [List.length_drop, HL.out]; omega
        rw [List.take_succ_eq_append_getElem hlen, root_ReadHead.num_snoc, ← hv, hc0, List.getElem_drop]
        simp [List.getD, show p + k < bs.length by rw [HL.out]; omega]
      have HSN := Aside0.mk hsn
      clear hc0 hv hsn
      go_wp2
      exact ⟨⟨k + 1, by omega, by go_num, by rw [HSN.out]⟩, by simp [intOf]; omega⟩
    · obtain rfl : k = many := by omega
      go_wp2
      go_ret
      exact ⟨rfl, rfl⟩
def root_ReadHead.tell (b : ByteArray) : Int × Int × Option Int :=
  if b.size < 64 then (0, 0, some 2) else if 64 < b.size then (0, 0, some 5) else
    if root_ReadHead.num (((bytesOf b).drop 2).take 7) < 1 ∨ 9007199254740991 < root_ReadHead.num (((bytesOf b).drop 2).take 7) ∨ root_ReadHead.num (((bytesOf b).drop 9).take 2) < 0 ∨ 512 < root_ReadHead.num (((bytesOf b).drop 9).take 2) ∨ strOfNums (root_Head.cells (root_ReadHead.num (((bytesOf b).drop 2).take 7)) (root_ReadHead.num (((bytesOf b).drop 9).take 2))) ≠ b then (0, 0, some 3)
    else (root_ReadHead.num (((bytesOf b).drop 2).take 7), root_ReadHead.num (((bytesOf b).drop 9).take 2), none)
def root_ReadHead.f (a0 : ByteArray) : Option (Int × Int × Option Int) := some (root_ReadHead.tell a0)
set_option maxHeartbeats 4000000 in
set_option maxRecDepth 100000 in
theorem root_ReadHead.calls (a0 : ByteArray) (r1 r2 : Int) (r3 : Option Int) (w : World) (h : root_ReadHead.f a0 = some (r1, r2, r3)) :
    Calls Try.prog 12 #[.string a0] w fun e w' => e = .returned (.tuple #[.int .i64 r1, .int .i64 r2, errW r3]) ∧ Below w.heap.size w w' := by
  have H : root_ReadHead.tell a0 = (r1, r2, r3) := Option.some.inj h
  clear h
  unfold root_ReadHead.tell at H
  by_cases c1 : a0.size < 64
  · rw [if_pos c1] at H
    obtain ⟨rfl, rfl, rfl⟩ : 0 = r1 ∧ 0 = r2 ∧ some 2 = r3 := by simpa using H
    clear H
    go_enter Try.func12, Try.ntmps12
    go_wp2
    go_ret3
    exact ⟨by simp [errW_some], below_alloc (Below.refl _ _) _⟩
  · rw [if_neg c1] at H
    by_cases c2 : 64 < a0.size
    · rw [if_pos c2] at H
      obtain ⟨rfl, rfl, rfl⟩ : 0 = r1 ∧ 0 = r2 ∧ some 5 = r3 := by simpa using H
      clear H
      go_enter Try.func12, Try.ntmps12
      go_wp2
      go_ret3
      exact ⟨by simp [errW_some], below_alloc (Below.refl _ _) _⟩
    · rw [if_neg c2] at H
      have c3 : a0.size = 64 := by omega
      have HH := Aside0.mk H
      have HS := Aside0.mk c3
      clear H c3
      go_enter Try.func12, Try.ntmps12
      go_upto_region 6 with (fail)
      have hlit : (#[.int .u8 0, .int .u8 0, .int .u8 0, .int .u8 0, .int .u8 0, .int .u8 0, .int .u8 0, .int .u8 0, .int .u8 0, .int .u8 0, .int .u8 0, .int .u8 0, .int .u8 0, .int .u8 0, .int .u8 0, .int .u8 0, .int .u8 0, .int .u8 0, .int .u8 0, .int .u8 0, .int .u8 0, .int .u8 0, .int .u8 0, .int .u8 0, .int .u8 0, .int .u8 0, .int .u8 0, .int .u8 0, .int .u8 0, .int .u8 0, .int .u8 0, .int .u8 0, .int .u8 0, .int .u8 0, .int .u8 0, .int .u8 0, .int .u8 0, .int .u8 0, .int .u8 0, .int .u8 0, .int .u8 0, .int .u8 0, .int .u8 0, .int .u8 0, .int .u8 0, .int .u8 0, .int .u8 0, .int .u8 0, .int .u8 0, .int .u8 0, .int .u8 0, .int .u8 0, .int .u8 0, .int .u8 0, .int .u8 0, .int .u8 0, .int .u8 0, .int .u8 0, .int .u8 0, .int .u8 0, .int .u8 0, .int .u8 0, .int .u8 0, .int .u8 0] : Array Value) = (nums .u8 (List.replicate 64 0)).toArray := rfl
      rw [hlit]
      have HB := Aside0.mk (show BytesAt (w.alloc (.cells (nums .u8 (List.replicate 64 0)).toArray 56)) w.heap.size 56 (List.replicate 64 0) from heap_alloc_new w _)
      have HE := Aside0.mk (below_alloc (Below.refl w.heap.size w) (.cells (nums .u8 (List.replicate 64 0)).toArray 56))
      generalize w.alloc (.cells (nums .u8 (List.replicate 64 0)).toArray 56) = w2 at HB HE ⊢
      obtain ⟨g, hg⟩ : ∃ g, g = w.heap.size := ⟨_, rfl⟩
      have HG : Aside0 (w.heap.size ≤ g) := ⟨by omega⟩
      rw [← hg] at HB ⊢
      clear hg hlit
      go_wp2_with ((with_reducible refine gate_builtin (b := .copy) (xs := #[.tmp 18, .tmp 19]) rfl ?_); refine copy_str_event rfl (.tmp 18) (.tmp 19) 35 9 5 (by rfl) Try.underlying35 Try.sizeOf5 g 64 64 a0 (by rfl) (by rfl) 56 _ HB.out (by omega) (by simp; omega) ?_; intro w3 hb hgr; have HE3 : Aside0 (Below w.heap.size w w3) := ⟨pw_below_grown HE.out (some g) HE.out.size hgr (fun k e => by injection e with e; have := HG.out; omega)⟩; have HB3 := Aside0.mk hb; clear HB HE hb hgr)
      have hbl : (bytesOf a0).length = 64 := by rw [bytesOf_length]; exact HS.out
      have e3 : splice (List.replicate 64 0) 0 (bytesOf a0) = bytesOf a0 := by
        unfold splice
        rw [List.take_zero, List.drop_eq_nil_of_le (by simp; omega)]
        simp
      rw [e3] at HB3
      clear e3
      refine (root_ReadHead.get_ g _ 2 7 w3 hbl (by omega) (by omega) (by omega) (bytesOf_bound a0) HB3.out).mono ?_
      rintro e w4 ⟨rfl, rfl⟩
      obtain ⟨s, hs⟩ : ∃ s, s = root_ReadHead.num (((bytesOf a0).drop 2).take 7) := ⟨_, rfl⟩
      obtain ⟨z, hz⟩ : ∃ z, z = root_ReadHead.num (((bytesOf a0).drop 9).take 2) := ⟨_, rfl⟩
      have HH2 := HH.out
      rw [← hs, ← hz] at HH2
      have HH3 := Aside0.mk HH2
      rw [← hs]
      have HZ := Aside0.mk hz
      have HL := Aside0.mk hbl
      clear HH2 HH hs hz hbl
      go_wp2_with fail
      refine (root_ReadHead.get_ g _ 9 2 _ HL.out (by omega) (by omega) (by omega) (bytesOf_bound a0) HB3.out).mono ?_
      rintro e w4 ⟨rfl, rfl⟩
      rw [← HZ.out]
      clear HZ HB3 HL
      by_cases c4 : s < 1 ∨ 9007199254740991 < s ∨ z < 0 ∨ 512 < z
      · have hf : root_Head.f s z = some (⟨#[]⟩, some 1) := by unfold root_Head.f; rw [if_pos c4]
        have hr := HH3.out
        rw [if_pos (by rcases c4 with h | h | h | h <;> simp [h])] at hr
        obtain ⟨rfl, rfl, rfl⟩ : 0 = r1 ∧ 0 = r2 ∧ some 3 = r3 := by simpa using hr
        have HF := Aside0.mk hf
        clear hr HH3 c4 hf
        go_wp2_with fail
        refine (root_Head.calls s z _ _ _ HF.out).mono ?_
        rintro e w5 ⟨rfl, hb⟩
        have HE5 := Aside0.mk (below_step HE3.out hb)
        rw [errW_some]
        clear HE3 hb HF
        go_wp2_with fail
        go_ret3
        exact ⟨by simp [errW_some], HE5.out⟩
      · have hf : root_Head.f s z = some (strOfNums (root_Head.cells s z), none) := by unfold root_Head.f; rw [if_neg c4]
        have hr := HH3.out
        have HF := Aside0.mk hf
        clear HH3 hf
        obtain ⟨t, ht⟩ : ∃ t, t = strOfNums (root_Head.cells s z) := ⟨_, rfl⟩
        rw [← ht] at hr HF
        clear ht
        by_cases c5 : t = a0
        · have hcc : ¬ (s < 1 ∨ 9007199254740991 < s ∨ z < 0 ∨ 512 < z ∨ t ≠ a0) := by intro q; rcases q with q | q | q | q | q <;> first | exact q c5 | (apply c4; simp [q])
          rw [if_neg hcc] at hr
          obtain ⟨rfl, rfl, rfl⟩ : s = r1 ∧ z = r2 ∧ none = r3 := by simpa using hr
          have b1 : (t.toList == a0.toList) = true := by rw [c5]; exact beq_self_eq_true _
          have b2 : (t.toList != a0.toList) = false := by rw [bne, b1]; rfl
          clear hr hcc c4 c5
          go_wp2_with fail
          refine (root_Head.calls s z _ _ _ HF.out).mono ?_
          rintro e w5 ⟨rfl, hb⟩
          have HE5 := Aside0.mk (below_step HE3.out hb)
          rw [errW_none]
          clear HE3 hb HF
          go_wp2_with fail
          go_ret3
          exact ⟨by simp [errW_none], HE5.out⟩
        · rw [if_pos (by simp [c5])] at hr
          obtain ⟨rfl, rfl, rfl⟩ : 0 = r1 ∧ 0 = r2 ∧ some 3 = r3 := by simpa using hr
          have b1 : (t.toList == a0.toList) = false := by
            rw [beq_eq_false_iff_ne]
            intro q
            apply c5
            apply ByteArray.ext
            apply Array.toList_inj.1
            rw [← ByteArray.toList_eq, ← ByteArray.toList_eq]
            exact q
          have b2 : (t.toList != a0.toList) = true := by rw [bne, b1]; rfl
          clear hr c4 c5
          go_wp2_with fail
          refine (root_Head.calls s z _ _ _ HF.out).mono ?_
          rintro e w5 ⟨rfl, hb⟩
          have HE5 := Aside0.mk (below_step HE3.out hb)
          rw [errW_none]
          clear HE3 hb HF
          go_wp2_with fail
          go_ret3
          exact ⟨by simp [errW_some], HE5.out⟩


end Go.Proofs.Yticajnfmjapkgaa.PD
