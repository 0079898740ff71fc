-- printed by gprint.py (own tool) over the kit's print
import Derived.Test.YticajnfmjapkgaaPDx0
import Derived.Test.YticajnfmjapkgaaPDx31
namespace Go.Proofs.Yticajnfmjapkgaa.PD
open Go.RowKit Go.Proofs.Yticajnfmjapkgaa Go.Proofs.YticajnfmjapkgaaW.PrintWords Go.Proofs.YticajnfmjapkgaaW.PrintLast Go.Proofs.YticajnfmjapkgaaW.PrintMore
attribute [local go_sem] max2_int min2_int max_two min_two max_three min_three max_four min_four   -- for this text's walks alone
set_option linter.unnecessarySimpa false
attribute [local go_sem] min2_str max2_str leq_str gtr_str geq_str
set_option linter.unusedVariables false
set_option linter.unusedSimpArgs false

/-! ### root_Head: function 10 -/
theorem root_Head.be_length (k : Nat) (n : Int) : (pack_Num.be k n).length = k := by
  induction k with
  | zero => rfl
  | succ k ih => simp [pack_Num.be, ih]
theorem root_Head.splice_length (bs l : List Int) (p : Nat) (h : p + l.length ≤ bs.length) : (splice bs p l).length = bs.length := by
  simp [splice]
  omega
set_option maxHeartbeats 2000000 in
set_option maxRecDepth 100000 in
theorem root_Head.put_ (g : Nat) (bs : List Int) (p many : Nat) (n : Int) (W : World) (hn0 : 0 ≤ n) (hn1 : n ≤ 9007199254740991) (hl : bs.length = 64) (hm : p + many ≤ 64) (hm7 : many ≤ 7) (hg : BytesAt W g 56 bs) :
    Calls Try.prog 22 #[.pointer (some ⟨g, 0, none⟩), .int .i64 p, .int .i64 many, .int .i64 n] W fun e w' => e = .returned (.tuple #[]) ∧ BytesAt w' g 56 (splice bs p (pack_Num.be many n)) ∧ W.grownBy w' (some g) := by
  have HG := Aside0.mk hg
  have HL := Aside0.mk hl
  clear hg hl
  go_enter Try.func22, Try.ntmps22
  go_wp2
  go_loopw [10] (fun i wr => ∃ k : Nat, k ≤ many ∧ i = .int .i64 k ∧ Aside0 (BytesAt wr g 56 (splice bs (p + many - k) (pack_Num.be k n))) ∧ Aside0 (W.grownBy wr (some g))) (fun i _ => many - (intOf i).toNat)
  case atStart => exact ⟨0, Nat.zero_le _, rfl, ⟨by simpa [splice, pack_Num.be] using HG.out⟩, ⟨grown_refl _ _⟩⟩
  case round =>
    obtain ⟨k, hk, rfl, HB, HW⟩ := hrel
    by_cases hlt : k < many
    · have hlen : (splice bs (p + many - k) (pack_Num.be k n)).length = 64 := by rw [root_Head.splice_length _ _ _ (by rw [root_Head.be_length, HL.out]; omega), HL.out]
      obtain ⟨j, hj⟩ : ∃ j : Nat, j = p + many - 1 - k := ⟨_, rfl⟩
      have hc := HB.out.cell j (by omega)
      have hf := HB.out.frozen j
      have hs := @splice_step bs (pack_Num.be k n) j (n / 256 ^ k % 256) (by rw [HL.out]; omega) (by rw [root_Head.be_length, HL.out]; omega)
      rw [show j + 1 = p + many - k by omega] at hs
      have HS := Aside0.mk hs
      have HLEN := Aside0.mk hlen
      have hji : (p : Int) + many - 1 - k = j := by omega
      have HJ := Aside0.mk hj
      have b1 : (j : Int) < 64 := by omega
      clear hs hlen hj
      go_wp2_with fail
      refine region_tail 14 (by kernel_rfl) (by kernel_rfl) ?_
      simp only [List.take_succ_cons, List.take_zero, List.drop_succ_cons, List.drop_zero]
      have w1 : IntKind.i64.wrap ((p : Int) + many) = (p : Int) + many := IntWalk.i64_in _ (by omega)
      have w2 : IntKind.i64.wrap ((p : Int) + many - 1) = (p : Int) + many - 1 := IntWalk.i64_in _ (by omega)
      have w3 : IntKind.i64.wrap (j : Int) = (j : Int) := IntWalk.i64_in _ (by omega)
      have w6 : IntKind.u8.wrap (n / 2 ^ (8 * (k : Int)).toNat) = n / 256 ^ k % 256 := by
        rw [show (8 * (k : Int)).toNat = 8 * k by omega, pow_eight]
        simp [IntKind.wrap, IntKind.bits, IntKind.signed]
      have w4 : IntKind.i64.wrap (8 * (k : Int)) = 8 * (k : Int) := IntWalk.i64_in _ (by omega)
      have w5 : ¬ 8 * (k : Int) < 0 := by omega
      repeat still_step
      refine wpStill_nil ?_
      go_wp2
      have HB2 := Aside0.mk (HB.out.drew.set j (n / 256 ^ k % 256))
      rw [HS.out] at HB2
      have HW2 := Aside0.mk (grown_trans HW.out (grown_trans (grown_drew wr (some g)) (grown_set wr.drew g j (.int .u8 (n / 256 ^ k % 256)))))
      have HJ2 : Aside0 (p + many - (k + 1) = j) := ⟨by omega⟩
      clear HB HW HS HLEN HJ hc hf w1 w2 w3 w4 w5 w6 hji
      go_roundw
      case rel => exact ⟨k + 1, by omega, by go_num, by rw [HJ2.out]; exact HB2, HW2⟩
      case measure => simp [intOf]; omega
    · obtain rfl : k = many := by omega
      go_wp2
      go_end0
      exact ⟨rfl, by have := HB.out; rwa [show p + k - k = p by omega] at this, HW.out⟩
/-- The bytes of a head. -/
def root_Head.h0 : List Int := [80, 76] ++ List.replicate 62 0
def root_Head.cells (seq size : Int) : List Int := (splice (splice (splice root_Head.h0 2 (pack_Num.be 7 seq)) 9 (pack_Num.be 2 size)) 56 (pack_Num.be 7 seq)).set 63 69
def root_Head.f (a0 a1 : Int) : Option (ByteArray × Option Int) := some (if a0 < 1 ∨ 9007199254740991 < a0 ∨ a1 < 0 ∨ 512 < a1 then (⟨#[]⟩, some 1) else (strOfNums (root_Head.cells a0 a1), none))
theorem root_Head.str_ {w : World} {g : Nat} {bs : List Int} (hb : bs.length = 64) (h : BytesAt w g 56 bs) : (convert 35 9 (.slice (some ⟨g, 0, none⟩) 64 64)).run Try.prog w = .ok (.string (strOfNums bs)) w :=
  run_convert_bytes_arg w 35 5 Try.underlying35 Try.underlying5 g 0 64 64 bs hb (fun i hi => by rw [Nat.zero_add]; exact h.cell i (by omega)) 9 Try.underlying9
set_option maxHeartbeats 4000000 in
set_option maxRecDepth 100000 in
theorem root_Head.calls (a0 a1 : Int) (r1 : ByteArray) (r2 : Option Int) (w : World) (h : root_Head.f a0 a1 = some (r1, r2)) :
    Calls Try.prog 10 #[.int .i64 a0, .int .i64 a1] w fun e w' => e = .returned (.tuple #[.string r1, errW r2]) ∧ Below w.heap.size w w' := by
  have H : (if a0 < 1 ∨ 9007199254740991 < a0 ∨ a1 < 0 ∨ 512 < a1 then ((⟨#[]⟩ : ByteArray), some 1) else (strOfNums (root_Head.cells a0 a1), none)) = (r1, r2) := Option.some.inj h
  clear h
  by_cases c1 : a0 < 1 ∨ 9007199254740991 < a0 ∨ a1 < 0 ∨ 512 < a1
  · rw [if_pos c1] at H
    obtain ⟨rfl, rfl⟩ := Prod.mk.inj H
    clear H
    rcases (by omega : a0 < 1 ∨ (¬ a0 < 1 ∧ 9007199254740991 < a0) ∨ (¬ a0 < 1 ∧ ¬ 9007199254740991 < a0 ∧ a1 < 0) ∨ (¬ a0 < 1 ∧ ¬ 9007199254740991 < a0 ∧ ¬ a1 < 0 ∧ 512 < a1)) with h1 | ⟨h1, h2⟩ | ⟨h1, h2, h3⟩ | ⟨h1, h2, h3, h4⟩
    all_goals
      clear c1
      go_enter Try.func10, Try.ntmps10
      go_wp2
      go_ret2
      exact ⟨by simp [errW_some], Below.refl _ _⟩
  · rw [if_neg c1] at H
    have g1 : 1 ≤ a0 := by omega
    have g2 : a0 ≤ 9007199254740991 := by omega
    have g3 : 0 ≤ a1 := by omega
    have g4 : a1 ≤ 512 := by omega
    obtain ⟨hr1, hr2⟩ := Prod.mk.inj H
    have HR1 := Aside0.mk hr1
    subst hr2
    clear c1 H hr1
    go_enter Try.func10, Try.ntmps10
    go_upto_region 4 with (fail)
    have hlit : (#[.int .u8 0, .int .u8 0, .int .u8 0, .int .u8 0, .int .u8 0, .int .u8 0, .int .u8 0, .int .u8 0, .int .u8 0, .int .u8 0, .int .u8 0, .int .u8 0, .int .u8 0, .int .u8 0, .int .u8 0, .int .u8 0, .int .u8 0, .int .u8 0, .int .u8 0, .int .u8 0, .int .u8 0, .int .u8 0, .int .u8 0, .int .u8 0, .int .u8 0, .int .u8 0, .int .u8 0, .int .u8 0, .int .u8 0, .int .u8 0, .int .u8 0, .int .u8 0, .int .u8 0, .int .u8 0, .int .u8 0, .int .u8 0, .int .u8 0, .int .u8 0, .int .u8 0, .int .u8 0, .int .u8 0, .int .u8 0, .int .u8 0, .int .u8 0, .int .u8 0, .int .u8 0, .int .u8 0, .int .u8 0, .int .u8 0, .int .u8 0, .int .u8 0, .int .u8 0, .int .u8 0, .int .u8 0, .int .u8 0, .int .u8 0, .int .u8 0, .int .u8 0, .int .u8 0, .int .u8 0, .int .u8 0, .int .u8 0, .int .u8 0, .int .u8 0] : Array Value) = (nums .u8 (List.replicate 64 0)).toArray := rfl
    rw [hlit]
    have HB := Aside0.mk (show BytesAt (w.alloc (.cells (nums .u8 (List.replicate 64 0)).toArray 56)) w.heap.size 56 (List.replicate 64 0) from heap_alloc_new w _)
    have HE := Aside0.mk (below_alloc (Below.refl w.heap.size w) (.cells (nums .u8 (List.replicate 64 0)).toArray 56))
    generalize w.alloc (.cells (nums .u8 (List.replicate 64 0)).toArray 56) = w2 at HB HE ⊢
    obtain ⟨g, hg⟩ : ∃ g, g = w.heap.size := ⟨_, rfl⟩
    have HG : Aside0 (w.heap.size ≤ g) := ⟨by omega⟩
    rw [← hg] at HB ⊢
    clear hg hlit
    have low : ∀ (w3 w4 : World), Aside0 (Below w.heap.size w w3) → w3.grownBy w4 (some g) → Aside0 (Below w.heap.size w w4) := fun w3 w4 h1 h2 => ⟨pw_below_grown h1.out (some g) h1.out.size h2 (fun k e => by injection e with e; have := HG.out; omega)⟩
    have LOW := Aside0.mk low
    clear low
    go_wp2_with ((with_reducible refine gate_builtin (b := .copy) (xs := #[.tmp 22, .const (.string ⟨#[80, 76]⟩)]) rfl ?_); refine copy_str_event rfl (.tmp 22) (.const (.string ⟨#[80, 76]⟩)) 35 9 5 (by rfl) Try.underlying35 Try.sizeOf5 g 64 64 ⟨#[80, 76]⟩ (by rfl) (by rfl) 56 _ HB.out (by decide) (by simp; decide) ?_; intro w3 hb hgr; have HE3 := LOW.out _ _ HE hgr; have HB3 := Aside0.mk hb; clear HB HE hb hgr)
    have l3 : (splice (List.replicate 64 0) 0 (bytesOf ⟨#[80, 76]⟩)).length = 64 := by decide
    have e3 : splice (List.replicate 64 0) 0 (bytesOf ⟨#[80, 76]⟩) = root_Head.h0 := by decide
    rw [e3] at HB3 l3
    clear e3
    refine (root_Head.put_ g _ 2 7 a0 w3 (by omega) g2 l3 (by omega) (by omega) HB3.out).mono ?_
    rintro e w4 ⟨rfl, hb, hgr⟩
    have HE4 := LOW.out _ _ HE3 hgr
    have HB4 := Aside0.mk hb
    have l4 : (splice root_Head.h0 2 (pack_Num.be 7 a0)).length = 64 := by rw [root_Head.splice_length _ _ _ (by rw [root_Head.be_length, l3]; omega), l3]
    clear HB3 HE3 hb hgr l3
    go_wp2_with fail
    refine (root_Head.put_ g _ 9 2 a1 w4 (by omega) (by omega) l4 (by omega) (by omega) HB4.out).mono ?_
    rintro e w5 ⟨rfl, hb, hgr⟩
    have HE5 := LOW.out _ _ HE4 hgr
    have HB5 := Aside0.mk hb
    have l5 : (splice (splice root_Head.h0 2 (pack_Num.be 7 a0)) 9 (pack_Num.be 2 a1)).length = 64 := by rw [root_Head.splice_length _ _ _ (by rw [root_Head.be_length, l4]; omega), l4]
    clear HB4 HE4 hb hgr l4
    go_wp2_with fail
    refine (root_Head.put_ g _ 56 7 a0 w5 (by omega) g2 l5 (by omega) (by omega) HB5.out).mono ?_
    rintro e w6 ⟨rfl, hb, hgr⟩
    have HE6 := LOW.out _ _ HE5 hgr
    have HB6 := Aside0.mk hb
    have l6 : (splice (splice (splice root_Head.h0 2 (pack_Num.be 7 a0)) 9 (pack_Num.be 2 a1)) 56 (pack_Num.be 7 a0)).length = 64 := by rw [root_Head.splice_length _ _ _ (by rw [root_Head.be_length, l5]; omega), l5]
    clear HB5 HE5 hb hgr l5
    have hc := HB6.out.cell 63 (by omega)
    have hf := HB6.out.frozen 63
    have hcv := root_Head.str_ (by rw [List.length_set]; exact l6) (HB6.out.set 63 69)
    have HE7 := LOW.out _ _ HE6 (grown_set w6 g 63 (.int .u8 69))
    rw [show strOfNums ((splice (splice (splice root_Head.h0 2 (pack_Num.be 7 a0)) 9 (pack_Num.be 2 a1)) 56 (pack_Num.be 7 a0)).set 63 69) = r1 from HR1.out] at hcv
    clear HB6 HE6 l6
    go_wp2_with fail
    go_ret2
    exact ⟨rfl, HE7.out⟩


end Go.Proofs.Yticajnfmjapkgaa.PD
