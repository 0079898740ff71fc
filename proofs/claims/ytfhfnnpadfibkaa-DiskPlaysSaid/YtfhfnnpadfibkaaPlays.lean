/-
  DiskPlays: the law's walk.
-/
import Derived.Test.YtfhfnnpadfibkaaTwo
import Derived.Deep.QuietTactic
import Derived.Deep.CutRange
set_option linter.unusedVariables false
set_option linter.unusedSimpArgs false
namespace Go.Proofs.Ytfhfnnpadfibkaa
open Go.RowKit Go.Proofs.YtfhfnnpadfibkaaW.PrintWords Go.Proofs.YtfhfnnpadfibkaaW.PrintLast Go.Proofs.YtfhfnnpadfibkaaW.PrintMore

theorem is_same (n : Nat) (w : World) :
    Calls Try.prog 17 #[errV n, .int .i64 (n : Int)] w fun e w' => e = .returned (.bool true) ∧ w' = w :=
  (is_any n n w).mono fun e w' ⟨he, hw⟩ => ⟨by rw [he]; simp, hw⟩
theorem is_one (w : World) :
    Calls Try.prog 17 #[errV 1, .int .i64 1] w fun e w' => e = .returned (.bool true) ∧ w' = w := is_same 1 w
/-- What holds of a state behind k deeds. -/
structure DB (n k : Nat) (d : DSt) : Prop where
  many : d.many ≤ k
  cache : d.cache.length ≤ k
  lo : -1 ≤ d.fuse
  hi : d.fuse ≤ 9223372036854775807
  len : d.lasts.length = n
section
variable {n k : Nat} {d : DSt}
theorem DB.init (n : Nat) : DB n 0 (DSt.init n) := ⟨Nat.le_refl _, Nat.le_refl _, by simp [DSt.init], by simp [DSt.init], by simp [DSt.init]⟩
theorem DB.more (h : DB n k d) : DB n (k + 1) d := ⟨Nat.le_succ_of_le h.many, Nat.le_succ_of_le h.cache, h.lo, h.hi, h.len⟩
theorem DB.write (h : DB n k d) (at_ : Int) (s : List UInt8) : DB n (k + 1) (d.write at_ s).1 := by
  unfold DSt.write
  split
  · exact h.more
  · split
    · exact h.more
    · split
      · exact ⟨h.more.many, h.more.cache, h.lo, h.hi, h.len⟩
      · refine ⟨Nat.succ_le_succ h.many, by simp only [List.length_append, List.length_cons, List.length_nil]; exact Nat.succ_le_succ h.cache, ?_, ?_, h.len⟩
        · have := h.lo; simp only; split <;> omega
        · have := h.hi; simp only; split <;> omega
theorem putAll_len (L : List (List UInt8)) (l : List (Nat × List UInt8)) : (putAll L l).length = L.length := putAll_length L l
theorem DB.sync (h : DB n k d) : DB n (k + 1) d.sync.1 := by
  unfold DSt.sync
  split
  · exact h.more
  · exact ⟨h.more.many, Nat.zero_le _, h.lo, h.hi, by simp only [putAll_len]; exact h.len⟩
theorem DB.fuse (h : DB n k d) (m : Int) (hm : m ≤ 9223372036854775807) : DB n (k + 1) { d with fuse := max m (-1) } :=
  ⟨h.more.many, h.more.cache, by simp only; omega, by simp only; omega, h.len⟩
theorem crashAll_len (f : Nat → Nat) (l : List (Nat × List UInt8)) : ∀ (L : List (List UInt8)) (k : Nat), ((l.zipIdx k).foldl (lay f) L).length = L.length := by
  induction l with
  | nil => intro L k; rfl
  | cons p l ih =>
    intro L k
    simp only [List.zipIdx_cons, List.foldl_cons]
    rw [ih]
    simp [lay]
theorem DB.crash (h : DB n k d) (ks : List Int) (t b : Int) : DB n (k + 1) (d.crash ks t b) :=
  ⟨h.more.many, Nat.zero_le _, by simp [DSt.crash], by simp [DSt.crash], by simp only [DSt.crash, crashAll]; rw [crashAll_len]; exact h.len⟩
end
theorem pickOf_5 (c : Int) : pickOf c 5 = 0 ∨ pickOf c 5 = 1 ∨ pickOf c 5 = 2 ∨ pickOf c 5 = 3 ∨ pickOf c 5 = 4 := by
  unfold pickOf; split <;> omega

set_option maxHeartbeats 8000000 in
set_option maxRecDepth 100000 in
theorem DiskPlays_walk (size : Int) (A : Option Addr) (m c : Nat) (us : List DeedT) (w : World) (hC : Kd.C kDeed w A m us) (hm : m ≤ c) (hb : ∀ u ∈ us, (-9223372036854775808 ≤ u.1 ∧ u.1 ≤ 9223372036854775807) ∧ (-9223372036854775808 ≤ u.2.1 ∧ u.2.1 ≤ 9223372036854775807)) (hs0 : -9223372036854775808 ≤ size) (hs1 : size ≤ 9223372036854775807) :
    Calls Try.prog 6 #[.int .i64 size, .slice A m c] w fun e w' => e = .returned (.bool true) ∧ Below w.heap.size w w' := by
  have HC := Aside0.mk hC
  have HBD := Aside0.mk hb
  have hml := hC.2.1
  clear hC hb
  by_cases hgood : 1 ≤ size ∧ size ≤ 4000
  · obtain ⟨n, hn⟩ : ∃ n : Nat, (n : Int) = if 12 < size ∧ size ≤ 4000 then 12 else size := ⟨(if 12 < size ∧ size ≤ 4000 then 12 else size).toNat, by split <;> omega⟩
    have HN := Aside0.mk (show 1 ≤ n ∧ n ≤ 12 by split at hn <;> omega)
    have HNN := Aside0.mk hn
    have hg0 := hgood.1
    have hg1 := hgood.2
    clear hn hgood
    go_enter Try.func6, Try.ntmps6
    go_upto_region 2 with (go_at_call 8; refine (examples_any w).mono ?_; rintro e w1 ⟨rfl, hf1⟩)
    have HF1 := Aside0.mk hf1
    clear hf1
    go_cut [30] from 25 (fun v wc => v = .bool (decide (12 < size)) ∧ wc = w1)
    case first =>
      by_cases h12 : 12 < size
      · go_wp2_with fail
        go_meet
        case rel => exact ⟨by simp [h12], rfl⟩
      · go_wp2_with fail
        go_meet
        case rel => exact ⟨by simp [h12], rfl⟩
    case rest =>
      obtain ⟨rfl, rfl⟩ := hcut
      go_upto_if 30 with (fail)
      go_cut [0] from 25 (fun v wc' => v = .int .i64 (n : Int) ∧ wc' = wc)
      case first =>
        by_cases h12 : 12 < size
        · have hv : decide (12 < size) = true := decide_eq_true h12
          rw [hv]
          go_wp2_with fail
          go_meet
          case rel => exact ⟨by rw [HNN.out, if_pos ⟨h12, hg1⟩], rfl⟩
        · have hv : decide (12 < size) = false := decide_eq_false h12
          rw [hv]
          go_wp2_with fail
          go_meet
          case rel => exact ⟨by rw [HNN.out, if_neg (fun q => by omega)], rfl⟩
      case rest =>
        obtain ⟨rfl, rfl⟩ := hcut
        go_wp2_with fail
        refine (new_yes n wc (by have := HN.out; omega) (by have := HN.out; omega)).mono ?_
        rintro e w2 ⟨b, rfl, hD, hf2⟩
        rw [show errV 0 = .nilIface from rfl]
        have HD := Aside0.mk hD
        have HF2 := Aside0.mk hf2
        clear hD hf2
        go_wp2_with fail
        refine (ref_new_yes n w2 (by have := HN.out; omega) (by have := HN.out; omega)).mono ?_
        rintro e w3 ⟨g, rfl, hR, hB3⟩
        have HT := Aside0.mk (two_new wc w2 w3 b g n (below_fr (Below.refl _ _) HF2.out (fun _ q => q.elim)) HD.out hR hB3)
        clear hR hB3 HD HF2
        have hlen : (DSt.init n).lasts.length = n := by simp [DSt.init]
        go_wp2_with (go_at_call 18; refine (size_any _ b _ _ HT.out.disk).mono ?_; rintro e w' ⟨rfl, rfl⟩)
        clear hlen
        go_loopw [9] (fun i wr => ∃ (k : Nat) (d : DSt), i = .int .i64 k ∧ k ≤ m ∧ k ≤ 200 ∧ Aside0 (Two (fun _ _ => False) wc wr b g d d) ∧ Aside0 (DB n k d)) (fun i _ => m - (intOf i).toNat)
        case atStart => exact ⟨0, DSt.init n, rfl, Nat.zero_le _, Nat.zero_le _, HT, ⟨DB.init n⟩⟩
        have FINB : ∀ {W : World} {d : DSt}, Two (fun _ _ => False) wc W b g d d → Below w.heap.size w W := fun {W d} q => by
          have h1 := below_fr (Below.refl w.heap.size w) HF1.out (fun _ q => q.elim)
          have h2 := q.bel
          exact ⟨h2.os.trans h1.os, h2.tape.trans h1.tape, h2.output.trans h1.output, Nat.le_trans h1.size h2.size, fun k hk => (h2.block k (Nat.lt_of_lt_of_le hk h1.size)).trans (h1.block k hk)⟩
        case round =>
          clear HT
          obtain ⟨k, d, rfl, hkm, hk2, HT, HDB⟩ := hrel
          by_cases hlt : k < m
          · have hlt' : (k : Int) < (m : Int) := by omega
            by_cases hl2 : k < 200
            · have hl2' : (k : Int) < 200 := by omega
              obtain ⟨u, hu⟩ : ∃ u, us[k]? = some u := ⟨us[k]'(by rw [HC.out.1]; exact hlt), List.getElem?_eq_getElem _⟩
              have hub := HBD.out u (List.mem_of_getElem? hu)
              obtain ⟨ad, ka, kc, rfl, e0, e1, e2, e3, e4, e5, hks⟩ := deed_at (wr := wr) (Kd.C_below HC.out (below_fr (Below.refl _ _) HF1.out (fun _ q => q.elim))) HT.out.bel k u hu
              obtain ⟨u0, u1, u2, u3, u4, u5⟩ := u
              simp only at e0 e1 e2 e3 e4 e5 hks hub
              have HKS := Aside0.mk hks
              have HUB := Aside0.mk hub
              clear hks hub hu
              go_upto_region 14 with fail
              have hT1 := HT.out.with (V' := (fun h cs => h = wr.heap.size ∧ cs = #[.int .i64 u0, .int .i64 u1, .int .i64 u2, .int .i64 u3, .string u4, .slice ka u5.length kc])) _ (fun _ _ q => q)
              have hK1 := ints_to HKS.out HT.out.bel hT1.bel (by simp)
              obtain ⟨W1, hW1⟩ : ∃ W1, W1 = wr.alloc (.cells #[.int .i64 u0, .int .i64 u1, .int .i64 u2, .int .i64 u3, .string u4, .slice ka u5.length kc] 46) := ⟨_, rfl⟩
              obtain ⟨g9, hg9⟩ : ∃ g9, g9 = wr.heap.size := ⟨_, rfl⟩
              rw [← hW1, ← hg9] at hT1
              rw [← hW1] at hK1
              rw [← hW1, ← hg9]
              have HT1 := Aside0.mk hT1
              have HK1 := Aside0.mk hK1
              have x0 := (blk_cell (HT1.out.var _ _ ⟨rfl, rfl⟩) 0).trans rfl
              clear hT1 hK1 hW1 hg9 e0 e1 e2 e3 e4 e5 HT HKS
              go_upto_region 19 with (go_at_call 15; refine (pick_any u0 5 _ (by decide) (by decide) HUB.out.1.1 HUB.out.1.2).mono ?_; rintro e w' ⟨rfl, hw_⟩; rw [hw_]; clear hw_ w')
              clear x0
              rcases pickOf_5 u0 with hp | hp | hp | hp | hp
              all_goals (rw [hp]; clear hp)
              · have x1 := (blk_cell (HT1.out.var _ _ ⟨rfl, rfl⟩) 1).trans rfl
                have x4 := (blk_cell (HT1.out.var _ _ ⟨rfl, rfl⟩) 4).trans rfl

                go_wp2_with fail
                refine (two_write W1 d d u1 u4 HT1.out HDB.out.hi (by have := HDB.out.many; have := HDB.out.cache; omega)).mono ?_
                rintro e w4 ⟨rfl, hT4⟩
                have HT4 := Aside0.mk hT4
                clear hT4 x1 x4
                have x1 := (blk_cell (HT4.out.var _ _ ⟨rfl, rfl⟩) 1).trans rfl
                have x4 := (blk_cell (HT4.out.var _ _ ⟨rfl, rfl⟩) 4).trans rfl

                obtain ⟨cd, hcd⟩ : ∃ cd, cd = (d.write u1 u4.data.toList).2 := ⟨_, rfl⟩
                have HCD := Aside0.mk hcd
                rw [← hcd]
                clear hcd
                go_wp2_with fail
                refine (two_writeR w4 _ d u1 u4 HT4.out ⟨HDB.out.hi, HDB.out.lo⟩ (by have := HDB.out.many; have := HDB.out.cache; omega)).mono ?_
                rintro e w5 ⟨rfl, hT5⟩
                have HT5 := Aside0.mk hT5
                rw [← HCD.out]
                clear hT5 x1 x4
                go_wp2_with (go_at_call 17; refine (is_same cd _).mono ?_; rintro e w' ⟨rfl, rfl⟩)
                obtain ⟨d7, hd7⟩ : ∃ d7, d7 = (d.write u1 u4.data.toList).1 := ⟨_, rfl⟩
                have hDB7 : DB n (k + 1) d7 := by rw [hd7]; exact HDB.out.write u1 _
                have hT7 := HT5.out
                rw [← hd7] at hT7
                clear hd7

                have HT7 := Aside0.mk hT7
                have HDB7 := Aside0.mk hDB7
                clear hT7 hDB7
                obtain ⟨lv_, cv_, hg_, -⟩ := HT7.out.ref
                have c3 := (blk_cell hg_ 3).trans rfl
                have c4 := (blk_cell hg_ 4).trans rfl
                clear hg_
                go_quiet (first
                  | (go_at_call 25; exact Calls.quiet_of_same (down_any _ b d7 _ HT7.out.disk))
                  | (go_at_call 26; exact Calls.quiet_of_same (writes_any _ b d7 _ HT7.out.disk)))
                go_wp2_with fail
                go_loopw [18] (fun i wr2 => ∃ j : Nat, i = .int .i64 j ∧ j ≤ n ∧ Aside0 (Two (fun _ _ => False) wc wr2 b g d7 d7)) (fun i _ => n - (intOf i).toNat)
                case atStart => exact ⟨0, rfl, Nat.zero_le _, ⟨(HT7.out.less (fun _ _ q => q.elim)).quiet ((Fr.refl _ _).drewN _)⟩⟩
                case round =>
                  clear HT7
                  obtain ⟨j, rfl, hj, HT8⟩ := hrel
                  by_cases hjn : j < n
                  · have hjn' : (j : Int) < (n : Int) := by omega
                    have hj12 : (j : Int) < 12 := by have := HN.out; omega
                    go_wp2_with fail
                    refine (two_read wr d7 d7 (j : Int) HT8.out (by have := HDB7.out.cache; omega)).mono ?_
                    rintro e w8 ⟨rfl, hT9⟩
                    have HT9 := Aside0.mk hT9
                    obtain ⟨cr, hcr⟩ : ∃ cr, cr = (d7.read (j : Int)).2 := ⟨_, rfl⟩
                    obtain ⟨sr, hsr⟩ : ∃ sr : ByteArray, sr = ⟨(d7.read (j : Int)).1.toArray⟩ := ⟨_, rfl⟩
                    have HCR := Aside0.mk (And.intro hcr hsr)
                    rw [← hcr, ← hsr]
                    clear hT9 hcr hsr
                    go_wp2_with fail
                    refine (two_readR w8 d7 d7 (j : Int) HT9.out (by have := HDB7.out.cache; omega)).mono ?_
                    rintro e w9 ⟨rfl, hT10⟩
                    have HT10 := Aside0.mk hT10
                    rw [← HCR.out.1, ← HCR.out.2]
                    clear hT10
                    go_wp2_with (go_at_call 17; refine (is_same cr _).mono ?_; rintro e w' ⟨rfl, rfl⟩)
                    refine ⟨⟨j + 1, by go_num, hjn, ⟨by first | exact HT10.out | exact HT10.out.drew | exact HT10.out.quiet ((Fr.refl _ _).drewN _)⟩⟩, ?_⟩
                    simp only [intOf]
                    omega
                  · obtain rfl : j = n := by omega
                    go_wp2_with fail
                    refine ⟨⟨k + 1, d7, by go_num, hlt, hl2, HT8, HDB7⟩, ?_⟩
                    simp only [intOf]
                    omega
              · go_wp2_with fail
                refine (two_sync W1 d d HT1.out (by have := HDB.out.many; have := HDB.out.cache; omega)).mono ?_
                rintro e w4 ⟨rfl, hT4⟩
                have HT4 := Aside0.mk hT4
                obtain ⟨cd, hcd⟩ : ∃ cd, cd = d.sync.2 := ⟨_, rfl⟩
                have HCD := Aside0.mk hcd
                rw [← hcd]
                clear hcd hT4
                go_wp2_with fail
                refine (two_syncR w4 _ d HT4.out (by have := HDB.out.many; have := HDB.out.cache; omega)).mono ?_
                rintro e w5 ⟨rfl, hT5⟩
                have HT5 := Aside0.mk hT5
                rw [← HCD.out]
                clear hT5
                go_wp2_with (go_at_call 17; refine (is_same cd _).mono ?_; rintro e w' ⟨rfl, rfl⟩)
                obtain ⟨d7, hd7⟩ : ∃ d7, d7 = d.sync.1 := ⟨_, rfl⟩
                have hDB7 : DB n (k + 1) d7 := by rw [hd7]; exact HDB.out.sync
                have hT7 := HT5.out
                rw [← hd7] at hT7
                clear hd7

                have HT7 := Aside0.mk hT7
                have HDB7 := Aside0.mk hDB7
                clear hT7 hDB7
                obtain ⟨lv_, cv_, hg_, -⟩ := HT7.out.ref
                have c3 := (blk_cell hg_ 3).trans rfl
                have c4 := (blk_cell hg_ 4).trans rfl
                clear hg_
                go_quiet (first
                  | (go_at_call 25; exact Calls.quiet_of_same (down_any _ b d7 _ HT7.out.disk))
                  | (go_at_call 26; exact Calls.quiet_of_same (writes_any _ b d7 _ HT7.out.disk)))
                go_wp2_with fail
                go_loopw [18] (fun i wr2 => ∃ j : Nat, i = .int .i64 j ∧ j ≤ n ∧ Aside0 (Two (fun _ _ => False) wc wr2 b g d7 d7)) (fun i _ => n - (intOf i).toNat)
                case atStart => exact ⟨0, rfl, Nat.zero_le _, ⟨(HT7.out.less (fun _ _ q => q.elim)).quiet ((Fr.refl _ _).drewN _)⟩⟩
                case round =>
                  clear HT7
                  obtain ⟨j, rfl, hj, HT8⟩ := hrel
                  by_cases hjn : j < n
                  · have hjn' : (j : Int) < (n : Int) := by omega
                    have hj12 : (j : Int) < 12 := by have := HN.out; omega
                    go_wp2_with fail
                    refine (two_read wr d7 d7 (j : Int) HT8.out (by have := HDB7.out.cache; omega)).mono ?_
                    rintro e w8 ⟨rfl, hT9⟩
                    have HT9 := Aside0.mk hT9
                    obtain ⟨cr, hcr⟩ : ∃ cr, cr = (d7.read (j : Int)).2 := ⟨_, rfl⟩
                    obtain ⟨sr, hsr⟩ : ∃ sr : ByteArray, sr = ⟨(d7.read (j : Int)).1.toArray⟩ := ⟨_, rfl⟩
                    have HCR := Aside0.mk (And.intro hcr hsr)
                    rw [← hcr, ← hsr]
                    clear hT9 hcr hsr
                    go_wp2_with fail
                    refine (two_readR w8 d7 d7 (j : Int) HT9.out (by have := HDB7.out.cache; omega)).mono ?_
                    rintro e w9 ⟨rfl, hT10⟩
                    have HT10 := Aside0.mk hT10
                    rw [← HCR.out.1, ← HCR.out.2]
                    clear hT10
                    go_wp2_with (go_at_call 17; refine (is_same cr _).mono ?_; rintro e w' ⟨rfl, rfl⟩)
                    refine ⟨⟨j + 1, by go_num, hjn, ⟨by first | exact HT10.out | exact HT10.out.drew | exact HT10.out.quiet ((Fr.refl _ _).drewN _)⟩⟩, ?_⟩
                    simp only [intOf]
                    omega
                  · obtain rfl : j = n := by omega
                    go_wp2_with fail
                    refine ⟨⟨k + 1, d7, by go_num, hlt, hl2, HT8, HDB7⟩, ?_⟩
                    simp only [intOf]
                    omega
              · have x1 := (blk_cell (HT1.out.var _ _ ⟨rfl, rfl⟩) 1).trans rfl

                go_wp2_with fail
                refine (two_fuse W1 d d u1 HT1.out).mono ?_
                rintro e w4 ⟨rfl, hT4⟩
                have HT4 := Aside0.mk hT4
                clear hT4 x1
                have x1 := (blk_cell (HT4.out.var _ _ ⟨rfl, rfl⟩) 1).trans rfl

                go_wp2_with fail
                refine (two_fuseR w4 _ d u1 HT4.out).mono ?_
                rintro e w5 ⟨rfl, hT5⟩
                have HT5 := Aside0.mk hT5
                clear hT5 x1
                go_wp2_with fail
                obtain ⟨d7, hd7⟩ : ∃ d7, d7 = { d with fuse := max u1 (-1) } := ⟨_, rfl⟩
                have hDB7 : DB n (k + 1) d7 := by rw [hd7]; exact HDB.out.fuse u1 HUB.out.2.2
                have hT7 := HT5.out
                rw [← hd7] at hT7
                clear hd7

                have HT7 := Aside0.mk hT7
                have HDB7 := Aside0.mk hDB7
                clear hT7 hDB7
                obtain ⟨lv_, cv_, hg_, -⟩ := HT7.out.ref
                have c3 := (blk_cell hg_ 3).trans rfl
                have c4 := (blk_cell hg_ 4).trans rfl
                clear hg_
                go_quiet (first
                  | (go_at_call 25; exact Calls.quiet_of_same (down_any _ b d7 _ HT7.out.disk))
                  | (go_at_call 26; exact Calls.quiet_of_same (writes_any _ b d7 _ HT7.out.disk)))
                go_wp2_with fail
                go_loopw [18] (fun i wr2 => ∃ j : Nat, i = .int .i64 j ∧ j ≤ n ∧ Aside0 (Two (fun _ _ => False) wc wr2 b g d7 d7)) (fun i _ => n - (intOf i).toNat)
                case atStart => exact ⟨0, rfl, Nat.zero_le _, ⟨(HT7.out.less (fun _ _ q => q.elim)).quiet ((Fr.refl _ _).drewN _)⟩⟩
                case round =>
                  clear HT7
                  obtain ⟨j, rfl, hj, HT8⟩ := hrel
                  by_cases hjn : j < n
                  · have hjn' : (j : Int) < (n : Int) := by omega
                    have hj12 : (j : Int) < 12 := by have := HN.out; omega
                    go_wp2_with fail
                    refine (two_read wr d7 d7 (j : Int) HT8.out (by have := HDB7.out.cache; omega)).mono ?_
                    rintro e w8 ⟨rfl, hT9⟩
                    have HT9 := Aside0.mk hT9
                    obtain ⟨cr, hcr⟩ : ∃ cr, cr = (d7.read (j : Int)).2 := ⟨_, rfl⟩
                    obtain ⟨sr, hsr⟩ : ∃ sr : ByteArray, sr = ⟨(d7.read (j : Int)).1.toArray⟩ := ⟨_, rfl⟩
                    have HCR := Aside0.mk (And.intro hcr hsr)
                    rw [← hcr, ← hsr]
                    clear hT9 hcr hsr
                    go_wp2_with fail
                    refine (two_readR w8 d7 d7 (j : Int) HT9.out (by have := HDB7.out.cache; omega)).mono ?_
                    rintro e w9 ⟨rfl, hT10⟩
                    have HT10 := Aside0.mk hT10
                    rw [← HCR.out.1, ← HCR.out.2]
                    clear hT10
                    go_wp2_with (go_at_call 17; refine (is_same cr _).mono ?_; rintro e w' ⟨rfl, rfl⟩)
                    refine ⟨⟨j + 1, by go_num, hjn, ⟨by first | exact HT10.out | exact HT10.out.drew | exact HT10.out.quiet ((Fr.refl _ _).drewN _)⟩⟩, ?_⟩
                    simp only [intOf]
                    omega
                  · obtain rfl : j = n := by omega
                    go_wp2_with fail
                    refine ⟨⟨k + 1, d7, by go_num, hlt, hl2, HT8, HDB7⟩, ?_⟩
                    simp only [intOf]
                    omega
              · have x5 := (blk_cell (HT1.out.var _ _ ⟨rfl, rfl⟩) 5).trans rfl
                have x2 := (blk_cell (HT1.out.var _ _ ⟨rfl, rfl⟩) 2).trans rfl
                have x3 := (blk_cell (HT1.out.var _ _ ⟨rfl, rfl⟩) 3).trans rfl

                go_wp2_with fail
                refine (two_crash W1 d d ka u5.length kc u5 u2 u3 HT1.out HK1.out (by have := HDB.out.many; have := HDB.out.cache; omega)).mono ?_
                rintro e w4 ⟨rfl, hT4, hk4⟩
                have HT4 := Aside0.mk hT4
                have HK4 := Aside0.mk hk4
                clear hT4 x5 x2 x3 hk4
                have x5 := (blk_cell (HT4.out.var _ _ ⟨rfl, rfl⟩) 5).trans rfl
                have x2 := (blk_cell (HT4.out.var _ _ ⟨rfl, rfl⟩) 2).trans rfl
                have x3 := (blk_cell (HT4.out.var _ _ ⟨rfl, rfl⟩) 3).trans rfl

                go_wp2_with fail
                refine (two_crashR w4 _ d ka u5.length kc u5 u2 u3 HT4.out HK4.out (by have := HDB.out.many; have := HDB.out.cache; omega)).mono ?_
                rintro e w5 ⟨rfl, hT5⟩
                have HT5 := Aside0.mk hT5
                clear hT5 x5 x2 x3
                go_wp2_with fail
                obtain ⟨d7, hd7⟩ : ∃ d7, d7 = d.crash u5 u2 u3 := ⟨_, rfl⟩
                have hDB7 : DB n (k + 1) d7 := by rw [hd7]; exact HDB.out.crash u5 u2 u3
                have hT7 := HT5.out
                rw [← hd7] at hT7
                clear hd7

                have HT7 := Aside0.mk hT7
                have HDB7 := Aside0.mk hDB7
                clear hT7 hDB7
                obtain ⟨lv_, cv_, hg_, -⟩ := HT7.out.ref
                have c3 := (blk_cell hg_ 3).trans rfl
                have c4 := (blk_cell hg_ 4).trans rfl
                clear hg_
                go_quiet (first
                  | (go_at_call 25; exact Calls.quiet_of_same (down_any _ b d7 _ HT7.out.disk))
                  | (go_at_call 26; exact Calls.quiet_of_same (writes_any _ b d7 _ HT7.out.disk)))
                go_wp2_with fail
                go_loopw [18] (fun i wr2 => ∃ j : Nat, i = .int .i64 j ∧ j ≤ n ∧ Aside0 (Two (fun _ _ => False) wc wr2 b g d7 d7)) (fun i _ => n - (intOf i).toNat)
                case atStart => exact ⟨0, rfl, Nat.zero_le _, ⟨(HT7.out.less (fun _ _ q => q.elim)).quiet ((Fr.refl _ _).drewN _)⟩⟩
                case round =>
                  clear HT7
                  obtain ⟨j, rfl, hj, HT8⟩ := hrel
                  by_cases hjn : j < n
                  · have hjn' : (j : Int) < (n : Int) := by omega
                    have hj12 : (j : Int) < 12 := by have := HN.out; omega
                    go_wp2_with fail
                    refine (two_read wr d7 d7 (j : Int) HT8.out (by have := HDB7.out.cache; omega)).mono ?_
                    rintro e w8 ⟨rfl, hT9⟩
                    have HT9 := Aside0.mk hT9
                    obtain ⟨cr, hcr⟩ : ∃ cr, cr = (d7.read (j : Int)).2 := ⟨_, rfl⟩
                    obtain ⟨sr, hsr⟩ : ∃ sr : ByteArray, sr = ⟨(d7.read (j : Int)).1.toArray⟩ := ⟨_, rfl⟩
                    have HCR := Aside0.mk (And.intro hcr hsr)
                    rw [← hcr, ← hsr]
                    clear hT9 hcr hsr
                    go_wp2_with fail
                    refine (two_readR w8 d7 d7 (j : Int) HT9.out (by have := HDB7.out.cache; omega)).mono ?_
                    rintro e w9 ⟨rfl, hT10⟩
                    have HT10 := Aside0.mk hT10
                    rw [← HCR.out.1, ← HCR.out.2]
                    clear hT10
                    go_wp2_with (go_at_call 17; refine (is_same cr _).mono ?_; rintro e w' ⟨rfl, rfl⟩)
                    refine ⟨⟨j + 1, by go_num, hjn, ⟨by first | exact HT10.out | exact HT10.out.drew | exact HT10.out.quiet ((Fr.refl _ _).drewN _)⟩⟩, ?_⟩
                    simp only [intOf]
                    omega
                  · obtain rfl : j = n := by omega
                    go_wp2_with fail
                    refine ⟨⟨k + 1, d7, by go_num, hlt, hl2, HT8, HDB7⟩, ?_⟩
                    simp only [intOf]
                    omega
              · have x1 := (blk_cell (HT1.out.var _ _ ⟨rfl, rfl⟩) 1).trans rfl

                go_wp2_with fail
                refine (two_read W1 d d u1 HT1.out (by have := HDB.out.many; have := HDB.out.cache; omega)).mono ?_
                rintro e w4 ⟨rfl, hT4⟩
                have HT4 := Aside0.mk hT4
                clear hT4 x1
                have x1 := (blk_cell (HT4.out.var _ _ ⟨rfl, rfl⟩) 1).trans rfl

                obtain ⟨cd, hcd⟩ : ∃ cd, cd = (d.read u1).2 := ⟨_, rfl⟩
                obtain ⟨sd, hsd⟩ : ∃ sd : ByteArray, sd = ⟨(d.read u1).1.toArray⟩ := ⟨_, rfl⟩
                have HCD := Aside0.mk (And.intro hcd hsd)
                rw [← hcd, ← hsd]
                clear hcd hsd
                go_wp2_with fail
                refine (two_readR w4 _ d u1 HT4.out (by have := HDB.out.many; have := HDB.out.cache; omega)).mono ?_
                rintro e w5 ⟨rfl, hT5⟩
                have HT5 := Aside0.mk hT5
                rw [← HCD.out.1, ← HCD.out.2]
                clear hT5 x1
                go_wp2_with (go_at_call 17; refine (is_same cd _).mono ?_; rintro e w' ⟨rfl, rfl⟩)
                obtain ⟨d7, rfl⟩ : ∃ d7, d7 = d := ⟨_, rfl⟩
                have hDB7 : DB n (k + 1) d7 := HDB.out.more
                have hT7 := HT5.out

                have HT7 := Aside0.mk hT7
                have HDB7 := Aside0.mk hDB7
                clear hT7 hDB7
                obtain ⟨lv_, cv_, hg_, -⟩ := HT7.out.ref
                have c3 := (blk_cell hg_ 3).trans rfl
                have c4 := (blk_cell hg_ 4).trans rfl
                clear hg_
                go_quiet (first
                  | (go_at_call 25; exact Calls.quiet_of_same (down_any _ b d7 _ HT7.out.disk))
                  | (go_at_call 26; exact Calls.quiet_of_same (writes_any _ b d7 _ HT7.out.disk)))
                go_wp2_with fail
                go_loopw [18] (fun i wr2 => ∃ j : Nat, i = .int .i64 j ∧ j ≤ n ∧ Aside0 (Two (fun _ _ => False) wc wr2 b g d7 d7)) (fun i _ => n - (intOf i).toNat)
                case atStart => exact ⟨0, rfl, Nat.zero_le _, ⟨(HT7.out.less (fun _ _ q => q.elim)).quiet ((Fr.refl _ _).drewN _)⟩⟩
                case round =>
                  clear HT7
                  obtain ⟨j, rfl, hj, HT8⟩ := hrel
                  by_cases hjn : j < n
                  · have hjn' : (j : Int) < (n : Int) := by omega
                    have hj12 : (j : Int) < 12 := by have := HN.out; omega
                    go_wp2_with fail
                    refine (two_read wr d7 d7 (j : Int) HT8.out (by have := HDB7.out.cache; omega)).mono ?_
                    rintro e w8 ⟨rfl, hT9⟩
                    have HT9 := Aside0.mk hT9
                    obtain ⟨cr, hcr⟩ : ∃ cr, cr = (d7.read (j : Int)).2 := ⟨_, rfl⟩
                    obtain ⟨sr, hsr⟩ : ∃ sr : ByteArray, sr = ⟨(d7.read (j : Int)).1.toArray⟩ := ⟨_, rfl⟩
                    have HCR := Aside0.mk (And.intro hcr hsr)
                    rw [← hcr, ← hsr]
                    clear hT9 hcr hsr
                    go_wp2_with fail
                    refine (two_readR w8 d7 d7 (j : Int) HT9.out (by have := HDB7.out.cache; omega)).mono ?_
                    rintro e w9 ⟨rfl, hT10⟩
                    have HT10 := Aside0.mk hT10
                    rw [← HCR.out.1, ← HCR.out.2]
                    clear hT10
                    go_wp2_with (go_at_call 17; refine (is_same cr _).mono ?_; rintro e w' ⟨rfl, rfl⟩)
                    refine ⟨⟨j + 1, by go_num, hjn, ⟨by first | exact HT10.out | exact HT10.out.drew | exact HT10.out.quiet ((Fr.refl _ _).drewN _)⟩⟩, ?_⟩
                    simp only [intOf]
                    omega
                  · obtain rfl : j = n := by omega
                    go_wp2_with fail
                    refine ⟨⟨k + 1, d7, by go_num, hlt, hl2, HT8, HDB7⟩, ?_⟩
                    simp only [intOf]
                    omega
            · obtain rfl : k = 200 := by omega
              go_wp2_with fail
              go_ret
              exact ⟨rfl, FINB HT.out⟩
          · obtain rfl : k = m := by omega
            go_wp2_with fail
            go_ret
            exact ⟨rfl, FINB HT.out⟩
  · have hbad : size < 1 ∨ 4000 < size := by omega
    clear hgood
    go_enter Try.func6, Try.ntmps6
    rcases hbad with hbad | hbad
    all_goals
      go_wp2_with (first
        | (go_at_call 8; refine (examples_any w).mono ?_; rintro e w1 ⟨rfl, hf1⟩)
        | (go_at_call 9; refine (new_no size _ (by omega)).mono ?_; rintro e w' ⟨rfl, rfl⟩)
        | (go_at_call 16; refine (ref_new_no size _ (by omega)).mono ?_; rintro e w' ⟨rfl, rfl⟩)
        | (go_at_call 17; refine (is_one _).mono ?_; rintro e w' ⟨rfl, rfl⟩))
      go_ret
      exact ⟨rfl, below_fr (Below.refl _ _) hf1 (fun _ q => q.elim)⟩
end Go.Proofs.Ytfhfnnpadfibkaa
