/-
  The document's own disk: a crash.
-/
import Derived.Test.YtfhfnnpadfibkaaRef3
set_option linter.unusedVariables false
set_option linter.unusedSimpArgs false
namespace Go.Proofs.Ytfhfnnpadfibkaa
open Go.RowKit Go.Proofs.YtfhfnnpadfibkaaW.PrintWords Go.Proofs.YtfhfnnpadfibkaaW.PrintLast Go.Proofs.YtfhfnnpadfibkaaW.PrintMore

theorem ints_to {w0 w w' : World} {A : Option Addr} {n : Nat} {xs : List Int} (h : IntsAt w A n xs (Up w0.heap.size)) (hb : Below w0.heap.size w0 w) (hb' : Below w0.heap.size w0 w') (hs : w.heap.size ≤ w'.heap.size) : IntsAt w' A n xs (Up w0.heap.size) :=
  h.keep (S := Up w0.heap.size) ⟨hb'.os.trans hb.os.symm, hb'.tape.trans hb.tape.symm, hb'.output.trans hb.output.symm, hs, fun k hk hn => by
    have : k < w0.heap.size := by simp only [Up] at hn; omega
    exact (hb'.block k this).trans (hb.block k this).symm⟩ (fun k q => q)
theorem mkB_whole (old : List UInt8) (h : old.length = 64) : (mkB old).extract 0 64 = mkB old := by
  apply ByteArray.ext
  rw [ByteArray.data_extract]
  show old.toArray.extract 0 64 = old.toArray
  rw [← h]
  simp
theorem mkB_cut (ps old : List UInt8) (n : Nat) (h : old.length = 64) : (mkB ps).extract 0 n ++ (mkB old).extract n 64 = mkB (ps.take n ++ old.drop n) := by
  apply ByteArray.ext
  rw [ByteArray.data_append, ByteArray.data_extract, ByteArray.data_extract]
  show ps.toArray.extract 0 n ++ old.toArray.extract n 64 = (ps.take n ++ old.drop n).toArray
  rw [← h]
  apply Array.ext'
  simp [Array.toList_extract, List.extract]
  exact List.take_of_length_le (by simp)
theorem set_same {α : Type} (L : List α) (a : Nat) (x : α) (h : L[a]? = some x) : L.set a x = L := by
  apply List.ext_getElem?
  intro i
  rw [List.getElem?_set]
  split
  · next e => subst e; split
              · exact h.symm
              · next q => rw [List.getElem?_eq_none (by omega)]
  · rfl
theorem tmod_odd (q : Int) (h : q % 2 = 1) : Int.tmod q 2 ≠ 0 := by
  intro e
  have := Int.dvd_of_tmod_eq_zero e
  omega
theorem tmod_even (q : Int) (h : q % 2 = 0) : Int.tmod q 2 = 0 := by
  exact Int.tmod_eq_zero_of_dvd (by omega)
set_option maxHeartbeats 4000000 in
set_option maxRecDepth 100000 in
theorem ref_crash (w0 w : World) (g : Nat) (d : DSt) (ka : Option Addr) (kl kc : Nat) (keeps : List Int) (torn bytes : Int) (h : RfAt w0 w g d) (hB : Below w0.heap.size w0 w) (hk : IntsAt w ka kl keeps (Up w0.heap.size)) (hmost : d.cache.length < 1000000) :
    Calls Try.prog 23 #[.pointer (some ⟨g, 0, none⟩), .slice ka kl kc, .int .i64 torn, .int .i64 bytes] w fun e w' => e = .returned (.tuple #[]) ∧ RfAt w0 w' g (d.crash keeps torn bytes) ∧ Below w0.heap.size w0 w' ∧ Keep w w' := by
  obtain ⟨lv, cv, hg, hl, hc, hge, hok⟩ := h
  obtain ⟨f, hf⟩ : ∃ f, f = crashN keeps torn bytes := ⟨_, rfl⟩
  have hle : ∀ i, f i ≤ 64 := by rw [hf]; exact crashN_le keeps torn bytes
  obtain ⟨gl, cl, rfl, hgl, hgll, _⟩ := Kd.R_form hl (by rw [Lb_length]; have := hok.one; omega)
  obtain ⟨Ac, cc, rfl⟩ := Kd.R_slice hc
  rw [Lb_length, Cb_length] at hg
  rw [Lb_length] at hl
  rw [Cb_length] at hc
  have HG := Aside0.mk hg
  have HLr := Aside0.mk hl
  have HCr := Aside0.mk hc
  have HGE := Aside0.mk hge
  have HOK := Aside0.mk hok
  have HB := Aside0.mk hB
  have HKS := Aside0.mk hk
  have HF := Aside0.mk hf
  have HLE := Aside0.mk hle
  have HB0 := HB
  have hmx := hok.most
  have hkl := hk.2.1
  clear hg hl hc hge hok hB hk hgl hgll hf hle
  go_enter Try.func23, Try.ntmps23
  go_wp2_with fail
  go_loopw [8] (fun i wr => ∃ k : Nat, k ≤ d.cache.length ∧ i = .int .i64 k ∧ Aside0 (wr.heap[g]? = some (.cells #[.slice (some ⟨gl, 0, none⟩) d.lasts.length cl, .slice Ac d.cache.length cc, .int .i64 d.fuse, .bool d.down, .int .i64 (d.many : Int)] 53 (0, 0))) ∧ Aside0 (Kd.R Kd.string 9 wr w0.heap.size (fun _ => True) (.slice (some ⟨gl, 0, none⟩) d.lasts.length cl) ((crashAll f d.lasts (d.cache.take k)).map mkB)) ∧ Aside0 (Kd.R PD.k69 69 wr w0.heap.size (fun _ => True) (.slice Ac d.cache.length cc) (Cb d)) ∧ Aside0 (Below w0.heap.size w0 wr) ∧ Aside0 (Keep w wr ∧ w.heap.size ≤ wr.heap.size)) (fun i _ => d.cache.length - (intOf i).toNat)
  case atStart => exact ⟨0, Nat.zero_le _, rfl, HG, HLr, HCr, HB, ⟨Keep.refl _, Nat.le_refl _⟩⟩
  case round =>
    clear HG HLr HCr HB
    obtain ⟨k, hk, rfl, HG, HLr, HCr, HB, HK⟩ := hrel
    have c1 := (blk_cell HG.out 1).trans rfl
    by_cases hlt : k < d.cache.length
    · have hlt' : (k : Int) < (d.cache.length : Int) := by omega
      obtain ⟨p, hp⟩ : ∃ p, d.cache[k]? = some p := ⟨_, List.getElem?_eq_getElem hlt⟩
      have hpw := HOK.out.wrs p (List.mem_of_getElem? hp)
      obtain ⟨A', c', hv', hlc', hC⟩ := Kd.R_reads HCr.out
      injection hv' with hv1 hv2 hv3
      subst hv1 hv3
      clear hv2 hlc'
      rw [Cb_length] at hC
      obtain ⟨ad, rfl, hx0, hx1⟩ := PD.at_T69 hC (k : Int) (by omega) (by omega)
      have hrd : PD.rd_T69 (Cb d) (k : Int) = ⟨(p.1 : Int), mkB p.2⟩ := by simp [PD.rd_T69, Cb, List.getD, hp]
      rw [hrd, Int.toNat_natCast] at hx0 hx1
      obtain ⟨at_, ps⟩ := p
      simp only at hx0 hx1 hpw
      have htk := Lib.hid (take_snoc' _ _ _ hp)
      have hco := crash_ok f HLE.out d.lasts HOK.out.secs (d.cache.take k) (fun p hp => HOK.out.wrs p (List.mem_of_mem_take hp)) 0
      have hlen : (crashAll f d.lasts (d.cache.take k)).length = d.lasts.length := hco.1
      obtain ⟨old, hold⟩ : ∃ old, (crashAll f d.lasts (d.cache.take k))[at_]? = some old := ⟨_, List.getElem?_eq_getElem (by rw [hlen]; exact hpw.1)⟩
      have hol : old.length = 64 := hco.2 old (List.mem_of_getElem? hold)
      have hat : (at_ : Int) < (d.lasts.length : Int) := by omega
      have hlr2 : Kd.R Kd.string 9 wr w0.heap.size (fun _ => True) (.slice (some ⟨gl, 0, none⟩) ((crashAll f d.lasts (d.cache.take k)).map mkB).length cl) ((crashAll f d.lasts (d.cache.take k)).map mkB) := by rw [List.length_map, hlen]; exact HLr.out
      obtain ⟨hq1, hq2⟩ := Kd.R_cell ByteArray.empty (h := hlr2) (at_ : Int) (by omega) (by rw [List.length_map, hlen]; omega)
      rw [Int.toNat_natCast] at hq1 hq2
      have hro : rdOf ByteArray.empty ((crashAll f d.lasts (d.cache.take k)).map mkB) (at_ : Int) = mkB old := by simp [rdOf, List.getD, hold]
      rw [hro] at hq1
      have HLR2 := Aside0.mk hlr2
      have HPW := Aside0.mk hpw
      have HOLD := Aside0.mk hold
      have HOL := Aside0.mk hol
      have HLN := Aside0.mk hlen
      have HI := Aside0.mk (ints_to HKS.out HB0.out HB.out HK.out.2)
      clear hC hrd hp hpw hco hlen hold hol hlr2 hro
      have hgw : g < wr.heap.size := blk_lt HG.out
      have hglw : gl < wr.heap.size := Kd.R_lt HLr.out gl rfl
      have c0 : ∀ o, (wr.alloc o).cell? ⟨g, 0, none⟩ = some (.slice (some ⟨gl, 0, none⟩) d.lasts.length cl) := fun o => (World.cell?_alloc_lt _ _ _ hgw).trans ((blk_cell HG.out 0).trans rfl)
      have cq : ∀ o, (wr.alloc o).cell? ⟨gl, at_, none⟩ = some (.string (mkB old)) := fun o => (World.cell?_alloc_lt _ _ _ hglw).trans hq1
      have HGW := Aside0.mk (And.intro hgw hglw)
      clear hgw hglw
      go_wp2_with fail
      obtain ⟨W1, hW1⟩ : ∃ W1, W1 = wr.alloc (.cells #[.int .i64 (at_ : Int), .string (mkB ps)] 69) := ⟨_, rfl⟩
      obtain ⟨g9, hg9⟩ : ∃ g9, g9 = wr.heap.size := ⟨_, rfl⟩
      have K9 := Aside0.mk (show W1.heap[g9]? = some (.cells #[.int .i64 (at_ : Int), .string (mkB ps)] 69 (0, 0)) by rw [hW1, hg9]; exact blk_new _ _)
      have d0 : W1.cell? ⟨g, 0, none⟩ = some (.slice (some ⟨gl, 0, none⟩) d.lasts.length cl) := by rw [hW1]; exact c0 _
      have dq : W1.cell? ⟨gl, at_, none⟩ = some (.string (mkB old)) := by rw [hW1]; exact cq _
      have dqf : W1.frozen? ⟨gl, at_, none⟩ = false := by
        obtain ⟨cells, hcs⟩ := Kd.R_typed HLr.out gl rfl
        have : W1.heap[gl]? = some (.cells cells 9 (0, 0)) := by rw [hW1]; exact blk_alloc hcs _
        exact blk_frozen this at_
      have KG := Aside0.mk (show W1.heap[g]? = some (.cells #[.slice (some ⟨gl, 0, none⟩) d.lasts.length cl, .slice (some ad) d.cache.length cc, .int .i64 d.fuse, .bool d.down, .int .i64 (d.many : Int)] 53 (0, 0)) by rw [hW1]; exact blk_alloc HG.out _)
      have KLr2 := Aside0.mk (show Kd.R Kd.string 9 W1 w0.heap.size (fun _ => True) (.slice (some ⟨gl, 0, none⟩) ((crashAll f d.lasts (d.cache.take k)).map mkB).length cl) ((crashAll f d.lasts (d.cache.take k)).map mkB) by rw [hW1]; exact Kd.R_alloc HLR2.out _)
      have KC := Aside0.mk (show Kd.R PD.k69 69 W1 w0.heap.size (fun _ => True) (.slice (some ad) d.cache.length cc) (Cb d) by rw [hW1]; exact Kd.R_alloc HCr.out _)
      have KB := Aside0.mk (show Below w0.heap.size w0 W1 by rw [hW1]; exact below_alloc HB.out _)
      have KK := Aside0.mk (show Keep w W1 ∧ w.heap.size ≤ W1.heap.size by rw [hW1]; exact ⟨Keep.trans HK.out.1 (Keep.below (below_alloc (Below.refl _ _) _)) HK.out.2, Nat.le_trans HK.out.2 (by simp)⟩)
      have KI := Aside0.mk (show IntsAt W1 ka kl keeps (Up w0.heap.size) by rw [hW1]; exact ints_to HI.out HB.out (below_alloc HB.out _) (by simp))
      rw [← hW1, ← hg9]
      have e0 := (blk_cell K9.out 0).trans rfl
      have e1 := (blk_cell K9.out 1).trans rfl
      clear hW1 hg9 HG HLr HCr HB HK HLR2 HI HGW c0 cq c1 hx0 hx1 hq1 hq2
      refine region_tail 8 (by kernel_rfl) (by kernel_rfl) ?_
      simp only [List.take_succ_cons, List.take_zero, List.drop_succ_cons, List.drop_zero]
      repeat still_step
      refine wpStill_nil ?_
      have hps : (mkB ps).size = 64 := by have := HPW.out.2; show ps.toArray.size = 64; simpa using this
      have hos : (mkB old).size = 64 := by have := HOL.out; show old.toArray.size = 64; simpa using this
      have hbl : w0.heap.size ≤ gl := Kd.R_base KLr2.out gl rfl
      have hne : g ≠ gl := fun e => Kd.R_ne KLr2.out KG.out (by decide) (by rw [e]; rfl)
      have hll : ((crashAll f d.lasts (d.cache.take k)).map mkB).length = d.lasts.length := by rw [List.length_map, HLN.out]
      have hcs : crashAll f d.lasts (d.cache.take (k + 1)) = lay f (crashAll f d.lasts (d.cache.take k)) ((at_, ps), k) := by rw [htk.out, crashAll_snoc, List.length_take, Nat.min_eq_left hk]
      have hgd : (crashAll f d.lasts (d.cache.take k)).getD at_ [] = old := by simp [List.getD, HOLD.out]
      have hly : ∀ n : Nat, f k = n → (crashAll f d.lasts (d.cache.take (k + 1))).map mkB = ((crashAll f d.lasts (d.cache.take k)).map mkB).set at_ (mkB (ps.take n ++ old.drop n)) := by
        intro n hn
        rw [hcs]
        simp only [lay, hgd, hn]
        rw [putAll_map]
      have fin : ∀ (n : Nat) (X : ByteArray), f k = n → X = mkB (ps.take n ++ old.drop n) → (∃ k' : Nat, k' ≤ d.cache.length ∧ Value.int .i64 ((k : Int) + 1) = .int .i64 k' ∧ Aside0 ((W1.setCell ⟨gl, at_, none⟩ (.string X)).drew.drew.heap[g]? = some (.cells #[.slice (some ⟨gl, 0, none⟩) d.lasts.length cl, .slice (some ad) d.cache.length cc, .int .i64 d.fuse, .bool d.down, .int .i64 (d.many : Int)] 53 (0, 0))) ∧ Aside0 (Kd.R Kd.string 9 (W1.setCell ⟨gl, at_, none⟩ (.string X)).drew.drew w0.heap.size (fun _ => True) (.slice (some ⟨gl, 0, none⟩) d.lasts.length cl) ((crashAll f d.lasts (d.cache.take k')).map mkB)) ∧ Aside0 (Kd.R PD.k69 69 (W1.setCell ⟨gl, at_, none⟩ (.string X)).drew.drew w0.heap.size (fun _ => True) (.slice (some ad) d.cache.length cc) (Cb d)) ∧ Aside0 (Below w0.heap.size w0 (W1.setCell ⟨gl, at_, none⟩ (.string X)).drew.drew) ∧ Aside0 (Keep w (W1.setCell ⟨gl, at_, none⟩ (.string X)).drew.drew ∧ w.heap.size ≤ (W1.setCell ⟨gl, at_, none⟩ (.string X)).drew.drew.heap.size)) ∧ d.cache.length - (intOf (Value.int .i64 ((k : Int) + 1))).toNat < d.cache.length - (intOf (Value.int .i64 k)).toNat := by
        intro n X hn hX
        have HP2 := Kd.R_put KLr2.out (at_ : Int) X
        rw [Int.toNat_natCast, hll] at HP2
        have hgrow : W1.grownBy (W1.setCell ⟨gl, at_, none⟩ (.string X)) (Value.slice (some ⟨gl, 0, none⟩) d.lasts.length cl).ownBlock := HP2.2
        have hKK := Keep.trans KK.out.1 (Keep.own KLr2.out (v := Value.slice (some ⟨gl, 0, none⟩) ((crashAll f d.lasts (d.cache.take k)).map mkB).length cl) hgrow (Or.inr (Or.inl rfl))) KK.out.2
        refine ⟨⟨k + 1, hlt, by go_num, ⟨blk_drew (blk_drew (blk_far KG.out hne _))⟩, ⟨?_⟩, ⟨Kd.R_drew (Kd.R_drew (Kd.R_over KC.out KLr2.out (by decide) hgrow))⟩, ⟨below_drew1 (below_drew1 (below_set KB.out hbl))⟩, ⟨hKK.drew.drew, ?_⟩⟩, ?_⟩
        · rw [hly n hn, ← hX]
          exact Kd.R_drew (Kd.R_drew HP2.1)
        · exact Nat.le_trans KK.out.2 hgrow.size
        · simp only [intOf]
          omega
      have FIN := Aside0.mk fin
      clear fin hly hgd hcs hll hbl hne
      by_cases ht : (k : Int) = torn
      · have HT := Aside0.mk (show f k = (min (max bytes 0) 64).toNat by rw [HF.out]; unfold crashN; rw [if_pos ht])
        subst ht
        rcases (show bytes < 0 ∨ (0 ≤ bytes ∧ bytes < 64) ∨ bytes = 64 ∨ 64 < bytes by omega) with hb | hb | hb | hb
        · have HN0 := Aside0.mk (show f k = 0 by rw [HT.out]; omega)
          go_wp2_with fail
          refine region_tail 15 (by kernel_rfl) (by kernel_rfl) ?_
          simp only [List.take_succ_cons, List.take_zero, List.drop_succ_cons, List.drop_zero]
          repeat still_step
          refine wpStill_nil ?_
          go_wp2_with fail
          exact FIN.out 0 _ HN0.out (by rw [mkB_whole old HOL.out]; simp)
        · obtain ⟨n, rfl⟩ : ∃ n : Nat, bytes = n := ⟨bytes.toNat, by omega⟩
          obtain ⟨hb0, hb1⟩ := hb
          have HN0 := Aside0.mk (show f k = n by rw [HT.out]; omega)
          go_wp2_with fail
          have hs1 : ∀ W, (Instr.slice 9 (.string (mkB ps)) none (some (.int .i64 (n : Int))) none).run Try.prog W = .ok (.string ((mkB ps).extract 0 n)) W := fun W => by
            simp [Instr.slice, Instr.sliceBounds, Instr.sliceBound, underlying, Try.underlying9, hps, asIntOf]
            exact fun q => absurd q (by omega)
          have hcn : ¬ (9223372036854775807 < min n 64 + (64 - n)) := by omega
          have hs2 : ∀ W, (Instr.slice 9 (.string (mkB old)) (some (.int .i64 (n : Int))) none none).run Try.prog W = .ok (.string ((mkB old).extract n 64)) W := fun W => by
            simp [Instr.slice, Instr.sliceBounds, Instr.sliceBound, underlying, Try.underlying9, hos, asIntOf]
            exact fun q => absurd q (by omega)
          refine region_tail 15 (by kernel_rfl) (by kernel_rfl) ?_
          simp only [List.take_succ_cons, List.take_zero, List.drop_succ_cons, List.drop_zero]
          repeat still_step
          refine wpStill_nil ?_
          go_wp2_with fail
          exact FIN.out n _ HN0.out (by rw [← mkB_cut ps old n HOL.out])
        · subst hb
          have HN0 := Aside0.mk (show f k = 64 by rw [HT.out]; omega)
          go_wp2_with fail
          refine region_tail 15 (by kernel_rfl) (by kernel_rfl) ?_
          simp only [List.take_succ_cons, List.take_zero, List.drop_succ_cons, List.drop_zero]
          repeat still_step
          refine wpStill_nil ?_
          go_wp2_with fail
          exact FIN.out 64 _ HN0.out (by rw [← mkB_cut ps old 64 HOL.out]; simp)
        · have HN0 := Aside0.mk (show f k = 64 by rw [HT.out]; omega)
          go_wp2_with fail
          refine region_tail 15 (by kernel_rfl) (by kernel_rfl) ?_
          simp only [List.take_succ_cons, List.take_zero, List.drop_succ_cons, List.drop_zero]
          repeat still_step
          refine wpStill_nil ?_
          go_wp2_with fail
          exact FIN.out 64 _ HN0.out (by rw [← mkB_cut ps old 64 HOL.out]; simp)
      · have stay : f k = 0 → (∃ k' : Nat, k' ≤ d.cache.length ∧ Value.int .i64 ((k : Int) + 1) = .int .i64 k' ∧ Aside0 (W1.drew.heap[g]? = some (.cells #[.slice (some ⟨gl, 0, none⟩) d.lasts.length cl, .slice (some ad) d.cache.length cc, .int .i64 d.fuse, .bool d.down, .int .i64 (d.many : Int)] 53 (0, 0))) ∧ Aside0 (Kd.R Kd.string 9 W1.drew w0.heap.size (fun _ => True) (.slice (some ⟨gl, 0, none⟩) d.lasts.length cl) ((crashAll f d.lasts (d.cache.take k')).map mkB)) ∧ Aside0 (Kd.R PD.k69 69 W1.drew w0.heap.size (fun _ => True) (.slice (some ad) d.cache.length cc) (Cb d)) ∧ Aside0 (Below w0.heap.size w0 W1.drew) ∧ Aside0 (Keep w W1.drew ∧ w.heap.size ≤ W1.drew.heap.size)) ∧ d.cache.length - (intOf (Value.int .i64 ((k : Int) + 1))).toNat < d.cache.length - (intOf (Value.int .i64 k)).toNat := by
          intro hn
          refine ⟨⟨k + 1, hlt, by go_num, ⟨blk_drew KG.out⟩, ⟨?_⟩, ⟨Kd.R_drew KC.out⟩, ⟨below_drew1 KB.out⟩, ⟨KK.out.1.drew, KK.out.2⟩⟩, ?_⟩
          · have e : crashAll f d.lasts (d.cache.take (k + 1)) = crashAll f d.lasts (d.cache.take k) := by
              rw [htk.out, crashAll_snoc, List.length_take, Nat.min_eq_left hk]
              simp only [lay, hn, List.take_zero, List.nil_append, List.drop_zero]
              exact set_same _ _ _ (by simp [List.getD, HOLD.out])
            rw [e]
            have := KLr2.out
            rw [List.length_map, HLN.out] at this
            exact Kd.R_drew this
          · simp only [intOf]
            omega
        have STAY := Aside0.mk stay
        clear stay
        by_cases hkk : (k : Int) < (kl : Int)
        · obtain ⟨ad2, rfl, hcells, _⟩ := KI.out.2.2 (by omega)
          obtain ⟨q, hq⟩ : ∃ q, keeps.getD k 0 = q := ⟨_, rfl⟩
          have hcell := hcells k (by omega)
          rw [hq] at hcell
          have hklen : keeps.length = kl := HKS.out.1
          have HC := Aside0.mk (show f k = if q % 2 = 1 then 64 else 0 by
            rw [HF.out]; unfold crashN; rw [if_neg ht, hq]
            by_cases h1 : q % 2 = 1
            · rw [if_pos ⟨by omega, h1⟩, if_pos h1]
            · rw [if_neg (fun h => h1 h.2), if_neg h1])
          clear hcells hklen hq
          by_cases hodd : q % 2 = 1
          · have HN0 := Aside0.mk (show f k = 64 by rw [HC.out, if_pos hodd])
            have htm := tmod_odd q hodd
            clear hodd
            go_wp2_with fail
            refine region_tail 9 (by kernel_rfl) (by kernel_rfl) ?_
            simp only [List.take_succ_cons, List.take_zero, List.drop_succ_cons, List.drop_zero]
            repeat still_step
            refine wpStill_nil ?_
            go_wp2_with fail
            exact FIN.out 64 _ HN0.out (by rw [List.take_of_length_le (by have := HPW.out.2; omega), List.drop_of_length_le (by have := HOL.out; omega), List.append_nil])
          · have HN0 := Aside0.mk (show f k = 0 by rw [HC.out, if_neg hodd])
            have htm := tmod_even q (by omega)
            clear hodd
            go_wp2_with fail
            exact STAY.out HN0.out
        · have HN0 := Aside0.mk (show f k = 0 by
            rw [HF.out]; unfold crashN; rw [if_neg ht]
            have hklen : keeps.length = kl := HKS.out.1
            rw [if_neg (fun h => by omega)])
          go_wp2_with fail
          exact STAY.out HN0.out
    · obtain rfl : k = d.cache.length := by omega
      have f1 := blk_frozen HG.out 1
      have f2 := blk_frozen HG.out 2
      have f3 := blk_frozen HG.out 3
      have k2 := (blk_cell HG.out 2).trans rfl
      have k3 := (blk_cell HG.out 3).trans rfl
      have hco := crash_ok f HLE.out d.lasts HOK.out.secs d.cache HOK.out.wrs 0
      have HCO := Aside0.mk hco
      clear hco
      go_wp2_with fail
      go_end0
      have hlr := HLr.out
      rw [List.take_length] at hlr
      have g1 := blk_put HG.out 1 (.slice none 0 0) rfl
      have g2 := blk_put g1 2 (.int .i64 (-1)) rfl
      have g3 := blk_put g2 3 (.bool false) rfl
      have hl3 := Kd.R_set (Kd.R_set (Kd.R_set hlr HG.out (by decide) 1 (.slice none 0 0)) g1 (by decide) 2 (.int .i64 (-1))) g2 (by decide) 3 (.bool false)
      have hcl : (crashAll f d.lasts d.cache).length = d.lasts.length := HCO.out.1
      refine ⟨rfl, ⟨.slice (some ⟨gl, 0, none⟩) d.lasts.length cl, .slice none 0 0, ?_, ?_, Kd.R_nil _ _ _ _ _, HGE.out, ⟨?_, ?_, ?_, by simp [DSt.crash]⟩⟩, below_set (below_set (below_set HB.out HGE.out) HGE.out) HGE.out, Keep.trans HK.out.1 (Keep.trans (Keep.trans (Keep.set HG.out) (Keep.set g1) (by simp)) (Keep.set g2) (by simp)) HK.out.2⟩
      · exact g3
      · have e : Lb (d.crash keeps torn bytes) = (crashAll f d.lasts d.cache).map mkB := by rw [HF.out]; rfl
        rw [e]
        exact hl3
      · simp only [DSt.crash, ← HF.out, hcl]; exact HOK.out.one
      · simp only [DSt.crash, ← HF.out, hcl]; exact HOK.out.most
      · simp only [DSt.crash, ← HF.out]; exact HCO.out.2
end Go.Proofs.Ytfhfnnpadfibkaa
