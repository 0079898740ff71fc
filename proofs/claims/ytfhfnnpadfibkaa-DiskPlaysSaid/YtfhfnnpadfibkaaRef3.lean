/-
  The document's own disk: a write.
-/
import Derived.Test.YtfhfnnpadfibkaaRef2
set_option linter.unusedVariables false
set_option linter.unusedSimpArgs false
namespace Go.Proofs.Ytfhfnnpadfibkaa
open Go.RowKit Go.Proofs.YtfhfnnpadfibkaaW.PrintWords Go.Proofs.YtfhfnnpadfibkaaW.PrintLast Go.Proofs.YtfhfnnpadfibkaaW.PrintMore

theorem mkB_append (a b : List UInt8) : mkB a ++ mkB b = mkB (a ++ b) := by
  apply ByteArray.ext
  simp [mkB, ByteArray.data_append]
theorem mkB_toList (s : ByteArray) : mkB s.data.toList = s := by
  apply ByteArray.ext
  simp [mkB]
theorem Kd.info_wr4 : (Try.prog.info? 69).map (fun i => (i.zero, i.size, i.bytes)) = some (some (.agg #[.int .i64 0, .string ⟨#[]⟩]), 2, 24) := by kernel_rfl
set_option maxHeartbeats 4000000 in
set_option maxRecDepth 100000 in
theorem ref_write_yes (w0 w : World) (g : Nat) (d : DSt) (n : Int) (s : ByteArray) (h : RfAt w0 w g d) (hB : Below w0.heap.size w0 w) (hfz : d.fuse ≤ 9223372036854775807 ∧ -1 ≤ d.fuse) (hmost : d.many < 1000000 ∧ d.cache.length < 1000000) (hf : d.fault n = 0) (hs : s.size ≤ 64) (h0 : ¬ d.fuse = 0) :
    Calls Try.prog 19 #[.pointer (some ⟨g, 0, none⟩), .int .i64 n, .string s] w fun e w' => e = .returned (.int .i64 ((d.write n s.data.toList).2 : Int)) ∧ RfAt w0 w' g (d.write n s.data.toList).1 ∧ Below w0.heap.size w0 w' ∧ Keep w w' := by
  obtain ⟨lv, cv, hg, hl, hc, hge, hok⟩ := h
  obtain ⟨Al, cl, rfl⟩ := Kd.R_slice hl
  obtain ⟨Ac, cc, rfl⟩ := Kd.R_slice hc
  rw [Lb_length, Cb_length] at hg
  rw [Lb_length] at hl
  rw [Cb_length] at hc
  have hd : d.down = false := by
    cases hq : d.down with
    | false => rfl
    | true => simp [DSt.fault, hq] at hf
  have hn : 0 ≤ n ∧ n < d.lasts.length := by
    simp only [DSt.fault, hd] at hf
    split at hf
    · simp at hf
    · split at hf
      · simp at hf
      · omega
  obtain ⟨m, rfl⟩ := Int.eq_ofNat_of_zero_le hn.1
  have hml : m < d.lasts.length := by omega
  rw [hd] at hg
  have hsl := bytes_length s
  have HE := Aside0.mk (show d.write m s.data.toList = ({ d with fuse := if 0 < d.fuse then d.fuse - 1 else d.fuse, cache := d.cache ++ [(m, pad s.data.toList)], many := d.many + 1 }, 0) by
    have h2 : ¬ 64 < s.data.toList.length := by rw [hsl]; omega
    simp only [DSt.write, hf, h0, h2, if_false, ne_eq, not_true_eq_false, Int.toNat_natCast])
  have e64 : (64 : Int) - (s.size : Int) = ((64 - s.size : Nat) : Int) := by omega
  obtain ⟨Z, hZ⟩ : ∃ Z : List Value, Z = (List.replicate (64 - s.size) (0 : UInt8)).map byteV := ⟨_, rfl⟩
  obtain ⟨z, hz⟩ : ∃ z : List UInt8, z = List.replicate (64 - s.size) (0 : UInt8) := ⟨_, rfl⟩
  have lz : z.length = 64 - s.size := by rw [hz]; simp
  have hmk : ∀ w : World, (Instr.makeSlice 66 (.int .i64 (64 - (s.size : Int))) (.int .i64 (64 - (s.size : Int)))).run Try.prog w = .ok (.slice (some ⟨w.heap.size, 0, none⟩) (64 - s.size) (64 - s.size)) (w.alloc (.cells Z.toArray 5)) := by
    intro w
    have := run_make_row' (P := Try.prog) 66 5 (.int .u8 0) 1 Try.underlying66 Try.infoU8 rfl .i64 .i64 (64 - s.size) (by omega) (by omega) w
    rw [hZ, ← zerosB]
    rw [e64, this]
    have h2 := madeCells_replicate (.int .u8 0) 1 (64 - s.size) (by decide)
    rw [← h2]
    rfl
  have hmkw : ∀ w : World, (Instr.makeSlice 66 (.int .i64 (wrap64 (64 - (s.size : Int)))) (.int .i64 (wrap64 (64 - (s.size : Int))))).run Try.prog w = .ok (.slice (some ⟨w.heap.size, 0, none⟩) (64 - s.size) (64 - s.size)) (w.alloc (.cells Z.toArray 5)) := by
    rw [show wrap64 (64 - (s.size : Int)) = 64 - (s.size : Int) by unfold wrap64; omega]
    exact hmk
  have hcv : ∀ w : World, (convert 66 9 (.slice (some ⟨w.heap.size, 0, none⟩) (64 - s.size) (64 - s.size))).run Try.prog (w.alloc (.cells Z.toArray 5)) = .ok (.string (mkB z)) (w.alloc (.cells Z.toArray 5)) := by
    intro w
    have := run_convert_bytes_back (P := Try.prog) (w.alloc (.cells Z.toArray 5)) 66 9 5 ⟨w.heap.size, 0, none⟩ (64 - s.size) z Try.underlying66 Try.underlying5 Try.underlying9 (fun j hj => by
      rw [plain_add, Nat.zero_add, cell_of_row _ _ j _ _ _ (heap_alloc_new w _), hZ, ← hz]
      simp [byteV, hj])
    rwa [lz] at this
  have hcvw : ∀ W : World, (convert 66 9 (.slice (some ⟨W.heap.size, 0, none⟩) (64 - s.size) (64 - s.size))).run Try.prog (W.alloc (.cells Z.toArray 5)).drew = .ok (.string (mkB z)) (W.alloc (.cells Z.toArray 5)).drew := fun W => hcv W.drew
  have HP := Aside0.mk (show s ++ mkB z = mkB (pad s.data.toList) by rw [hz, pad, ← mkB_append, mkB_toList, hsl])
  have hcat : ¬ 9223372036854775807 < s.size + (mkB z).size := by
    have : (mkB z).size = z.length := by
      show z.toArray.size = z.length
      simp
    omega
  have HG := Aside0.mk hg
  have HLr := Aside0.mk hl
  have HCr := Aside0.mk hc
  have HGE := Aside0.mk hge
  have HOK := Aside0.mk hok
  have HB := Aside0.mk hB
  have HML := Aside0.mk hml
  have HD := Aside0.mk hd
  have c3 := (blk_cell hg 3).trans rfl
  have c0 := (blk_cell hg 0).trans rfl
  have c1 := (blk_cell hg 1).trans rfl
  have c2 := (blk_cell hg 2).trans rfl
  have c4 := (blk_cell hg 4).trans rfl
  have f1 := blk_frozen hg 1
  have f2 := blk_frozen hg 2
  have f4 := blk_frozen hg 4
  have hmx := hok.most
  have hn0 : ¬ (m : Int) < 0 := by omega
  have hn1 : (m : Int) < (d.lasts.length : Int) := by omega
  clear hg hl hc hge hok hB hsl e64 hZ hz hf hn hml lz hd
  have hmany := hmost.1
  have hml2 := hmost.2
  by_cases hp : 0 < d.fuse
  · have hfz1 := hfz.1
    have HF := Aside0.mk (show (if 0 < d.fuse then d.fuse - 1 else d.fuse) = d.fuse - 1 by rw [if_pos hp])
    go_enter Try.func19, Try.ntmps19
    go_wp2_with fail
    obtain ⟨W1, hW1⟩ : ∃ W1, W1 = (w.setCell ⟨g, 2, none⟩ (.int .i64 (d.fuse - 1))).setCell ⟨g, 4, none⟩ (.int .i64 ((d.many : Int) + 1)) := ⟨_, rfl⟩
    obtain ⟨fu, hfu⟩ : ∃ fu, fu = d.fuse - 1 := ⟨_, rfl⟩
    have KG := Aside0.mk (show W1.heap[g]? = some (.cells #[.slice Al d.lasts.length cl, .slice Ac d.cache.length cc, .int .i64 fu, .bool false, .int .i64 ((d.many : Int) + 1)] 53 (0, 0)) by rw [hW1, hfu]; exact blk_put (blk_put HG.out 2 _ rfl) 4 _ rfl)
    have KL := Aside0.mk (show Kd.R Kd.string 9 W1 w0.heap.size (fun _ => True) (.slice Al d.lasts.length cl) (Lb d) by rw [hW1]; exact Kd.R_set (Kd.R_set HLr.out HG.out (by decide) 2 _) (blk_put HG.out 2 _ rfl) (by decide) 4 _)
    have KC := Aside0.mk (show Kd.R PD.k69 69 W1 w0.heap.size (fun _ => True) (.slice Ac d.cache.length cc) (Cb d) by rw [hW1]; exact Kd.R_set (Kd.R_set HCr.out HG.out (by decide) 2 _) (blk_put HG.out 2 _ rfl) (by decide) 4 _)
    have KB := Aside0.mk (show Below w0.heap.size w0 W1 by rw [hW1]; exact below_set (below_set HB.out HGE.out) HGE.out)
    have KK := Aside0.mk (show Keep w W1 ∧ w.heap.size ≤ W1.heap.size by rw [hW1]; exact ⟨Keep.trans (Keep.set HG.out) (Keep.set (blk_put HG.out 2 _ rfl)) (by simp), by simp⟩)
    have KF := Aside0.mk (HF.out.trans hfu.symm)
    rw [← hW1]
    clear hW1 hfu HG HLr HCr HB c0 c1 c2 c3 c4 f1 f2 f4 hp HF
    have k1 := (blk_cell KG.out 1).trans rfl
    refine start_ (n := 19) (S := fun w' => w'.cell? ⟨g, 1, none⟩ = some (.slice Ac d.cache.length cc)) (ds := [15, 18]) #[false, false, false, false, false, false, false, false, false, false, false, false, false, false, false, false, false, false, false] (by kernel_rfl) rfl rfl k1 (fun hHeld => ?_)
    refine pure_ (i := 0) (N := some 56) (v := ?_) (a' := ?_) #[true, false, false, false, false, false, false, false, false, false, false, false, false, false, false, false, false, false, false] rfl rfl (by kernel_rfl) (fun _ _ _ h => h) (Or.inl ⟨by rfl, ?_⟩) ?_ ?_
    rotate_left
    · intro w'
      go_simp
      with_reducible rfl
    rotate_left
    · simp only [Act.put, List.setIfInBounds_toArray, List.set_cons_zero, List.set_cons_succ, i64_w, i32_w]
      rfl
    refine pure_ (i := 1) (N := some 57) (v := ?_) (a' := ?_) #[true, true, false, false, false, false, false, false, false, false, false, false, false, false, false, false, false, false, false] rfl rfl (by kernel_rfl) (fun _ _ _ h => h) (Or.inl ⟨by rfl, ?_⟩) ?_ ?_
    rotate_left
    · intro w'
      go_simp
      with_reducible rfl
    rotate_left
    · simp only [Act.put, List.setIfInBounds_toArray, List.set_cons_zero, List.set_cons_succ, i64_w, i32_w]
      rfl
    refine pure_ (i := 2) (N := some 58) (v := ?_) (a' := ?_) #[true, true, true, false, false, false, false, false, false, false, false, false, false, false, false, false, false, false, false] rfl rfl (by kernel_rfl) (fun _ _ _ h => h) (Or.inl ⟨by rfl, ?_⟩) ?_ ?_
    rotate_left
    · intro w'
      go_simp
      with_reducible rfl
    rotate_left
    · simp only [Act.put, List.setIfInBounds_toArray, List.set_cons_zero, List.set_cons_succ, i64_w, i32_w]
      rfl
    refine pure_ (i := 3) (N := some 59) (v := ?_) (a' := ?_) #[true, true, true, true, false, false, false, false, false, false, false, false, false, false, false, false, false, false, false] rfl rfl (by kernel_rfl) (fun _ _ _ h => h) (Or.inl ⟨by rfl, ?_⟩) ?_ ?_
    rotate_left
    · intro w'
      go_simp
      with_reducible rfl
    rotate_left
    · simp only [Act.put, List.setIfInBounds_toArray, List.set_cons_zero, List.set_cons_succ, i64_w, i32_w]
      rfl
    refine take_ (i := 4) (N := some 60) (v := ?_) (a' := ?_) #[true, true, true, true, true, false, false, false, false, false, false, false, false, false, false, false, false, false, false] rfl rfl (by kernel_rfl) (fun _ _ _ h => h) (Or.inl ⟨by rfl, ?_⟩) hHeld ?_ ?_
    rotate_left
    · intro w' s0
      go_simp
      with_reducible rfl
    rotate_left
    · simp only [Act.put, List.setIfInBounds_toArray, List.set_cons_zero, List.set_cons_succ, i64_w, i32_w]
      rfl
    refine pure_ (i := 5) (N := some 61) (v := ?_) (a' := ?_) #[true, true, true, true, true, true, false, false, false, false, false, false, false, false, false, false, false, false, false] rfl rfl (by kernel_rfl) (fun _ _ _ h => h) (Or.inl ⟨by rfl, ?_⟩) ?_ ?_
    rotate_left
    · intro w'
      go_simp
      with_reducible rfl
    rotate_left
    · simp only [Act.put, List.setIfInBounds_toArray, List.set_cons_zero, List.set_cons_succ, i64_w, i32_w]
      rfl
    refine pure_ (i := 6) (N := some 62) (v := ?_) (a' := ?_) #[true, true, true, true, true, true, true, false, false, false, false, false, false, false, false, false, false, false, false] rfl rfl (by kernel_rfl) (fun _ _ _ h => h) (Or.inl ⟨by rfl, ?_⟩) ?_ ?_
    rotate_left
    · intro w'
      go_simp
      with_reducible rfl
    rotate_left
    · simp only [Act.put, List.setIfInBounds_toArray, List.set_cons_zero, List.set_cons_succ, i64_w, i32_w]
      rfl
    refine pure_ (i := 7) (N := some 63) (v := ?_) (a' := ?_) #[true, true, true, true, true, true, true, true, false, false, false, false, false, false, false, false, false, false, false] rfl rfl (by kernel_rfl) (fun _ _ _ h => h) (Or.inl ⟨by rfl, ?_⟩) ?_ ?_
    rotate_left
    · intro w'
      go_simp
      with_reducible rfl
    rotate_left
    · simp only [Act.put, List.setIfInBounds_toArray, List.set_cons_zero, List.set_cons_succ, i64_w, i32_w]
      rfl
    refine pure_ (i := 8) (N := some 64) (v := ?_) (a' := ?_) #[true, true, true, true, true, true, true, true, true, false, false, false, false, false, false, false, false, false, false] rfl rfl (by kernel_rfl) (fun _ _ _ h => h) (Or.inl ⟨by rfl, ?_⟩) ?_ ?_
    rotate_left
    · intro w'
      go_simp
      with_reducible rfl
    rotate_left
    · simp only [Act.put, List.setIfInBounds_toArray, List.set_cons_zero, List.set_cons_succ, i64_w, i32_w]
      rfl
    refine pure_ (i := 9) (N := some 65) (v := ?_) (a' := ?_) #[true, true, true, true, true, true, true, true, true, true, false, false, false, false, false, false, false, false, false] rfl rfl (by kernel_rfl) (fun _ _ _ h => h) (Or.inl ⟨by rfl, ?_⟩) ?_ ?_
    rotate_left
    · intro w'
      go_simp
      with_reducible rfl
    rotate_left
    · simp only [Act.put, List.setIfInBounds_toArray, List.set_cons_zero, List.set_cons_succ, i64_w, i32_w]
      rfl
    refine one_ (i := 10) (N := some 66) #[true, true, true, true, true, true, true, true, true, true, true, false, false, false, false, false, false, false, false] rfl rfl (by kernel_rfl) (by decide) (fun K hK => ?_)
    refine value_ (w1 := ?_) (v := ?_) (by rfl) rfl ?_ ?_
    rotate_left 2
    · go_simp
      constructor
      · rfl
      · rfl
    refine hK.out _ _ ((World.cell?_alloc_lt _ _ _ (World.block_lt_of_cell? _ _ hHeld)).trans hHeld) (fun hHeld => ?_)
    clear hK K
    refine norm_ (a' := ?_) ?_ ?_
    rotate_left
    · show Act.put _ (some 66) _ = _
      simp only [Act.put, List.setIfInBounds_toArray, List.set_cons_zero, List.set_cons_succ, i64_w, i32_w]
      rfl
    refine one_ (i := 11) (N := some 67) #[true, true, true, true, true, true, true, true, true, true, true, true, false, false, false, false, false, false, false] rfl rfl (by kernel_rfl) (by decide) (fun K hK => ?_)
    refine value_ (w1 := ?_) (v := ?_) (by rfl) rfl ?_ ?_
    rotate_left 2
    · go_simp
      constructor
      · rfl
      · rfl
    refine hK.out _ _ hHeld (fun hHeld => ?_)
    clear hK K
    refine norm_ (a' := ?_) ?_ ?_
    rotate_left
    · show Act.put _ (some 67) _ = _
      simp only [Act.put, List.setIfInBounds_toArray, List.set_cons_zero, List.set_cons_succ, i64_w, i32_w]
      rfl
    refine pure_ (i := 12) (N := some 68) (v := ?_) (a' := ?_) #[true, true, true, true, true, true, true, true, true, true, true, true, true, false, false, false, false, false, false] rfl rfl (by kernel_rfl) (fun _ _ _ h => h) (Or.inl ⟨by rfl, ?_⟩) ?_ ?_
    rotate_left
    · intro w'
      go_simp
      with_reducible rfl
    rotate_left
    · simp only [Act.put, List.setIfInBounds_toArray, List.set_cons_zero, List.set_cons_succ, i64_w, i32_w]
      rfl
    refine pure_ (i := 13) (N := some 69) (v := ?_) (a' := ?_) #[true, true, true, true, true, true, true, true, true, true, true, true, true, true, false, false, false, false, false] rfl rfl (by kernel_rfl) (fun _ _ _ h => h) (Or.inl ⟨by rfl, ?_⟩) ?_ ?_
    rotate_left
    · intro w'
      go_simp
      with_reducible rfl
    rotate_left
    · simp only [Act.put, List.setIfInBounds_toArray, List.set_cons_zero, List.set_cons_succ, i64_w, i32_w]
      rfl
    refine one_ (i := 14) (N := some 70) #[true, true, true, true, true, true, true, true, true, true, true, true, true, true, true, false, false, false, false] rfl rfl (by kernel_rfl) (by decide) (fun K hK => ?_)
    refine value_ (w1 := ?_) (v := ?_) (by rfl) rfl ?_ ?_
    rotate_left 2
    · go_simp
      constructor
      · rfl
      · rfl
    refine hK.out _ _ ((World.cell?_alloc_lt _ _ _ (World.block_lt_of_cell? _ _ hHeld)).trans hHeld) (fun hHeld => ?_)
    clear hK K
    refine norm_ (a' := ?_) ?_ ?_
    rotate_left
    · show Act.put _ (some 70) _ = _
      simp only [Act.put, List.setIfInBounds_toArray, List.set_cons_zero, List.set_cons_succ, i64_w, i32_w]
      rfl
    refine last_ (i := 15) (N := some 71) #[true, true, true, true, true, true, true, true, true, true, true, true, true, true, true, true, false, false, false] rfl rfl (by kernel_rfl) (by decide) (fun K hK => ?_)
    rw [show ∀ (W : World) (o : Obj), (W.alloc o).drew = W.drew.alloc o from fun _ _ => rfl]
    refine Kd.R_append_step PD.k69 (w0 := w0) w0.heap.size (by rfl) (.tmp 60) (.tmp 70) 51 69 (.agg #[.int .i64 0, .string ⟨#[]⟩]) 24 rfl Try.underlying51 Kd.info_wr4 rfl (by decide) (by omega) (.slice Ac d.cache.length cc) (Cb d) (⟨(m : Int), s ++ mkB z⟩ : PD.S69) [.int .i64 (m : Int), .string (s ++ mkB z)] (fun _ => True) (fun _ => False) rfl ?hx ?aP (fun _ hk => hk.elim) ?aF ?aO ?aB ?aS ?aL ?_
    case hx => (show Value.slice (some ⟨W1.heap.size + 1, 0, none⟩) 1 1 = _; simp)
    case aP => exact PD.k69_mkM _ _ _ (⟨(m : Int), s ++ mkB z⟩ : PD.S69)
    case aF => exact fun _ _ => trivial
    case aO => exact (by (repeat (first | with_reducible apply Kd.R_alloc | with_reducible apply Kd.R_drewN | with_reducible apply Kd.R_drew)); exact KC.out)
    case aB => exact (by (repeat (first | with_reducible apply below_alloc | with_reducible apply pw_below_drewN | with_reducible apply below_drew1)); exact KB.out)
    case aS => exact (below_size (by (repeat (first | with_reducible apply below_alloc | with_reducible apply pw_below_drewN | with_reducible apply below_drew1)); exact KB.out))
    case aL => rw [Cb_length]; omega
    intro v3 w3 ho hb hg hat
    have KC3 := Aside0.mk ho
    have KB3 := Aside0.mk hb
    have KG3 := Aside0.mk (blk_grown (g := g) (o := .cells #[.slice Al d.lasts.length cl, .slice Ac d.cache.length cc, .int .i64 fu, .bool false, .int .i64 (d.many + 1)] 53 (0, 0)) (by (repeat (first | with_reducible refine blk_drewN ?_ _ | with_reducible refine blk_drew ?_ | with_reducible refine blk_alloc ?_ _)); exact KG.out) hg (Kd.R_ne KC.out KG.out (by decide)))
    have KL3 := Aside0.mk (Kd.R_over (by (repeat (first | with_reducible apply Kd.R_alloc | with_reducible apply Kd.R_drewN | with_reducible apply Kd.R_drew)); exact KL.out) (by (repeat (first | with_reducible apply Kd.R_alloc | with_reducible apply Kd.R_drewN | with_reducible apply Kd.R_drew)); exact KC.out) (by decide) hg)
    have KK3 := Aside0.mk (Keep.trans (Keep.trans KK.out.1 (Keep.below (by (repeat (first | with_reducible apply below_alloc | with_reducible apply pw_below_drewN | with_reducible apply below_drew1)); exact Below.refl _ _)) KK.out.2) (Keep.own (by (repeat (first | with_reducible apply Kd.R_alloc | with_reducible apply Kd.R_drewN | with_reducible apply Kd.R_drew)); exact KC.out) hg (Or.inr (Or.inr rfl))) (by simp; exact Nat.le_trans KK.out.2 (by omega)))
    obtain ⟨A3, c3', hv3⟩ := Kd.R_slice ho
    rw [List.length_append, Cb_length] at hv3
    simp only [List.length_cons, List.length_nil] at hv3
    subst hv3
    have KS3 := Aside0.mk (show W1.heap.size ≤ w3.heap.size by have := hg.size; simp at this; omega)
    have y1 := (blk_cell KG3.out 1).trans rfl
    have y2 := blk_frozen KG3.out 1
    clear ho hb hg hat
    refine hK.out _ _ ?_
    clear hK K
    refine norm_ (a' := ?_) ?_ ?_
    rotate_left
    · show Act.put _ (some 71) _ = _
      simp only [Act.put, List.setIfInBounds_toArray, List.set_cons_zero, List.set_cons_succ, i64_w, i32_w]
      rfl
    refine pure_ (i := 16) (N := some 72) (v := ?_) (a' := ?_) #[true, true, true, true, true, true, true, true, true, true, true, true, true, true, true, true, true, false, false] rfl rfl (by kernel_rfl) (fun _ _ _ h => h) (Or.inl ⟨by rfl, ?_⟩) ?_ ?_
    rotate_left
    · intro w'
      go_simp
      with_reducible rfl
    rotate_left
    · simp only [Act.put, List.setIfInBounds_toArray, List.set_cons_zero, List.set_cons_succ, i64_w, i32_w]
      rfl
    refine pure_ (i := 17) (N := some 73) (v := ?_) (a' := ?_) #[true, true, true, true, true, true, true, true, true, true, true, true, true, true, true, true, true, true, false] rfl rfl (by kernel_rfl) (fun _ _ _ h => h) (Or.inl ⟨by rfl, ?_⟩) ?_ ?_
    rotate_left
    · intro w'
      go_simp
      with_reducible rfl
    rotate_left
    · simp only [Act.put, List.setIfInBounds_toArray, List.set_cons_zero, List.set_cons_succ, i64_w, i32_w]
      rfl
    refine last_ (i := 18) (N := none) #[true, true, true, true, true, true, true, true, true, true, true, true, true, true, true, true, true, true, true] rfl rfl (by kernel_rfl) (by decide) (fun K hK => ?_)
    refine skip_ (w1 := ?_) (by rfl) rfl ?_ ?_
    rotate_left
    · go_simp
      rfl
    refine hK.out _ _ ?_
    clear hK K
    refine done_ (by kernel_rfl) ?_
    go_wp2_with fail
    go_ret
    refine ⟨by rw [HE.out]; rfl, ?_, below_set KB3.out HGE.out, Keep.trans KK3.out (Keep.set KG3.out) (Nat.le_trans KK.out.2 KS3.out)⟩
    rw [HE.out]
    have hcb : Cb { d with fuse := if 0 < d.fuse then d.fuse - 1 else d.fuse, cache := d.cache ++ [(m, pad s.data.toList)], many := d.many + 1 } = Cb d ++ [⟨(m : Int), s ++ mkB z⟩] := by simp [Cb, HP.out]
    refine ⟨_, _, blk_put KG3.out 1 _ (by rw [KF.out, HD.out]; rfl), Kd.R_set KL3.out KG3.out (by decide) 1 _, ?_, HGE.out, ⟨HOK.out.one, HOK.out.most, HOK.out.secs, fun p hp => ?_⟩⟩
    · rw [hcb]
      exact Kd.R_set KC3.out KG3.out (by decide) 1 _
    · rcases List.mem_append.1 hp with hp | hp
      · exact HOK.out.wrs p hp
      · rw [List.mem_singleton.1 hp]
        exact ⟨HML.out, pad_length _ (by rw [bytes_length]; exact hs)⟩
  · skip
    have HF := Aside0.mk (show (if 0 < d.fuse then d.fuse - 1 else d.fuse) = d.fuse by rw [if_neg hp])
    go_enter Try.func19, Try.ntmps19
    go_wp2_with fail
    obtain ⟨W1, hW1⟩ : ∃ W1, W1 = w.setCell ⟨g, 4, none⟩ (.int .i64 ((d.many : Int) + 1)) := ⟨_, rfl⟩
    obtain ⟨fu, hfu⟩ : ∃ fu, fu = d.fuse := ⟨_, rfl⟩
    have KG := Aside0.mk (show W1.heap[g]? = some (.cells #[.slice Al d.lasts.length cl, .slice Ac d.cache.length cc, .int .i64 fu, .bool false, .int .i64 ((d.many : Int) + 1)] 53 (0, 0)) by rw [hW1, hfu]; exact blk_put HG.out 4 _ rfl)
    have KL := Aside0.mk (show Kd.R Kd.string 9 W1 w0.heap.size (fun _ => True) (.slice Al d.lasts.length cl) (Lb d) by rw [hW1]; exact Kd.R_set HLr.out HG.out (by decide) 4 _)
    have KC := Aside0.mk (show Kd.R PD.k69 69 W1 w0.heap.size (fun _ => True) (.slice Ac d.cache.length cc) (Cb d) by rw [hW1]; exact Kd.R_set HCr.out HG.out (by decide) 4 _)
    have KB := Aside0.mk (show Below w0.heap.size w0 W1 by rw [hW1]; exact below_set HB.out HGE.out)
    have KK := Aside0.mk (show Keep w W1 ∧ w.heap.size ≤ W1.heap.size by rw [hW1]; exact ⟨Keep.set HG.out, by simp⟩)
    have KF := Aside0.mk (HF.out.trans hfu.symm)
    rw [← hW1]
    clear hW1 hfu HG HLr HCr HB c0 c1 c2 c3 c4 f1 f2 f4 hp HF
    have k1 := (blk_cell KG.out 1).trans rfl
    refine start_ (n := 19) (S := fun w' => w'.cell? ⟨g, 1, none⟩ = some (.slice Ac d.cache.length cc)) (ds := [15, 18]) #[false, false, false, false, false, false, false, false, false, false, false, false, false, false, false, false, false, false, false] (by kernel_rfl) rfl rfl k1 (fun hHeld => ?_)
    refine pure_ (i := 0) (N := some 56) (v := ?_) (a' := ?_) #[true, false, false, false, false, false, false, false, false, false, false, false, false, false, false, false, false, false, false] rfl rfl (by kernel_rfl) (fun _ _ _ h => h) (Or.inl ⟨by rfl, ?_⟩) ?_ ?_
    rotate_left
    · intro w'
      go_simp
      with_reducible rfl
    rotate_left
    · simp only [Act.put, List.setIfInBounds_toArray, List.set_cons_zero, List.set_cons_succ, i64_w, i32_w]
      rfl
    refine pure_ (i := 1) (N := some 57) (v := ?_) (a' := ?_) #[true, true, false, false, false, false, false, false, false, false, false, false, false, false, false, false, false, false, false] rfl rfl (by kernel_rfl) (fun _ _ _ h => h) (Or.inl ⟨by rfl, ?_⟩) ?_ ?_
    rotate_left
    · intro w'
      go_simp
      with_reducible rfl
    rotate_left
    · simp only [Act.put, List.setIfInBounds_toArray, List.set_cons_zero, List.set_cons_succ, i64_w, i32_w]
      rfl
    refine pure_ (i := 2) (N := some 58) (v := ?_) (a' := ?_) #[true, true, true, false, false, false, false, false, false, false, false, false, false, false, false, false, false, false, false] rfl rfl (by kernel_rfl) (fun _ _ _ h => h) (Or.inl ⟨by rfl, ?_⟩) ?_ ?_
    rotate_left
    · intro w'
      go_simp
      with_reducible rfl
    rotate_left
    · simp only [Act.put, List.setIfInBounds_toArray, List.set_cons_zero, List.set_cons_succ, i64_w, i32_w]
      rfl
    refine pure_ (i := 3) (N := some 59) (v := ?_) (a' := ?_) #[true, true, true, true, false, false, false, false, false, false, false, false, false, false, false, false, false, false, false] rfl rfl (by kernel_rfl) (fun _ _ _ h => h) (Or.inl ⟨by rfl, ?_⟩) ?_ ?_
    rotate_left
    · intro w'
      go_simp
      with_reducible rfl
    rotate_left
    · simp only [Act.put, List.setIfInBounds_toArray, List.set_cons_zero, List.set_cons_succ, i64_w, i32_w]
      rfl
    refine take_ (i := 4) (N := some 60) (v := ?_) (a' := ?_) #[true, true, true, true, true, false, false, false, false, false, false, false, false, false, false, false, false, false, false] rfl rfl (by kernel_rfl) (fun _ _ _ h => h) (Or.inl ⟨by rfl, ?_⟩) hHeld ?_ ?_
    rotate_left
    · intro w' s0
      go_simp
      with_reducible rfl
    rotate_left
    · simp only [Act.put, List.setIfInBounds_toArray, List.set_cons_zero, List.set_cons_succ, i64_w, i32_w]
      rfl
    refine pure_ (i := 5) (N := some 61) (v := ?_) (a' := ?_) #[true, true, true, true, true, true, false, false, false, false, false, false, false, false, false, false, false, false, false] rfl rfl (by kernel_rfl) (fun _ _ _ h => h) (Or.inl ⟨by rfl, ?_⟩) ?_ ?_
    rotate_left
    · intro w'
      go_simp
      with_reducible rfl
    rotate_left
    · simp only [Act.put, List.setIfInBounds_toArray, List.set_cons_zero, List.set_cons_succ, i64_w, i32_w]
      rfl
    refine pure_ (i := 6) (N := some 62) (v := ?_) (a' := ?_) #[true, true, true, true, true, true, true, false, false, false, false, false, false, false, false, false, false, false, false] rfl rfl (by kernel_rfl) (fun _ _ _ h => h) (Or.inl ⟨by rfl, ?_⟩) ?_ ?_
    rotate_left
    · intro w'
      go_simp
      with_reducible rfl
    rotate_left
    · simp only [Act.put, List.setIfInBounds_toArray, List.set_cons_zero, List.set_cons_succ, i64_w, i32_w]
      rfl
    refine pure_ (i := 7) (N := some 63) (v := ?_) (a' := ?_) #[true, true, true, true, true, true, true, true, false, false, false, false, false, false, false, false, false, false, false] rfl rfl (by kernel_rfl) (fun _ _ _ h => h) (Or.inl ⟨by rfl, ?_⟩) ?_ ?_
    rotate_left
    · intro w'
      go_simp
      with_reducible rfl
    rotate_left
    · simp only [Act.put, List.setIfInBounds_toArray, List.set_cons_zero, List.set_cons_succ, i64_w, i32_w]
      rfl
    refine pure_ (i := 8) (N := some 64) (v := ?_) (a' := ?_) #[true, true, true, true, true, true, true, true, true, false, false, false, false, false, false, false, false, false, false] rfl rfl (by kernel_rfl) (fun _ _ _ h => h) (Or.inl ⟨by rfl, ?_⟩) ?_ ?_
    rotate_left
    · intro w'
      go_simp
      with_reducible rfl
    rotate_left
    · simp only [Act.put, List.setIfInBounds_toArray, List.set_cons_zero, List.set_cons_succ, i64_w, i32_w]
      rfl
    refine pure_ (i := 9) (N := some 65) (v := ?_) (a' := ?_) #[true, true, true, true, true, true, true, true, true, true, false, false, false, false, false, false, false, false, false] rfl rfl (by kernel_rfl) (fun _ _ _ h => h) (Or.inl ⟨by rfl, ?_⟩) ?_ ?_
    rotate_left
    · intro w'
      go_simp
      with_reducible rfl
    rotate_left
    · simp only [Act.put, List.setIfInBounds_toArray, List.set_cons_zero, List.set_cons_succ, i64_w, i32_w]
      rfl
    refine one_ (i := 10) (N := some 66) #[true, true, true, true, true, true, true, true, true, true, true, false, false, false, false, false, false, false, false] rfl rfl (by kernel_rfl) (by decide) (fun K hK => ?_)
    refine value_ (w1 := ?_) (v := ?_) (by rfl) rfl ?_ ?_
    rotate_left 2
    · go_simp
      constructor
      · rfl
      · rfl
    refine hK.out _ _ ((World.cell?_alloc_lt _ _ _ (World.block_lt_of_cell? _ _ hHeld)).trans hHeld) (fun hHeld => ?_)
    clear hK K
    refine norm_ (a' := ?_) ?_ ?_
    rotate_left
    · show Act.put _ (some 66) _ = _
      simp only [Act.put, List.setIfInBounds_toArray, List.set_cons_zero, List.set_cons_succ, i64_w, i32_w]
      rfl
    refine one_ (i := 11) (N := some 67) #[true, true, true, true, true, true, true, true, true, true, true, true, false, false, false, false, false, false, false] rfl rfl (by kernel_rfl) (by decide) (fun K hK => ?_)
    refine value_ (w1 := ?_) (v := ?_) (by rfl) rfl ?_ ?_
    rotate_left 2
    · go_simp
      constructor
      · rfl
      · rfl
    refine hK.out _ _ hHeld (fun hHeld => ?_)
    clear hK K
    refine norm_ (a' := ?_) ?_ ?_
    rotate_left
    · show Act.put _ (some 67) _ = _
      simp only [Act.put, List.setIfInBounds_toArray, List.set_cons_zero, List.set_cons_succ, i64_w, i32_w]
      rfl
    refine pure_ (i := 12) (N := some 68) (v := ?_) (a' := ?_) #[true, true, true, true, true, true, true, true, true, true, true, true, true, false, false, false, false, false, false] rfl rfl (by kernel_rfl) (fun _ _ _ h => h) (Or.inl ⟨by rfl, ?_⟩) ?_ ?_
    rotate_left
    · intro w'
      go_simp
      with_reducible rfl
    rotate_left
    · simp only [Act.put, List.setIfInBounds_toArray, List.set_cons_zero, List.set_cons_succ, i64_w, i32_w]
      rfl
    refine pure_ (i := 13) (N := some 69) (v := ?_) (a' := ?_) #[true, true, true, true, true, true, true, true, true, true, true, true, true, true, false, false, false, false, false] rfl rfl (by kernel_rfl) (fun _ _ _ h => h) (Or.inl ⟨by rfl, ?_⟩) ?_ ?_
    rotate_left
    · intro w'
      go_simp
      with_reducible rfl
    rotate_left
    · simp only [Act.put, List.setIfInBounds_toArray, List.set_cons_zero, List.set_cons_succ, i64_w, i32_w]
      rfl
    refine one_ (i := 14) (N := some 70) #[true, true, true, true, true, true, true, true, true, true, true, true, true, true, true, false, false, false, false] rfl rfl (by kernel_rfl) (by decide) (fun K hK => ?_)
    refine value_ (w1 := ?_) (v := ?_) (by rfl) rfl ?_ ?_
    rotate_left 2
    · go_simp
      constructor
      · rfl
      · rfl
    refine hK.out _ _ ((World.cell?_alloc_lt _ _ _ (World.block_lt_of_cell? _ _ hHeld)).trans hHeld) (fun hHeld => ?_)
    clear hK K
    refine norm_ (a' := ?_) ?_ ?_
    rotate_left
    · show Act.put _ (some 70) _ = _
      simp only [Act.put, List.setIfInBounds_toArray, List.set_cons_zero, List.set_cons_succ, i64_w, i32_w]
      rfl
    refine last_ (i := 15) (N := some 71) #[true, true, true, true, true, true, true, true, true, true, true, true, true, true, true, true, false, false, false] rfl rfl (by kernel_rfl) (by decide) (fun K hK => ?_)
    rw [show ∀ (W : World) (o : Obj), (W.alloc o).drew = W.drew.alloc o from fun _ _ => rfl]
    refine Kd.R_append_step PD.k69 (w0 := w0) w0.heap.size (by rfl) (.tmp 60) (.tmp 70) 51 69 (.agg #[.int .i64 0, .string ⟨#[]⟩]) 24 rfl Try.underlying51 Kd.info_wr4 rfl (by decide) (by omega) (.slice Ac d.cache.length cc) (Cb d) (⟨(m : Int), s ++ mkB z⟩ : PD.S69) [.int .i64 (m : Int), .string (s ++ mkB z)] (fun _ => True) (fun _ => False) rfl ?hx ?aP (fun _ hk => hk.elim) ?aF ?aO ?aB ?aS ?aL ?_
    case hx => (show Value.slice (some ⟨W1.heap.size + 1, 0, none⟩) 1 1 = _; simp)
    case aP => exact PD.k69_mkM _ _ _ (⟨(m : Int), s ++ mkB z⟩ : PD.S69)
    case aF => exact fun _ _ => trivial
    case aO => exact (by (repeat (first | with_reducible apply Kd.R_alloc | with_reducible apply Kd.R_drewN | with_reducible apply Kd.R_drew)); exact KC.out)
    case aB => exact (by (repeat (first | with_reducible apply below_alloc | with_reducible apply pw_below_drewN | with_reducible apply below_drew1)); exact KB.out)
    case aS => exact (below_size (by (repeat (first | with_reducible apply below_alloc | with_reducible apply pw_below_drewN | with_reducible apply below_drew1)); exact KB.out))
    case aL => rw [Cb_length]; omega
    intro v3 w3 ho hb hg hat
    have KC3 := Aside0.mk ho
    have KB3 := Aside0.mk hb
    have KG3 := Aside0.mk (blk_grown (g := g) (o := .cells #[.slice Al d.lasts.length cl, .slice Ac d.cache.length cc, .int .i64 fu, .bool false, .int .i64 (d.many + 1)] 53 (0, 0)) (by (repeat (first | with_reducible refine blk_drewN ?_ _ | with_reducible refine blk_drew ?_ | with_reducible refine blk_alloc ?_ _)); exact KG.out) hg (Kd.R_ne KC.out KG.out (by decide)))
    have KL3 := Aside0.mk (Kd.R_over (by (repeat (first | with_reducible apply Kd.R_alloc | with_reducible apply Kd.R_drewN | with_reducible apply Kd.R_drew)); exact KL.out) (by (repeat (first | with_reducible apply Kd.R_alloc | with_reducible apply Kd.R_drewN | with_reducible apply Kd.R_drew)); exact KC.out) (by decide) hg)
    have KK3 := Aside0.mk (Keep.trans (Keep.trans KK.out.1 (Keep.below (by (repeat (first | with_reducible apply below_alloc | with_reducible apply pw_below_drewN | with_reducible apply below_drew1)); exact Below.refl _ _)) KK.out.2) (Keep.own (by (repeat (first | with_reducible apply Kd.R_alloc | with_reducible apply Kd.R_drewN | with_reducible apply Kd.R_drew)); exact KC.out) hg (Or.inr (Or.inr rfl))) (by simp; exact Nat.le_trans KK.out.2 (by omega)))
    obtain ⟨A3, c3', hv3⟩ := Kd.R_slice ho
    rw [List.length_append, Cb_length] at hv3
    simp only [List.length_cons, List.length_nil] at hv3
    subst hv3
    have KS3 := Aside0.mk (show W1.heap.size ≤ w3.heap.size by have := hg.size; simp at this; omega)
    have y1 := (blk_cell KG3.out 1).trans rfl
    have y2 := blk_frozen KG3.out 1
    clear ho hb hg hat
    refine hK.out _ _ ?_
    clear hK K
    refine norm_ (a' := ?_) ?_ ?_
    rotate_left
    · show Act.put _ (some 71) _ = _
      simp only [Act.put, List.setIfInBounds_toArray, List.set_cons_zero, List.set_cons_succ, i64_w, i32_w]
      rfl
    refine pure_ (i := 16) (N := some 72) (v := ?_) (a' := ?_) #[true, true, true, true, true, true, true, true, true, true, true, true, true, true, true, true, true, false, false] rfl rfl (by kernel_rfl) (fun _ _ _ h => h) (Or.inl ⟨by rfl, ?_⟩) ?_ ?_
    rotate_left
    · intro w'
      go_simp
      with_reducible rfl
    rotate_left
    · simp only [Act.put, List.setIfInBounds_toArray, List.set_cons_zero, List.set_cons_succ, i64_w, i32_w]
      rfl
    refine pure_ (i := 17) (N := some 73) (v := ?_) (a' := ?_) #[true, true, true, true, true, true, true, true, true, true, true, true, true, true, true, true, true, true, false] rfl rfl (by kernel_rfl) (fun _ _ _ h => h) (Or.inl ⟨by rfl, ?_⟩) ?_ ?_
    rotate_left
    · intro w'
      go_simp
      with_reducible rfl
    rotate_left
    · simp only [Act.put, List.setIfInBounds_toArray, List.set_cons_zero, List.set_cons_succ, i64_w, i32_w]
      rfl
    refine last_ (i := 18) (N := none) #[true, true, true, true, true, true, true, true, true, true, true, true, true, true, true, true, true, true, true] rfl rfl (by kernel_rfl) (by decide) (fun K hK => ?_)
    refine skip_ (w1 := ?_) (by rfl) rfl ?_ ?_
    rotate_left
    · go_simp
      rfl
    refine hK.out _ _ ?_
    clear hK K
    refine done_ (by kernel_rfl) ?_
    go_wp2_with fail
    go_ret
    refine ⟨by rw [HE.out]; rfl, ?_, below_set KB3.out HGE.out, Keep.trans KK3.out (Keep.set KG3.out) (Nat.le_trans KK.out.2 KS3.out)⟩
    rw [HE.out]
    have hcb : Cb { d with fuse := if 0 < d.fuse then d.fuse - 1 else d.fuse, cache := d.cache ++ [(m, pad s.data.toList)], many := d.many + 1 } = Cb d ++ [⟨(m : Int), s ++ mkB z⟩] := by simp [Cb, HP.out]
    refine ⟨_, _, blk_put KG3.out 1 _ (by rw [KF.out, HD.out]; rfl), Kd.R_set KL3.out KG3.out (by decide) 1 _, ?_, HGE.out, ⟨HOK.out.one, HOK.out.most, HOK.out.secs, fun p hp => ?_⟩⟩
    · rw [hcb]
      exact Kd.R_set KC3.out KG3.out (by decide) 1 _
    · rcases List.mem_append.1 hp with hp | hp
      · exact HOK.out.wrs p hp
      · rw [List.mem_singleton.1 hp]
        exact ⟨HML.out, pad_length _ (by rw [bytes_length]; exact hs)⟩
theorem ref_write (w0 w : World) (g : Nat) (d : DSt) (n : Int) (s : ByteArray) (h : RfAt w0 w g d) (hB : Below w0.heap.size w0 w) (hfz : d.fuse ≤ 9223372036854775807 ∧ -1 ≤ d.fuse) (hmost : d.many < 1000000 ∧ d.cache.length < 1000000) :
    Calls Try.prog 19 #[.pointer (some ⟨g, 0, none⟩), .int .i64 n, .string s] w fun e w' => e = .returned (.int .i64 ((d.write n s.data.toList).2 : Int)) ∧ RfAt w0 w' g (d.write n s.data.toList).1 ∧ Below w0.heap.size w0 w' ∧ Keep w w' := by
  obtain ⟨lv, cv, hg, hl, hc, hge, hok⟩ := h
  obtain ⟨Al, cl, rfl⟩ := Kd.R_slice hl
  obtain ⟨Ac, cc, rfl⟩ := Kd.R_slice hc
  have HG := Aside0.mk hg
  have HLr := Aside0.mk hl
  have HCr := Aside0.mk hc
  have HGE := Aside0.mk hge
  have HOK := Aside0.mk hok
  have HB := Aside0.mk hB
  have c3 := (blk_cell hg 3).trans rfl
  rw [Lb_length, Cb_length] at hg
  have c0 := (blk_cell hg 0).trans rfl
  have c1 := (blk_cell hg 1).trans rfl
  have c2 := (blk_cell hg 2).trans rfl
  have c4 := (blk_cell hg 4).trans rfl
  have f1 := blk_frozen hg 1
  have f2 := blk_frozen hg 2
  have f3 := blk_frozen hg 3
  have f4 := blk_frozen hg 4
  have hmx := hok.most
  have same : RfAt w0 w g d := ⟨_, _, HG.out, HLr.out, HCr.out, HGE.out, HOK.out⟩
  have HS := Aside0.mk same
  have hsl := bytes_length s
  have HSL := Aside0.mk hsl
  clear hg hl hc hge hok hB same hsl
  by_cases hno : d.fault n ≠ 0
  · have e : d.write n s.data.toList = (d, d.fault n) := by simp [DSt.write, hno]
    have HE := Aside0.mk e
    have hf : d.fault n = if d.down then 6 else if n < 0 ∨ (d.lasts.length : Int) ≤ n then 1 else 0 := rfl
    cases hd : d.down with
    | true =>
      rw [hd] at c3
      have HF := Aside0.mk (show d.fault n = 6 by rw [hf, hd]; rfl)
      clear e hno hf hd
      go_enter Try.func19, Try.ntmps19
      go_wp2_with fail
      go_ret
      exact ⟨by rw [HE.out, HF.out]; rfl, by rw [HE.out]; exact HS.out, HB.out, Keep.refl _⟩
    | false =>
      rw [hd] at c3
      have hr : n < 0 ∨ (d.lasts.length : Int) ≤ n := by
        rw [hf, hd] at hno
        apply Classical.byContradiction
        intro q
        simp [q] at hno
      have HF := Aside0.mk (show d.fault n = 1 by rw [hf, hd]; simp [hr])
      clear e hno hf hd
      by_cases hn0 : n < 0
      · clear hr
        go_enter Try.func19, Try.ntmps19
        go_wp2_with fail
        go_ret
        exact ⟨by rw [HE.out, HF.out]; rfl, by rw [HE.out]; exact HS.out, HB.out, Keep.refl _⟩
      · have hn1 : (d.lasts.length : Int) ≤ n := by omega
        clear hr
        go_enter Try.func19, Try.ntmps19
        go_wp2_with fail
        all_goals
          go_ret
          exact ⟨by rw [HE.out, HF.out]; rfl, by rw [HE.out]; exact HS.out, HB.out, Keep.refl _⟩
  · have hno' : d.fault n = 0 := by omega
    have hd : d.down = false := by
      cases hq : d.down with
      | false => rfl
      | true => simp [DSt.fault, hq] at hno'
    rw [hd] at c3
    have hn : 0 ≤ n ∧ n < d.lasts.length := by
      simp only [DSt.fault, hd] at hno'
      split at hno'
      · simp at hno'
      · split at hno'
        · simp at hno'
        · omega
    have hn0 := hn.1
    have hn1 := hn.2
    have HF := Aside0.mk hno'
    have HD := Aside0.mk hd
    clear hno hno' hn
    by_cases hs : 64 < s.size
    · have HE := Aside0.mk (show d.write n s.data.toList = (d, 5) by
        have := HF.out
        have h2 : 64 < s.data.toList.length := by rw [HSL.out]; exact hs
        simp only [DSt.write, this, h2, if_true, if_false, ne_eq, not_true_eq_false])
      clear hd
      go_enter Try.func19, Try.ntmps19
      go_wp2_with fail
      go_ret
      exact ⟨by rw [HE.out]; rfl, by rw [HE.out]; exact HS.out, HB.out, Keep.refl _⟩
    have hs2 : ¬ 64 < s.data.toList.length := by rw [HSL.out]; exact hs
    by_cases h0 : d.fuse = 0
    · have HE := Aside0.mk (show d.write n s.data.toList = ({ d with down := true }, 6) by have := HF.out; simp only [DSt.write, this, h0, hs2, if_true, if_false, ne_eq, not_true_eq_false])
      rw [h0] at c2
      clear hd hs2
      go_enter Try.func19, Try.ntmps19
      go_wp2_with fail
      go_ret
      exact ⟨by rw [HE.out]; rfl, by rw [HE.out]; exact ⟨_, _, blk_put HG.out 3 _ rfl, Kd.R_set HLr.out HG.out (by decide) 3 _, Kd.R_set HCr.out HG.out (by decide) 3 _, HGE.out, ⟨HOK.out.one, HOK.out.most, HOK.out.secs, HOK.out.wrs⟩⟩, below_set HB.out HGE.out, Keep.set HG.out⟩
    exact ref_write_yes w0 w g d n s HS.out HB.out hfz hmost HF.out (by omega) h0
end Go.Proofs.Ytfhfnnpadfibkaa
