/-
  The document's own disk (palinoderef04), as the same plain state that the disk has: what its functions do.
-/
import Derived.Test.YtfhfnnpadfibkaaLawA
import Derived.Test.YtfhfnnpadfibkaaPDx0
set_option linter.unusedVariables false
set_option linter.unusedSimpArgs false
namespace Go.Proofs.Ytfhfnnpadfibkaa
open Go.RowKit Go.Proofs.YtfhfnnpadfibkaaW.PrintWords Go.Proofs.YtfhfnnpadfibkaaW.PrintLast Go.Proofs.YtfhfnnpadfibkaaW.PrintMore

def mkB (s : List UInt8) : ByteArray := ⟨s.toArray⟩
def Lb (d : DSt) : List ByteArray := d.lasts.map mkB
def Cb (d : DSt) : List PD.S69 := d.cache.map fun p => ⟨(p.1 : Int), mkB p.2⟩
theorem Lb_length (d : DSt) : (Lb d).length = d.lasts.length := by simp [Lb]
theorem Cb_length (d : DSt) : (Cb d).length = d.cache.length := by simp [Cb]
theorem Lb_get (d : DSt) (n : Nat) (s : List UInt8) (h : d.lasts[n]? = some s) : rdOf ByteArray.empty (Lb d) (n : Int) = mkB s := by
  simp [rdOf, Lb, List.getD, h]
/-- The document's disk behind ⟨g, 0⟩ is d; it lies behind w0. -/
def RfAt (w0 w : World) (g : Nat) (d : DSt) : Prop :=
  ∃ lv cv, w.heap[g]? = some (.cells #[lv, cv, .int .i64 d.fuse, .bool d.down, .int .i64 (d.many : Int)] 53 (0, 0)) ∧
    Kd.R Kd.string 9 w w0.heap.size (fun _ => True) lv (Lb d) ∧ Kd.R PD.k69 69 w w0.heap.size (fun _ => True) cv (Cb d) ∧ w0.heap.size ≤ g ∧ d.Ok
/-- All but the document's disks stays. -/
def Keep (w w' : World) : Prop := ∀ k, k < w.heap.size → (∀ cs t fr, w.heap[k]? = some (.cells cs t fr) → t ≠ 53 ∧ t ≠ 9 ∧ t ≠ 69) → w'.heap[k]? = w.heap[k]?
theorem Keep.refl (w : World) : Keep w w := fun _ _ _ => rfl
theorem Keep.below {w w' : World} (h : Below w.heap.size w w') : Keep w w' := fun k hk _ => h.block k hk
theorem Keep.drew {w w' : World} (h : Keep w w') : Keep w w'.drew := h
theorem Keep.trans {a b c : World} (h : Keep a b) (k : Keep b c) (hs : a.heap.size ≤ b.heap.size) : Keep a c := fun i hi ht =>
  (k i (Nat.lt_of_lt_of_le hi hs) (fun cs t fr q => ht cs t fr ((h i hi ht).symm.trans q))).trans (h i hi ht)
theorem Keep.grown {w w' : World} {g : Nat} {cs : Array Value} {t : TypeId} {fr : Nat × Nat} (hg : w.grownBy w' (some g)) (hb : w.heap[g]? = some (.cells cs t fr)) (ht : t = 53 ∨ t = 9 ∨ t = 69) : Keep w w' := fun k hk h =>
  hg.block k hk (fun e => by
    injection e with e
    subst e
    have := h cs t fr hb
    rcases ht with q | q | q
    · exact this.1 q
    · exact this.2.1 q
    · exact this.2.2 q)
theorem Keep.own {α : Type} {d : Kd α} {e base : Nat} {ok : Nat → Prop} {w w' : World} {v : Value} {xs : List α} (hr : d.R e w base ok v xs) (hg : w.grownBy w' v.ownBlock) (ht : e = 53 ∨ e = 9 ∨ e = 69) : Keep w w' := fun k hk h =>
  hg.block k hk (fun q => by
    obtain ⟨cells, hc⟩ := Kd.R_typed hr k q.symm
    have := h cells e (0, 0) hc
    rcases ht with p | p | p
    · exact this.1 p
    · exact this.2.1 p
    · exact this.2.2 p)
theorem Keep.set {w : World} {g j : Nat} {u : Value} {cs : Array Value} (hb : w.heap[g]? = some (.cells cs 53 (0, 0))) : Keep w (w.setCell ⟨g, j, none⟩ u) := fun k hk h => by
  refine Below.heap_setCell w ⟨g, j, none⟩ u k (fun e => ?_)
  subst e
  exact (h cs _ _ hb).1 rfl
theorem Kd.info_str : (Try.prog.info? 9).map (fun i => (i.zero, i.size, i.bytes)) = some (some (.string ⟨#[]⟩), 1, 16) := by kernel_rfl
theorem ref_new_no (n : Int) (w : World) (h : n < 1 ∨ 4000 < n) :
    Calls Try.prog 16 #[.int .i64 n] w fun e w' => e = .returned (.pointer none) ∧ w' = w := by
  go_enter Try.func16, Try.ntmps16
  go_wp2
  all_goals
    go_ret
    exact ⟨rfl, rfl⟩
theorem ref_new_yes (n : Nat) (w : World) (h0 : 1 ≤ n) (h1 : n ≤ 4000) :
    Calls Try.prog 16 #[.int .i64 n] w fun e w' => ∃ g, e = .returned (.pointer (some ⟨g, 0, none⟩)) ∧ RfAt w w' g (DSt.init n) ∧ Below w.heap.size w w' := by
  obtain ⟨Z, hZ⟩ : ∃ Z : List Value, Z = (List.replicate 64 (0 : UInt8)).map byteV := ⟨_, rfl⟩
  obtain ⟨z, hz⟩ : ∃ z : List UInt8, z = List.replicate 64 (0 : UInt8) := ⟨_, rfl⟩
  have lz : z.length = 64 := by rw [hz]; simp
  have hmk : ∀ w : World, (Instr.makeSlice 66 (.int .i64 64) (.int .i64 64)).run Try.prog w = .ok (.slice (some ⟨w.heap.size, 0, none⟩) 64 64) (w.alloc (.cells Z.toArray 5)) := by
    intro w
    have := run_make_row' (P := Try.prog) 66 5 (.int .u8 0) 1 Try.underlying66 Try.infoU8 rfl .i64 .i64 64 (by omega) (by omega) w
    rw [hZ, ← zerosB]
    refine Eq.trans this ?_
    have h2 := madeCells_replicate (.int .u8 0) 1 64 (by decide)
    rw [← h2]
    rfl
  have hcv : ∀ w : World, (convert 66 9 (.slice (some ⟨w.heap.size, 0, none⟩) 64 64)).run Try.prog (w.alloc (.cells Z.toArray 5)) = .ok (.string (mkB z)) (w.alloc (.cells Z.toArray 5)) := by
    intro w
    have := run_convert_bytes_back (P := Try.prog) (w.alloc (.cells Z.toArray 5)) 66 9 5 ⟨w.heap.size, 0, none⟩ 64 z Try.underlying66 Try.underlying5 Try.underlying9 (fun j hj => by
      rw [plain_add, Nat.zero_add, cell_of_row _ _ j _ _ _ (heap_alloc_new w _), hZ, ← hz]
      simp [byteV, hj])
    rwa [lz] at this
  have hcv1 := hcv (w.alloc (.cells #[.slice none 0 0, .slice none 0 0, .int .i64 (-1), .bool false, .int .i64 0] 53))
  rw [show (w.alloc (.cells #[.slice none 0 0, .slice none 0 0, .int .i64 (-1), .bool false, .int .i64 0] 53)).heap.size = w.heap.size + 1 by simp] at hcv1
  clear hcv
  have HZ := Lib.hid hz
  clear hZ hz lz
  have hn0 : ¬ (n : Int) < 1 := by omega
  have hn1 : ¬ (4000 : Int) < (n : Int) := by omega
  have HN := Lib.hid (And.intro h0 h1)
  go_enter Try.func16, Try.ntmps16
  go_wp2_with fail
  obtain ⟨g, hg⟩ : ∃ g, g = w.heap.size := ⟨_, rfl⟩
  have HG := Aside0.mk hg
  have HW1 := Aside0.mk (blk_alloc (blk_new w (.cells #[.slice none 0 0, .slice none 0 0, .int .i64 (-1), .bool false, .int .i64 0] 53)) (.cells Z.toArray 5))
  have HB1 := Aside0.mk (below_alloc (below_alloc (Below.refl w.heap.size w) (.cells #[.slice none 0 0, .slice none 0 0, .int .i64 (-1), .bool false, .int .i64 0] 53)) (.cells Z.toArray 5))
  rw [← hg] at HW1 ⊢
  clear hmk hcv1 hg
  go_loopw [5] (fun i wr => ∃ (k c : Nat) (A : Option Addr), i = .int .i64 k ∧ k ≤ n ∧ Aside0 (wr.heap[g]? = some (.cells #[.slice A k c, .slice none 0 0, .int .i64 (-1), .bool false, .int .i64 0] 53 (0, 0))) ∧ Aside0 (Kd.R Kd.string 9 wr w.heap.size (fun k => k ≠ g) (.slice A k c) (List.replicate k (mkB z))) ∧ Aside0 (Below w.heap.size w wr)) (fun i _ => n - (intOf i).toNat)
  case atStart => exact ⟨0, 0, none, rfl, Nat.zero_le _, HW1, ⟨Kd.R_nil _ _ _ _ _⟩, HB1⟩
  case round =>
    clear HW1 HB1
    obtain ⟨k, c, A, rfl, hk, HW, HR, HB⟩ := hrel
    have c0 := (blk_cell HW.out 0).trans rfl
    have f0 := blk_frozen HW.out 0
    by_cases hlt : k < n
    · have hlt' : (k : Int) < (n : Int) := by omega
      have hk4 : k < 4000 := by have := HN.out.2; omega
      have hgs : g < wr.heap.size := blk_lt HW.out
      have HGS := Aside0.mk hgs
      clear hgs
      go_wp2_with ((with_reducible refine gate_builtin (b := .append) (xs := #[.tmp 25, .tmp 27]) rfl ?_); at_builtin; refine Hid.out ?_)
      refine Lib.hid ?_
      refine Kd.R_append Kd.string (w0 := w) w.heap.size rfl (.tmp 25) (.tmp 27) 36 9 (.string ⟨#[]⟩) 16 rfl Try.underlying36 Kd.info_str rfl (by decide) (by omega) (.slice A k c) (List.replicate k (mkB z)) (mkB z) [.string (mkB z)] (fun k => k ≠ g) (fun _ => False) rfl ?hx ?aP (fun _ hk => hk.elim) ?aF ?aO ?aB ?aS ?aL ?_
      case hx => first | (go_simp; done) | (go_simp; rfl)
      case aP => rfl
      case aB => exact HB.out
      case aF => exact (fun k hk => by have := HGS.out; omega)
      case aO => exact HR.out
      case aS => exact HB.out.size
      case aL => rw [List.length_replicate]; omega
      intro v3 w3 ho hb hg hat
      have HR3 := Aside0.mk ho
      have HB3 := Aside0.mk hb
      have HW3 := Aside0.mk (blk_grown HW.out hg (Kd.R_ne HR.out HW.out (by decide)))
      obtain ⟨A3, c3, hv3⟩ := Kd.R_slice ho
      rw [List.length_append, List.length_replicate] at hv3
      simp only [List.length_cons, List.length_nil] at hv3
      subst hv3
      have z4 := (blk_cell HW3.out 0).trans rfl
      have z5 := blk_frozen HW3.out 0
      clear ho hb hg hat c0 f0 HR HB HW
      go_wp2_with fail
      refine ⟨⟨k + 1, c3, A3, by go_num, hlt, ⟨blk_put HW3.out 0 _ rfl⟩, ⟨?_⟩, ⟨below_set HB3.out (Nat.le_of_eq HG.out.symm)⟩⟩, ?_⟩
      · rw [List.replicate_succ']
        exact Kd.R_far HR3.out (fun k hk => hk) _
      · simp only [intOf]
        omega
    · obtain rfl : k = n := by omega
      go_wp2_with fail
      go_ret
      have hl : (DSt.init k).lasts.length = k := by simp [DSt.init]
      have hLb : Lb (DSt.init k) = List.replicate k (mkB z) := by rw [HZ.out]; simp [Lb, DSt.init]
      refine ⟨g, rfl, ⟨_, _, HW.out, ?_, Kd.R_nil _ _ _ _ _, Nat.le_of_eq HG.out.symm, ⟨by rw [hl]; exact HN.out.1, by rw [hl]; exact HN.out.2, ?_, by simp [DSt.init]⟩⟩, HB.out⟩
      · rw [hLb]
        exact Kd.R_mono HR.out (fun _ _ => trivial)
      · intro s hs
        simp only [DSt.init] at hs
        rw [(List.mem_replicate.1 hs).2]
        simp
theorem putAll_map (L : List (List UInt8)) (n : Nat) (s : List UInt8) : (L.set n s).map mkB = (L.map mkB).set n (mkB s) := by rw [List.map_set]
theorem ref_sync (w0 w : World) (g : Nat) (d : DSt) (h : RfAt w0 w g d) (hB : Below w0.heap.size w0 w) (hmost : d.cache.length < 1000000) :
    Calls Try.prog 20 #[.pointer (some ⟨g, 0, none⟩)] w fun e w' => e = .returned (.int .i64 (d.sync.2 : Int)) ∧ RfAt w0 w' g d.sync.1 ∧ Below w0.heap.size w0 w' ∧ Keep w w' := by
  obtain ⟨lv, cv, hg, hl, hc, hge, hok⟩ := h
  have HG := Aside0.mk hg
  have HLr := Aside0.mk hl
  have HCr := Aside0.mk hc
  have HGE := Aside0.mk hge
  have HOK := Aside0.mk hok
  have HB := Aside0.mk hB
  have c3 := (blk_cell hg 3).trans rfl
  clear hg hl hc hge hok hB
  cases hd : d.down with
  | true =>
    rw [hd] at c3
    have HD := Aside0.mk hd
    clear hd
    go_enter Try.func20, Try.ntmps20
    go_wp2_with fail
    go_ret
    have e : d.sync = (d, 6) := by simp [DSt.sync, HD.out]
    rw [e]
    exact ⟨rfl, ⟨lv, cv, HG.out, HLr.out, HCr.out, HGE.out, HOK.out⟩, HB.out, Keep.refl _⟩
  | false =>
    rw [hd] at c3
    have HD := Aside0.mk hd
    clear hd
    obtain ⟨gl, cl, rfl, hgl, hgll, _⟩ := Kd.R_form HLr.out (by rw [Lb_length]; have := HOK.out.one; omega)
    obtain ⟨Ac, cc, rfl⟩ := Kd.R_slice HCr.out
    rw [Lb_length, Cb_length] at HG
    rw [Lb_length] at HLr
    rw [Cb_length] at HCr
    have hmx := HOK.out.most
    clear hgl hgll
    go_enter Try.func20, Try.ntmps20
    go_wp2_with fail
    go_loopw [3] (fun i wr => ∃ k : Nat, k ≤ d.cache.length ∧ i = .int .i64 k ∧ Aside0 (wr.heap[g]? = some (.cells #[.slice (some ⟨gl, 0, none⟩) d.lasts.length cl, .slice Ac d.cache.length cc, .int .i64 d.fuse, .bool d.down, .int .i64 (d.many : Int)] 53 (0, 0))) ∧ Aside0 (Kd.R Kd.string 9 wr w0.heap.size (fun _ => True) (.slice (some ⟨gl, 0, none⟩) d.lasts.length cl) ((putAll d.lasts (d.cache.take k)).map mkB)) ∧ Aside0 (Kd.R PD.k69 69 wr w0.heap.size (fun _ => True) (.slice Ac d.cache.length cc) (Cb d)) ∧ Aside0 (Below w0.heap.size w0 wr) ∧ Aside0 (Keep w wr ∧ w.heap.size ≤ wr.heap.size)) (fun i _ => d.cache.length - (intOf i).toNat)
    case atStart => exact ⟨0, Nat.zero_le _, rfl, HG, HLr, HCr, HB, ⟨Keep.refl _, Nat.le_refl _⟩⟩
    case round =>
      clear HG HLr HCr HB c3
      obtain ⟨k, hk, rfl, HG, HLr, HCr, HB, HK⟩ := hrel
      have c0 := (blk_cell HG.out 0).trans rfl
      have c1 := (blk_cell HG.out 1).trans rfl
      by_cases hlt : k < d.cache.length
      · have hlt' : (k : Int) < (d.cache.length : Int) := by omega
        obtain ⟨p, hp⟩ : ∃ p, d.cache[k]? = some p := ⟨_, List.getElem?_eq_getElem hlt⟩
        have hpw := HOK.out.wrs p (List.mem_of_getElem? hp)
        obtain ⟨A', c', hv', hlc', hC⟩ := Kd.R_reads HCr.out
        injection hv' with hv1 hv2 hv3
        subst hv1 hv3
        clear hv2
        rw [Cb_length] at hC
        obtain ⟨ad, rfl, hx0, hx1⟩ := PD.at_T69 hC (k : Int) (by omega) (by omega)
        have hrd : PD.rd_T69 (Cb d) (k : Int) = ⟨(p.1 : Int), mkB p.2⟩ := by simp [PD.rd_T69, Cb, List.getD, hp]
        rw [hrd, Int.toNat_natCast] at hx0 hx1
        obtain ⟨at_, ps⟩ := p
        simp only at hx0 hx1 hpw
        have hat : (at_ : Int) < (d.lasts.length : Int) := by omega
        have hlen : ((putAll d.lasts (d.cache.take k)).map mkB).length = d.lasts.length := by rw [List.length_map, putAll_length]
        have hlr2 : Kd.R Kd.string 9 wr w0.heap.size (fun _ => True) (.slice (some ⟨gl, 0, none⟩) ((putAll d.lasts (d.cache.take k)).map mkB).length cl) ((putAll d.lasts (d.cache.take k)).map mkB) := by rw [hlen]; exact HLr.out
        obtain ⟨hq1, hq2⟩ := Kd.R_cell ByteArray.empty (h := hlr2) (at_ : Int) (by omega) (by omega)
        rw [Int.toNat_natCast] at hq1 hq2
        have HP2 := Kd.R_put hlr2 (at_ : Int) (mkB ps)
        rw [Int.toNat_natCast, hlen] at HP2
        have HPP := Aside0.mk HP2
        have HPW := Aside0.mk hpw
        have HPG := Aside0.mk hp
        clear hlr2 hlen HP2 hC hpw hp hrd hlc'
        have htk := Lib.hid (take_snoc' _ _ _ HPG.out)
        go_wp2_with fail
        refine region_tail 21 (by kernel_rfl) (by kernel_rfl) ?_
        simp only [List.take_succ_cons, List.take_zero, List.drop_succ_cons, List.drop_zero]
        repeat still_step
        refine wpStill_nil ?_
        go_wp2_with fail
        have hgrow : wr.grownBy (wr.setCell ⟨gl, at_, none⟩ (.string (mkB ps))) (Value.slice (some ⟨gl, 0, none⟩) d.lasts.length cl).ownBlock := HPP.out.2
        have hset : (putAll d.lasts (d.cache.take (k + 1))).map mkB = ((putAll d.lasts (d.cache.take k)).map mkB).set at_ (mkB ps) := by rw [htk.out, putAll_snoc, putAll_map]
        have hbl : w0.heap.size ≤ gl := Kd.R_base HLr.out gl rfl
        have hne : g ≠ gl := fun e => Kd.R_ne HLr.out HG.out (by decide) (by rw [e]; rfl)
        refine ⟨⟨k + 1, hlt, by go_num, ⟨blk_drew (blk_far HG.out hne _)⟩, ⟨?_⟩, ⟨Kd.R_drew (Kd.R_over HCr.out HLr.out (by decide) hgrow)⟩, ⟨below_drew1 (below_set HB.out hbl)⟩, ⟨(Keep.trans HK.out.1 (Keep.own HLr.out hgrow (Or.inr (Or.inl rfl))) HK.out.2).drew, ?_⟩⟩, ?_⟩
        · rw [hset]
          exact Kd.R_drew HPP.out.1
        · exact Nat.le_trans HK.out.2 hgrow.size
        · simp only [intOf]
          omega
      · obtain rfl : k = d.cache.length := by omega
        have f1 := blk_frozen HG.out 1
        go_wp2_with fail
        go_ret
        have e : d.sync = ({ d with lasts := putAll d.lasts d.cache, cache := [] }, 0) := by simp [DSt.sync, HD.out]
        rw [e]
        have hlr := HLr.out
        rw [List.take_length] at hlr
        refine ⟨rfl, ⟨_, _, blk_put HG.out 1 _ (by rw [HD.out]; rfl), ?_, Kd.R_nil _ _ _ _ _, HGE.out, ⟨?_, ?_, ?_, by simp⟩⟩, below_set HB.out HGE.out, Keep.trans HK.out.1 (Keep.set HG.out) HK.out.2⟩
        · exact Kd.R_set hlr HG.out (by decide) 1 _
        · simp only [putAll_length]; exact HOK.out.one
        · simp only [putAll_length]; exact HOK.out.most
        · exact putAll_secs d.lasts HOK.out.secs _ fun p hp => (HOK.out.wrs p hp).2
end Go.Proofs.Ytfhfnnpadfibkaa
