/-
  The document's own disk: what is read, the fuse, what is written.
-/
import Derived.Test.YtfhfnnpadfibkaaRef
set_option linter.unusedVariables false
set_option linter.unusedSimpArgs false
namespace Go.Proofs.Ytfhfnnpadfibkaa
open Go.RowKit Go.Proofs.YtfhfnnpadfibkaaW.PrintWords Go.Proofs.YtfhfnnpadfibkaaW.PrintLast Go.Proofs.YtfhfnnpadfibkaaW.PrintMore

theorem RfAt.below {w0 w w' : World} {g : Nat} {d : DSt} (h : RfAt w0 w g d) (hb : Below w.heap.size w w') : RfAt w0 w' g d := by
  obtain ⟨lv, cv, h1, h2, h3, h4, h5⟩ := h
  exact ⟨lv, cv, blk_below h1 hb, Kd.R_below h2 hb, Kd.R_below h3 hb, h4, h5⟩
theorem ref_read (w0 w : World) (g : Nat) (d : DSt) (n : Int) (h : RfAt w0 w g d) (hmost : d.cache.length < 1000000) :
    Calls Try.prog 24 #[.pointer (some ⟨g, 0, none⟩), .int .i64 n] w fun e w' => e = .returned (.tuple #[.string (mkB (d.read n).1), .int .i64 ((d.read n).2 : Int)]) ∧ w' = w := by
  obtain ⟨lv, cv, hg, hl, hc, hge, hok⟩ := h
  have c3 := (blk_cell hg 3).trans rfl
  obtain ⟨gl, cl, rfl, _, _, _⟩ := Kd.R_form hl (by rw [Lb_length]; have := hok.one; omega)
  obtain ⟨Ac, cc, rfl⟩ := Kd.R_slice hc
  rw [Lb_length, Cb_length] at hg
  have c0 := (blk_cell hg 0).trans rfl
  have c1 := (blk_cell hg 1).trans rfl
  obtain ⟨A', c', hv', hlc', hC⟩ := Kd.R_reads hc
  injection hv' with hv1 hv2 hv3
  subst hv1 hv3
  clear hv2 hlc'
  rw [Cb_length] at hC
  have hmx := hok.most
  have HOK := Aside0.mk hok
  have HC := Aside0.mk hC
  have HL := Aside0.mk hl
  clear hg hl hc hge hok hC
  cases hd : d.down with
  | true =>
    rw [hd] at c3
    have e : d.read n = ([], 6) := by simp [DSt.read, DSt.fault, hd]
    rw [e]
    clear hd e
    go_enter Try.func24, Try.ntmps24
    go_wp2_with fail
    go_ret2
    exact ⟨rfl, rfl⟩
  | false =>
    rw [hd] at c3
    by_cases hn0 : n < 0
    · have e : d.read n = ([], 1) := by simp [DSt.read, DSt.fault, hd, hn0]
      rw [e]
      clear hd e
      go_enter Try.func24, Try.ntmps24
      go_wp2_with fail
      go_ret2
      exact ⟨rfl, rfl⟩
    by_cases hn1 : (d.lasts.length : Int) ≤ n
    · have e : d.read n = ([], 1) := by simp [DSt.read, DSt.fault, hd, hn1]
      rw [e]
      clear hd e
      go_enter Try.func24, Try.ntmps24
      go_wp2_with fail
      all_goals
        go_ret2
        exact ⟨rfl, rfl⟩
    obtain ⟨m, rfl⟩ := Int.eq_ofNat_of_zero_le (show 0 ≤ n by omega)
    have hml : m < d.lasts.length := by omega
    obtain ⟨S0, hS0⟩ : ∃ s, d.lasts[m]? = some s := ⟨_, List.getElem?_eq_getElem hml⟩
    have e : d.read m = (topOf m S0 d.cache, 0) := by
      have hf : d.fault m = 0 := by simp [DSt.fault, hd]; omega
      simp only [DSt.read, hf, if_true, Int.toNat_natCast, DSt.top]
      rw [List.getD_eq_getElem?_getD, hS0]; rfl
    rw [e]
    have hq : w.cell? ⟨gl, m, none⟩ = some (.string (mkB S0)) := by
      have := (Kd.R_cell ByteArray.empty (h := HL.out) (m : Int) (by omega) (by rw [Lb_length]; omega)).1
      rw [Lb_get d m S0 hS0, Int.toNat_natCast] at this
      exact this
    have hm1 : (m : Int) < (d.lasts.length : Int) := by omega
    clear hd e hS0 hml hn0 hn1
    go_enter Try.func24, Try.ntmps24
    go_wp2_with fail
    go_loopw [6] (fun i wr => wr = w ∧ ∃ k : Nat, k ≤ d.cache.length ∧ i = .int .i64 ((k : Int) - 1) ∧ Aside0 (topOf m S0 d.cache = topOf m S0 (d.cache.take k))) (fun i _ => (intOf i + 1).toNat)
    case atStart => exact ⟨rfl, d.cache.length, Nat.le_refl _, rfl, ⟨by rw [List.take_length]⟩⟩
    case round =>
      obtain ⟨rfl, k, hk, rfl, HT⟩ := hrel
      by_cases hk0 : k = 0
      · subst hk0
        have e2 := Aside0.mk (show topOf m S0 d.cache = S0 by rw [HT.out, List.take_zero]; rfl)
        go_wp2_with fail
        go_ret2
        exact ⟨by rw [e2.out]; rfl, rfl⟩
      · obtain ⟨j, rfl⟩ : ∃ j, k = j + 1 := ⟨k - 1, by omega⟩
        have hj : ((j + 1 : Nat) : Int) - 1 = (j : Int) := by omega
        obtain ⟨p, hp⟩ : ∃ p, d.cache[j]? = some p := ⟨_, List.getElem?_eq_getElem (by omega)⟩
        obtain ⟨ad, rfl, hx0, hx1⟩ := PD.at_T69 HC.out (j : Int) (by omega) (by omega)
        have hrd : PD.rd_T69 (Cb d) (j : Int) = ⟨(p.1 : Int), mkB p.2⟩ := by simp [PD.rd_T69, Cb, List.getD, hp]
        rw [hrd, Int.toNat_natCast] at hx0 hx1
        have htk := Lib.hid (take_snoc' _ _ _ hp)
        obtain ⟨at_, ps⟩ := p
        simp only at hx0 hx1
        rw [hj]
        have hjl : (j : Int) < (d.cache.length : Int) := by omega
        clear hp hrd hj
        by_cases ha : at_ = m
        · subst ha
          have e2 := Aside0.mk (show topOf at_ S0 d.cache = ps by rw [HT.out, htk.out, topOf_snoc, if_pos rfl])
          go_wp2_with fail
          go_ret2
          exact ⟨by rw [e2.out]; rfl, rfl⟩
        · have ha2 : ¬ (at_ : Int) = (m : Int) := by omega
          have e2 := Aside0.mk (show topOf m S0 d.cache = topOf m S0 (d.cache.take j) by rw [HT.out, htk.out, topOf_snoc, if_neg ha])
          go_wp2_with fail
          refine ⟨⟨by trivial, j, by omega, by go_num, e2⟩, ?_⟩
          simp only [intOf]
          omega
theorem ref_fuse (w0 w : World) (g : Nat) (d : DSt) (n : Int) (h : RfAt w0 w g d) (hB : Below w0.heap.size w0 w) :
    Calls Try.prog 22 #[.pointer (some ⟨g, 0, none⟩), .int .i64 n] w fun e w' => e = .returned (.tuple #[]) ∧ RfAt w0 w' g { d with fuse := max n (-1) } ∧ Below w0.heap.size w0 w' ∧ Keep w w' := by
  obtain ⟨lv, cv, hg, hl, hc, hge, hok⟩ := h
  have HG := Aside0.mk hg
  have HLr := Aside0.mk hl
  have HCr := Aside0.mk hc
  have c2 := (blk_cell hg 2).trans rfl
  have f2 := blk_frozen hg 2
  clear hg hl hc
  have hmax : (if n < -1 then (-1 : Int) else n) = max n (-1) := by split <;> omega
  have hmax' : (if (-1 : Int) < n then n else -1) = max n (-1) := by split <;> omega
  go_enter Try.func22, Try.ntmps22
  go_wp2_with fail
  go_end0
  exact ⟨rfl, ⟨lv, cv, blk_put HG.out 2 _ rfl, Kd.R_set HLr.out HG.out (by decide) 2 _, Kd.R_set HCr.out HG.out (by decide) 2 _, hge, ⟨hok.one, hok.most, hok.secs, hok.wrs⟩⟩, below_set hB hge, Keep.set HG.out⟩
end Go.Proofs.Ytfhfnnpadfibkaa
