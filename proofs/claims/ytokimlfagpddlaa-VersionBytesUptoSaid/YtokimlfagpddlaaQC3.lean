-- packed: PDx80 PDx81 VsN PDx1 PDx57 PDx58 PDx82 VsSame VsRef PDx19 PDx23 PDx24 PDx26 PDx32
import Derived.Test.YtokimlfagpddlaaQC2
-- printed by gprint.py (own tool) over the kit's print
namespace Go.Proofs.Ytokimlfagpddlaa.PD
open Go.RowKit Go.Proofs.Ytokimlfagpddlaa Go.Proofs.YtokimlfagpddlaaW.PrintWords Go.Proofs.YtokimlfagpddlaaW.PrintLast Go.Proofs.YtokimlfagpddlaaW.PrintMore
attribute [local go_sem] max2_int min2_int max_two min_two max_three min_three max_four min_four   -- for this text's walks alone
set_option linter.unnecessarySimpa false
attribute [local go_sem] min2_str max2_str leq_str gtr_str geq_str
set_option linter.unusedVariables false
set_option linter.unusedSimpArgs false

/-! ### palinoderef14_reader_row: function 56 -/
def palinoderef14_reader_row.l0 : Nat → Int → List Int → Int → ByteArray → Bool → Option (List Int × ByteArray × Bool)
  | 0, _, _, _, _, _ => none
  | k + 1, x3, x4, x5, x1000, x1001 => if x5 < x3 then (if x1001 = true then (some (x4, x1000, x1001)) else ((palinoderef14_reader_num.f k x1000 x1001).bind fun bt488 => (if x4.length < 17592186044416 then (palinoderef14_reader_row.l0 k x3 (x4 ++ [bt488.1]) (wrap64 (x5 + 1)) bt488.2.1 bt488.2.2) else (none)))) else (some (x4, x1000, x1001))
def palinoderef14_reader_row.f (k : Nat) (s0_0 : ByteArray) (s0_1 : Bool) : Option (List Int × ByteArray × Bool) := (palinoderef14_reader_num.f k s0_0 s0_1).bind fun bt485 => (palinoderef14_reader_row.l0 k bt485.1 ([] : List Int) 0 bt485.2.1 bt485.2.2)
theorem palinoderef14_reader_row.mono_l : ∀ k, (∀ y0 y1 y2 y3 y4, LeO (palinoderef14_reader_row.l0 k y0 y1 y2 y3 y4) (palinoderef14_reader_row.l0 (k + 1) y0 y1 y2 y3 y4))
  | 0 => fun _ _ _ _ _ r h => by simp [palinoderef14_reader_row.l0] at h
  | k + 1 => by
    have ih0 := palinoderef14_reader_row.mono_l k
    · intro y0 y1 y2 y3 y4
      unfold palinoderef14_reader_row.l0
      repeat' first
      | (with_reducible exact ih0 _ _ _ _ _)
      | (with_reducible exact palinoderef14_reader_num.mono _ _ _)
      | (with_reducible exact LeO.refl _)
      | (with_reducible exact LeO.none _)
      | (with_reducible refine LeO.ite ?_ ?_)
      | (with_reducible refine LeO.bind ?_ (fun _ => ?_))
      | exact ih0 _ _ _ _ _
      | exact palinoderef14_reader_num.mono _ _ _
      | exact LeO.none _
      | refine LeO.ite ?_ ?_
      | refine LeO.bind ?_ (fun _ => ?_)
theorem palinoderef14_reader_row.mono : ∀ a0 a1 k, LeO (palinoderef14_reader_row.f k a0 a1) (palinoderef14_reader_row.f (k + 1) a0 a1) := by
  intro a0 a1 k
  have ih0 := palinoderef14_reader_row.mono_l k
  unfold palinoderef14_reader_row.f
  repeat' first
      | (with_reducible exact ih0 _ _ _ _ _)
      | (with_reducible exact palinoderef14_reader_num.mono _ _ _)
      | (with_reducible exact LeO.refl _)
      | (with_reducible exact LeO.none _)
      | (with_reducible refine LeO.ite ?_ ?_)
      | (with_reducible refine LeO.bind ?_ (fun _ => ?_))
      | exact ih0 _ _ _ _ _
      | exact palinoderef14_reader_num.mono _ _ _
      | exact LeO.none _
      | refine LeO.ite ?_ ?_
      | refine LeO.bind ?_ (fun _ => ?_)
set_option maxHeartbeats 8000000 in
set_option maxRecDepth 100000 in
theorem palinoderef14_reader_row.calls (k : Nat) (g : Nat) (s0_0 : ByteArray) (s0_1 : Bool) (r1 : List Int) (r2 : ByteArray) (r3 : Bool) (w0 w : World) (hI : IsS93 w0 w g s0_0 s0_1) (hB : Below w0.heap.size w0 w) (h : palinoderef14_reader_row.f k s0_0 s0_1 = some (r1, r2, r3)) :
    Calls Try.prog 56 #[.pointer (some ⟨g, 0, none⟩)] w fun e w' => ∃ v0_ : Value, e = .returned (v0_) ∧ Kd.R (Kd.int .i64) 3 w' w.heap.size (fun _ => True) v0_ r1 ∧ IsS93 w0 w' g r2 r3 ∧ Below w0.heap.size w0 w' ∧ KeepBut w w' g none := by
  have HI0 := Aside0.mk hI
  have HK := Aside0.mk (KeepBut.refl w g none)
  have HL := Aside0.mk hB.size
  clear hI
  have HW0 := Aside0.mk hB.size
  have HB := Aside0.mk hB
  clear hB
  have H : ((palinoderef14_reader_num.f k s0_0 s0_1).bind fun bt485 => (palinoderef14_reader_row.l0 k bt485.1 ([] : List Int) 0 bt485.2.1 bt485.2.2)) = some (r1, r2, r3) := h
  clear h
  replace H := Option.bind_eq_some_iff.mp H
  obtain ⟨⟨t485, t486, t487⟩, A20, H⟩ := H
  replace H : (palinoderef14_reader_row.l0 k t485 ([] : List Int) 0 t486 t487) = some (r1, r2, r3) := H
  have A2 := Aside0.mk A20
  clear A20
  have H' := Aside0.mk H
  clear H
  go_enter Try.func56, Try.ntmps56
  go_wp2_with (first | ((with_reducible refine gate_callee (f := 54) rfl ?_); refine goesL_ (some 8) rfl rfl Try.func54 (by kernel_rfl) rfl #[.pointer (some ⟨g, 0, none⟩)] rfl (by (try simp only [List.map_toArray, List.map_cons, List.map_nil]); first | done | rfl | (simp only [List.length_drop, List.length_take]; rfl)) ?_; (with_reducible refine (palinoderef14_reader_num.calls k g s0_0 s0_1 t485 t486 t487 w0 _ ?side1 ?side2 A2.out).mono ?_); (case side1 => repeat (first | (with_reducible first | exact HI0.out | apply IsS93.alloc | apply IsS93.drewN | apply IsS93.drew | apply IsS93.set_0 | apply IsS93.set_1) | exact HI0.out)); (case side2 => repeat (first | (with_reducible first | exact HB.out | apply below_alloc | apply pw_below_drewN | apply below_drew1 | refine below_set ?_ (IsS93.ge HI0.out)) | exact HB.out)); rintro e w3 ⟨rfl, hi, hb, hk⟩; refine ⟨_, rfl, ?_⟩; have n0_ := Aside0.mk (KeepBut.trans (by repeat (first | (with_reducible first | exact HK.out | apply KeepBut.set_ | apply keep_drewN | apply keep_drew | apply keep_alloc) | exact HK.out)) hk (.inl rfl)); have n1_ := Aside0.mk (hb); have n2_ := Aside0.mk (hi); clear HK; clear HB; clear HI0; have HK := n0_; have HB := n1_; have HI0 := n2_; clear n0_ n1_ n2_; (try clear hb); (try clear hb2); (try clear hk); (try clear hi)))
  go_loopg [4, 5] k (fun kq v4 v5 w' => ∃ (x4_1 : List Int) (x5_1 : Int) (x1000_1 : ByteArray) (x1001_1 : Bool), v5 = .int .i64 x5_1 ∧ Aside0 (palinoderef14_reader_row.l0 kq t485 x4_1 x5_1 x1000_1 x1001_1 = some (r1, r2, r3)) ∧ Aside0 (kq ≤ k) ∧ Aside0 (Kd.R (Kd.int .i64) 3 w' w.heap.size (fun _ => True) v4 x4_1) ∧ Aside0 (IsS93 w0 w' g x1000_1 x1001_1) ∧ Aside0 (KeepBut w w' g none) ∧ Aside0 (Below w0.heap.size w0 w'))
  case atStart => exact ⟨(([] : List Int)), (0), (t486), (t487), (by first | rfl | (simp; done) | (simp [*]; done)), H', ⟨Nat.le_refl _⟩, ⟨by first | exact Kd.R_nil _ _ _ _ _ | exact Kd.N_nil _ _ _ _ _ | exact Kd.V_nil _ _ _ _ _ | exact Kd.Q_nil _ _ _ _ _ | exact Kd.S_nil _ _ _ _ _⟩, ⟨by repeat (first | (with_reducible first | exact HI0.out | apply IsS93.alloc | apply IsS93.drewN | apply IsS93.drew | apply IsS93.set_0 | apply IsS93.set_1) | exact HI0.out)⟩, ⟨by repeat (first | (with_reducible first | exact HK.out | apply KeepBut.set_ | apply keep_drewN | apply keep_drew | apply keep_alloc) | exact HK.out)⟩, ⟨by repeat (first | (with_reducible first | exact HB.out | apply below_alloc | apply pw_below_drewN | apply below_drew1 | refine below_set ?_ (IsS93.ge HI0.out)) | exact HB.out)⟩⟩
  case round =>
    clear H'
    try clear p2
    obtain ⟨x4_1, x5_1, x1000_1, x1001_1, rfl, HA, HK1, HO_4, HI0, HK, HB⟩ := hrel
    cases gk with
    | zero => exact absurd HA.out (by simp [palinoderef14_reader_row.l0])
    | succ k1 =>
      have H := HA.out
      clear HA
      simp only [palinoderef14_reader_row.l0] at H
      by_cases c4 : x5_1 < t485
      · rw [if_pos c4] at H
        have c4b0 : decide (x5_1 < t485) = true := decide_eq_true c4
        clear c4
        by_cases c5 : x1001_1 = true
        · subst c5
          have H1 : (some (x4_1, x1000_1, true)) = some (r1, r2, r3) := by rw [if_pos rfl] at H; exact H
          clear H
          have H := H1
          clear H1
          simp only [Option.some.injEq, Prod.mk.injEq] at H
          obtain ⟨rfl, rfl, rfl⟩ := H
          obtain ⟨HGz6, hgz6⟩ := HI0.out
          have hcz6_0 := cellS93_0 HGz6
          have hcz6_1 := cellS93_1 HGz6
          have hfz6_0 := blk_frozen HGz6 0
          have hfz6_1 := blk_frozen HGz6 1
          clear HGz6 hgz6
          go_wp2
          go_ret
          exact ⟨_, by first | rfl | (simp [errW_none, errW_some] <;> rfl) | (simp [*, errW_none, errW_some] <;> rfl), by (with_reducible repeat (first | apply Kd.R_alloc | apply Kd.R_drewN | apply Kd.R_drew)); exact HO_4.out, by repeat (first | (with_reducible first | exact HI0.out | apply IsS93.alloc | apply IsS93.drewN | apply IsS93.drew | apply IsS93.set_0 | apply IsS93.set_1) | exact HI0.out), by repeat (first | (with_reducible first | exact HB.out | apply below_alloc | apply pw_below_drewN | apply below_drew1 | refine below_set ?_ (IsS93.ge HI0.out)) | exact HB.out), by repeat (first | (with_reducible first | exact HK.out | apply KeepBut.set_ | apply keep_drewN | apply keep_drew | apply keep_alloc) | exact HK.out)⟩
        · replace c5 := Bool.eq_false_iff.mpr c5
          subst c5
          have H1 : ((palinoderef14_reader_num.f k1 x1000_1 false).bind fun bt488 => (if x4_1.length < 17592186044416 then (palinoderef14_reader_row.l0 k1 t485 (x4_1 ++ [bt488.1]) (wrap64 (x5_1 + 1)) bt488.2.1 bt488.2.2) else (none))) = some (r1, r2, r3) := by rw [if_neg (show ¬ (false = true) by decide)] at H; exact H
          clear H
          have H := H1
          clear H1
          replace H := Option.bind_eq_some_iff.mp H
          obtain ⟨⟨t488, t489, t490⟩, A70, H⟩ := H
          replace H : (if x4_1.length < 17592186044416 then (palinoderef14_reader_row.l0 k1 t485 (x4_1 ++ [t488]) (wrap64 (x5_1 + 1)) t489 t490) else (none)) = some (r1, r2, r3) := H
          have A7 := Aside0.mk A70
          clear A70
          by_cases c8 : x4_1.length < 17592186044416
          · rw [if_pos c8] at H
            have LMc8 := Aside0.mk c8
            clear c8
            obtain ⟨y491, hy491⟩ : ∃ y_ : List Int, y_ = (x4_1 ++ [t488]) := ⟨_, rfl⟩
            replace H : (palinoderef14_reader_row.l0 k1 t485 y491 (wrap64 (x5_1 + 1)) t489 t490) = some (r1, r2, r3) := by first | (rw [hy491]; with_reducible exact H) | (have H2_ := (Option.bind_some _ _).symm.trans H; rw [hy491]; with_reducible exact H2_) | (have H2_ := (Option.bind_some _ _).symm.trans H; with_reducible exact H2_) | with_reducible exact H | (rw [hy491]; exact H) | exact H
            have Ny491 := Aside0.mk hy491
            clear hy491
            have H' := Aside0.mk H
            clear H
            obtain ⟨HGz9, hgz9⟩ := HI0.out
            have hcz9_0 := cellS93_0 HGz9
            have hcz9_1 := cellS93_1 HGz9
            have hfz9_0 := blk_frozen HGz9 0
            have hfz9_1 := blk_frozen HGz9 1
            clear HGz9 hgz9
            go_wp2_with (first | ((with_reducible refine gate_callee (f := 54) rfl ?_); refine goesL_ (some 22) rfl rfl Try.func54 (by kernel_rfl) rfl #[.pointer (some ⟨g, 0, none⟩)] rfl (by (try simp only [List.map_toArray, List.map_cons, List.map_nil]); first | done | rfl | (simp only [List.length_drop, List.length_take]; rfl)) ?_; (with_reducible refine (palinoderef14_reader_num.calls k1 g x1000_1 false t488 t489 t490 w0 _ ?side1 ?side2 A7.out).mono ?_); (case side1 => repeat (first | (with_reducible first | exact HI0.out | apply IsS93.alloc | apply IsS93.drewN | apply IsS93.drew | apply IsS93.set_0 | apply IsS93.set_1) | exact HI0.out)); (case side2 => repeat (first | (with_reducible first | exact HB.out | apply below_alloc | apply pw_below_drewN | apply below_drew1 | refine below_set ?_ (IsS93.ge HI0.out)) | exact HB.out)); rintro e w10 ⟨rfl, hi, hb, hk⟩; refine ⟨_, rfl, ?_⟩; have n0_ := Aside0.mk (Kd.R_mono (Kd.R_keep (IsS93.apart (show IsS93 w0 _ g x1000_1 false from by repeat (first | (with_reducible first | exact HI0.out | apply IsS93.alloc | apply IsS93.drewN | apply IsS93.drew | apply IsS93.set_0 | apply IsS93.set_1) | exact HI0.out)) (by (with_reducible repeat (first | apply Kd.R_alloc | apply Kd.R_drewN | apply Kd.R_drew)); exact HO_4.out) (by decide)) hk (fun _ h => h.2)) (fun _ h => h.1)); have n1_ := Aside0.mk (KeepBut.trans (by repeat (first | (with_reducible first | exact HK.out | apply KeepBut.set_ | apply keep_drewN | apply keep_drew | apply keep_alloc) | exact HK.out)) hk (.inl rfl)); have n2_ := Aside0.mk (hb); have n3_ := Aside0.mk (hi); clear HO_4; clear HK; clear HB; clear HI0; have HO_4 := n0_; have HK := n1_; have HB := n2_; have HI0 := n3_; clear n0_ n1_ n2_ n3_; (try clear hb); (try clear hb2); (try clear hk); (try clear hi)) | ((with_reducible refine gate_builtin (b := .append) (xs := #[.tmp 23, .tmp 25]) rfl ?_); at_builtin; refine Kd.R_append (Kd.int .i64) w.heap.size rfl (.tmp 23) (.tmp 25) 23 3 (.int .i64 0) 8 rfl Try.underlying23 info3 rfl (by decide) (by omega) u4 x4_1 t488 [.int .i64 t488] (fun _ => True) (fun _ => False) rfl rfl ?aP (fun _ hk => hk.elim) ?aF ?aO (Below.refl _ _) ?aS ?aL ?_; (case aP => exact rfl); (case aF => exact (fun _ _ => trivial)); (case aO => exact (by (with_reducible repeat (first | apply Kd.R_alloc | apply Kd.R_drewN | apply Kd.R_drew)); exact HO_4.out)); (case aS => exact (keep_size (w := w) (g := g) (row := none) (by repeat (first | (with_reducible first | exact HK.out | apply KeepBut.set_ | apply keep_drewN | apply keep_drew | apply keep_alloc) | exact HK.out)))); (case aL => have := LMc8.out; omega); intro v492 w11 ho hb hg hat; rw [← Ny491.out] at ho; have n0_ := Aside0.mk (IsS93.grown (by repeat (first | (with_reducible first | exact HI0.out | apply IsS93.alloc | apply IsS93.drewN | apply IsS93.drew | apply IsS93.set_0 | apply IsS93.set_1) | exact HI0.out)) hg (IsS93.own_ne HI0.out HO_4.out (by decide))); have n1_ := Aside0.mk (below_weaken (by repeat (first | (with_reducible first | exact HB.out | apply below_alloc | apply pw_below_drewN | apply below_drew1 | refine below_set ?_ (IsS93.ge HI0.out)) | exact HB.out)) HL.out hb); have n2_ := Aside0.mk (KeepBut.trans (by repeat (first | (with_reducible first | exact HK.out | apply KeepBut.set_ | apply keep_drewN | apply keep_drew | apply keep_alloc) | exact HK.out)) (KeepBut.of_grown hg g) (Kd.R_base2 HO_4.out)); have n3_ := Aside0.mk (ho); clear HI0; clear HB; clear HK; clear HO_4; have HI0 := n0_; have HB := n1_; have HK := n2_; have HO493 := n3_; clear n0_ n1_ n2_ n3_; clear ho hb hg hat))
            go_roundg k1
            case measure => have := HK1.out; omega
            case rel => exact ⟨(y491), (wrap64 (x5_1 + 1)), (t489), (t490), (by first | rfl | (simp; done) | (simp [*]; done)), H', ⟨by have := HK1.out; omega⟩, ⟨by (with_reducible repeat (first | apply Kd.R_alloc | apply Kd.R_drewN | apply Kd.R_drew)); exact HO493.out⟩, ⟨by repeat (first | (with_reducible first | exact HI0.out | apply IsS93.alloc | apply IsS93.drewN | apply IsS93.drew | apply IsS93.set_0 | apply IsS93.set_1) | exact HI0.out)⟩, ⟨by repeat (first | (with_reducible first | exact HK.out | apply KeepBut.set_ | apply keep_drewN | apply keep_drew | apply keep_alloc) | exact HK.out)⟩, ⟨by repeat (first | (with_reducible first | exact HB.out | apply below_alloc | apply pw_below_drewN | apply below_drew1 | refine below_set ?_ (IsS93.ge HI0.out)) | exact HB.out)⟩⟩
          · rw [if_neg c8] at H
            exact absurd H (by simp)
      · rw [if_neg c4] at H
        have c4b0 : decide (x5_1 < t485) = false := decide_eq_false c4
        clear c4
        simp only [Option.some.injEq, Prod.mk.injEq] at H
        obtain ⟨rfl, rfl, rfl⟩ := H
        go_wp2
        go_ret
        exact ⟨_, by first | rfl | (simp [errW_none, errW_some] <;> rfl) | (simp [*, errW_none, errW_some] <;> rfl), by (with_reducible repeat (first | apply Kd.R_alloc | apply Kd.R_drewN | apply Kd.R_drew)); exact HO_4.out, by repeat (first | (with_reducible first | exact HI0.out | apply IsS93.alloc | apply IsS93.drewN | apply IsS93.drew | apply IsS93.set_0 | apply IsS93.set_1) | exact HI0.out), by repeat (first | (with_reducible first | exact HB.out | apply below_alloc | apply pw_below_drewN | apply below_drew1 | refine below_set ?_ (IsS93.ge HI0.out)) | exact HB.out), by repeat (first | (with_reducible first | exact HK.out | apply KeepBut.set_ | apply keep_drewN | apply keep_drew | apply keep_alloc) | exact HK.out)⟩

end Go.Proofs.Ytokimlfagpddlaa.PD

-- printed by gprint.py (own tool) over the kit's print
namespace Go.Proofs.Ytokimlfagpddlaa.PD
open Go.RowKit Go.Proofs.Ytokimlfagpddlaa Go.Proofs.YtokimlfagpddlaaW.PrintWords Go.Proofs.YtokimlfagpddlaaW.PrintLast Go.Proofs.YtokimlfagpddlaaW.PrintMore
attribute [local go_sem] max2_int min2_int max_two min_two max_three min_three max_four min_four   -- for this text's walks alone
set_option linter.unnecessarySimpa false
attribute [local go_sem] min2_str max2_str leq_str gtr_str geq_str
set_option linter.unusedVariables false
set_option linter.unusedSimpArgs false

/-! ### palinoderef14_Decode: function 20 -/
theorem palinoderef14_Decode.wrapS (n : Int) (h0 : -4611686018427387904 ≤ n) (h : n ≤ 4611686018427387904) : wrap64 n = n := by unfold wrap64; omega
theorem palinoderef14_Decode.be_length (k : Nat) (n : Int) : (pack_Num.be k n).length = k := by
  induction k with
  | zero => rfl
  | succ k ih => simp [pack_Num.be, ih]
theorem palinoderef14_Decode.be_snoc (k : Nat) : ∀ n : Int, pack_Num.be (k + 1) n = pack_Num.be k (n / 256) ++ [n % 256] := by
  induction k with
  | zero => intro n; simp [pack_Num.be]
  | succ k ih =>
    intro n
    have e : n / 256 ^ (k + 1) = n / 256 / 256 ^ k := by
      rw [Int.pow_succ, Int.mul_comm, Int.ediv_ediv_of_nonneg (by omega)]
    have h1 : pack_Num.be (k + 1 + 1) n = n / 256 ^ (k + 1) % 256 :: pack_Num.be (k + 1) n := rfl
    have h2 : pack_Num.be (k + 1) (n / 256) = n / 256 / 256 ^ k % 256 :: pack_Num.be k (n / 256) := rfl
    rw [h1, ih n, h2, e]
    rfl
theorem palinoderef14_Decode.be_bound (k : Nat) (n : Int) : ∀ x ∈ pack_Num.be k n, 0 ≤ x ∧ x < 256 := by
  induction k with
  | zero => intro x hx; simp [pack_Num.be] at hx
  | succ k ih =>
    intro x hx
    simp only [pack_Num.be, List.mem_cons] at hx
    rcases hx with rfl | hx
    · omega
    · exact ih x hx
theorem palinoderef14_Decode.bytesOf_str (l : List Int) (h : ∀ x ∈ l, 0 ≤ x ∧ x < 256) : bytesOf (strOfNums l) = l := by
  unfold bytesOf strOfNums
  simp only [List.map_map]
  conv => rhs; rw [← List.map_id l]
  apply List.map_congr_left
  intro x hx
  have := h x hx
  simp
  omega
theorem palinoderef14_Decode.bytesOf_inj {a b : ByteArray} (h : bytesOf a = bytesOf b) : a = b := by
  apply ByteArray.ext
  apply Array.toList_inj.1
  unfold bytesOf at h
  exact List.map_inj_right (f := fun x : UInt8 => (x.toNat : Int)) (fun x y e => UInt8.toNat_inj.1 (Int.ofNat.inj e)) |>.1 h
theorem palinoderef14_Decode.bytesOf_append (a b : ByteArray) : bytesOf (a ++ b) = bytesOf a ++ bytesOf b := by
  simp [bytesOf, ByteArray.data_append]
theorem palinoderef14_Decode.bytesOf_extract (a : ByteArray) (i j : Nat) : bytesOf (a.extract i j) = ((bytesOf a).drop i).take (j - i) := by
  simp [bytesOf, ByteArray.data_extract, List.map_take, List.map_drop]
theorem palinoderef14_Decode.str_size (l : List Int) : (strOfNums l).size = l.length := by
  exact strOfNums_size l

theorem palinoderef14_Decode.num_be (k : Nat) : ∀ n : Int, 0 ≤ n → n < 256 ^ k → pack_ReadNum.num (pack_Num.be k n) = n := by
  induction k with
  | zero => intro n h0 h1; simp at h1; simp [pack_Num.be, pack_ReadNum.num]; omega
  | succ k ih =>
    intro n h0 h1
    rw [Int.pow_succ] at h1
    rw [palinoderef14_Decode.be_snoc, pack_ReadNum.num_snoc, ih (n / 256) (by omega) (Int.ediv_lt_of_lt_mul (by omega) h1)]
    omega
theorem palinoderef14_Decode.sz_lt : ∀ (m : Nat) (n : Int), 0 ≤ n → n < 256 ^ m → n < 256 ^ (pack_Num.sz m n) := by
  intro m
  induction m with
  | zero => intro n h0 h1; simpa [pack_Num.sz] using h1
  | succ m ih =>
    intro n h0 h1
    simp only [pack_Num.sz]
    rw [Int.pow_succ] at h1
    split
    · have := ih (n / 256) (by omega) (Int.ediv_lt_of_lt_mul (by omega) h1)
      rw [Int.pow_succ]
      omega
    · simp; omega
theorem palinoderef14_Decode.sz_gt : ∀ (k m : Nat) (n : Int), 256 ^ k ≤ n → k < m → k < pack_Num.sz m n := by
  intro k
  induction k with
  | zero =>
    intro m n h1 h2
    obtain ⟨m, rfl⟩ : ∃ q, m = q + 1 := ⟨m - 1, by omega⟩
    simp at h1
    simp only [pack_Num.sz]
    rw [if_pos (by omega)]
    omega
  | succ k ih =>
    intro m n h1 h2
    obtain ⟨m, rfl⟩ : ∃ q, m = q + 1 := ⟨m - 1, by omega⟩
    have hp : (0 : Int) < 256 ^ k := Int.pow_pos (by omega)
    rw [Int.pow_succ] at h1
    have := ih m (n / 256) (by omega) (by omega)
    simp only [pack_Num.sz]
    rw [if_pos (by omega)]
    omega
theorem palinoderef14_Decode.num_lt (l : List Int) (hb : ∀ x ∈ l, 0 ≤ x ∧ x < 256) : 0 ≤ pack_ReadNum.num l ∧ pack_ReadNum.num l < 256 ^ l.length := by
  have := pack_ReadNum.fold_bound l 0 (Int.le_refl _) hb
  simpa [pack_ReadNum.num] using this
theorem palinoderef14_Decode.fold_ge (l : List Int) : ∀ a : Int, 0 ≤ a → (∀ x ∈ l, 0 ≤ x ∧ x < 256) → a * 256 ^ l.length ≤ l.foldl (fun a c => a * 256 + c) a := by
  induction l with
  | nil => intro a ha _; simp
  | cons x l ih =>
    intro a ha hb
    have hx := hb x (by simp)
    have := ih (a * 256 + x) (by omega) (fun y hy => hb y (by simp [hy]))
    refine Int.le_trans ?_ this
    rw [List.length_cons, Int.pow_succ, ← Int.mul_assoc, Int.mul_right_comm]
    exact Int.mul_le_mul_of_nonneg_right (by omega) (Int.le_of_lt (Int.pow_pos (by omega)))
/-- A number has as_ many bytes as_ it takes, just if the first one is none of 0. -/
theorem palinoderef14_Decode.sz_num (l : List Int) (hb : ∀ x ∈ l, 0 ≤ x ∧ x < 256) (hl : l.length ≤ 7) : pack_Num.sz 8 (pack_ReadNum.num l) = l.length ↔ (l = [] ∨ l.getD 0 0 ≠ 0) := by
  cases l with
  | nil => simp [pack_ReadNum.num, pack_Num.sz]
  | cons x l =>
    have hx := hb x (by simp)
    have hb' : ∀ y ∈ l, 0 ≤ y ∧ y < 256 := fun y hy => hb y (by simp [hy])
    obtain ⟨h1, h2⟩ := palinoderef14_Decode.num_lt (x :: l) hb
    have hle := pack_Num.sz_le _ 8 _ h2
    simp only [List.length_cons] at hl hle ⊢
    constructor
    · intro h
      right
      intro h0
      simp at h0
      subst h0
      have h3 : pack_ReadNum.num (0 :: l) = pack_ReadNum.num l := by simp [pack_ReadNum.num]
      have := pack_Num.sz_le l.length 8 (pack_ReadNum.num (0 :: l)) (by rw [h3]; exact (palinoderef14_Decode.num_lt l hb').2)
      omega
    · intro h
      have h0 : x ≠ 0 := by simpa using h
      have h3 : (256 : Int) ^ l.length ≤ pack_ReadNum.num (x :: l) := by
        have := palinoderef14_Decode.fold_ge l (0 * 256 + x) (by omega) hb'
        have hp : (0 : Int) < 256 ^ l.length := Int.pow_pos (by omega)
        have h5 : (1 : Int) * 256 ^ l.length ≤ (0 * 256 + x) * 256 ^ l.length := Int.mul_le_mul_of_nonneg_right (by omega) (Int.le_of_lt hp)
        simp only [pack_ReadNum.num, List.foldl_cons]
        omega
      have := palinoderef14_Decode.sz_gt l.length 8 _ h3 (by omega)
      omega
theorem palinoderef14_Decode.bt_get (b : ByteArray) (i : Nat) (hi : i < b.size) : bt b (i : Int) = (bytesOf b).getD i 0 := by
  have hl := bytesOf_length b
  have h2 : i < b.data.toList.length := by simpa using hi
  unfold bt bytesOf
  rw [dif_pos (by simpa using hi)]
  simp only [List.getD, List.getElem?_map, List.getElem?_eq_getElem h2, Option.map_some, Option.getD_some]
  simp
  rfl
theorem palinoderef14_Decode.nb_bound (n : Int) (h1 : n ≤ 9007199254740991) : ∀ x ∈ ((pack_Num.sz 8 n : Int) :: pack_Num.be (pack_Num.sz 8 n) n), 0 ≤ x ∧ x < 256 := by
  intro x hx
  have := pack_Num.sz_le 7 8 n (by omega)
  rcases List.mem_cons.1 hx with rfl | hx
  · omega
  · exact palinoderef14_Decode.be_bound _ _ x hx
theorem palinoderef14_Decode.bytes_list (n : Int) (h1 : n ≤ 9007199254740991) : bytesOf (pack_Num.bytes n) = (pack_Num.sz 8 n : Int) :: pack_Num.be (pack_Num.sz 8 n) n := palinoderef14_Decode.bytesOf_str _ (palinoderef14_Decode.nb_bound n h1)
theorem palinoderef14_Decode.bytes_size (n : Int) : (pack_Num.bytes n).size = 1 + pack_Num.sz 8 n := by
  unfold pack_Num.bytes
  rw [palinoderef14_Decode.str_size, List.length_cons, palinoderef14_Decode.be_length]; omega
/-- What was written is read. -/
theorem palinoderef14_Decode.tell_bytes (n : Int) (h0 : 0 ≤ n) (h1 : n ≤ 9007199254740991) (r : ByteArray) : pack_ReadNum.tell (pack_Num.bytes n ++ r) = (n, r, none) := by
  have hs := pack_Num.sz_le 7 8 n (by omega)
  have hsz : (pack_Num.bytes n ++ r).size = 1 + pack_Num.sz 8 n + r.size := by rw [ByteArray.size_append, palinoderef14_Decode.bytes_size]
  have hb : bytesOf (pack_Num.bytes n ++ r) = (pack_Num.sz 8 n : Int) :: (pack_Num.be (pack_Num.sz 8 n) n ++ bytesOf r) := by rw [palinoderef14_Decode.bytesOf_append, palinoderef14_Decode.bytes_list n h1]; rfl
  have h0' : bt (pack_Num.bytes n ++ r) 0 = (pack_Num.sz 8 n : Int) := by
    have := palinoderef14_Decode.bt_get (pack_Num.bytes n ++ r) 0 (by omega)
    rw [Int.natCast_zero] at this
    rw [this, hb]; rfl
  have hn : pack_ReadNum.num (((bytesOf (pack_Num.bytes n ++ r)).drop 1).take (pack_Num.sz 8 n)) = n := by
    rw [hb, List.drop_succ_cons, List.drop_zero, List.take_left' (palinoderef14_Decode.be_length _ _)]
    exact palinoderef14_Decode.num_be _ n h0 (palinoderef14_Decode.sz_lt 8 n h0 (by omega))
  unfold pack_ReadNum.tell
  rw [h0', Int.toNat_natCast, hn, if_neg (by omega), if_neg (by omega), if_neg (by omega), if_neg (by omega)]
  congr 2
  apply palinoderef14_Decode.bytesOf_inj
  rw [palinoderef14_Decode.bytesOf_extract, hb, Nat.add_comm 1, List.drop_succ_cons, List.drop_left' (palinoderef14_Decode.be_length _ _), List.take_of_length_le]
  rw [bytesOf_length]; omega
theorem palinoderef14_Decode.tell_code (b : ByteArray) (n : Int) (r : ByteArray) (c : Int) (h : pack_ReadNum.tell b = (n, r, some c)) : n = 0 ∧ r = ⟨#[]⟩ ∧ (c = 2 ∨ c = 3) := by
  unfold pack_ReadNum.tell at h
  repeat' split at h
  all_goals simp at h
  all_goals (obtain ⟨rfl, rfl, rfl⟩ := h; simp)
/-- A number's digits, the least first. -/
def palinoderef14_Decode.digs : Nat → Int → List Int
  | 0, _ => []
  | s + 1, n => n % 256 :: palinoderef14_Decode.digs s (n / 256)
theorem palinoderef14_Decode.digs_be (s : Nat) : ∀ n, (palinoderef14_Decode.digs s n).reverse = pack_Num.be s n := by
  induction s with
  | zero => intro n; rfl
  | succ s ih => intro n; rw [palinoderef14_Decode.be_snoc, ← ih]; simp [palinoderef14_Decode.digs]
theorem palinoderef14_Decode.digs_length (s : Nat) : ∀ n, (palinoderef14_Decode.digs s n).length = s := by
  induction s with
  | zero => intro n; rfl
  | succ s ih => intro n; simp [palinoderef14_Decode.digs, ih]
theorem palinoderef14_Decode.refNum_l1 (ds : List Int) (hl : ds.length ≤ 100) : ∀ (d k : Nat) (out : List Int), d ≤ ds.length → out.length + d ≤ 1000 → d + 1 ≤ k → palinoderef01_Num.l1 k ds out ((d : Int) - 1) = some (strOfNums (out ++ (ds.take d).reverse), true) := by
  intro d
  induction d with
  | zero =>
    intro k out _ _ hk
    obtain ⟨k, rfl⟩ : ∃ q, k = q + 1 := ⟨k - 1, by omega⟩
    simp only [palinoderef01_Num.l1]
    rw [if_neg (by omega)]
    simp
  | succ d ih =>
    intro k out hd ho hk
    obtain ⟨k, rfl⟩ : ∃ q, k = q + 1 := ⟨k - 1, by omega⟩
    simp only [palinoderef01_Num.l1]
    have e : wrap64 (((d + 1 : Nat) : Int) - 1 - 1) = (d : Int) - 1 := by rw [palinoderef14_Decode.wrapS _ (by omega) (by omega)]; omega
    have e2 : rd ds (((d + 1 : Nat) : Int) - 1) = ds.getD d 0 := by rw [show (((d + 1 : Nat) : Int) - 1) = (d : Int) by omega]; rfl
    rw [if_pos (by omega), if_pos (by omega), if_pos (by omega), if_pos (by omega), e, e2, ih k _ (by omega) (by simp; omega) (by omega)]
    have e3 : ds.take (d + 1) = ds.take d ++ [ds.getD d 0] := by
      rw [List.take_add_one, List.getElem?_eq_getElem (show d < ds.length by omega)]
      simp [List.getD, List.getElem?_eq_getElem (show d < ds.length by omega)]
    rw [e3, List.reverse_append, List.append_assoc]
    rfl
theorem palinoderef14_Decode.refNum_l0 : ∀ (m k : Nat) (n : Int) (acc : List Int), 0 ≤ n → n ≤ 9007199254740991 → n < 256 ^ m → m ≤ 8 → acc.length + m ≤ 50 → acc.length + 2 * m + 60 ≤ k →
    palinoderef01_Num.l0 k n acc = some (strOfNums ((((acc ++ palinoderef14_Decode.digs (pack_Num.sz m n) n).length : Nat) : Int) :: (acc ++ palinoderef14_Decode.digs (pack_Num.sz m n) n).reverse), true) := by
  intro m
  induction m with
  | zero =>
    intro k n acc h0 h1 h2 h3 h4 hk
    obtain ⟨k, rfl⟩ : ∃ q, k = q + 1 := ⟨k - 1, by omega⟩
    simp only [Int.pow_zero] at h2
    simp only [palinoderef01_Num.l0]
    have e : wrap64 ((acc.length : Int) - 1) = (acc.length : Int) - 1 := palinoderef14_Decode.wrapS _ (by omega) (by omega)
    rw [if_neg (by omega), e, palinoderef14_Decode.refNum_l1 acc (by omega) acc.length k _ (Nat.le_refl _) (by simp; omega) (by omega)]
    have e2 : (acc.length : Int) % 256 = (acc.length : Int) := by omega
    simp [pack_Num.sz, palinoderef14_Decode.digs, e2]
  | succ m ih =>
    intro k n acc h0 h1 h2 h3 h4 hk
    by_cases hn : 0 < n
    · obtain ⟨k, rfl⟩ : ∃ q, k = q + 1 := ⟨k - 1, by omega⟩
      simp only [palinoderef01_Num.l0]
      have e1 : wrap64 (Int.tdiv n 256) = n / 256 := by rw [Int.tdiv_eq_ediv_of_nonneg h0, palinoderef14_Decode.wrapS _ (by omega) (by omega)]
      have e2 : (Int.tmod n 256) % 256 = n % 256 := by rw [Int.tmod_eq_emod_of_nonneg h0]; omega
      rw [Int.pow_succ] at h2
      rw [if_pos (by omega), if_pos (by omega), e1, e2, ih k (n / 256) _ (by omega) (by omega) (Int.ediv_lt_of_lt_mul (by omega) h2) (by omega) (by simp; omega) (by simp; omega)]
      have e3 : palinoderef14_Decode.digs (pack_Num.sz (m + 1) n) n = n % 256 :: palinoderef14_Decode.digs (pack_Num.sz m (n / 256)) (n / 256) := by simp [pack_Num.sz, hn, palinoderef14_Decode.digs]
      rw [e3]
      simp
    · obtain ⟨k, rfl⟩ : ∃ q, k = q + 1 := ⟨k - 1, by omega⟩
      simp only [palinoderef01_Num.l0]
      have e : wrap64 ((acc.length : Int) - 1) = (acc.length : Int) - 1 := palinoderef14_Decode.wrapS _ (by omega) (by omega)
      rw [if_neg (by omega), e, palinoderef14_Decode.refNum_l1 acc (by omega) acc.length k _ (Nat.le_refl _) (by simp; omega) (by omega)]
      have e2 : (acc.length : Int) % 256 = (acc.length : Int) := by omega
      simp [pack_Num.sz, hn, palinoderef14_Decode.digs, e2]
theorem palinoderef14_Decode.refNum_some (n : Int) (k : Nat) (hk : 100 ≤ k) : palinoderef01_Num.f k n = some (if n < 0 ∨ 9007199254740991 < n then (⟨#[]⟩, false) else (pack_Num.bytes n, true)) := by
  obtain ⟨k, rfl⟩ : ∃ q, k = q + 1 := ⟨k - 1, by omega⟩
  unfold palinoderef01_Num.f
  by_cases h0 : n < 0
  · rw [if_pos h0, if_pos (Or.inl h0), palinoderef01_Num.j0, if_pos rfl]
  · rw [if_neg h0]
    by_cases h1 : 9007199254740991 < n
    · rw [if_pos (Or.inr h1), palinoderef01_Num.j0, if_pos (by simpa using h1)]
    · rw [if_neg (by omega), palinoderef01_Num.j0, if_neg (by simpa using h1), palinoderef14_Decode.refNum_l0 8 k n [] (by omega) (by omega) (by omega) (by omega) (by simp) (by simp; omega)]
      simp only [List.nil_append, palinoderef14_Decode.digs_length, palinoderef14_Decode.digs_be, pack_Num.bytes]
theorem palinoderef14_Decode.refRead_l0 (b : ByteArray) (s : Nat) (hs : s ≤ 7) (hb : s + 1 ≤ b.size) : ∀ (d k j : Nat), j + d = s → d + 1 ≤ k →
    palinoderef01_ReadNum.l0 k b (s : Int) (pack_ReadNum.num (((bytesOf b).drop 1).take j)) (j : Int) = some (if 9007199254740991 < pack_ReadNum.num (((bytesOf b).drop 1).take s) then (0, ⟨#[]⟩, 3) else (pack_ReadNum.num (((bytesOf b).drop 1).take s), b.extract (1 + s) b.size, 0)) := by
  have hl := bytesOf_length b
  intro d
  induction d with
  | zero =>
    intro k j hj hk
    obtain ⟨k, rfl⟩ : ∃ q, k = q + 1 := ⟨k - 1, by omega⟩
    obtain rfl : j = s := by omega
    simp only [palinoderef01_ReadNum.l0]
    have hn := pack_ReadNum.num_small (((bytesOf b).drop 1).take j) (fun x hx => bytesOf_bound b x (List.mem_of_mem_drop (List.mem_of_mem_take hx))) (by simp; omega)
    generalize pack_ReadNum.num (((bytesOf b).drop 1).take j) = v at hn ⊢
    have hsz : (b.size : Int) < 9223372036854775807 ∨ True := Or.inr trivial
    have e : wrap64 (1 + (j : Int)) = ((1 + j : Nat) : Int) := by rw [palinoderef14_Decode.wrapS _ (by omega) (by omega)]; omega
    rw [if_neg (by omega), e, Int.toNat_natCast]
    by_cases hv : v > 9007199254740991
    · rw [if_pos hv, if_pos hv]
    · rw [if_neg hv, if_pos (by omega), if_pos (by omega), if_neg hv]
  | succ d ih =>
    intro k j hj hk
    obtain ⟨k, rfl⟩ : ∃ q, k = q + 1 := ⟨k - 1, by omega⟩
    simp only [palinoderef01_ReadNum.l0]
    have hbd : ∀ x ∈ ((bytesOf b).drop 1).take j, 0 ≤ x ∧ x < 256 := fun x hx => bytesOf_bound b x (List.mem_of_mem_drop (List.mem_of_mem_take hx))
    have hn := pack_ReadNum.num_six (((bytesOf b).drop 1).take j) hbd (by simp; omega)
    have e : wrap64 (1 + (j : Int)) = ((1 + j : Nat) : Int) := by rw [palinoderef14_Decode.wrapS _ (by omega) (by omega)]; omega
    have hbt := palinoderef14_Decode.bt_get b (1 + j) (by omega)
    have hlt : 1 + j < (bytesOf b).length := by omega
    have hstep : ((bytesOf b).drop 1).take (j + 1) = ((bytesOf b).drop 1).take j ++ [bt b ((1 + j : Nat) : Int)] := by
      rw [List.take_add_one, List.getElem?_drop, List.getElem?_eq_getElem hlt, hbt]
      simp [List.getD, List.getElem?_eq_getElem hlt]
    have hr := bt_range b ((1 + j : Nat) : Int)
    have hnum : pack_ReadNum.num (((bytesOf b).drop 1).take (j + 1)) = pack_ReadNum.num (((bytesOf b).drop 1).take j) * 256 + bt b ((1 + j : Nat) : Int) := by rw [hstep, pack_ReadNum.num_snoc]
    have := ih k (j + 1) (by omega) (by omega)
    rw [hnum] at this
    have e2 : wrap64 ((j : Int) + 1) = ((j + 1 : Nat) : Int) := by rw [palinoderef14_Decode.wrapS _ (by omega) (by omega)]; omega
    have e4 : ∀ v c : Int, 0 ≤ v → v ≤ 281474976710655 → 0 ≤ c → c ≤ 255 → wrap64 (wrap64 (256 * v) + wrap64 c) = v * 256 + c := fun v c q1 q2 q3 q4 => by
      rw [palinoderef14_Decode.wrapS (256 * v) (by omega) (by omega), palinoderef14_Decode.wrapS c (by omega) (by omega), palinoderef14_Decode.wrapS _ (by omega) (by omega)]
      omega
    rw [← e4 _ _ hn.1 hn.2 hr.1 hr.2] at this
    clear hnum hstep hbt e4
    rw [if_pos (by omega), e, if_pos (by omega), if_pos (by omega), e2]
    exact this
/-- The document's own reading. -/
theorem palinoderef14_Decode.refRead_some (b : ByteArray) (k : Nat) (hk : 20 ≤ k) : palinoderef01_ReadNum.f k b = some ((pack_ReadNum.tell b).1, (pack_ReadNum.tell b).2.1, ((pack_ReadNum.tell b).2.2).getD 0) := by
  obtain ⟨k, rfl⟩ : ∃ q, k = q + 1 := ⟨k - 1, by omega⟩
  have hl := bytesOf_length b
  unfold palinoderef01_ReadNum.f pack_ReadNum.tell
  by_cases c0 : b.size = 0
  · have : b.toList = [] := by
      have e : b = ⟨#[]⟩ := ByteArray.ext (Array.eq_empty_of_size_eq_zero (by simpa using c0))
      rw [ByteArray.toList_eq, e]
    rw [if_pos this, if_pos c0]
    rfl
  · have : ¬ b.toList = [] := by
      intro e
      apply c0
      rw [ByteArray.toList_eq] at e
      have h1 := congrArg List.length e
      simpa using h1
    have hr := bt_range b 0
    obtain ⟨s, hs⟩ : ∃ s : Nat, bt b 0 = s := ⟨(bt b 0).toNat, by omega⟩
    have w1 : wrap64 (s : Int) = s := palinoderef14_Decode.wrapS _ (by omega) (by omega)
    rw [if_neg this, if_neg c0, if_pos (by omega), hs, w1, Int.toNat_natCast]
    have w2 : wrap64 (1 + (s : Int)) = 1 + s := palinoderef14_Decode.wrapS _ (by omega) (by omega)
    rw [w2]
    by_cases c1 : 7 < s
    · simp only [gt_iff_lt, if_pos (show (7 : Int) < (s : Int) by omega)]; rfl
    simp only [gt_iff_lt, if_neg (show ¬ (7 : Int) < (s : Int) by omega)]
    by_cases c2 : b.size ≤ s
    · simp only [if_pos (show (b.size : Int) < 1 + (s : Int) by omega), if_pos (show (b.size : Int) ≤ (s : Int) by omega)]; rfl
    simp only [if_neg (show ¬ (b.size : Int) < 1 + (s : Int) by omega), if_neg (show ¬ (b.size : Int) ≤ (s : Int) by omega)]
    have hbd : ∀ x ∈ ((bytesOf b).drop 1).take s, 0 ≤ x ∧ x < 256 := fun x hx => bytesOf_bound b x (List.mem_of_mem_drop (List.mem_of_mem_take hx))
    have hlen : (((bytesOf b).drop 1).take s).length = s := by simp; omega
    have hz := palinoderef14_Decode.sz_num _ hbd (by omega)
    rw [hlen] at hz
    have h0 := palinoderef14_Decode.refRead_l0 b s (by omega) (by omega) s k 0 (by omega) (by omega)
    simp only [List.take_zero, Int.natCast_zero] at h0
    have h00 : pack_ReadNum.num [] = 0 := rfl
    rw [h00] at h0
    by_cases c3 : 0 < s
    · rw [if_pos (by omega), if_pos (by omega)]
      have hb1 := palinoderef14_Decode.bt_get b 1 (by omega)
      have hg : (((bytesOf b).drop 1).take s).getD 0 0 = bt b 1 := by
        rw [show ((1 : Nat) : Int) = 1 from rfl] at hb1
        rw [hb1]
        simp [List.getD, List.getElem?_take, c3]
      rw [hg] at hz
      have hne : ((bytesOf b).drop 1).take s ≠ [] := by intro e; rw [e] at hlen; simp at hlen; omega
      simp only [palinoderef01_ReadNum.j0]
      by_cases c4 : bt b 1 = 0
      · rw [c4, if_pos (by simp), if_pos (by left; intro e; have := hz.1 (by omega); rcases this with q | q; exact hne q; exact q c4)]
        rfl
      · rw [if_neg (by simpa using c4), h0]
        have := hz.2 (Or.inr c4)
        by_cases c5 : 9007199254740991 < pack_ReadNum.num (((bytesOf b).drop 1).take s)
        · rw [if_pos c5, if_pos (Or.inr c5)]; rfl
        · rw [if_neg c5, if_neg (by omega)]; rfl
    · rw [if_neg (by omega)]
      obtain rfl : s = 0 := by omega
      simp only [palinoderef01_ReadNum.j0]
      rw [if_neg (by simp), h0]
      simp [h00, pack_Num.sz]

/-- The document's own reading of a text. -/
theorem palinoderef14_Decode.refText_some (b : ByteArray) (k : Nat) (hk : 20 ≤ k) : palinoderef01_ReadText.f k b = some ((version_Decode.tellT b).1, (version_Decode.tellT b).2.1, ((version_Decode.tellT b).2.2).getD 0) := by
  have h := version_Decode.tellT_f b
  unfold palinoderef01_ReadText.f
  rw [palinoderef14_Decode.refRead_some b k hk, Option.bind_some]
  unfold pack_ReadText.f pack_ReadNum.f at h
  rw [Option.bind_some] at h
  have h0 := version_Decode.tell_nonneg b
  rcases hq : pack_ReadNum.tell b with ⟨x, r, _ | c⟩
  · rw [hq] at h h0
    simp only [Option.getD_none, if_true, Option.isNone_none] at h h0 ⊢
    by_cases c1 : x > 1048576
    · rw [if_pos c1] at h ⊢
      rw [← Option.some.inj h]; rfl
    · rw [if_neg c1] at h ⊢
      by_cases c2 : (r.size : Int) < x
      · rw [if_pos c2] at h ⊢
        rw [← Option.some.inj h]; rfl
      · rw [if_neg c2, if_pos h0, if_pos (by omega)] at h ⊢
        rw [← Option.some.inj h]; rfl
  · have hc := (palinoderef14_Decode.tell_code b x r c hq).2.2
    rw [hq] at h
    simp only [Option.getD_some, Option.isNone_some, Bool.false_eq_true, if_false] at h ⊢
    rw [if_neg (by omega), ← Option.some.inj h]; rfl
/-- Once it was none, nothing is left. -/
def palinoderef14_Decode.inv (t : version_Decode.S) : Prop := t.2 = true → t.1.size = 0
theorem palinoderef14_Decode.empty_eq (b : ByteArray) (h : b.size = 0) : b = ⟨#[]⟩ := ByteArray.ext (Array.eq_empty_of_size_eq_zero (by simpa using h))
theorem palinoderef14_Decode.tell_zero (b : ByteArray) (h : b.size = 0) : pack_ReadNum.tell b = (0, ⟨#[]⟩, some 2) := by
  unfold pack_ReadNum.tell; rw [if_pos h]
theorem palinoderef14_Decode.tellT_zero (b : ByteArray) (h : b.size = 0) : version_Decode.tellT b = (⟨#[]⟩, ⟨#[]⟩, some 2) := by
  have h1 := version_Decode.tellT_f b
  unfold pack_ReadText.f pack_ReadNum.f at h1
  rw [palinoderef14_Decode.tell_zero b h] at h1
  simpa using h1.symm
theorem palinoderef14_Decode.tellT_none (b : ByteArray) (h : (version_Decode.tellT b).2.2.isSome = true) : (version_Decode.tellT b).2.1.size = 0 ∧ (version_Decode.tellT b).2.2.getD 0 ≠ 0 := by
  have h1 := version_Decode.tellT_f b
  unfold pack_ReadText.f pack_ReadNum.f at h1
  rw [Option.bind_some] at h1
  rcases hq : pack_ReadNum.tell b with ⟨x, r, _ | c⟩
  · rw [hq] at h1
    simp only [Option.isNone_none, if_true] at h1
    repeat' split at h1
    all_goals first
      | (rw [← Option.some.inj h1]; exact ⟨rfl, by decide⟩)
      | (rw [← Option.some.inj h1] at h; simp at h; done)
      | (exact absurd h1 (by simp))
  · have hc := (palinoderef14_Decode.tell_code b x r c hq).2.2
    rw [hq] at h1
    simp only [Option.isNone_some, Bool.false_eq_true, if_false, Option.getD_some] at h1
    rw [← Option.some.inj h1]
    exact ⟨rfl, by show c ≠ 0; omega⟩
theorem palinoderef14_Decode.num_ex (t : version_Decode.S) (h : palinoderef14_Decode.inv t) (k : Nat) (hk : 20 ≤ k) : palinoderef14_reader_num.f k t.1 t.2 = some ((version_Decode.gN t).1, (version_Decode.gN t).2.1, (version_Decode.gN t).2.2) := by
  unfold palinoderef14_reader_num.f version_Decode.gN version_Decode.rN
  rw [palinoderef14_Decode.refRead_some t.1 k hk, Option.bind_some]
  cases hb : t.2 with
  | true =>
    have h0 := h hb
    rw [palinoderef14_Decode.tell_zero t.1 h0, if_pos rfl]
    simp only [Option.getD_some]
    rw [if_neg (by decide), palinoderef14_Decode.empty_eq t.1 h0]
  | false =>
    simp only [Bool.false_eq_true, if_false]
    rcases hq : pack_ReadNum.tell t.1 with ⟨x, r, _ | c⟩
    · rfl
    · have hc := (palinoderef14_Decode.tell_code t.1 x r c hq).2.2
      simp only [Option.getD_some]
      rw [if_neg (by omega)]; rfl
theorem palinoderef14_Decode.text_ex (t : version_Decode.S) (h : palinoderef14_Decode.inv t) (k : Nat) (hk : 20 ≤ k) : palinoderef14_reader_text.f k t.1 t.2 = some ((version_Decode.gT t).1, (version_Decode.gT t).2.1, (version_Decode.gT t).2.2) := by
  unfold palinoderef14_reader_text.f version_Decode.gT version_Decode.rT
  rw [palinoderef14_Decode.refText_some t.1 k hk, Option.bind_some]
  cases hb : t.2 with
  | true =>
    have h0 := h hb
    rw [palinoderef14_Decode.tellT_zero t.1 h0, if_pos rfl]
    simp only [Option.getD_some]
    rw [if_neg (by decide), palinoderef14_Decode.empty_eq t.1 h0]
  | false =>
    simp only [Bool.false_eq_true, if_false]
    have hn := palinoderef14_Decode.tellT_none t.1
    rcases hq : version_Decode.tellT t.1 with ⟨x, r, _ | c⟩
    · rfl
    · rw [hq] at hn
      have := (hn rfl).2
      simp only [Option.getD_some] at this ⊢
      rw [if_neg this]; rfl
theorem palinoderef14_Decode.inv_num {t : version_Decode.S} (h : palinoderef14_Decode.inv t) : palinoderef14_Decode.inv (version_Decode.gN t).2 := by
  unfold palinoderef14_Decode.inv version_Decode.gN version_Decode.rN
  split
  · next hb => intro _; exact h hb
  · intro hs
    rcases hq : pack_ReadNum.tell t.1 with ⟨x, r, _ | c⟩
    · rw [hq] at hs; simp at hs
    · rw [(palinoderef14_Decode.tell_code t.1 x r c hq).2.1]; rfl
theorem palinoderef14_Decode.inv_text {t : version_Decode.S} (h : palinoderef14_Decode.inv t) : palinoderef14_Decode.inv (version_Decode.gT t).2 := by
  unfold palinoderef14_Decode.inv version_Decode.gT version_Decode.rT
  split
  · next hb => intro _; exact h hb
  · intro hs
    exact (palinoderef14_Decode.tellT_none t.1 hs).1
theorem palinoderef14_Decode.ints_ex : ∀ (m : Nat) (n i : Int) (t : version_Decode.S) (l : List Int), palinoderef14_Decode.inv t → version_Decode.bd l.length t → i + m = n → 0 ≤ i → n ≤ 9007199254740991 → ∀ k, m + 22 ≤ k →
    palinoderef14_reader_row.l0 k n l i t.1 t.2 = some ((version_Decode.ints m t l).1, (version_Decode.ints m t l).2.1, (version_Decode.ints m t l).2.2) := by
  intro m
  induction m with
  | zero =>
    intro n i t l _ _ hi _ _ k hk
    obtain ⟨k, rfl⟩ : ∃ q, k = q + 1 := ⟨k - 1, by omega⟩
    rw [palinoderef14_reader_row.l0, if_neg (by omega)]
    rfl
  | succ m ih =>
    intro n i t l hv hb hi h0 hn k hk
    obtain ⟨k, rfl⟩ : ∃ q, k = q + 1 := ⟨k - 1, by omega⟩
    rw [palinoderef14_reader_row.l0, if_pos (by omega)]
    cases hc : t.2 with
    | true =>
      rw [if_pos rfl, version_Decode.ints_end _ t l hc, hc]
    | false =>
      have hx := palinoderef14_Decode.num_ex t hv k (by omega)
      rw [hc] at hx
      have hl := hb.1
      have hb2 := hb.num hc
      have e : version_Decode.ints (m + 1) t l = version_Decode.ints m (version_Decode.gN t).2 (l ++ [(version_Decode.gN t).1]) := by
        conv => lhs; unfold version_Decode.ints
        rw [if_neg (by rw [hc]; decide)]
      rw [if_neg (by decide), hx, Option.bind_some, if_pos (by omega), e, palinoderef14_Decode.wrapS _ (by omega) (by omega)]
      exact ih n (i + 1) (version_Decode.gN t).2 (l ++ [(version_Decode.gN t).1]) (palinoderef14_Decode.inv_num hv) (by rw [List.length_append]; exact hb2) (by omega) (by omega) hn k (by omega)
theorem palinoderef14_Decode.row_ex (t : version_Decode.S) (h : palinoderef14_Decode.inv t) (hs : t.1.size ≤ 1048576) : ∃ k, palinoderef14_reader_row.f k t.1 t.2 = some ((version_Decode.row t).1, (version_Decode.row t).2.1, (version_Decode.row t).2.2) := by
  have hr := version_Decode.gN_range t
  have hz := version_Decode.gN_size t
  refine ⟨(version_Decode.gN t).1.toNat + 22, ?_⟩
  unfold palinoderef14_reader_row.f version_Decode.row
  rw [palinoderef14_Decode.num_ex t h _ (by omega), Option.bind_some]
  exact palinoderef14_Decode.ints_ex _ _ 0 (version_Decode.gN t).2 [] (palinoderef14_Decode.inv_num h) ⟨by show 0 + _ ≤ _; omega, fun _ => by show 0 + _ ≤ _; omega, by omega⟩ (by omega) (Int.le_refl _) hr.2 _ (Nat.le_refl _)
theorem palinoderef14_Decode.ints_inv : ∀ (m : Nat) (t : version_Decode.S) (l : List Int), palinoderef14_Decode.inv t → palinoderef14_Decode.inv (version_Decode.ints m t l).2 ∧ (version_Decode.ints m t l).2.1.size ≤ t.1.size := by
  intro m
  induction m with
  | zero => intro t l h; exact ⟨h, Nat.le_refl _⟩
  | succ m ih =>
    intro t l h
    unfold version_Decode.ints
    split
    · exact ⟨h, Nat.le_refl _⟩
    · have := ih (version_Decode.gN t).2 (l ++ [(version_Decode.gN t).1]) (palinoderef14_Decode.inv_num h)
      have := version_Decode.gN_size t
      exact ⟨(ih (version_Decode.gN t).2 (l ++ [(version_Decode.gN t).1]) (palinoderef14_Decode.inv_num h)).1, by omega⟩
theorem palinoderef14_Decode.row_inv (t : version_Decode.S) (h : palinoderef14_Decode.inv t) : palinoderef14_Decode.inv (version_Decode.row t).2 ∧ (version_Decode.row t).2.1.size ≤ t.1.size := by
  have h1 := palinoderef14_Decode.ints_inv (version_Decode.gN t).1.toNat (version_Decode.gN t).2 [] (palinoderef14_Decode.inv_num h)
  have h2 := version_Decode.gN_size t
  exact ⟨h1.1, Nat.le_trans h1.2 h2⟩
/-- Decode's variables: the reader, the edit so far, the result's place; gx: a block that is none of the tables' row. -/
structure palinoderef14_Decode.RS (w0 W : World) (gs g2 ge gx : Nat) (t : version_Decode.S) (v0 v1 v2 v3 : Value) (L : List S35) (D G H : List Int) (q : Int) : Prop where
  hs : IsS93 w0 W gs t.1 t.2
  he : W.heap[ge]? = some (.cells #[v0, v1, v2, v3, .int .i64 q] 32 (0, 0))
  h2 : W.heap[g2]? = some (.cells #[.slice none 0 0, .slice none 0 0, .slice none 0 0, .slice none 0 0, .int .i64 0] 32 (0, 0))
  ne : g2 ≠ ge
  r0 : Kd.R k35 35 W w0.heap.size (fun k => k ≠ gx) v0 L
  r1 : Kd.R (Kd.int .i64) 3 W w0.heap.size (fun k => some k ≠ v2.ownBlock ∧ some k ≠ v3.ownBlock) v1 D
  r2 : Kd.R (Kd.int .i64) 3 W w0.heap.size (fun k => some k ≠ v1.ownBlock ∧ some k ≠ v3.ownBlock) v2 G
  r3 : Kd.R (Kd.int .i64) 3 W w0.heap.size (fun k => some k ≠ v1.ownBlock ∧ some k ≠ v2.ownBlock) v3 H
  low : Below w0.heap.size w0 W
  be : w0.heap.size ≤ ge
  b2 : w0.heap.size ≤ g2
  iv : palinoderef14_Decode.inv t
theorem palinoderef14_Decode.RS.call_ {w0 W W' : World} {gs g2 ge gx : Nat} {t : version_Decode.S} {v0 v1 v2 v3 : Value} {L : List S35} {D G H : List Int} {q : Int} (h : palinoderef14_Decode.RS w0 W gs g2 ge gx t v0 v1 v2 v3 L D G H q) {t' : version_Decode.S} (hs : IsS93 w0 W' gs t'.1 t'.2) (hb : Below w0.heap.size w0 W') (hk : KeepBut W W' gs none) (hi : palinoderef14_Decode.inv t') : palinoderef14_Decode.RS w0 W' gs g2 ge gx t' v0 v1 v2 v3 L D G H q := by
  have kb : ∀ {g T : Nat} {cs : Array Value}, W.heap[g]? = some (.cells cs T (0, 0)) → T ≠ 93 → W'.heap[g]? = some (.cells cs T (0, 0)) := fun hc ht => (hk.2 _ (blk_lt hc) (blk_ne hc h.hs.1 ht) (by simp)).trans hc
  exact ⟨hs, kb h.he (by decide), kb h.h2 (by decide), h.ne, Kd.R_mono (Kd.R_keep (IsS93.apart h.hs h.r0 (by decide)) hk (fun _ hx => hx.2)) (fun _ hx => hx.1), Kd.R_mono (Kd.R_keep (IsS93.apart h.hs h.r1 (by decide)) hk (fun _ hx => hx.2)) (fun _ hx => hx.1), Kd.R_mono (Kd.R_keep (IsS93.apart h.hs h.r2 (by decide)) hk (fun _ hx => hx.2)) (fun _ hx => hx.1), Kd.R_mono (Kd.R_keep (IsS93.apart h.hs h.r3 (by decide)) hk (fun _ hx => hx.2)) (fun _ hx => hx.1), hb, h.be, h.b2, hi⟩
theorem palinoderef14_Decode.RS.below_ {w0 W W' : World} {gs g2 ge gx : Nat} {t : version_Decode.S} {v0 v1 v2 v3 : Value} {L : List S35} {D G H : List Int} {q : Int} (h : palinoderef14_Decode.RS w0 W gs g2 ge gx t v0 v1 v2 v3 L D G H q) (hb : Below W.heap.size W W') : palinoderef14_Decode.RS w0 W' gs g2 ge gx t v0 v1 v2 v3 L D G H q :=
  ⟨h.hs.below hb, blk_below h.he hb, blk_below h.h2 hb, h.ne, Kd.R_below h.r0 hb, Kd.R_below h.r1 hb, Kd.R_below h.r2 hb, Kd.R_below h.r3 hb, below_step h.low hb, h.be, h.b2, h.iv⟩
theorem palinoderef14_Decode.RS.gx_ {w0 W : World} {gs g2 ge gx : Nat} {t : version_Decode.S} {v0 v1 v2 v3 : Value} {L : List S35} {D G H : List Int} {q : Int} (h : palinoderef14_Decode.RS w0 W gs g2 ge gx t v0 v1 v2 v3 L D G H q) (gm : Nat) (hm : W.heap.size ≤ gm) : palinoderef14_Decode.RS w0 W gs g2 ge gm t v0 v1 v2 v3 L D G H q :=
  ⟨h.hs, h.he, h.h2, h.ne, Kd.R_mono (Kd.R_elderB h.r0 gm hm) (fun _ hk => hk.2), h.r1, h.r2, h.r3, h.low, h.be, h.b2, h.iv⟩
theorem palinoderef14_Decode.RS.setm_ {w0 W : World} {gs g2 ge gx : Nat} {t : version_Decode.S} {v0 v1 v2 v3 : Value} {L : List S35} {D G H : List Int} {q : Int} (h : palinoderef14_Decode.RS w0 W gs g2 ge gx t v0 v1 v2 v3 L D G H q) (c : Array Value) (hm : W.heap[gx]? = some (.cells c 35 (0, 0))) (hg : w0.heap.size ≤ gx) (i : Nat) (x : Value) : palinoderef14_Decode.RS w0 (W.setCell ⟨gx, i, none⟩ x) gs g2 ge gx t v0 v1 v2 v3 L D G H q :=
  ⟨⟨blk_far h.hs.1 (blk_ne h.hs.1 hm (by decide)) _, h.hs.2⟩, blk_far h.he (blk_ne h.he hm (by decide)) _, blk_far h.h2 (blk_ne h.h2 hm (by decide)) _, h.ne, Kd.R_far (p := ⟨gx, i, none⟩) h.r0 (fun _ hk => hk) _, Kd.R_mono (Kd.R_far (p := ⟨gx, i, none⟩) (Kd.R_types h.r1 hm (by decide)) (fun _ hk => hk.2) _) (fun _ hk => hk.1), Kd.R_mono (Kd.R_far (p := ⟨gx, i, none⟩) (Kd.R_types h.r2 hm (by decide)) (fun _ hk => hk.2) _) (fun _ hk => hk.1), Kd.R_mono (Kd.R_far (p := ⟨gx, i, none⟩) (Kd.R_types h.r3 hm (by decide)) (fun _ hk => hk.2) _) (fun _ hk => hk.1), below_set h.low hg, h.be, h.b2, h.iv⟩
theorem palinoderef14_Decode.RS.app0_ {w0 W W' : World} {gs g2 ge gx : Nat} {t : version_Decode.S} {v0 v1 v2 v3 u : Value} {L : List S35} {D G H : List Int} {q : Int} (h : palinoderef14_Decode.RS w0 W gs g2 ge gx t v0 v1 v2 v3 L D G H q) {l' : List S35} (ho : Kd.R k35 35 W' w0.heap.size (fun _ => True) u l') (hb : Below w0.heap.size w0 W') (hg : W.grownBy W' v0.ownBlock) :
    palinoderef14_Decode.RS w0 (W'.setCell ⟨ge, 0, none⟩ u) gs g2 ge g2 t u v1 v2 v3 l' D G H q := by
  have hne : ∀ {g T : Nat} {cs : Array Value}, W.heap[g]? = some (.cells cs T (0, 0)) → 35 ≠ T → W'.heap[g]? = some (.cells cs T (0, 0)) := fun hc ht => blk_grown hc hg (Kd.R_ne h.r0 hc ht)
  have e3 := hne h.he (by decide)
  have e2 := hne h.h2 (by decide)
  exact ⟨⟨blk_far (hne h.hs.1 (by decide)) (blk_ne h.he h.hs.1 (by decide)).symm _, h.hs.2⟩, blk_put e3 0 _ rfl, blk_far e2 h.ne _, h.ne, Kd.R_mono (Kd.R_far (p := ⟨ge, 0, none⟩) (Kd.R_types (Kd.R_types ho e2 (by decide)) e3 (by decide)) (fun _ hk => hk.2) u) (fun _ hk => hk.1.2), Kd.R_mono (Kd.R_far (p := ⟨ge, 0, none⟩) (Kd.R_types (Kd.R_grown (Kd.R_apartR h.r1 h.r0 (by decide)) hg (fun _ hk => hk.2)) e3 (by decide)) (fun _ hk => hk.2) u) (fun _ hk => hk.1.1), Kd.R_mono (Kd.R_far (p := ⟨ge, 0, none⟩) (Kd.R_types (Kd.R_grown (Kd.R_apartR h.r2 h.r0 (by decide)) hg (fun _ hk => hk.2)) e3 (by decide)) (fun _ hk => hk.2) u) (fun _ hk => hk.1.1), Kd.R_mono (Kd.R_far (p := ⟨ge, 0, none⟩) (Kd.R_types (Kd.R_grown (Kd.R_apartR h.r3 h.r0 (by decide)) hg (fun _ hk => hk.2)) e3 (by decide)) (fun _ hk => hk.2) u) (fun _ hk => hk.1.1), below_set hb h.be, h.be, h.b2, h.iv⟩
theorem palinoderef14_Decode.RS.put1_ {w0 W W' : World} {gs g2 ge gx : Nat} {t : version_Decode.S} {v0 v1 v2 v3 u : Value} {L : List S35} {D G H : List Int} {q : Int} (h : palinoderef14_Decode.RS w0 W gs g2 ge gx t v0 v1 v2 v3 L D G H q) {t' : version_Decode.S} {l' : List Int} (k : palinoderef14_Decode.RS w0 W' gs g2 ge gx t' v0 v1 v2 v3 L D G H q) (hz : w0.heap.size ≤ W.heap.size) (ho : Kd.R (Kd.int .i64) 3 W' W.heap.size (fun _ => True) u l') :
    palinoderef14_Decode.RS w0 (W'.setCell ⟨ge, 1, none⟩ u) gs g2 ge gx t' v0 u v2 v3 L l' G H q := by
  have fresh : ∀ k, u.ownBlock = some k → W.heap.size ≤ k := fun k hk => ((Kd.R_bound ho).1 k hk).2.1
  refine ⟨⟨blk_far k.hs.1 (blk_ne k.he k.hs.1 (by decide)).symm _, k.hs.2⟩, blk_put k.he 1 _ rfl, blk_far k.h2 k.ne _, k.ne, Kd.R_mono (Kd.R_far (p := ⟨ge, 1, none⟩) (Kd.R_types k.r0 k.he (by decide)) (fun _ hk => hk.2) u) (fun _ hk => hk.1), ?_, ?_, ?_, below_set k.low k.be, k.be, k.b2, k.iv⟩
  · exact Kd.R_reok rfl (Kd.R_far (p := ⟨ge, 1, none⟩) (Kd.R_types (Kd.R_lower ho hz) k.he (by decide)) (fun _ hk => hk.2) u) (fun k hk => ⟨fun e => by have := Kd.R_lt h.r2 k e.symm; have := fresh k hk; omega, fun e => by have := Kd.R_lt h.r3 k e.symm; have := fresh k hk; omega⟩)
  · exact Kd.R_reok rfl (Kd.R_far (p := ⟨ge, 1, none⟩) (Kd.R_types k.r2 k.he (by decide)) (fun _ hk => hk.2) u) (fun k2 hk => ⟨fun e => by have := Kd.R_lt h.r2 k2 hk; have := fresh k2 e.symm; omega, (k.r2.1 k2 hk).2⟩)
  · exact Kd.R_reok rfl (Kd.R_far (p := ⟨ge, 1, none⟩) (Kd.R_types k.r3 k.he (by decide)) (fun _ hk => hk.2) u) (fun k2 hk => ⟨fun e => by have := Kd.R_lt h.r3 k2 hk; have := fresh k2 e.symm; omega, (k.r3.1 k2 hk).2⟩)
theorem palinoderef14_Decode.RS.put2_ {w0 W W' : World} {gs g2 ge gx : Nat} {t : version_Decode.S} {v0 v1 v2 v3 u : Value} {L : List S35} {D G H : List Int} {q : Int} (h : palinoderef14_Decode.RS w0 W gs g2 ge gx t v0 v1 v2 v3 L D G H q) {t' : version_Decode.S} {l' : List Int} (k : palinoderef14_Decode.RS w0 W' gs g2 ge gx t' v0 v1 v2 v3 L D G H q) (hz : w0.heap.size ≤ W.heap.size) (ho : Kd.R (Kd.int .i64) 3 W' W.heap.size (fun _ => True) u l') :
    palinoderef14_Decode.RS w0 (W'.setCell ⟨ge, 2, none⟩ u) gs g2 ge gx t' v0 v1 u v3 L D l' H q := by
  have fresh : ∀ k, u.ownBlock = some k → W.heap.size ≤ k := fun k hk => ((Kd.R_bound ho).1 k hk).2.1
  refine ⟨⟨blk_far k.hs.1 (blk_ne k.he k.hs.1 (by decide)).symm _, k.hs.2⟩, blk_put k.he 2 _ rfl, blk_far k.h2 k.ne _, k.ne, Kd.R_mono (Kd.R_far (p := ⟨ge, 2, none⟩) (Kd.R_types k.r0 k.he (by decide)) (fun _ hk => hk.2) u) (fun _ hk => hk.1), ?_, ?_, ?_, below_set k.low k.be, k.be, k.b2, k.iv⟩
  · exact Kd.R_reok rfl (Kd.R_far (p := ⟨ge, 2, none⟩) (Kd.R_types k.r1 k.he (by decide)) (fun _ hk => hk.2) u) (fun k2 hk => ⟨fun e => by have := Kd.R_lt h.r1 k2 hk; have := fresh k2 e.symm; omega, (k.r1.1 k2 hk).2⟩)
  · exact Kd.R_reok rfl (Kd.R_far (p := ⟨ge, 2, none⟩) (Kd.R_types (Kd.R_lower ho hz) k.he (by decide)) (fun _ hk => hk.2) u) (fun k hk => ⟨fun e => by have := Kd.R_lt h.r1 k e.symm; have := fresh k hk; omega, fun e => by have := Kd.R_lt h.r3 k e.symm; have := fresh k hk; omega⟩)
  · exact Kd.R_reok rfl (Kd.R_far (p := ⟨ge, 2, none⟩) (Kd.R_types k.r3 k.he (by decide)) (fun _ hk => hk.2) u) (fun k2 hk => ⟨(k.r3.1 k2 hk).1, fun e => by have := Kd.R_lt h.r3 k2 hk; have := fresh k2 e.symm; omega⟩)
theorem palinoderef14_Decode.RS.put3_ {w0 W W' : World} {gs g2 ge gx : Nat} {t : version_Decode.S} {v0 v1 v2 v3 u : Value} {L : List S35} {D G H : List Int} {q : Int} (h : palinoderef14_Decode.RS w0 W gs g2 ge gx t v0 v1 v2 v3 L D G H q) {t' : version_Decode.S} {l' : List Int} (k : palinoderef14_Decode.RS w0 W' gs g2 ge gx t' v0 v1 v2 v3 L D G H q) (hz : w0.heap.size ≤ W.heap.size) (ho : Kd.R (Kd.int .i64) 3 W' W.heap.size (fun _ => True) u l') :
    palinoderef14_Decode.RS w0 (W'.setCell ⟨ge, 3, none⟩ u) gs g2 ge gx t' v0 v1 v2 u L D G l' q := by
  have fresh : ∀ k, u.ownBlock = some k → W.heap.size ≤ k := fun k hk => ((Kd.R_bound ho).1 k hk).2.1
  refine ⟨⟨blk_far k.hs.1 (blk_ne k.he k.hs.1 (by decide)).symm _, k.hs.2⟩, blk_put k.he 3 _ rfl, blk_far k.h2 k.ne _, k.ne, Kd.R_mono (Kd.R_far (p := ⟨ge, 3, none⟩) (Kd.R_types k.r0 k.he (by decide)) (fun _ hk => hk.2) u) (fun _ hk => hk.1), ?_, ?_, ?_, below_set k.low k.be, k.be, k.b2, k.iv⟩
  · exact Kd.R_reok rfl (Kd.R_far (p := ⟨ge, 3, none⟩) (Kd.R_types k.r1 k.he (by decide)) (fun _ hk => hk.2) u) (fun k2 hk => ⟨(k.r1.1 k2 hk).1, fun e => by have := Kd.R_lt h.r1 k2 hk; have := fresh k2 e.symm; omega⟩)
  · exact Kd.R_reok rfl (Kd.R_far (p := ⟨ge, 3, none⟩) (Kd.R_types k.r2 k.he (by decide)) (fun _ hk => hk.2) u) (fun k2 hk => ⟨(k.r2.1 k2 hk).1, fun e => by have := Kd.R_lt h.r2 k2 hk; have := fresh k2 e.symm; omega⟩)
  · exact Kd.R_reok rfl (Kd.R_far (p := ⟨ge, 3, none⟩) (Kd.R_types (Kd.R_lower ho hz) k.he (by decide)) (fun _ hk => hk.2) u) (fun k hk => ⟨fun e => by have := Kd.R_lt h.r1 k e.symm; have := fresh k hk; omega, fun e => by have := Kd.R_lt h.r2 k e.symm; have := fresh k hk; omega⟩)
theorem palinoderef14_Decode.RS.seq_ {w0 W : World} {gs g2 ge gx : Nat} {t : version_Decode.S} {v0 v1 v2 v3 : Value} {L : List S35} {D G H : List Int} {q : Int} (h : palinoderef14_Decode.RS w0 W gs g2 ge gx t v0 v1 v2 v3 L D G H q) (x : Int) : palinoderef14_Decode.RS w0 (W.setCell ⟨ge, 4, none⟩ (.int .i64 x)) gs g2 ge gx t v0 v1 v2 v3 L D G H x :=
  ⟨⟨blk_far h.hs.1 (blk_ne h.he h.hs.1 (by decide)).symm _, h.hs.2⟩, blk_put h.he 4 _ rfl, blk_far h.h2 h.ne _, h.ne, Kd.R_mono (Kd.R_far (p := ⟨ge, 4, none⟩) (Kd.R_types h.r0 h.he (by decide)) (fun _ hk => hk.2) _) (fun _ hk => hk.1), Kd.R_mono (Kd.R_far (p := ⟨ge, 4, none⟩) (Kd.R_types h.r1 h.he (by decide)) (fun _ hk => hk.2) _) (fun _ hk => hk.1), Kd.R_mono (Kd.R_far (p := ⟨ge, 4, none⟩) (Kd.R_types h.r2 h.he (by decide)) (fun _ hk => hk.2) _) (fun _ hk => hk.1), Kd.R_mono (Kd.R_far (p := ⟨ge, 4, none⟩) (Kd.R_types h.r3 h.he (by decide)) (fun _ hk => hk.2) _) (fun _ hk => hk.1), below_set h.low h.be, h.be, h.b2, h.iv⟩
theorem palinoderef14_Decode.RS.num_ {w0 W : World} {gs g2 ge gx : Nat} {t : version_Decode.S} {v0 v1 v2 v3 : Value} {L : List S35} {D G H : List Int} {q : Int} (h : palinoderef14_Decode.RS w0 W gs g2 ge gx t v0 v1 v2 v3 L D G H q) :
    Calls Try.prog 54 #[.pointer (some ⟨gs, 0, none⟩)] W fun e W' => e = .returned (.int .i64 (version_Decode.gN t).1) ∧ palinoderef14_Decode.RS w0 W' gs g2 ge gx (version_Decode.gN t).2 v0 v1 v2 v3 L D G H q ∧ KeepBut W W' gs none :=
  (palinoderef14_reader_num.calls 20 gs t.1 t.2 _ _ _ w0 W h.hs h.low (palinoderef14_Decode.num_ex t h.iv 20 (Nat.le_refl _))).mono fun e W' ⟨h1, h2, h3, h4⟩ => ⟨h1, h.call_ h2 h3 h4 (palinoderef14_Decode.inv_num h.iv), h4⟩
theorem palinoderef14_Decode.RS.text_ {w0 W : World} {gs g2 ge gx : Nat} {t : version_Decode.S} {v0 v1 v2 v3 : Value} {L : List S35} {D G H : List Int} {q : Int} (h : palinoderef14_Decode.RS w0 W gs g2 ge gx t v0 v1 v2 v3 L D G H q) :
    Calls Try.prog 55 #[.pointer (some ⟨gs, 0, none⟩)] W fun e W' => e = .returned (.string (version_Decode.gT t).1) ∧ palinoderef14_Decode.RS w0 W' gs g2 ge gx (version_Decode.gT t).2 v0 v1 v2 v3 L D G H q ∧ KeepBut W W' gs none :=
  (palinoderef14_reader_text.calls 20 gs t.1 t.2 _ _ _ w0 W h.hs h.low (palinoderef14_Decode.text_ex t h.iv 20 (Nat.le_refl _))).mono fun e W' ⟨h1, h2, h3, h4⟩ => ⟨h1, h.call_ h2 h3 h4 (palinoderef14_Decode.inv_text h.iv), h4⟩
theorem palinoderef14_Decode.RS.row_ {w0 W : World} {gs g2 ge gx : Nat} {t : version_Decode.S} {v0 v1 v2 v3 : Value} {L : List S35} {D G H : List Int} {q : Int} (h : palinoderef14_Decode.RS w0 W gs g2 ge gx t v0 v1 v2 v3 L D G H q) (hz : t.1.size ≤ 1048576) :
    Calls Try.prog 56 #[.pointer (some ⟨gs, 0, none⟩)] W fun e W' => ∃ u : Value, e = .returned u ∧ Kd.R (Kd.int .i64) 3 W' W.heap.size (fun _ => True) u (version_Decode.row t).1 ∧ palinoderef14_Decode.RS w0 W' gs g2 ge gx (version_Decode.row t).2 v0 v1 v2 v3 L D G H q :=
  (palinoderef14_Decode.row_ex t h.iv hz).elim fun k hk => (palinoderef14_reader_row.calls k gs t.1 t.2 _ _ _ w0 W h.hs h.low hk).mono fun e W' ⟨u, h1, h5, h2, h3, h4⟩ => ⟨u, h1, h5, h.call_ h2 h3 h4 (palinoderef14_Decode.row_inv t h.iv).1⟩
/-- What the document's Decode tells. -/
def palinoderef14_Decode.resE (s : ByteArray) (x : Option (ByteArray × Bool)) : Option ((List S35 × List Int × List Int × List Int × Int) × Bool) :=
  if (version_Decode.tellE s).2 = true then some (([], [], [], [], 0), false) else x.bind fun r => if r.2 = true ∧ r.1 = s then some ((version_Decode.tellE s).1, true) else some (([], [], [], [], 0), false)
def palinoderef14_Decode.enc (k : Nat) (s : ByteArray) : Option (ByteArray × Bool) := palinoderef14_Encode.f k (version_Decode.tellE s).1.1 (version_Decode.tellE s).1.2.1 (version_Decode.tellE s).1.2.2.1 (version_Decode.tellE s).1.2.2.2.1 (version_Decode.tellE s).1.2.2.2.2
set_option maxHeartbeats 4000000 in
set_option maxRecDepth 100000 in
theorem palinoderef14_Decode.walk_ (k : Nat) (s0 : ByteArray) (w : World) (hsz : s0.size ≤ 1048576) (r : (List S35 × List Int × List Int × List Int × Int) × Bool) (hr_ : palinoderef14_Decode.resE s0 (palinoderef14_Decode.enc k s0) = some r) : Calls Try.prog 20 #[.string s0] w fun e w' => ∃ v0_ v1_ v2_ v3_ : Value, e = .returned (.tuple #[.agg #[v0_, v1_, v2_, v3_, .int .i64 r.1.2.2.2.2], .bool r.2]) ∧ Kd.R k35 35 w' w.heap.size (fun _ => True) v0_ r.1.1 ∧ Kd.R (Kd.int .i64) 3 w' w.heap.size (fun k_ => some k_ ≠ (v2_ : Value).ownBlock ∧ some k_ ≠ (v3_ : Value).ownBlock) v1_ r.1.2.1 ∧ Kd.R (Kd.int .i64) 3 w' w.heap.size (fun k_ => some k_ ≠ (v1_ : Value).ownBlock ∧ some k_ ≠ (v3_ : Value).ownBlock) v2_ r.1.2.2.1 ∧ Kd.R (Kd.int .i64) 3 w' w.heap.size (fun k_ => some k_ ≠ (v1_ : Value).ownBlock ∧ some k_ ≠ (v2_ : Value).ownBlock) v3_ r.1.2.2.2.1 ∧ Below w.heap.size w w' := by
  have HRES := Aside0.mk hr_
  have HSZ := Aside0.mk hsz
  clear hr_ hsz
  have hbd0 : version_Decode.bd 0 ((s0, false) : version_Decode.S) := ⟨by have := HSZ.out; show 0 + s0.size ≤ _; omega, fun _ => by have := HSZ.out; show 0 + s0.size ≤ _; omega, HSZ.out⟩
  obtain ⟨n0, t1, hN⟩ : ∃ x y, version_Decode.gN (s0, false) = (x, y) := ⟨_, _, rfl⟩
  have HBD1 := Aside0.mk (show version_Decode.bd 0 t1 by have := hbd0.next; rw [hN] at this; exact this)
  have HN0R := Aside0.mk (show 0 ≤ n0 ∧ n0 ≤ 9007199254740991 by have := version_Decode.gN_range (s0, false); rw [hN] at this; exact this)
  obtain ⟨TL, TT, hT⟩ : ∃ a b, version_Decode.tabs n0.toNat t1 [] = (a, b) := ⟨_, _, rfl⟩
  obtain ⟨RD, T1, hD⟩ : ∃ a b, version_Decode.row TT = (a, b) := ⟨_, _, rfl⟩
  obtain ⟨RG, T2, hG⟩ : ∃ a b, version_Decode.row T1 = (a, b) := ⟨_, _, rfl⟩
  obtain ⟨RH, T3, hH⟩ : ∃ a b, version_Decode.row T2 = (a, b) := ⟨_, _, rfl⟩
  obtain ⟨q, T4, hQ⟩ : ∃ a b, version_Decode.gN T3 = (a, b) := ⟨_, _, rfl⟩
  have HTELL := Aside0.mk (show version_Decode.tellE s0 = ((TL, RD, RG, RH, q), T4.2) by unfold version_Decode.tellE; simp only [hN, hT, hD, hG, hH, hQ])
  have HNN := Aside0.mk hN
  have HTT := Aside0.mk hT
  have HDD := Aside0.mk hD
  have HGG := Aside0.mk hG
  have HHH := Aside0.mk hH
  have HQQ := Aside0.mk hQ
  clear hN hT hD hG hH hQ hbd0
  go_enter Try.func20, Try.ntmps20
  go_upto_region 3 with (first | ((with_reducible refine gate_dst (N := 2) rfl ?_); refine box_event ?hg (N := 2) ?hd (cs := #[.slice none 0 0, .slice none 0 0, .slice none 0 0, .slice none 0 0, .int .i64 0]) (t := 32) ?hr ?_; (case hd => rfl); (case hg => rfl); (case hr => first | (go_simp; done) | (go_simp; rfl)); intro g2 hg_ wA hbox hb; have HA := Aside0.mk hbox; have HBA := Aside0.mk hb; have HG2 := Aside0.mk (show w.heap.size ≤ g2 by rw [hg_]; exact Nat.le_refl _); clear hg_ hbox hb) | ((with_reducible refine gate_dst (N := 13) rfl ?_); refine box_event ?hg (N := 13) ?hd (cs := #[.string s0, .bool false]) (t := 93) ?hr ?_; (case hd => rfl); (case hg => rfl); (case hr => first | (go_simp; done) | (go_simp; rfl)); intro gs hg_ wB hbox hb; have HA2 := Aside0.mk (blk_below HA.out hb); have HBB := Aside0.mk (below_step HBA.out hb); have HSS := Aside0.mk (show IsS93 w wB gs s0 false from ⟨hbox, by rw [hg_]; exact HBA.out.size⟩); clear HA HBA; clear hg_ hbox hb) | ((with_reducible refine gate_dst (N := 5) rfl ?_); refine box_event ?hg (N := 5) ?hd (cs := #[.slice none 0 0, .slice none 0 0, .slice none 0 0, .slice none 0 0, .int .i64 0]) (t := 32) ?hr ?_; (case hd => rfl); (case hg => rfl); (case hr => first | (go_simp; done) | (go_simp; rfl)); intro ge hg_ wC hbox hb; have HRS := Aside0.mk (show palinoderef14_Decode.RS w wC gs g2 ge g2 (s0, false) (.slice none 0 0) (.slice none 0 0) (.slice none 0 0) (.slice none 0 0) [] [] [] [] 0 from ⟨HSS.out.below hb, hbox, blk_below HA2.out hb, (by rw [hg_]; exact Nat.ne_of_lt (blk_lt HA2.out)), Kd.R_nil _ _ _ _ _, Kd.R_nil _ _ _ _ _, Kd.R_nil _ _ _ _ _, Kd.R_nil _ _ _ _ _, below_step HBB.out hb, (by rw [hg_]; exact HBB.out.size), HG2.out, (fun h => by cases h)⟩); clear HA2 HBB HSS HG2; clear hg_ hbox hb))
  go_wp2_with fail
  refine (palinoderef14_Decode.RS.num_ HRS.out).mono ?_
  rintro e w2 ⟨rfl, hd, hk⟩
  rw [HNN.out] at hd ⊢
  have HD1 := Aside0.mk (show palinoderef14_Decode.RS w w2 gs g2 ge g2 t1 (.slice none 0 0) (.slice none 0 0) (.slice none 0 0) (.slice none 0 0) [] [] [] [] 0 from hd)
  clear hd hk HRS
  go_upto_block 0 with (fail)
  go_cut [] (fun wc => ∃ v0, Aside0 (palinoderef14_Decode.RS w wc gs g2 ge g2 TT v0 (.slice none 0 0) (.slice none 0 0) (.slice none 0 0) TL [] [] [] 0) ∧ Aside0 (version_Decode.bd 0 TT))
  case first =>
    go_wp2_with fail
    go_loopw [7] (fun i wr => ∃ (n : Int) (t : version_Decode.S) (v0 : Value) (L : List S35), i = .int .i64 n ∧ 0 ≤ n ∧ n ≤ n0 ∧ Aside0 (version_Decode.tabs (n0 - n).toNat t L = (TL, TT)) ∧ Aside0 (palinoderef14_Decode.RS w wr gs g2 ge g2 t v0 (.slice none 0 0) (.slice none 0 0) (.slice none 0 0) L [] [] [] 0) ∧ Aside0 (version_Decode.bd L.length t)) (fun i _ => (n0 - intOf i).toNat)
    case atStart => exact ⟨0, t1, _, [], rfl, Int.le_refl _, HN0R.out.1, ⟨by rw [Int.sub_zero]; exact HTT.out⟩, HD1, HBD1⟩
    case round =>
      clear HD1 HBD1
      obtain ⟨n, t, v0, L, rfl, hn0, hn, HT, HD, HBD⟩ := hrel
      have hn0r := HN0R.out.2
      by_cases hpos : n < n0
      · have c1 := (blk_cell HD.out.hs.1 1).trans rfl
        cases hbad : t.2 with
        | true =>
          rw [hbad] at c1
          go_wp2_with fail
          go_meet
          case rel =>
            obtain ⟨e1, e2⟩ := Prod.mk.inj ((version_Decode.tabs_end _ t L hbad).symm.trans HT.out)
            subst e1 e2
            exact ⟨v0, HD, ⟨HBD.out.start⟩⟩
        | false =>
          rw [hbad] at c1
          have HBAD := Aside0.mk hbad
          clear hbad
          go_upto_region 8 with (first | ((with_reducible refine gate_dst (N := 8) rfl ?_); refine box_event ?hg (N := 8) ?hd (cs := #[.int .i64 0, .int .i64 0, .string (⟨#[]⟩ : ByteArray), .string (⟨#[]⟩ : ByteArray), .int .i64 0]) (t := 35) ?hr ?_; (case hd => rfl); (case hg => rfl); (case hr => first | (go_simp; done) | (go_simp; rfl)); intro gm hg_ w3 hbox hb; have HM := Aside0.mk hbox; have HR0 := Aside0.mk ((HD.out.gx_ gm (by rw [hg_]; exact Nat.le_refl _)).below_ hb); have HGM := Aside0.mk (show w.heap.size ≤ gm by rw [hg_]; exact HD.out.low.size); clear HD; clear hg_ hbox hb))
          clear c1
          go_wp2_with fail
          refine (palinoderef14_Decode.RS.num_ HR0.out).mono ?_
          rintro e w4 ⟨rfl, hd, hk⟩
          obtain ⟨x0, y0, hxy⟩ : ∃ x y, version_Decode.gN t = (x, y) := ⟨_, _, rfl⟩
          rw [show version_Decode.gN t = (x0, y0) from hxy] at hd ⊢
          have HX0 := Aside0.mk hxy
          have HR1 := Aside0.mk (show palinoderef14_Decode.RS w w4 gs g2 ge gm y0 v0 (.slice none 0 0) (.slice none 0 0) (.slice none 0 0) L [] [] [] 0 from hd)
          have HM1 := Aside0.mk ((hk.2 _ (blk_lt HM.out) (blk_ne HM.out HR0.out.hs.1 (by decide)) (by simp)).trans HM.out)
          clear hxy hd hk HR0 HM
          have z4 := (blk_cell HM1.out 0).trans rfl
          have z5 := blk_frozen HM1.out 0
          go_upto_region 9 with (fail)
          have HR0 := Aside0.mk (HR1.out.setm_ _ HM1.out HGM.out 0 (.int .i64 x0))
          have HM : Aside0 ((w4.setCell ⟨gm, 0, none⟩ (.int .i64 x0)).heap[gm]? = some (.cells #[.int .i64 x0, .int .i64 0, .string (⟨#[]⟩ : ByteArray), .string (⟨#[]⟩ : ByteArray), .int .i64 0] 35 (0, 0))) := ⟨blk_put HM1.out 0 _ rfl⟩
          generalize w4.setCell ⟨gm, 0, none⟩ (.int .i64 x0) = w3 at HR0 HM ⊢
          clear z4 z5 HR1 HM1
          go_wp2_with fail
          refine (palinoderef14_Decode.RS.num_ HR0.out).mono ?_
          rintro e w4 ⟨rfl, hd, hk⟩
          obtain ⟨x1, y1, hxy⟩ : ∃ x y, version_Decode.gN y0 = (x, y) := ⟨_, _, rfl⟩
          rw [show version_Decode.gN y0 = (x1, y1) from hxy] at hd ⊢
          have HX1 := Aside0.mk hxy
          have HR1 := Aside0.mk (show palinoderef14_Decode.RS w w4 gs g2 ge gm y1 v0 (.slice none 0 0) (.slice none 0 0) (.slice none 0 0) L [] [] [] 0 from hd)
          have HM1 := Aside0.mk ((hk.2 _ (blk_lt HM.out) (blk_ne HM.out HR0.out.hs.1 (by decide)) (by simp)).trans HM.out)
          clear hxy hd hk HR0 HM
          have z4 := (blk_cell HM1.out 1).trans rfl
          have z5 := blk_frozen HM1.out 1
          go_upto_region 10 with (fail)
          have HR0 := Aside0.mk (HR1.out.setm_ _ HM1.out HGM.out 1 (.int .i64 x1))
          have HM : Aside0 ((w4.setCell ⟨gm, 1, none⟩ (.int .i64 x1)).heap[gm]? = some (.cells #[.int .i64 x0, .int .i64 x1, .string (⟨#[]⟩ : ByteArray), .string (⟨#[]⟩ : ByteArray), .int .i64 0] 35 (0, 0))) := ⟨blk_put HM1.out 1 _ rfl⟩
          generalize w4.setCell ⟨gm, 1, none⟩ (.int .i64 x1) = w3 at HR0 HM ⊢
          clear z4 z5 HR1 HM1
          go_wp2_with fail
          refine (palinoderef14_Decode.RS.text_ HR0.out).mono ?_
          rintro e w4 ⟨rfl, hd, hk⟩
          obtain ⟨x2, y2, hxy⟩ : ∃ x y, version_Decode.gT y1 = (x, y) := ⟨_, _, rfl⟩
          rw [show version_Decode.gT y1 = (x2, y2) from hxy] at hd ⊢
          have HX2 := Aside0.mk hxy
          have HR1 := Aside0.mk (show palinoderef14_Decode.RS w w4 gs g2 ge gm y2 v0 (.slice none 0 0) (.slice none 0 0) (.slice none 0 0) L [] [] [] 0 from hd)
          have HM1 := Aside0.mk ((hk.2 _ (blk_lt HM.out) (blk_ne HM.out HR0.out.hs.1 (by decide)) (by simp)).trans HM.out)
          clear hxy hd hk HR0 HM
          have z4 := (blk_cell HM1.out 2).trans rfl
          have z5 := blk_frozen HM1.out 2
          go_upto_region 11 with (fail)
          have HR0 := Aside0.mk (HR1.out.setm_ _ HM1.out HGM.out 2 (.string x2))
          have HM : Aside0 ((w4.setCell ⟨gm, 2, none⟩ (.string x2)).heap[gm]? = some (.cells #[.int .i64 x0, .int .i64 x1, .string x2, .string (⟨#[]⟩ : ByteArray), .int .i64 0] 35 (0, 0))) := ⟨blk_put HM1.out 2 _ rfl⟩
          generalize w4.setCell ⟨gm, 2, none⟩ (.string x2) = w3 at HR0 HM ⊢
          clear z4 z5 HR1 HM1
          go_wp2_with fail
          refine (palinoderef14_Decode.RS.text_ HR0.out).mono ?_
          rintro e w4 ⟨rfl, hd, hk⟩
          obtain ⟨x3, y3, hxy⟩ : ∃ x y, version_Decode.gT y2 = (x, y) := ⟨_, _, rfl⟩
          rw [show version_Decode.gT y2 = (x3, y3) from hxy] at hd ⊢
          have HX3 := Aside0.mk hxy
          have HR1 := Aside0.mk (show palinoderef14_Decode.RS w w4 gs g2 ge gm y3 v0 (.slice none 0 0) (.slice none 0 0) (.slice none 0 0) L [] [] [] 0 from hd)
          have HM1 := Aside0.mk ((hk.2 _ (blk_lt HM.out) (blk_ne HM.out HR0.out.hs.1 (by decide)) (by simp)).trans HM.out)
          clear hxy hd hk HR0 HM
          have z4 := (blk_cell HM1.out 3).trans rfl
          have z5 := blk_frozen HM1.out 3
          go_upto_region 12 with (fail)
          have HR0 := Aside0.mk (HR1.out.setm_ _ HM1.out HGM.out 3 (.string x3))
          have HM : Aside0 ((w4.setCell ⟨gm, 3, none⟩ (.string x3)).heap[gm]? = some (.cells #[.int .i64 x0, .int .i64 x1, .string x2, .string x3, .int .i64 0] 35 (0, 0))) := ⟨blk_put HM1.out 3 _ rfl⟩
          generalize w4.setCell ⟨gm, 3, none⟩ (.string x3) = w3 at HR0 HM ⊢
          clear z4 z5 HR1 HM1
          go_wp2_with fail
          refine (palinoderef14_Decode.RS.num_ HR0.out).mono ?_
          rintro e w4 ⟨rfl, hd, hk⟩
          obtain ⟨x4, y4, hxy⟩ : ∃ x y, version_Decode.gN y3 = (x, y) := ⟨_, _, rfl⟩
          rw [show version_Decode.gN y3 = (x4, y4) from hxy] at hd ⊢
          have HX4 := Aside0.mk hxy
          have HR1 := Aside0.mk (show palinoderef14_Decode.RS w w4 gs g2 ge gm y4 v0 (.slice none 0 0) (.slice none 0 0) (.slice none 0 0) L [] [] [] 0 from hd)
          have HM1 := Aside0.mk ((hk.2 _ (blk_lt HM.out) (blk_ne HM.out HR0.out.hs.1 (by decide)) (by simp)).trans HM.out)
          clear hxy hd hk HR0 HM
          have z4 := (blk_cell HM1.out 4).trans rfl
          have z5 := blk_frozen HM1.out 4
          go_upto_region 13 with (fail)
          have HR0 := Aside0.mk (HR1.out.setm_ _ HM1.out HGM.out 4 (.int .i64 x4))
          have HM : Aside0 ((w4.setCell ⟨gm, 4, none⟩ (.int .i64 x4)).heap[gm]? = some (.cells #[.int .i64 x0, .int .i64 x1, .string x2, .string x3, .int .i64 x4] 35 (0, 0))) := ⟨blk_put HM1.out 4 _ rfl⟩
          generalize w4.setCell ⟨gm, 4, none⟩ (.int .i64 x4) = w3 at HR0 HM ⊢
          clear z4 z5 HR1 HM1
          have HMM := Aside0.mk (show version_Decode.gM t = (⟨x0, x1, x2, x3, x4⟩, y4) by unfold version_Decode.gM; rw [HX0.out]; show (_, _) = _; rw [HX1.out]; show (_, _) = _; rw [HX2.out]; show (_, _) = _; rw [HX3.out]; show (_, _) = _; rw [HX4.out])
          have HN4 := Aside0.mk (show version_Decode.bd (L.length + 1) y4 from by have := HBD.out.meta_ HBAD.out; rw [HMM.out] at this; exact this)
          clear HX0 HX1 HX2 HX3 HX4
          have e0 := (blk_cell HR0.out.he 0).trans rfl
          have m0 := (blk_cell HM.out 0).trans rfl
          have m1 := (blk_cell HM.out 1).trans rfl
          have m2 := (blk_cell HM.out 2).trans rfl
          have m3 := (blk_cell HM.out 3).trans rfl
          have m4 := (blk_cell HM.out 4).trans rfl
          go_wp2_with (first | ((with_reducible refine gate_builtin (b := .append) (xs := #[.tmp 44, .tmp 46]) rfl ?_); at_builtin; refine Kd.R_append k35 (w0 := w) w.heap.size rfl (.tmp 44) (.tmp 46) 22 35 (.agg #[.int .i64 0, .int .i64 0, .string (⟨#[]⟩ : ByteArray), .string (⟨#[]⟩ : ByteArray), .int .i64 0]) 56 rfl Try.underlying22 info35 rfl (by decide) (by omega) v0 L (⟨x0, x1, x2, x3, x4⟩ : S35) [.int .i64 x0, .int .i64 x1, .string x2, .string x3, .int .i64 x4] (fun _ => True) (fun _ => False) rfl (by first | (go_simp; done) | (go_simp; rfl)) ?aP (fun _ hk => hk.elim) (fun _ _ => trivial) ?aO ?aB ?aS ?aL ?_; (case aP => exact k35_mkM _ _ _ (⟨x0, x1, x2, x3, x4⟩ : S35)); (case aB => exact HR0.out.low); (case aO => exact Kd.R_mono HR0.out.r0 (fun _ _ => trivial)); (case aS => exact HR0.out.low.size); (case aL => have := HBD.out.1; omega); intro u w8 ho hb hg hat; have HD8 := Aside0.mk (HR0.out.app0_ ho hb hg); have he8 := blk_grown HR0.out.he hg (Kd.R_ne HR0.out.r0 HR0.out.he (by decide)); obtain ⟨A9, c9, e9⟩ := Kd.R_slice ho; simp only [List.length_append, List.length_cons, List.length_nil] at e9; subst e9; have z4 := (blk_cell he8 0).trans rfl; have z5 := blk_frozen he8 0; clear ho hb hg hat he8))
          refine ⟨⟨n + 1, y4, _, _, by go_num, by omega, by omega, ⟨?_⟩, HD8, ⟨?_⟩⟩, by simp only [intOf]; omega⟩
          · have hp : 0 < n0 - n := by omega
            have := HT.out; rw [version_Decode.tabs_step (n0 - n) t L hp HBAD.out, HMM.out, show n0 - n - 1 = n0 - (n + 1) by omega] at this; exact this
          · rw [List.length_append]; exact HN4.out
      · go_wp2_with fail
        go_meet
        case rel =>
          obtain ⟨e1, e2⟩ := Prod.mk.inj ((version_Decode.tabs_zero (n0 - n) t L (by omega)).symm.trans HT.out)
          subst e1 e2
          exact ⟨v0, HD, ⟨HBD.out.start⟩⟩
  case rest =>
    clear HD1 HBD1 HTT HNN
    obtain ⟨v0, HD, HBD⟩ := hcut
    have HZ0 := Aside0.mk HBD.out.2.2
    clear HBD
    go_wp2_with fail
    refine (palinoderef14_Decode.RS.row_ HD.out HZ0.out).mono ?_
    rintro e wx ⟨u1, rfl, ho, hd⟩
    have HZ1 := Aside0.mk (show T1.1.size ≤ 1048576 by have := (palinoderef14_Decode.row_inv TT HD.out.iv).2; rw [HDD.out] at this; exact Nat.le_trans this HZ0.out)
    rw [HDD.out] at ho hd
    obtain ⟨A1, c1, e1⟩ := Kd.R_slice ho
    subst e1
    have HDx := Aside0.mk (show palinoderef14_Decode.RS w wx gs g2 ge g2 T1 v0 (.slice none 0 0) (.slice none 0 0) (.slice none 0 0) TL [] [] [] 0 from hd)
    have HDy := Aside0.mk (show palinoderef14_Decode.RS w (wx.setCell ⟨ge, 1, none⟩ (.slice A1 RD.length c1)) gs g2 ge g2 T1 v0 (.slice A1 RD.length c1) (.slice none 0 0) (.slice none 0 0) TL RD [] [] 0 from HD.out.put1_ HDx.out HD.out.low.size ho)
    have z4 := (blk_cell HDx.out.he 1).trans rfl
    have z5 := blk_frozen HDx.out.he 1
    clear ho hd HD HZ0
    go_upto_region 15 with (fail)
    generalize wx.setCell ⟨ge, 1, none⟩ (.slice A1 RD.length c1) = wy1 at HDy ⊢
    have HD := HDy
    clear HDx HDy z4 z5
    go_wp2_with fail
    refine (palinoderef14_Decode.RS.row_ HD.out HZ1.out).mono ?_
    rintro e wx ⟨u2, rfl, ho, hd⟩
    have HZ2 := Aside0.mk (show T2.1.size ≤ 1048576 by have := (palinoderef14_Decode.row_inv T1 HD.out.iv).2; rw [HGG.out] at this; exact Nat.le_trans this HZ1.out)
    rw [HGG.out] at ho hd
    obtain ⟨A2, c2, e2⟩ := Kd.R_slice ho
    subst e2
    have HDx := Aside0.mk (show palinoderef14_Decode.RS w wx gs g2 ge g2 T2 v0 (.slice A1 RD.length c1) (.slice none 0 0) (.slice none 0 0) TL RD [] [] 0 from hd)
    have HDy := Aside0.mk (show palinoderef14_Decode.RS w (wx.setCell ⟨ge, 2, none⟩ (.slice A2 RG.length c2)) gs g2 ge g2 T2 v0 (.slice A1 RD.length c1) (.slice A2 RG.length c2) (.slice none 0 0) TL RD RG [] 0 from HD.out.put2_ HDx.out HD.out.low.size ho)
    have z4 := (blk_cell HDx.out.he 2).trans rfl
    have z5 := blk_frozen HDx.out.he 2
    clear ho hd HD HZ1
    go_upto_region 16 with (fail)
    generalize wx.setCell ⟨ge, 2, none⟩ (.slice A2 RG.length c2) = wy2 at HDy ⊢
    have HD := HDy
    clear HDx HDy z4 z5
    go_wp2_with fail
    refine (palinoderef14_Decode.RS.row_ HD.out HZ2.out).mono ?_
    rintro e wx ⟨u3, rfl, ho, hd⟩
    have HZ3 := Aside0.mk (show T3.1.size ≤ 1048576 by have := (palinoderef14_Decode.row_inv T2 HD.out.iv).2; rw [HHH.out] at this; exact Nat.le_trans this HZ2.out)
    rw [HHH.out] at ho hd
    obtain ⟨A3, c3, e3⟩ := Kd.R_slice ho
    subst e3
    have HDx := Aside0.mk (show palinoderef14_Decode.RS w wx gs g2 ge g2 T3 v0 (.slice A1 RD.length c1) (.slice A2 RG.length c2) (.slice none 0 0) TL RD RG [] 0 from hd)
    have HDy := Aside0.mk (show palinoderef14_Decode.RS w (wx.setCell ⟨ge, 3, none⟩ (.slice A3 RH.length c3)) gs g2 ge g2 T3 v0 (.slice A1 RD.length c1) (.slice A2 RG.length c2) (.slice A3 RH.length c3) TL RD RG RH 0 from HD.out.put3_ HDx.out HD.out.low.size ho)
    have z4 := (blk_cell HDx.out.he 3).trans rfl
    have z5 := blk_frozen HDx.out.he 3
    clear ho hd HD HZ2
    go_upto_region 17 with (fail)
    generalize wx.setCell ⟨ge, 3, none⟩ (.slice A3 RH.length c3) = wy3 at HDy ⊢
    have HD := HDy
    clear HDx HDy z4 z5
    go_wp2_with fail
    refine (palinoderef14_Decode.RS.num_ HD.out).mono ?_
    rintro e wx ⟨rfl, hd, hk⟩
    rw [HQQ.out] at hd ⊢
    have HDa := Aside0.mk (show palinoderef14_Decode.RS w wx gs g2 ge g2 T4 v0 (.slice A1 RD.length c1) (.slice A2 RG.length c2) (.slice A3 RH.length c3) TL RD RG RH 0 from hd)
    clear hd hk HD
    have z4 := (blk_cell HDa.out.he 4).trans rfl
    have z5 := blk_frozen HDa.out.he 4
    go_upto_region 18 with (fail)
    have HDb := Aside0.mk (HDa.out.seq_ q)
    generalize wx.setCell ⟨ge, 4, none⟩ (.int .i64 q) = wb at HDb ⊢
    clear z4 z5 HDa
    have cb := (blk_cell HDb.out.hs.1 1).trans rfl
    obtain ⟨bd4, hbd4⟩ : ∃ b, b = T4.2 := ⟨_, rfl⟩
    rw [← hbd4] at cb
    have HB4 := Aside0.mk hbd4
    clear hbd4
    cases bd4 with
    | true =>
      go_wp2_with (first | ((with_reducible refine gate_store (t := 32) (p := 2) (v := .tmp 65) rfl ?_); refine agg_event rfl 32 (.tmp 2) (.tmp 65) rfl g2 rfl #[.slice none 0 0, .slice none 0 0, .slice none 0 0, .slice none 0 0, .int .i64 0] #[.slice none 0 0, .slice none 0 0, .slice none 0 0, .slice none 0 0, .int .i64 0] rfl HDb.out.h2 (by kernel_rfl) rfl (by simp [Value.oneCell']) ?_; intro wp hst hgr hszz; clear hszz; have HST := Aside0.mk hst; have HGR := Aside0.mk hgr; clear hst hgr))
      refine bodyPost_ret (results_ct rfl _ _ g2 32 #[.slice none 0 0, .slice none 0 0, .slice none 0 0, .slice none 0 0, .int .i64 0] (0, 0) _ rfl HST.out Try.underlying32 rfl (by kernel_rfl)) rfl ?_
      have hres : r = (([], [], [], [], 0), false) := by
        have h1 := HRES.out
        unfold palinoderef14_Decode.resE at h1
        rw [HTELL.out, if_pos HB4.out.symm] at h1
        exact (Option.some.inj h1).symm
      rw [hres]
      exact ⟨_, _, _, _, rfl, Kd.R_nil _ _ _ _ _, Kd.R_nil _ _ _ _ _, Kd.R_nil _ _ _ _ _, Kd.R_nil _ _ _ _ _, pw_below_grown HDb.out.low (some g2) HDb.out.low.size HGR.out (fun k_ e_ => by injection e_ with e_; have := HDb.out.b2; omega)⟩
    | false =>
      obtain ⟨enc, henc, hq⟩ : ∃ x, palinoderef14_Decode.enc k s0 = some x ∧ (if x.2 = true ∧ x.1 = s0 then some ((TL, RD, RG, RH, q), true) else some (([], [], [], [], 0), false)) = some r := by
        have h1 := HRES.out
        unfold palinoderef14_Decode.resE at h1
        rw [HTELL.out, if_neg (by rw [← HB4.out]; decide)] at h1
        obtain ⟨x, hx, h2⟩ := Option.bind_eq_some_iff.mp h1
        exact ⟨x, hx, h2⟩
      unfold palinoderef14_Decode.enc at henc
      rw [HTELL.out] at henc
      obtain ⟨s1, b1⟩ := enc
      have HENC := Aside0.mk henc
      have HQ := Aside0.mk hq
      clear henc hq
      obtain ⟨A0, c0, e0, hl0, hc0⟩ := Kd.R_reads HDb.out.r0
      subst e0
      have HC0 := Aside0.mk hc0
      have HL0 := Aside0.mk hl0
      clear hc0 hl0
      obtain ⟨-, hl1, hc1⟩ := Kd.R_reads' HDb.out.r1
      have HC1 := Aside0.mk hc1
      have HL1 := Aside0.mk hl1
      clear hc1 hl1
      obtain ⟨-, hl2, hc2⟩ := Kd.R_reads' HDb.out.r2
      have HC2 := Aside0.mk hc2
      have HL2 := Aside0.mk hl2
      clear hc2 hl2
      obtain ⟨-, hl3, hc3⟩ := Kd.R_reads' HDb.out.r3
      have HC3 := Aside0.mk hc3
      have HL3 := Aside0.mk hl3
      clear hc3 hl3
      have e0 := (blk_cell HDb.out.he 0).trans rfl
      have e1 := (blk_cell HDb.out.he 1).trans rfl
      have e2 := (blk_cell HDb.out.he 2).trans rfl
      have e3 := (blk_cell HDb.out.he 3).trans rfl
      have e4 := (blk_cell HDb.out.he 4).trans rfl
      go_wp2_with fail
      refine (palinoderef14_Encode.calls k A0 c0 TL A1 c1 RD A2 c2 RG A3 c3 RH q s1 b1 wb HC0.out HL0.out HC1.out HL1.out HC2.out HL2.out HC3.out HL3.out HENC.out).mono ?_
      rintro e wz ⟨rfl, hbz⟩
      have HDz := Aside0.mk (HDb.out.below_ hbz)
      clear hbz HDb HC0 HC1 HC2 HC3 HL0 HL1 HL2 HL3 e0 e1 e2 e3 e4 cb
      cases b1 with
      | false =>
        go_wp2_with (first | ((with_reducible refine gate_store (t := 32) (p := 2) (v := .tmp 78) rfl ?_); refine agg_event rfl 32 (.tmp 2) (.tmp 78) rfl g2 rfl #[.slice none 0 0, .slice none 0 0, .slice none 0 0, .slice none 0 0, .int .i64 0] #[.slice none 0 0, .slice none 0 0, .slice none 0 0, .slice none 0 0, .int .i64 0] rfl HDz.out.h2 (by kernel_rfl) rfl (by simp [Value.oneCell']) ?_; intro wp hst hgr hszz; clear hszz; have HST := Aside0.mk hst; have HGR := Aside0.mk hgr; clear hst hgr))
        refine bodyPost_ret (results_ct rfl _ _ g2 32 #[.slice none 0 0, .slice none 0 0, .slice none 0 0, .slice none 0 0, .int .i64 0] (0, 0) _ rfl HST.out Try.underlying32 rfl (by kernel_rfl)) rfl ?_
        have hres : r = (([], [], [], [], 0), false) := by
          have h1 := HQ.out
          rw [if_neg (fun h => absurd h.1 (by decide))] at h1
          exact (Option.some.inj h1).symm
        rw [hres]
        exact ⟨_, _, _, _, rfl, Kd.R_nil _ _ _ _ _, Kd.R_nil _ _ _ _ _, Kd.R_nil _ _ _ _ _, Kd.R_nil _ _ _ _ _, pw_below_grown HDz.out.low (some g2) HDz.out.low.size HGR.out (fun k_ e_ => by injection e_ with e_; have := HDz.out.b2; omega)⟩
      | true =>
        by_cases heq : s1 = s0
        · have heqb : (s1.toList == s0.toList) = true := by rw [heq]; exact beq_self_eq_true _
          have HEQ := Aside0.mk heq
          clear heq
          have e0 := (blk_cell HDz.out.he 0).trans rfl
          have e1 := (blk_cell HDz.out.he 1).trans rfl
          have e2 := (blk_cell HDz.out.he 2).trans rfl
          have e3 := (blk_cell HDz.out.he 3).trans rfl
          have e4 := (blk_cell HDz.out.he 4).trans rfl
          go_wp2_with (first | ((with_reducible refine gate_store (t := 32) (p := 2) (v := .tmp 79) rfl ?_); refine agg_event rfl 32 (.tmp 2) (.tmp 79) rfl g2 rfl #[.slice A0 TL.length c0, .slice A1 RD.length c1, .slice A2 RG.length c2, .slice A3 RH.length c3, .int .i64 q] #[.slice none 0 0, .slice none 0 0, .slice none 0 0, .slice none 0 0, .int .i64 0] rfl HDz.out.h2 (by kernel_rfl) rfl (by simp [Value.oneCell']) ?_; intro wp hst hgr hszz; clear hszz; have HST := Aside0.mk hst; have HGR := Aside0.mk hgr; clear hst hgr))
          refine bodyPost_ret (results_ct rfl _ _ g2 32 #[.slice A0 TL.length c0, .slice A1 RD.length c1, .slice A2 RG.length c2, .slice A3 RH.length c3, .int .i64 q] (0, 0) _ rfl HST.out Try.underlying32 rfl (by kernel_rfl)) rfl ?_
          have hres : r = ((TL, RD, RG, RH, q), true) := by
            have h1 := HQ.out
            rw [if_pos (by first | exact ⟨rfl, HEQ.out⟩ | exact ⟨trivial, HEQ.out⟩)] at h1
            exact (Option.some.inj h1).symm
          rw [hres]
          exact ⟨_, _, _, _, rfl, Kd.R_mono (Kd.R_grown (Kd.R_types HDz.out.r0 HDz.out.h2 (by decide)) HGR.out (fun k_ hk e_ => hk.2 (by injection e_))) (fun _ _ => trivial), Kd.R_mono (Kd.R_grown (Kd.R_types HDz.out.r1 HDz.out.h2 (by decide)) HGR.out (fun k_ hk e_ => hk.2 (by injection e_))) (fun _ hk => hk.1), Kd.R_mono (Kd.R_grown (Kd.R_types HDz.out.r2 HDz.out.h2 (by decide)) HGR.out (fun k_ hk e_ => hk.2 (by injection e_))) (fun _ hk => hk.1), Kd.R_mono (Kd.R_grown (Kd.R_types HDz.out.r3 HDz.out.h2 (by decide)) HGR.out (fun k_ hk e_ => hk.2 (by injection e_))) (fun _ hk => hk.1), pw_below_grown HDz.out.low (some g2) HDz.out.low.size HGR.out (fun k_ e_ => by injection e_ with e_; have := HDz.out.b2; omega)⟩
        · have heqb : (s1.toList == s0.toList) = false := beq_eq_false_iff_ne.2 (fun e => heq (by rw [ByteArray.toList_eq, ByteArray.toList_eq] at e; exact ByteArray.ext (Array.toList_inj.1 e)))
          have HNE := Aside0.mk heq
          clear heq
          go_wp2_with (first | ((with_reducible refine gate_store (t := 32) (p := 2) (v := .tmp 78) rfl ?_); refine agg_event rfl 32 (.tmp 2) (.tmp 78) rfl g2 rfl #[.slice none 0 0, .slice none 0 0, .slice none 0 0, .slice none 0 0, .int .i64 0] #[.slice none 0 0, .slice none 0 0, .slice none 0 0, .slice none 0 0, .int .i64 0] rfl HDz.out.h2 (by kernel_rfl) rfl (by simp [Value.oneCell']) ?_; intro wp hst hgr hszz; clear hszz; have HST := Aside0.mk hst; have HGR := Aside0.mk hgr; clear hst hgr))
          refine bodyPost_ret (results_ct rfl _ _ g2 32 #[.slice none 0 0, .slice none 0 0, .slice none 0 0, .slice none 0 0, .int .i64 0] (0, 0) _ rfl HST.out Try.underlying32 rfl (by kernel_rfl)) rfl ?_
          have hres : r = (([], [], [], [], 0), false) := by
            have h1 := HQ.out
            rw [if_neg (fun h => HNE.out h.2)] at h1
            exact (Option.some.inj h1).symm
          rw [hres]
          exact ⟨_, _, _, _, rfl, Kd.R_nil _ _ _ _ _, Kd.R_nil _ _ _ _ _, Kd.R_nil _ _ _ _ _, Kd.R_nil _ _ _ _ _, pw_below_grown HDz.out.low (some g2) HDz.out.low.size HGR.out (fun k_ e_ => by injection e_ with e_; have := HDz.out.b2; omega)⟩
def palinoderef14_Decode.f (k : Nat) (a0 : ByteArray) : Option (List S35 × List Int × List Int × List Int × Int × Bool) := if a0.size ≤ 1048576 then (palinoderef14_Decode.resE a0 (palinoderef14_Decode.enc k a0)).bind fun r => some (r.1.1, r.1.2.1, r.1.2.2.1, r.1.2.2.2.1, r.1.2.2.2.2, r.2) else none
theorem palinoderef14_Decode.mono : ∀ a0 k, LeO (palinoderef14_Decode.f k a0) (palinoderef14_Decode.f (k + 1) a0) := by
  intro a0 k
  unfold palinoderef14_Decode.f
  split
  · unfold palinoderef14_Decode.resE
    split
    · exact LeO.refl _
    · intro x h
      obtain ⟨y, h1, h2⟩ := Option.bind_eq_some_iff.mp h
      obtain ⟨z, h3, h4⟩ := Option.bind_eq_some_iff.mp h1
      have h5 : palinoderef14_Decode.enc (k + 1) a0 = some z := palinoderef14_Encode.mono _ _ _ _ _ _ _ h3
      rw [h5]
      exact Option.bind_eq_some_iff.mpr ⟨y, h4, h2⟩
  · exact LeO.refl _
theorem palinoderef14_Decode.calls (k : Nat) (a0 : ByteArray) (r1 : List S35) (r2 r3 r4 : List Int) (r5 : Int) (r6 : Bool) (w : World) (h : palinoderef14_Decode.f k a0 = some (r1, r2, r3, r4, r5, r6)) :
    Calls Try.prog 20 #[.string a0] w fun e w' => ∃ v0_ v1_ v2_ v3_ : Value, e = .returned (.tuple #[.agg #[v0_, v1_, v2_, v3_, .int .i64 r5], .bool r6]) ∧ Kd.R k35 35 w' w.heap.size (fun _ => True) v0_ r1 ∧ Kd.R (Kd.int .i64) 3 w' w.heap.size (fun k_ => some k_ ≠ (v2_ : Value).ownBlock ∧ some k_ ≠ (v3_ : Value).ownBlock) v1_ r2 ∧ Kd.R (Kd.int .i64) 3 w' w.heap.size (fun k_ => some k_ ≠ (v1_ : Value).ownBlock ∧ some k_ ≠ (v3_ : Value).ownBlock) v2_ r3 ∧ Kd.R (Kd.int .i64) 3 w' w.heap.size (fun k_ => some k_ ≠ (v1_ : Value).ownBlock ∧ some k_ ≠ (v2_ : Value).ownBlock) v3_ r4 ∧ Below w.heap.size w w' := by
  unfold palinoderef14_Decode.f at h
  split at h
  · next hs =>
    obtain ⟨y, h1, h2⟩ := Option.bind_eq_some_iff.mp h
    have := palinoderef14_Decode.walk_ k a0 w hs y h1
    simp only [Option.some.injEq, Prod.mk.injEq] at h2
    obtain ⟨rfl, rfl, rfl, rfl, rfl, rfl⟩ := h2
    exact this
  · exact absurd h (by simp)


end Go.Proofs.Ytokimlfagpddlaa.PD

/-
  Layer 14, an edit's bytes: what Encode wrote Decode reads.
-/
set_option linter.unusedVariables false
set_option linter.unusedSimpArgs false
namespace Go.Proofs.Ytokimlfagpddlaa.PD
open Go.RowKit Go.Proofs.Ytokimlfagpddlaa Go.Proofs.YtokimlfagpddlaaW.PrintWords
open palinoderef14_Decode (tell_bytes bytesOf_str bytesOf_inj bytesOf_append bytesOf_extract)

abbrev MetaE := S35
theorem str_app (a b : List Int) : strOfNums (a ++ b) = strOfNums a ++ strOfNums b := by
  apply ByteArray.ext
  simp [strOfNums, ByteArray.data_append]
theorem str_bytes (b : ByteArray) : strOfNums (bytesOf b) = b := bytesOf_inj (bytesOf_str _ (bytesOf_bound b))
theorem flat_cons (n : Int) (l : List Int) : version_Encode.flat (n :: l) = version_Encode.flat [n] ++ version_Encode.flat l := by
  simp [version_Encode.flat]
theorem meta_facts {m : MetaE} (h : version_Right.meta_ m = true) : 1 ≤ m.f0 ∧ m.f0 ≤ 9007199254740991 ∧ 0 ≤ m.f1 ∧ m.f1 < 4 ∧ 1 ≤ m.f4 ∧ m.f4 ≤ 1048576 ∧ m.f2.size ≤ 80 ∧ m.f3.size ≤ 80 := by
  unfold version_Right.meta_ version_meta.f at h
  repeat' split at h
  all_goals first | (exfalso; revert h; simp; done) | (revert h; simp; omega)
theorem nOK_all {l : List Int} {m : Int} (h : version_Encode.nOK l m = true) : ∀ n ∈ l, 0 ≤ n ∧ n ≤ 9007199254740991 := by
  unfold version_Encode.nOK at h
  split at h
  · intro n hn
    rw [Bool.not_eq_true'] at h
    have := List.any_eq_false.1 h n hn
    unfold slices_ContainsFunc_int_int.litB at this
    simp at this
    omega
  · cases h
theorem good_facts {L : List MetaE} {D G H : List Int} {q : Int} (h : version_Encode.good L D G H q = true) : (L.length ≤ 200 ∧ ∀ m ∈ L, version_Right.meta_ m = true) ∧ (D.length ≤ 200 ∧ ∀ n ∈ D, 0 ≤ n ∧ n ≤ 9007199254740991) ∧ (G.length ≤ 20 ∧ ∀ n ∈ G, 0 ≤ n ∧ n ≤ 9007199254740991) ∧ (H.length ≤ 20 ∧ ∀ n ∈ H, 0 ≤ n ∧ n ≤ 9007199254740991) ∧ 0 ≤ q ∧ q ≤ 9007199254740991 := by
  unfold version_Encode.good at h
  simp only [Bool.and_eq_true, decide_eq_true_eq, Bool.not_eq_true'] at h
  obtain ⟨hf, hl, hb⟩ := h
  have hn := version_Encode.fine_len hf
  unfold version_Encode.fine at hf
  simp only [Bool.and_eq_true] at hf
  refine ⟨⟨hl, fun m hm => ?_⟩, ⟨hn.1, nOK_all hf.1⟩, ⟨hn.2.1, nOK_all hf.2.1⟩, ⟨hn.2.2, nOK_all hf.2.2.1⟩, nOK_all hf.2.2.2 q (by simp)⟩
  have := List.any_eq_false.1 hb m hm
  unfold api_Meta_39.bad at this
  simpa using this
/-- What Decode tells: an edit that is written so, or none. -/
theorem resE_cases (s : ByteArray) : (∃ L D G H q, version_Decode.resE s = ((L, D, G, H, q), none) ∧ version_Encode.good L D G H q = true ∧ strOfNums (version_Encode.all L D G H q) = s) ∨ version_Decode.resE s = (([], [], [], [], 0), some 3) := by
  unfold version_Decode.resE
  split
  · next h => exact .inl ⟨_, _, _, _, _, rfl, h.2.1, h.2.2⟩
  · exact .inr rfl
end Go.Proofs.Ytokimlfagpddlaa.PD

-- printed by gprint.py (own tool) over the kit's print
namespace Go.Proofs.Ytokimlfagpddlaa.PD
open Go.RowKit Go.Proofs.Ytokimlfagpddlaa Go.Proofs.YtokimlfagpddlaaW.PrintWords Go.Proofs.YtokimlfagpddlaaW.PrintLast Go.Proofs.YtokimlfagpddlaaW.PrintMore
attribute [local go_sem] max2_int min2_int max_two min_two max_three min_three max_four min_four   -- for this text's walks alone
set_option linter.unnecessarySimpa false
attribute [local go_sem] min2_str max2_str leq_str gtr_str geq_str
set_option linter.unusedVariables false
set_option linter.unusedSimpArgs false

theorem eqA35 (d : Nat) (w : World) (x0 y0 : Int) (x1 y1 : Int) (x2 y2 : ByteArray) (x3 y3 : ByteArray) (x4 y4 : Int) :
    (Op.equalIn (d + 2) 35 (.agg #[.int .i64 x0, .int .i64 x1, .string x2, .string x3, .int .i64 x4]) (.agg #[.int .i64 y0, .int .i64 y1, .string y2, .string y3, .int .i64 y4])).run Try.prog w = .ok (x0 == y0 && (x1 == y1 && (x2.toList == y2.toList && (x3.toList == y3.toList && (x4 == y4))))) w := by
  refine eqA_of Try.underlying35 (by kernel_rfl) ?_
  refine eqf_cons (by rfl) (by go_simp; rfl) (by go_simp; rfl) (by go_simp) ?_
  refine eqf_cons (by rfl) (by go_simp; rfl) (by go_simp; rfl) (by go_simp) ?_
  refine eqf_cons (by rfl) (by go_simp; rfl) (by go_simp; rfl) (by go_simp) ?_
  refine eqf_cons (by rfl) (by go_simp; rfl) (by go_simp; rfl) (by go_simp) ?_
  exact eqf_last (by rfl) (by go_simp; rfl) (by go_simp; rfl) (by go_simp)
end Go.Proofs.Ytokimlfagpddlaa.PD

-- printed by gprint.py (own tool) over the kit's print
namespace Go.Proofs.Ytokimlfagpddlaa.PD
open Go.RowKit Go.Proofs.Ytokimlfagpddlaa Go.Proofs.YtokimlfagpddlaaW.PrintWords Go.Proofs.YtokimlfagpddlaaW.PrintLast Go.Proofs.YtokimlfagpddlaaW.PrintMore
attribute [local go_sem] max2_int min2_int max_two min_two max_three min_three max_four min_four   -- for this text's walks alone
set_option linter.unnecessarySimpa false
attribute [local go_sem] min2_str max2_str leq_str gtr_str geq_str
set_option linter.unusedVariables false
set_option linter.unusedSimpArgs false

attribute [local go_sem high] eqA35
/-! ### palinodelaw14_metas: function 30 -/
def palinodelaw14_metas.l0 : Nat → List (S35) → List (S35) → Int → Option (Bool)
  | 0, _, _, _ => none
  | k + 1, x0, x1, x5 => if x5 < (x0.length : Int) then (if 0 ≤ x5 then (if x5 < (x1.length : Int) then (if (!(((rd_T35 x0 x5).f0) == ((rd_T35 x1 x5).f0)) || (!(((rd_T35 x0 x5).f1) == ((rd_T35 x1 x5).f1)) || (!((((rd_T35 x0 x5).f2).toList) == (((rd_T35 x1 x5).f2).toList)) || (!((((rd_T35 x0 x5).f3).toList) == (((rd_T35 x1 x5).f3).toList)) || (!(((rd_T35 x0 x5).f4) == ((rd_T35 x1 x5).f4))))))) = true then (some false) else (palinodelaw14_metas.l0 k x0 x1 (wrap64 (x5 + 1)))) else (none)) else (none)) else (some true)
def palinodelaw14_metas.f (k : Nat) (l0 : List (S35)) (l1 : List (S35)) : Option (Bool) := if (l0.length : Int) = (l1.length : Int) then (palinodelaw14_metas.l0 k l0 l1 0) else (some false)
theorem palinodelaw14_metas.mono_l : ∀ k, (∀ y0 y1 y2, LeO (palinodelaw14_metas.l0 k y0 y1 y2) (palinodelaw14_metas.l0 (k + 1) y0 y1 y2))
  | 0 => fun _ _ _ r h => by simp [palinodelaw14_metas.l0] at h
  | k + 1 => by
    have ih0 := palinodelaw14_metas.mono_l k
    · intro y0 y1 y2
      unfold palinodelaw14_metas.l0
      repeat' first
      | (with_reducible exact ih0 _ _ _)
      | (with_reducible exact LeO.refl _)
      | (with_reducible exact LeO.none _)
      | (with_reducible refine LeO.ite ?_ ?_)
      | (with_reducible refine LeO.bind ?_ (fun _ => ?_))
      | exact ih0 _ _ _
      | exact LeO.none _
      | refine LeO.ite ?_ ?_
      | refine LeO.bind ?_ (fun _ => ?_)
theorem palinodelaw14_metas.mono : ∀ a0 a1 k, LeO (palinodelaw14_metas.f k a0 a1) (palinodelaw14_metas.f (k + 1) a0 a1) := by
  intro a0 a1 k
  have ih0 := palinodelaw14_metas.mono_l k
  unfold palinodelaw14_metas.f
  repeat' first
      | (with_reducible exact ih0 _ _ _)
      | (with_reducible exact LeO.refl _)
      | (with_reducible exact LeO.none _)
      | (with_reducible refine LeO.ite ?_ ?_)
      | (with_reducible refine LeO.bind ?_ (fun _ => ?_))
      | exact ih0 _ _ _
      | exact LeO.none _
      | refine LeO.ite ?_ ?_
      | refine LeO.bind ?_ (fun _ => ?_)
set_option maxHeartbeats 8000000 in
set_option maxRecDepth 100000 in
theorem palinodelaw14_metas.calls (k : Nat) (A0 : Option Addr) (c0 : Nat) (l0 : List (S35)) (A1 : Option Addr) (c1 : Nat) (l1 : List (S35)) (r : Bool) (w : World) (hr0 : Kd.C k35 w A0 l0.length l0) (hc0 : l0.length ≤ c0) (hr1 : Kd.C k35 w A1 l1.length l1) (hc1 : l1.length ≤ c1) (h : palinodelaw14_metas.f k l0 l1 = some r) :
    Calls Try.prog 30 #[.slice A0 l0.length c0, .slice A1 l1.length c1] w fun e w' => e = .returned (.bool r) ∧ Drawn0 w w' := by
  have hu35 := Try.underlying35
  have HR0 := Aside0.mk hr0
  have HC0 := Aside0.mk hc0
  clear hr0 hc0
  have HR1 := Aside0.mk hr1
  have HC1 := Aside0.mk hc1
  clear hr1 hc1
  have H : (if (l0.length : Int) = (l1.length : Int) then (palinodelaw14_metas.l0 k l0 l1 0) else (some false)) = some r := h
  clear h
  by_cases c3 : (l0.length : Int) = (l1.length : Int)
  · rw [if_pos c3] at H
    have c3b0 : ((l0.length : Int) == (l1.length : Int)) = true := beq_iff_eq.mpr c3
    have c3b1 : ((l0.length : Int) != (l1.length : Int)) = false := bne_eq_false_iff_eq.mpr c3
    have c3b2 : (l0.length == l1.length) = true := by first | simpa using c3 | (simp at c3 ⊢; omega)
    clear c3
    have H' := Aside0.mk H
    clear H
    go_enter Try.func30, Try.ntmps30
    go_wp2
    repeat (go_quiet (fail); try go_wp2)
    go_loopg [5] k (fun kq v5 w' => ∃ (x5_1 : Int), v5 = .int .i64 x5_1 ∧ Aside0 (palinodelaw14_metas.l0 kq l0 l1 x5_1 = some r) ∧ Aside0 (kq ≤ k) ∧ Drawn0 w w')
    case atStart => exact ⟨(0), (by first | rfl | (simp; done) | (simp [*]; done)), H', ⟨Nat.le_refl _⟩, by repeat (first | exact Drawn0.refl _ | apply Drawn0.step)⟩
    case round =>
      clear H'
      try clear c1
      try clear p2
      try clear c3
      try clear c3b0
      try clear c3b1
      try clear c3b2
      obtain ⟨x5_1, rfl, HA, HK1, ⟨m1, rfl⟩⟩ := hrel
      cases gk with
      | zero => exact absurd HA.out (by simp [palinodelaw14_metas.l0])
      | succ k1 =>
        have H := HA.out
        clear HA
        simp only [palinodelaw14_metas.l0] at H
        by_cases c4 : x5_1 < (l0.length : Int)
        · rw [if_pos c4] at H
          have c4b0 : decide (x5_1 < (l0.length : Int)) = true := decide_eq_true c4
          clear c4
          by_cases c5 : 0 ≤ x5_1
          · rw [if_pos c5] at H
            have c5b0 : decide (0 ≤ x5_1) = true := decide_eq_true c5
            clear c5
            by_cases c6 : x5_1 < (l1.length : Int)
            · rw [if_pos c6] at H
              have c6b0 : decide (x5_1 < (l1.length : Int)) = true := decide_eq_true c6
              clear c6
              by_cases c7 : (!(((rd_T35 l0 x5_1).f0) == ((rd_T35 l1 x5_1).f0)) || (!(((rd_T35 l0 x5_1).f1) == ((rd_T35 l1 x5_1).f1)) || (!((((rd_T35 l0 x5_1).f2).toList) == (((rd_T35 l1 x5_1).f2).toList)) || (!((((rd_T35 l0 x5_1).f3).toList) == (((rd_T35 l1 x5_1).f3).toList)) || (!(((rd_T35 l0 x5_1).f4) == ((rd_T35 l1 x5_1).f4))))))) = true
              · rw [if_pos c7] at H
                have c7b0 : (!(((rd_T35 l0 x5_1).f0) == ((rd_T35 l1 x5_1).f0)) || (!(((rd_T35 l0 x5_1).f1) == ((rd_T35 l1 x5_1).f1)) || (!((((rd_T35 l0 x5_1).f2).toList) == (((rd_T35 l1 x5_1).f2).toList)) || (!((((rd_T35 l0 x5_1).f3).toList) == (((rd_T35 l1 x5_1).f3).toList)) || (!(((rd_T35 l0 x5_1).f4) == ((rd_T35 l1 x5_1).f4))))))) = true := c7
                clear c7
                obtain rfl := Option.some.inj H
                have p333 : 0 ≤ (x5_1 : Int) := of_decide_eq_true (by first | (with_reducible assumption) | assumption)
                have q333 : x5_1 < (l0.length : Int) := of_decide_eq_true (by first | (with_reducible assumption) | assumption)
                obtain ⟨ad333, e333, hx333_0, hx333_1, hx333_2, hx333_3, hx333_4⟩ := at_T35 HR0.out x5_1 p333 q333
                cases e333
                replace p333 := eq_true p333
                replace q333 := eq_true q333
                have p334 : 0 ≤ (x5_1 : Int) := of_decide_eq_true (by first | (with_reducible assumption) | assumption)
                have q334 : x5_1 < (l1.length : Int) := of_decide_eq_true (by first | (with_reducible assumption) | assumption)
                obtain ⟨ad334, e334, hx334_0, hx334_1, hx334_2, hx334_3, hx334_4⟩ := at_T35 HR1.out x5_1 p334 q334
                cases e334
                replace p334 := eq_true p334
                replace q334 := eq_true q334
                go_wp2
                repeat (go_quiet (fail); try go_wp2)
                go_ret
                exact ⟨by first | rfl | (simp; done) | (simp [*]; done), by repeat (first | exact Drawn0.refl _ | apply Drawn0.step)⟩
              · rw [if_neg c7] at H
                have c7b0 : (!(((rd_T35 l0 x5_1).f0) == ((rd_T35 l1 x5_1).f0)) || (!(((rd_T35 l0 x5_1).f1) == ((rd_T35 l1 x5_1).f1)) || (!((((rd_T35 l0 x5_1).f2).toList) == (((rd_T35 l1 x5_1).f2).toList)) || (!((((rd_T35 l0 x5_1).f3).toList) == (((rd_T35 l1 x5_1).f3).toList)) || (!(((rd_T35 l0 x5_1).f4) == ((rd_T35 l1 x5_1).f4))))))) = false := by simpa using c7
                clear c7
                have H' := Aside0.mk H
                clear H
                have p333 : 0 ≤ (x5_1 : Int) := of_decide_eq_true (by first | (with_reducible assumption) | assumption)
                have q333 : x5_1 < (l0.length : Int) := of_decide_eq_true (by first | (with_reducible assumption) | assumption)
                obtain ⟨ad333, e333, hx333_0, hx333_1, hx333_2, hx333_3, hx333_4⟩ := at_T35 HR0.out x5_1 p333 q333
                cases e333
                replace p333 := eq_true p333
                replace q333 := eq_true q333
                have p334 : 0 ≤ (x5_1 : Int) := of_decide_eq_true (by first | (with_reducible assumption) | assumption)
                have q334 : x5_1 < (l1.length : Int) := of_decide_eq_true (by first | (with_reducible assumption) | assumption)
                obtain ⟨ad334, e334, hx334_0, hx334_1, hx334_2, hx334_3, hx334_4⟩ := at_T35 HR1.out x5_1 p334 q334
                cases e334
                replace p334 := eq_true p334
                replace q334 := eq_true q334
                go_wp2
                repeat (go_quiet (fail); try go_wp2)
                go_roundg k1
                case measure => have := HK1.out; omega
                case rel => exact ⟨(wrap64 (x5_1 + 1)), (by first | rfl | (simp; done) | (simp [*]; done)), H', ⟨by have := HK1.out; omega⟩, by repeat (first | exact Drawn0.refl _ | apply Drawn0.step)⟩
            · rw [if_neg c6] at H
              exact absurd H (by simp)
          · rw [if_neg c5] at H
            exact absurd H (by simp)
        · rw [if_neg c4] at H
          have c4b0 : decide (x5_1 < (l0.length : Int)) = false := decide_eq_false c4
          clear c4
          obtain rfl := Option.some.inj H
          go_wp2
          repeat (go_quiet (fail); try go_wp2)
          go_ret
          exact ⟨by first | rfl | (simp; done) | (simp [*]; done), by repeat (first | exact Drawn0.refl _ | apply Drawn0.step)⟩
  · rw [if_neg c3] at H
    have c3b0 : ((l0.length : Int) == (l1.length : Int)) = false := beq_eq_false_iff_ne.mpr c3
    have c3b1 : ((l0.length : Int) != (l1.length : Int)) = true := bne_iff_ne.mpr c3
    have c3b2 : (l0.length == l1.length) = false := by first | simpa using c3 | (simp at c3 ⊢; omega)
    obtain rfl := Option.some.inj H
    go_enter Try.func30, Try.ntmps30
    go_wp2
    repeat (go_quiet (fail); try go_wp2)
    go_ret
    exact ⟨by first | rfl | (simp; done) | (simp [*]; done), by repeat (first | exact Drawn0.refl _ | apply Drawn0.step)⟩

end Go.Proofs.Ytokimlfagpddlaa.PD

-- printed by gprint.py (own tool) over the kit's print
namespace Go.Proofs.Ytokimlfagpddlaa.PD
open Go.RowKit Go.Proofs.Ytokimlfagpddlaa Go.Proofs.YtokimlfagpddlaaW.PrintWords Go.Proofs.YtokimlfagpddlaaW.PrintLast Go.Proofs.YtokimlfagpddlaaW.PrintMore
attribute [local go_sem] max2_int min2_int max_two min_two max_three min_three max_four min_four   -- for this text's walks alone
set_option linter.unnecessarySimpa false
attribute [local go_sem] min2_str max2_str leq_str gtr_str geq_str
set_option linter.unusedVariables false
set_option linter.unusedSimpArgs false

/-! ### palinodelaw14_numbers: function 31 -/
def palinodelaw14_numbers.l0 : Nat → List Int → List Int → Int → Option (Bool)
  | 0, _, _, _ => none
  | k + 1, x0, x1, x5 => if x5 < (x0.length : Int) then (if 0 ≤ x5 then (if x5 < (x1.length : Int) then (if (rd x0 x5) = (rd x1 x5) then (palinodelaw14_numbers.l0 k x0 x1 (wrap64 (x5 + 1))) else (some false)) else (none)) else (none)) else (some true)
def palinodelaw14_numbers.f (k : Nat) (l0 : List Int) (l1 : List Int) : Option (Bool) := if (l0.length : Int) = (l1.length : Int) then (palinodelaw14_numbers.l0 k l0 l1 0) else (some false)
theorem palinodelaw14_numbers.mono_l : ∀ k, (∀ y0 y1 y2, LeO (palinodelaw14_numbers.l0 k y0 y1 y2) (palinodelaw14_numbers.l0 (k + 1) y0 y1 y2))
  | 0 => fun _ _ _ r h => by simp [palinodelaw14_numbers.l0] at h
  | k + 1 => by
    have ih0 := palinodelaw14_numbers.mono_l k
    · intro y0 y1 y2
      unfold palinodelaw14_numbers.l0
      repeat' first
      | (with_reducible exact ih0 _ _ _)
      | (with_reducible exact LeO.refl _)
      | (with_reducible exact LeO.none _)
      | (with_reducible refine LeO.ite ?_ ?_)
      | (with_reducible refine LeO.bind ?_ (fun _ => ?_))
      | exact ih0 _ _ _
      | exact LeO.none _
      | refine LeO.ite ?_ ?_
      | refine LeO.bind ?_ (fun _ => ?_)
theorem palinodelaw14_numbers.mono : ∀ a0 a1 k, LeO (palinodelaw14_numbers.f k a0 a1) (palinodelaw14_numbers.f (k + 1) a0 a1) := by
  intro a0 a1 k
  have ih0 := palinodelaw14_numbers.mono_l k
  unfold palinodelaw14_numbers.f
  repeat' first
      | (with_reducible exact ih0 _ _ _)
      | (with_reducible exact LeO.refl _)
      | (with_reducible exact LeO.none _)
      | (with_reducible refine LeO.ite ?_ ?_)
      | (with_reducible refine LeO.bind ?_ (fun _ => ?_))
      | exact ih0 _ _ _
      | exact LeO.none _
      | refine LeO.ite ?_ ?_
      | refine LeO.bind ?_ (fun _ => ?_)
set_option maxHeartbeats 8000000 in
set_option maxRecDepth 100000 in
theorem palinodelaw14_numbers.calls (k : Nat) (A0 : Option Addr) (c0 : Nat) (l0 : List Int) (A1 : Option Addr) (c1 : Nat) (l1 : List Int) (r : Bool) (w : World) (hr0 : Kd.C (Kd.int .i64) w A0 l0.length l0) (hc0 : l0.length ≤ c0) (hr1 : Kd.C (Kd.int .i64) w A1 l1.length l1) (hc1 : l1.length ≤ c1) (h : palinodelaw14_numbers.f k l0 l1 = some r) :
    Calls Try.prog 31 #[.slice A0 l0.length c0, .slice A1 l1.length c1] w fun e w' => e = .returned (.bool r) ∧ Drawn0 w w' := by
  have HR0 := Aside0.mk hr0
  have HC0 := Aside0.mk hc0
  clear hr0 hc0
  have HR1 := Aside0.mk hr1
  have HC1 := Aside0.mk hc1
  clear hr1 hc1
  have H : (if (l0.length : Int) = (l1.length : Int) then (palinodelaw14_numbers.l0 k l0 l1 0) else (some false)) = some r := h
  clear h
  by_cases c3 : (l0.length : Int) = (l1.length : Int)
  · rw [if_pos c3] at H
    have c3b0 : ((l0.length : Int) == (l1.length : Int)) = true := beq_iff_eq.mpr c3
    have c3b1 : ((l0.length : Int) != (l1.length : Int)) = false := bne_eq_false_iff_eq.mpr c3
    have c3b2 : (l0.length == l1.length) = true := by first | simpa using c3 | (simp at c3 ⊢; omega)
    clear c3
    have H' := Aside0.mk H
    clear H
    go_enter Try.func31, Try.ntmps31
    go_wp2
    repeat (go_quiet (fail); try go_wp2)
    go_loopg [5] k (fun kq v5 w' => ∃ (x5_1 : Int), v5 = .int .i64 x5_1 ∧ Aside0 (palinodelaw14_numbers.l0 kq l0 l1 x5_1 = some r) ∧ Aside0 (kq ≤ k) ∧ Drawn0 w w')
    case atStart => exact ⟨(0), (by first | rfl | (simp; done) | (simp [*]; done)), H', ⟨Nat.le_refl _⟩, by repeat (first | exact Drawn0.refl _ | apply Drawn0.step)⟩
    case round =>
      clear H'
      try clear c1
      try clear p2
      try clear c3
      try clear c3b0
      try clear c3b1
      try clear c3b2
      obtain ⟨x5_1, rfl, HA, HK1, ⟨m1, rfl⟩⟩ := hrel
      cases gk with
      | zero => exact absurd HA.out (by simp [palinodelaw14_numbers.l0])
      | succ k1 =>
        have H := HA.out
        clear HA
        simp only [palinodelaw14_numbers.l0] at H
        by_cases c4 : x5_1 < (l0.length : Int)
        · rw [if_pos c4] at H
          have c4b0 : decide (x5_1 < (l0.length : Int)) = true := decide_eq_true c4
          clear c4
          by_cases c5 : 0 ≤ x5_1
          · rw [if_pos c5] at H
            have c5b0 : decide (0 ≤ x5_1) = true := decide_eq_true c5
            clear c5
            by_cases c6 : x5_1 < (l1.length : Int)
            · rw [if_pos c6] at H
              have c6b0 : decide (x5_1 < (l1.length : Int)) = true := decide_eq_true c6
              clear c6
              by_cases c7 : (rd l0 x5_1) = (rd l1 x5_1)
              · rw [if_pos c7] at H
                have c7b0 : ((rd l0 x5_1) == (rd l1 x5_1)) = true := beq_iff_eq.mpr c7
                have c7b1 : ((rd l0 x5_1) != (rd l1 x5_1)) = false := bne_eq_false_iff_eq.mpr c7
                clear c7
                have H' := Aside0.mk H
                clear H
                have p335 : 0 ≤ (x5_1 : Int) := of_decide_eq_true (by first | (with_reducible assumption) | assumption)
                have q335 : x5_1 < (l0.length : Int) := of_decide_eq_true (by first | (with_reducible assumption) | assumption)
                obtain ⟨ad335, e335, hx335_0⟩ := Kd.at_int HR0.out x5_1 p335 q335
                cases e335
                replace p335 := eq_true p335
                replace q335 := eq_true q335
                have p336 : 0 ≤ (x5_1 : Int) := of_decide_eq_true (by first | (with_reducible assumption) | assumption)
                have q336 : x5_1 < (l1.length : Int) := of_decide_eq_true (by first | (with_reducible assumption) | assumption)
                obtain ⟨ad336, e336, hx336_0⟩ := Kd.at_int HR1.out x5_1 p336 q336
                cases e336
                replace p336 := eq_true p336
                replace q336 := eq_true q336
                go_wp2
                repeat (go_quiet (fail); try go_wp2)
                go_roundg k1
                case measure => have := HK1.out; omega
                case rel => exact ⟨(wrap64 (x5_1 + 1)), (by first | rfl | (simp; done) | (simp [*]; done)), H', ⟨by have := HK1.out; omega⟩, by repeat (first | exact Drawn0.refl _ | apply Drawn0.step)⟩
              · rw [if_neg c7] at H
                have c7b0 : ((rd l0 x5_1) == (rd l1 x5_1)) = false := beq_eq_false_iff_ne.mpr c7
                have c7b1 : ((rd l0 x5_1) != (rd l1 x5_1)) = true := bne_iff_ne.mpr c7
                obtain rfl := Option.some.inj H
                have p335 : 0 ≤ (x5_1 : Int) := of_decide_eq_true (by first | (with_reducible assumption) | assumption)
                have q335 : x5_1 < (l0.length : Int) := of_decide_eq_true (by first | (with_reducible assumption) | assumption)
                obtain ⟨ad335, e335, hx335_0⟩ := Kd.at_int HR0.out x5_1 p335 q335
                cases e335
                replace p335 := eq_true p335
                replace q335 := eq_true q335
                have p336 : 0 ≤ (x5_1 : Int) := of_decide_eq_true (by first | (with_reducible assumption) | assumption)
                have q336 : x5_1 < (l1.length : Int) := of_decide_eq_true (by first | (with_reducible assumption) | assumption)
                obtain ⟨ad336, e336, hx336_0⟩ := Kd.at_int HR1.out x5_1 p336 q336
                cases e336
                replace p336 := eq_true p336
                replace q336 := eq_true q336
                go_wp2
                repeat (go_quiet (fail); try go_wp2)
                go_ret
                exact ⟨by first | rfl | (simp; done) | (simp [*]; done), by repeat (first | exact Drawn0.refl _ | apply Drawn0.step)⟩
            · rw [if_neg c6] at H
              exact absurd H (by simp)
          · rw [if_neg c5] at H
            exact absurd H (by simp)
        · rw [if_neg c4] at H
          have c4b0 : decide (x5_1 < (l0.length : Int)) = false := decide_eq_false c4
          clear c4
          obtain rfl := Option.some.inj H
          go_wp2
          repeat (go_quiet (fail); try go_wp2)
          go_ret
          exact ⟨by first | rfl | (simp; done) | (simp [*]; done), by repeat (first | exact Drawn0.refl _ | apply Drawn0.step)⟩
  · rw [if_neg c3] at H
    have c3b0 : ((l0.length : Int) == (l1.length : Int)) = false := beq_eq_false_iff_ne.mpr c3
    have c3b1 : ((l0.length : Int) != (l1.length : Int)) = true := bne_iff_ne.mpr c3
    have c3b2 : (l0.length == l1.length) = false := by first | simpa using c3 | (simp at c3 ⊢; omega)
    obtain rfl := Option.some.inj H
    go_enter Try.func31, Try.ntmps31
    go_wp2
    repeat (go_quiet (fail); try go_wp2)
    go_ret
    exact ⟨by first | rfl | (simp; done) | (simp [*]; done), by repeat (first | exact Drawn0.refl _ | apply Drawn0.step)⟩

end Go.Proofs.Ytokimlfagpddlaa.PD

-- printed by gprint.py (own tool) over the kit's print
namespace Go.Proofs.Ytokimlfagpddlaa.PD
open Go.RowKit Go.Proofs.Ytokimlfagpddlaa Go.Proofs.YtokimlfagpddlaaW.PrintWords Go.Proofs.YtokimlfagpddlaaW.PrintLast Go.Proofs.YtokimlfagpddlaaW.PrintMore
attribute [local go_sem] max2_int min2_int max_two min_two max_three min_three max_four min_four   -- for this text's walks alone
set_option linter.unnecessarySimpa false
attribute [local go_sem] min2_str max2_str leq_str gtr_str geq_str
set_option linter.unusedVariables false
set_option linter.unusedSimpArgs false

/-! ### palinodelaw14_edits: function 21 -/
def palinodelaw14_edits.f (k : Nat) (l0_0 : List (S35)) (l0_1 : List Int) (l0_2 : List Int) (l0_3 : List Int) (a0_4 : Int) (l1_0 : List (S35)) (l1_1 : List Int) (l1_2 : List Int) (l1_3 : List Int) (a1_4 : Int) : Option (Bool) := (palinodelaw14_metas.f k l0_0 l1_0).bind fun t496 => ((palinodelaw14_numbers.f k l0_1 l1_1).bind fun t497 => ((palinodelaw14_numbers.f k l0_2 l1_2).bind fun t498 => ((palinodelaw14_numbers.f k l0_3 l1_3).bind fun t499 => (if t496 = true then (if t497 = true then (if t498 = true then (if t499 = true then (some (a0_4 == a1_4)) else (some false)) else (some false)) else (some false)) else (some false)))))
theorem palinodelaw14_edits.mono : ∀ a0 a1 a2 a3 a4 a5 a6 a7 a8 a9 k, LeO (palinodelaw14_edits.f k a0 a1 a2 a3 a4 a5 a6 a7 a8 a9) (palinodelaw14_edits.f (k + 1) a0 a1 a2 a3 a4 a5 a6 a7 a8 a9) := by
  intro a0 a1 a2 a3 a4 a5 a6 a7 a8 a9 k
  unfold palinodelaw14_edits.f
  repeat' first
      | (with_reducible exact palinodelaw14_metas.mono _ _ _)
      | (with_reducible exact palinodelaw14_numbers.mono _ _ _)
      | (with_reducible exact LeO.refl _)
      | (with_reducible exact LeO.none _)
      | (with_reducible refine LeO.ite ?_ ?_)
      | (with_reducible refine LeO.bind ?_ (fun _ => ?_))
      | exact palinodelaw14_metas.mono _ _ _
      | exact palinodelaw14_numbers.mono _ _ _
      | exact LeO.none _
      | refine LeO.ite ?_ ?_
      | refine LeO.bind ?_ (fun _ => ?_)
set_option maxHeartbeats 8000000 in
set_option maxRecDepth 100000 in
theorem palinodelaw14_edits.calls (k : Nat) (A0_0 : Option Addr) (c0_0 : Nat) (l0_0 : List (S35)) (A0_1 : Option Addr) (c0_1 : Nat) (l0_1 : List Int) (A0_2 : Option Addr) (c0_2 : Nat) (l0_2 : List Int) (A0_3 : Option Addr) (c0_3 : Nat) (l0_3 : List Int) (a0_4 : Int) (A1_0 : Option Addr) (c1_0 : Nat) (l1_0 : List (S35)) (A1_1 : Option Addr) (c1_1 : Nat) (l1_1 : List Int) (A1_2 : Option Addr) (c1_2 : Nat) (l1_2 : List Int) (A1_3 : Option Addr) (c1_3 : Nat) (l1_3 : List Int) (a1_4 : Int) (r : Bool) (w : World) (hr0_0 : Kd.C k35 w A0_0 l0_0.length l0_0) (hc0_0 : l0_0.length ≤ c0_0) (hr0_1 : Kd.C (Kd.int .i64) w A0_1 l0_1.length l0_1) (hc0_1 : l0_1.length ≤ c0_1) (hr0_2 : Kd.C (Kd.int .i64) w A0_2 l0_2.length l0_2) (hc0_2 : l0_2.length ≤ c0_2) (hr0_3 : Kd.C (Kd.int .i64) w A0_3 l0_3.length l0_3) (hc0_3 : l0_3.length ≤ c0_3) (hr1_0 : Kd.C k35 w A1_0 l1_0.length l1_0) (hc1_0 : l1_0.length ≤ c1_0) (hr1_1 : Kd.C (Kd.int .i64) w A1_1 l1_1.length l1_1) (hc1_1 : l1_1.length ≤ c1_1) (hr1_2 : Kd.C (Kd.int .i64) w A1_2 l1_2.length l1_2) (hc1_2 : l1_2.length ≤ c1_2) (hr1_3 : Kd.C (Kd.int .i64) w A1_3 l1_3.length l1_3) (hc1_3 : l1_3.length ≤ c1_3) (h : palinodelaw14_edits.f k l0_0 l0_1 l0_2 l0_3 a0_4 l1_0 l1_1 l1_2 l1_3 a1_4 = some r) :
    Calls Try.prog 21 #[.agg #[.slice A0_0 l0_0.length c0_0, .slice A0_1 l0_1.length c0_1, .slice A0_2 l0_2.length c0_2, .slice A0_3 l0_3.length c0_3, .int .i64 a0_4], .agg #[.slice A1_0 l1_0.length c1_0, .slice A1_1 l1_1.length c1_1, .slice A1_2 l1_2.length c1_2, .slice A1_3 l1_3.length c1_3, .int .i64 a1_4]] w fun e w' => e = .returned (.bool r) ∧ Below w.heap.size w w' := by
  have hu32 := Try.underlying32
  have HR0_0 := Aside0.mk hr0_0
  have HC0_0 := Aside0.mk hc0_0
  clear hr0_0 hc0_0
  have HR0_1 := Aside0.mk hr0_1
  have HC0_1 := Aside0.mk hc0_1
  clear hr0_1 hc0_1
  have HR0_2 := Aside0.mk hr0_2
  have HC0_2 := Aside0.mk hc0_2
  clear hr0_2 hc0_2
  have HR0_3 := Aside0.mk hr0_3
  have HC0_3 := Aside0.mk hc0_3
  clear hr0_3 hc0_3
  have HR1_0 := Aside0.mk hr1_0
  have HC1_0 := Aside0.mk hc1_0
  clear hr1_0 hc1_0
  have HR1_1 := Aside0.mk hr1_1
  have HC1_1 := Aside0.mk hc1_1
  clear hr1_1 hc1_1
  have HR1_2 := Aside0.mk hr1_2
  have HC1_2 := Aside0.mk hc1_2
  clear hr1_2 hc1_2
  have HR1_3 := Aside0.mk hr1_3
  have HC1_3 := Aside0.mk hc1_3
  clear hr1_3 hc1_3
  have HB := Aside0.mk (Below.refl w.heap.size w)
  have H : ((palinodelaw14_metas.f k l0_0 l1_0).bind fun t496 => ((palinodelaw14_numbers.f k l0_1 l1_1).bind fun t497 => ((palinodelaw14_numbers.f k l0_2 l1_2).bind fun t498 => ((palinodelaw14_numbers.f k l0_3 l1_3).bind fun t499 => (if t496 = true then (if t497 = true then (if t498 = true then (if t499 = true then (some (a0_4 == a1_4)) else (some false)) else (some false)) else (some false)) else (some false)))))) = some r := h
  clear h
  replace H := Option.bind_eq_some_iff.mp H
  obtain ⟨t496, A30, H⟩ := H
  replace H : ((palinodelaw14_numbers.f k l0_1 l1_1).bind fun t497 => ((palinodelaw14_numbers.f k l0_2 l1_2).bind fun t498 => ((palinodelaw14_numbers.f k l0_3 l1_3).bind fun t499 => (if t496 = true then (if t497 = true then (if t498 = true then (if t499 = true then (some (a0_4 == a1_4)) else (some false)) else (some false)) else (some false)) else (some false))))) = some r := H
  have A3 := Aside0.mk A30
  clear A30
  replace H := Option.bind_eq_some_iff.mp H
  obtain ⟨t497, A40, H⟩ := H
  replace H : ((palinodelaw14_numbers.f k l0_2 l1_2).bind fun t498 => ((palinodelaw14_numbers.f k l0_3 l1_3).bind fun t499 => (if t496 = true then (if t497 = true then (if t498 = true then (if t499 = true then (some (a0_4 == a1_4)) else (some false)) else (some false)) else (some false)) else (some false)))) = some r := H
  have A4 := Aside0.mk A40
  clear A40
  replace H := Option.bind_eq_some_iff.mp H
  obtain ⟨t498, A50, H⟩ := H
  replace H : ((palinodelaw14_numbers.f k l0_3 l1_3).bind fun t499 => (if t496 = true then (if t497 = true then (if t498 = true then (if t499 = true then (some (a0_4 == a1_4)) else (some false)) else (some false)) else (some false)) else (some false))) = some r := H
  have A5 := Aside0.mk A50
  clear A50
  replace H := Option.bind_eq_some_iff.mp H
  obtain ⟨t499, A60, H⟩ := H
  replace H : (if t496 = true then (if t497 = true then (if t498 = true then (if t499 = true then (some (a0_4 == a1_4)) else (some false)) else (some false)) else (some false)) else (some false)) = some r := H
  have A6 := Aside0.mk A60
  clear A60
  by_cases c7 : t496 = true
  · subst c7
    have H1 : (if t497 = true then (if t498 = true then (if t499 = true then (some (a0_4 == a1_4)) else (some false)) else (some false)) else (some false)) = some r := by rw [if_pos rfl] at H; exact H
    clear H
    have H := H1
    clear H1
    by_cases c8 : t497 = true
    · subst c8
      have H1 : (if t498 = true then (if t499 = true then (some (a0_4 == a1_4)) else (some false)) else (some false)) = some r := by rw [if_pos rfl] at H; exact H
      clear H
      have H := H1
      clear H1
      by_cases c9 : t498 = true
      · subst c9
        have H1 : (if t499 = true then (some (a0_4 == a1_4)) else (some false)) = some r := by rw [if_pos rfl] at H; exact H
        clear H
        have H := H1
        clear H1
        by_cases c10 : t499 = true
        · subst c10
          have H1 : (some (a0_4 == a1_4)) = some r := by rw [if_pos rfl] at H; exact H
          clear H
          have H := H1
          clear H1
          obtain rfl := Option.some.inj H
          go_enter Try.func21, Try.ntmps21
          go_wp2_with (first | ((with_reducible refine gate_dst (N := 2) rfl ?_); refine box_event ?hg (N := 2) ?hd (cs := #[.slice A0_0 l0_0.length c0_0, .slice A0_1 l0_1.length c0_1, .slice A0_2 l0_2.length c0_2, .slice A0_3 l0_3.length c0_3, .int .i64 a0_4]) (t := 32) ?hr ?_; (case hd => rfl); (case hg => rfl); (case hr => first | (go_simp; done) | (go_simp; rfl)); intro gb494 hg w11 hbox hb; have n0_ := Aside0.mk (below_step (by repeat (first | (with_reducible first | exact HB.out | apply below_alloc | apply pw_below_drewN | apply below_drew1) | exact HB.out)) hb); have n1_ := Aside0.mk (hbox); have n2_ := Aside0.mk ((by rw [hg]; exact (below_size (by repeat (first | (with_reducible first | exact HB.out | apply below_alloc | apply pw_below_drewN | apply below_drew1) | exact HB.out))) : w.heap.size ≤ gb494)); have n3_ := Aside0.mk ((by rw [hg]; exact (below_size (by repeat (first | (with_reducible first | exact HB.out | apply below_alloc | apply pw_below_drewN | apply below_drew1) | exact HB.out))) : w.heap.size ≤ gb494)); clear HB; have HB := n0_; have BK494 := n1_; have GW494 := n2_; have GE494 := n3_; clear n0_ n1_ n2_ n3_; clear hb hbox hg) | ((with_reducible refine gate_dst (N := 3) rfl ?_); refine box_event ?hg (N := 3) ?hd (cs := #[.slice A1_0 l1_0.length c1_0, .slice A1_1 l1_1.length c1_1, .slice A1_2 l1_2.length c1_2, .slice A1_3 l1_3.length c1_3, .int .i64 a1_4]) (t := 32) ?hr ?_; (case hd => rfl); (case hg => rfl); (case hr => first | (go_simp; done) | (go_simp; rfl)); intro gb495 hg w12 hbox hb; have n0_ := Aside0.mk (blk_below (g := gb494) (o := .cells #[.slice A0_0 l0_0.length c0_0, .slice A0_1 l0_1.length c0_1, .slice A0_2 l0_2.length c0_2, .slice A0_3 l0_3.length c0_3, .int .i64 a0_4] 32 (0, 0)) (by (with_reducible repeat (first | refine blk_drewN ?_ _ | refine blk_drew ?_ | refine blk_alloc ?_ _)); exact BK494.out) hb); have n1_ := Aside0.mk (below_step (by repeat (first | (with_reducible first | exact HB.out | apply below_alloc | apply pw_below_drewN | apply below_drew1 | refine below_set ?_ GE494.out) | exact HB.out)) hb); have n2_ := Aside0.mk (hbox); have n3_ := Aside0.mk ((by rw [hg]; exact (below_size (by repeat (first | (with_reducible first | exact HB.out | apply below_alloc | apply pw_below_drewN | apply below_drew1 | refine below_set ?_ GE494.out) | exact HB.out))) : w.heap.size ≤ gb495)); have n4_ := Aside0.mk ((by rw [hg]; exact (below_size (by repeat (first | (with_reducible first | exact HB.out | apply below_alloc | apply pw_below_drewN | apply below_drew1 | refine below_set ?_ GE494.out) | exact HB.out))) : w.heap.size ≤ gb495)); have n5_ := Aside0.mk ((by rw [hg]; exact Nat.ne_of_lt (blk_lt (g := gb494) (o := .cells #[.slice A0_0 l0_0.length c0_0, .slice A0_1 l0_1.length c0_1, .slice A0_2 l0_2.length c0_2, .slice A0_3 l0_3.length c0_3, .int .i64 a0_4] 32 (0, 0)) (by (with_reducible repeat (first | refine blk_drewN ?_ _ | refine blk_drew ?_ | refine blk_alloc ?_ _)); exact BK494.out)) : gb494 ≠ gb495)); have n6_ := Aside0.mk ((by rw [hg]; exact Nat.ne_of_gt (blk_lt (g := gb494) (o := .cells #[.slice A0_0 l0_0.length c0_0, .slice A0_1 l0_1.length c0_1, .slice A0_2 l0_2.length c0_2, .slice A0_3 l0_3.length c0_3, .int .i64 a0_4] 32 (0, 0)) (by (with_reducible repeat (first | refine blk_drewN ?_ _ | refine blk_drew ?_ | refine blk_alloc ?_ _)); exact BK494.out)) : gb495 ≠ gb494)); clear BK494; clear HB; have BK494 := n0_; have HB := n1_; have BK495 := n2_; have GW495 := n3_; have GE495 := n4_; have NB494_495 := n5_; have NB495_494 := n6_; clear n0_ n1_ n2_ n3_ n4_ n5_ n6_; clear hb hbox hg; have hnb13 := NB494_495.out; have hnc13 := NB495_494.out; have hcz14_0 : w12.cell? ⟨gb494, 0, none⟩ = some (.slice A0_0 l0_0.length c0_0) := (blk_cell BK494.out 0).trans rfl; have hcz14_1 : w12.cell? ⟨gb494, 1, none⟩ = some (.slice A0_1 l0_1.length c0_1) := (blk_cell BK494.out 1).trans rfl; have hcz14_2 : w12.cell? ⟨gb494, 2, none⟩ = some (.slice A0_2 l0_2.length c0_2) := (blk_cell BK494.out 2).trans rfl; have hcz14_3 : w12.cell? ⟨gb494, 3, none⟩ = some (.slice A0_3 l0_3.length c0_3) := (blk_cell BK494.out 3).trans rfl; have hcz14_4 : w12.cell? ⟨gb494, 4, none⟩ = some (.int .i64 a0_4) := (blk_cell BK494.out 4).trans rfl; have hfz14_0 := blk_frozen BK494.out 0; have hfz14_1 := blk_frozen BK494.out 1; have hfz14_2 := blk_frozen BK494.out 2; have hfz14_3 := blk_frozen BK494.out 3; have hfz14_4 := blk_frozen BK494.out 4; have hcz15_0 : w12.cell? ⟨gb495, 0, none⟩ = some (.slice A1_0 l1_0.length c1_0) := (blk_cell BK495.out 0).trans rfl; have hcz15_1 : w12.cell? ⟨gb495, 1, none⟩ = some (.slice A1_1 l1_1.length c1_1) := (blk_cell BK495.out 1).trans rfl; have hcz15_2 : w12.cell? ⟨gb495, 2, none⟩ = some (.slice A1_2 l1_2.length c1_2) := (blk_cell BK495.out 2).trans rfl; have hcz15_3 : w12.cell? ⟨gb495, 3, none⟩ = some (.slice A1_3 l1_3.length c1_3) := (blk_cell BK495.out 3).trans rfl; have hcz15_4 : w12.cell? ⟨gb495, 4, none⟩ = some (.int .i64 a1_4) := (blk_cell BK495.out 4).trans rfl; have hfz15_0 := blk_frozen BK495.out 0; have hfz15_1 := blk_frozen BK495.out 1; have hfz15_2 := blk_frozen BK495.out 2; have hfz15_3 := blk_frozen BK495.out 3; have hfz15_4 := blk_frozen BK495.out 4) | ((with_reducible refine gate_callee (f := 30) rfl ?_); refine goesL_ (some 13) rfl rfl Try.func30 (by kernel_rfl) rfl #[.slice A0_0 l0_0.length c0_0, .slice A1_0 l1_0.length c1_0] rfl (by (try simp only [List.map_toArray, List.map_cons, List.map_nil]); first | done | rfl | (simp only [List.length_drop, List.length_take]; rfl)) ?_; (with_reducible refine (palinodelaw14_metas.calls k _ _ l0_0 _ _ l1_0 true _ ?side1 ?side2 ?side3 ?side4 A3.out).mono ?_); (case side1 => repeat (first | exact (Kd.C_below HR0_0.out HB.out) | (with_reducible refine Kd.C_alloc ?_ _) | (with_reducible refine Kd.C_drewN ?_ _) | (with_reducible refine Kd.C_drew ?_))); (case side2 => exact HC0_0.out); (case side3 => repeat (first | exact (Kd.C_below HR1_0.out HB.out) | (with_reducible refine Kd.C_alloc ?_ _) | (with_reducible refine Kd.C_drewN ?_ _) | (with_reducible refine Kd.C_drew ?_))); (case side4 => exact HC1_0.out); rintro e w' ⟨rfl, ⟨nd, rfl⟩⟩; refine ⟨_, rfl, ?_⟩) | ((with_reducible refine gate_callee (f := 31) rfl ?_); refine goesL_ (some 18) rfl rfl Try.func31 (by kernel_rfl) rfl #[.slice A0_1 l0_1.length c0_1, .slice A1_1 l1_1.length c1_1] rfl (by (try simp only [List.map_toArray, List.map_cons, List.map_nil]); first | done | rfl | (simp only [List.length_drop, List.length_take]; rfl)) ?_; (with_reducible refine (palinodelaw14_numbers.calls k _ _ l0_1 _ _ l1_1 true _ ?side1 ?side2 ?side3 ?side4 A4.out).mono ?_); (case side1 => repeat (first | exact (Kd.C_below HR0_1.out (by repeat (first | (with_reducible first | exact HB.out | apply below_alloc | apply pw_below_drewN | apply below_drew1 | refine below_set ?_ GE494.out | refine below_set ?_ GE495.out) | exact HB.out))) | (with_reducible refine Kd.C_alloc ?_ _) | (with_reducible refine Kd.C_drewN ?_ _) | (with_reducible refine Kd.C_drew ?_))); (case side2 => exact HC0_1.out); (case side3 => repeat (first | exact (Kd.C_below HR1_1.out (by repeat (first | (with_reducible first | exact HB.out | apply below_alloc | apply pw_below_drewN | apply below_drew1 | refine below_set ?_ GE494.out | refine below_set ?_ GE495.out) | exact HB.out))) | (with_reducible refine Kd.C_alloc ?_ _) | (with_reducible refine Kd.C_drewN ?_ _) | (with_reducible refine Kd.C_drew ?_))); (case side4 => exact HC1_1.out); rintro e w' ⟨rfl, ⟨nd, rfl⟩⟩; refine ⟨_, rfl, ?_⟩) | ((with_reducible refine gate_callee (f := 31) rfl ?_); refine goesL_ (some 23) rfl rfl Try.func31 (by kernel_rfl) rfl #[.slice A0_2 l0_2.length c0_2, .slice A1_2 l1_2.length c1_2] rfl (by (try simp only [List.map_toArray, List.map_cons, List.map_nil]); first | done | rfl | (simp only [List.length_drop, List.length_take]; rfl)) ?_; (with_reducible refine (palinodelaw14_numbers.calls k _ _ l0_2 _ _ l1_2 true _ ?side1 ?side2 ?side3 ?side4 A5.out).mono ?_); (case side1 => repeat (first | exact (Kd.C_below HR0_2.out (by repeat (first | (with_reducible first | exact HB.out | apply below_alloc | apply pw_below_drewN | apply below_drew1 | refine below_set ?_ GE494.out | refine below_set ?_ GE495.out) | exact HB.out))) | (with_reducible refine Kd.C_alloc ?_ _) | (with_reducible refine Kd.C_drewN ?_ _) | (with_reducible refine Kd.C_drew ?_))); (case side2 => exact HC0_2.out); (case side3 => repeat (first | exact (Kd.C_below HR1_2.out (by repeat (first | (with_reducible first | exact HB.out | apply below_alloc | apply pw_below_drewN | apply below_drew1 | refine below_set ?_ GE494.out | refine below_set ?_ GE495.out) | exact HB.out))) | (with_reducible refine Kd.C_alloc ?_ _) | (with_reducible refine Kd.C_drewN ?_ _) | (with_reducible refine Kd.C_drew ?_))); (case side4 => exact HC1_2.out); rintro e w' ⟨rfl, ⟨nd, rfl⟩⟩; refine ⟨_, rfl, ?_⟩) | ((with_reducible refine gate_callee (f := 31) rfl ?_); refine goesL_ (some 28) rfl rfl Try.func31 (by kernel_rfl) rfl #[.slice A0_3 l0_3.length c0_3, .slice A1_3 l1_3.length c1_3] rfl (by (try simp only [List.map_toArray, List.map_cons, List.map_nil]); first | done | rfl | (simp only [List.length_drop, List.length_take]; rfl)) ?_; (with_reducible refine (palinodelaw14_numbers.calls k _ _ l0_3 _ _ l1_3 true _ ?side1 ?side2 ?side3 ?side4 A6.out).mono ?_); (case side1 => repeat (first | exact (Kd.C_below HR0_3.out (by repeat (first | (with_reducible first | exact HB.out | apply below_alloc | apply pw_below_drewN | apply below_drew1 | refine below_set ?_ GE494.out | refine below_set ?_ GE495.out) | exact HB.out))) | (with_reducible refine Kd.C_alloc ?_ _) | (with_reducible refine Kd.C_drewN ?_ _) | (with_reducible refine Kd.C_drew ?_))); (case side2 => exact HC0_3.out); (case side3 => repeat (first | exact (Kd.C_below HR1_3.out (by repeat (first | (with_reducible first | exact HB.out | apply below_alloc | apply pw_below_drewN | apply below_drew1 | refine below_set ?_ GE494.out | refine below_set ?_ GE495.out) | exact HB.out))) | (with_reducible refine Kd.C_alloc ?_ _) | (with_reducible refine Kd.C_drewN ?_ _) | (with_reducible refine Kd.C_drew ?_))); (case side4 => exact HC1_3.out); rintro e w' ⟨rfl, ⟨nd, rfl⟩⟩; refine ⟨_, rfl, ?_⟩))
          go_ret
          exact ⟨by first | rfl | (simp [errW_none, errW_some] <;> rfl) | (simp [*, errW_none, errW_some] <;> rfl), by repeat (first | (with_reducible first | exact HB.out | apply below_alloc | apply pw_below_drewN | apply below_drew1 | refine below_set ?_ GE494.out | refine below_set ?_ GE495.out) | exact HB.out)⟩
        · replace c10 := Bool.eq_false_iff.mpr c10
          subst c10
          have H1 : (some false) = some r := by rw [if_neg (show ¬ (false = true) by decide)] at H; exact H
          clear H
          have H := H1
          clear H1
          obtain rfl := Option.some.inj H
          go_enter Try.func21, Try.ntmps21
          go_wp2_with (first | ((with_reducible refine gate_dst (N := 2) rfl ?_); refine box_event ?hg (N := 2) ?hd (cs := #[.slice A0_0 l0_0.length c0_0, .slice A0_1 l0_1.length c0_1, .slice A0_2 l0_2.length c0_2, .slice A0_3 l0_3.length c0_3, .int .i64 a0_4]) (t := 32) ?hr ?_; (case hd => rfl); (case hg => rfl); (case hr => first | (go_simp; done) | (go_simp; rfl)); intro gb494 hg w16 hbox hb; have n0_ := Aside0.mk (below_step (by repeat (first | (with_reducible first | exact HB.out | apply below_alloc | apply pw_below_drewN | apply below_drew1) | exact HB.out)) hb); have n1_ := Aside0.mk (hbox); have n2_ := Aside0.mk ((by rw [hg]; exact (below_size (by repeat (first | (with_reducible first | exact HB.out | apply below_alloc | apply pw_below_drewN | apply below_drew1) | exact HB.out))) : w.heap.size ≤ gb494)); have n3_ := Aside0.mk ((by rw [hg]; exact (below_size (by repeat (first | (with_reducible first | exact HB.out | apply below_alloc | apply pw_below_drewN | apply below_drew1) | exact HB.out))) : w.heap.size ≤ gb494)); clear HB; have HB := n0_; have BK494 := n1_; have GW494 := n2_; have GE494 := n3_; clear n0_ n1_ n2_ n3_; clear hb hbox hg) | ((with_reducible refine gate_dst (N := 3) rfl ?_); refine box_event ?hg (N := 3) ?hd (cs := #[.slice A1_0 l1_0.length c1_0, .slice A1_1 l1_1.length c1_1, .slice A1_2 l1_2.length c1_2, .slice A1_3 l1_3.length c1_3, .int .i64 a1_4]) (t := 32) ?hr ?_; (case hd => rfl); (case hg => rfl); (case hr => first | (go_simp; done) | (go_simp; rfl)); intro gb495 hg w17 hbox hb; have n0_ := Aside0.mk (blk_below (g := gb494) (o := .cells #[.slice A0_0 l0_0.length c0_0, .slice A0_1 l0_1.length c0_1, .slice A0_2 l0_2.length c0_2, .slice A0_3 l0_3.length c0_3, .int .i64 a0_4] 32 (0, 0)) (by (with_reducible repeat (first | refine blk_drewN ?_ _ | refine blk_drew ?_ | refine blk_alloc ?_ _)); exact BK494.out) hb); have n1_ := Aside0.mk (below_step (by repeat (first | (with_reducible first | exact HB.out | apply below_alloc | apply pw_below_drewN | apply below_drew1 | refine below_set ?_ GE494.out) | exact HB.out)) hb); have n2_ := Aside0.mk (hbox); have n3_ := Aside0.mk ((by rw [hg]; exact (below_size (by repeat (first | (with_reducible first | exact HB.out | apply below_alloc | apply pw_below_drewN | apply below_drew1 | refine below_set ?_ GE494.out) | exact HB.out))) : w.heap.size ≤ gb495)); have n4_ := Aside0.mk ((by rw [hg]; exact (below_size (by repeat (first | (with_reducible first | exact HB.out | apply below_alloc | apply pw_below_drewN | apply below_drew1 | refine below_set ?_ GE494.out) | exact HB.out))) : w.heap.size ≤ gb495)); have n5_ := Aside0.mk ((by rw [hg]; exact Nat.ne_of_lt (blk_lt (g := gb494) (o := .cells #[.slice A0_0 l0_0.length c0_0, .slice A0_1 l0_1.length c0_1, .slice A0_2 l0_2.length c0_2, .slice A0_3 l0_3.length c0_3, .int .i64 a0_4] 32 (0, 0)) (by (with_reducible repeat (first | refine blk_drewN ?_ _ | refine blk_drew ?_ | refine blk_alloc ?_ _)); exact BK494.out)) : gb494 ≠ gb495)); have n6_ := Aside0.mk ((by rw [hg]; exact Nat.ne_of_gt (blk_lt (g := gb494) (o := .cells #[.slice A0_0 l0_0.length c0_0, .slice A0_1 l0_1.length c0_1, .slice A0_2 l0_2.length c0_2, .slice A0_3 l0_3.length c0_3, .int .i64 a0_4] 32 (0, 0)) (by (with_reducible repeat (first | refine blk_drewN ?_ _ | refine blk_drew ?_ | refine blk_alloc ?_ _)); exact BK494.out)) : gb495 ≠ gb494)); clear BK494; clear HB; have BK494 := n0_; have HB := n1_; have BK495 := n2_; have GW495 := n3_; have GE495 := n4_; have NB494_495 := n5_; have NB495_494 := n6_; clear n0_ n1_ n2_ n3_ n4_ n5_ n6_; clear hb hbox hg; have hnb18 := NB494_495.out; have hnc18 := NB495_494.out; have hcz19_0 : w17.cell? ⟨gb494, 0, none⟩ = some (.slice A0_0 l0_0.length c0_0) := (blk_cell BK494.out 0).trans rfl; have hcz19_1 : w17.cell? ⟨gb494, 1, none⟩ = some (.slice A0_1 l0_1.length c0_1) := (blk_cell BK494.out 1).trans rfl; have hcz19_2 : w17.cell? ⟨gb494, 2, none⟩ = some (.slice A0_2 l0_2.length c0_2) := (blk_cell BK494.out 2).trans rfl; have hcz19_3 : w17.cell? ⟨gb494, 3, none⟩ = some (.slice A0_3 l0_3.length c0_3) := (blk_cell BK494.out 3).trans rfl; have hcz19_4 : w17.cell? ⟨gb494, 4, none⟩ = some (.int .i64 a0_4) := (blk_cell BK494.out 4).trans rfl; have hfz19_0 := blk_frozen BK494.out 0; have hfz19_1 := blk_frozen BK494.out 1; have hfz19_2 := blk_frozen BK494.out 2; have hfz19_3 := blk_frozen BK494.out 3; have hfz19_4 := blk_frozen BK494.out 4; have hcz20_0 : w17.cell? ⟨gb495, 0, none⟩ = some (.slice A1_0 l1_0.length c1_0) := (blk_cell BK495.out 0).trans rfl; have hcz20_1 : w17.cell? ⟨gb495, 1, none⟩ = some (.slice A1_1 l1_1.length c1_1) := (blk_cell BK495.out 1).trans rfl; have hcz20_2 : w17.cell? ⟨gb495, 2, none⟩ = some (.slice A1_2 l1_2.length c1_2) := (blk_cell BK495.out 2).trans rfl; have hcz20_3 : w17.cell? ⟨gb495, 3, none⟩ = some (.slice A1_3 l1_3.length c1_3) := (blk_cell BK495.out 3).trans rfl; have hcz20_4 : w17.cell? ⟨gb495, 4, none⟩ = some (.int .i64 a1_4) := (blk_cell BK495.out 4).trans rfl; have hfz20_0 := blk_frozen BK495.out 0; have hfz20_1 := blk_frozen BK495.out 1; have hfz20_2 := blk_frozen BK495.out 2; have hfz20_3 := blk_frozen BK495.out 3; have hfz20_4 := blk_frozen BK495.out 4) | ((with_reducible refine gate_callee (f := 30) rfl ?_); refine goesL_ (some 13) rfl rfl Try.func30 (by kernel_rfl) rfl #[.slice A0_0 l0_0.length c0_0, .slice A1_0 l1_0.length c1_0] rfl (by (try simp only [List.map_toArray, List.map_cons, List.map_nil]); first | done | rfl | (simp only [List.length_drop, List.length_take]; rfl)) ?_; (with_reducible refine (palinodelaw14_metas.calls k _ _ l0_0 _ _ l1_0 true _ ?side1 ?side2 ?side3 ?side4 A3.out).mono ?_); (case side1 => repeat (first | exact (Kd.C_below HR0_0.out HB.out) | (with_reducible refine Kd.C_alloc ?_ _) | (with_reducible refine Kd.C_drewN ?_ _) | (with_reducible refine Kd.C_drew ?_))); (case side2 => exact HC0_0.out); (case side3 => repeat (first | exact (Kd.C_below HR1_0.out HB.out) | (with_reducible refine Kd.C_alloc ?_ _) | (with_reducible refine Kd.C_drewN ?_ _) | (with_reducible refine Kd.C_drew ?_))); (case side4 => exact HC1_0.out); rintro e w' ⟨rfl, ⟨nd, rfl⟩⟩; refine ⟨_, rfl, ?_⟩) | ((with_reducible refine gate_callee (f := 31) rfl ?_); refine goesL_ (some 18) rfl rfl Try.func31 (by kernel_rfl) rfl #[.slice A0_1 l0_1.length c0_1, .slice A1_1 l1_1.length c1_1] rfl (by (try simp only [List.map_toArray, List.map_cons, List.map_nil]); first | done | rfl | (simp only [List.length_drop, List.length_take]; rfl)) ?_; (with_reducible refine (palinodelaw14_numbers.calls k _ _ l0_1 _ _ l1_1 true _ ?side1 ?side2 ?side3 ?side4 A4.out).mono ?_); (case side1 => repeat (first | exact (Kd.C_below HR0_1.out (by repeat (first | (with_reducible first | exact HB.out | apply below_alloc | apply pw_below_drewN | apply below_drew1 | refine below_set ?_ GE494.out | refine below_set ?_ GE495.out) | exact HB.out))) | (with_reducible refine Kd.C_alloc ?_ _) | (with_reducible refine Kd.C_drewN ?_ _) | (with_reducible refine Kd.C_drew ?_))); (case side2 => exact HC0_1.out); (case side3 => repeat (first | exact (Kd.C_below HR1_1.out (by repeat (first | (with_reducible first | exact HB.out | apply below_alloc | apply pw_below_drewN | apply below_drew1 | refine below_set ?_ GE494.out | refine below_set ?_ GE495.out) | exact HB.out))) | (with_reducible refine Kd.C_alloc ?_ _) | (with_reducible refine Kd.C_drewN ?_ _) | (with_reducible refine Kd.C_drew ?_))); (case side4 => exact HC1_1.out); rintro e w' ⟨rfl, ⟨nd, rfl⟩⟩; refine ⟨_, rfl, ?_⟩) | ((with_reducible refine gate_callee (f := 31) rfl ?_); refine goesL_ (some 23) rfl rfl Try.func31 (by kernel_rfl) rfl #[.slice A0_2 l0_2.length c0_2, .slice A1_2 l1_2.length c1_2] rfl (by (try simp only [List.map_toArray, List.map_cons, List.map_nil]); first | done | rfl | (simp only [List.length_drop, List.length_take]; rfl)) ?_; (with_reducible refine (palinodelaw14_numbers.calls k _ _ l0_2 _ _ l1_2 true _ ?side1 ?side2 ?side3 ?side4 A5.out).mono ?_); (case side1 => repeat (first | exact (Kd.C_below HR0_2.out (by repeat (first | (with_reducible first | exact HB.out | apply below_alloc | apply pw_below_drewN | apply below_drew1 | refine below_set ?_ GE494.out | refine below_set ?_ GE495.out) | exact HB.out))) | (with_reducible refine Kd.C_alloc ?_ _) | (with_reducible refine Kd.C_drewN ?_ _) | (with_reducible refine Kd.C_drew ?_))); (case side2 => exact HC0_2.out); (case side3 => repeat (first | exact (Kd.C_below HR1_2.out (by repeat (first | (with_reducible first | exact HB.out | apply below_alloc | apply pw_below_drewN | apply below_drew1 | refine below_set ?_ GE494.out | refine below_set ?_ GE495.out) | exact HB.out))) | (with_reducible refine Kd.C_alloc ?_ _) | (with_reducible refine Kd.C_drewN ?_ _) | (with_reducible refine Kd.C_drew ?_))); (case side4 => exact HC1_2.out); rintro e w' ⟨rfl, ⟨nd, rfl⟩⟩; refine ⟨_, rfl, ?_⟩) | ((with_reducible refine gate_callee (f := 31) rfl ?_); refine goesL_ (some 28) rfl rfl Try.func31 (by kernel_rfl) rfl #[.slice A0_3 l0_3.length c0_3, .slice A1_3 l1_3.length c1_3] rfl (by (try simp only [List.map_toArray, List.map_cons, List.map_nil]); first | done | rfl | (simp only [List.length_drop, List.length_take]; rfl)) ?_; (with_reducible refine (palinodelaw14_numbers.calls k _ _ l0_3 _ _ l1_3 false _ ?side1 ?side2 ?side3 ?side4 A6.out).mono ?_); (case side1 => repeat (first | exact (Kd.C_below HR0_3.out (by repeat (first | (with_reducible first | exact HB.out | apply below_alloc | apply pw_below_drewN | apply below_drew1 | refine below_set ?_ GE494.out | refine below_set ?_ GE495.out) | exact HB.out))) | (with_reducible refine Kd.C_alloc ?_ _) | (with_reducible refine Kd.C_drewN ?_ _) | (with_reducible refine Kd.C_drew ?_))); (case side2 => exact HC0_3.out); (case side3 => repeat (first | exact (Kd.C_below HR1_3.out (by repeat (first | (with_reducible first | exact HB.out | apply below_alloc | apply pw_below_drewN | apply below_drew1 | refine below_set ?_ GE494.out | refine below_set ?_ GE495.out) | exact HB.out))) | (with_reducible refine Kd.C_alloc ?_ _) | (with_reducible refine Kd.C_drewN ?_ _) | (with_reducible refine Kd.C_drew ?_))); (case side4 => exact HC1_3.out); rintro e w' ⟨rfl, ⟨nd, rfl⟩⟩; refine ⟨_, rfl, ?_⟩))
          go_ret
          exact ⟨by first | rfl | (simp [errW_none, errW_some] <;> rfl) | (simp [*, errW_none, errW_some] <;> rfl), by repeat (first | (with_reducible first | exact HB.out | apply below_alloc | apply pw_below_drewN | apply below_drew1 | refine below_set ?_ GE494.out | refine below_set ?_ GE495.out) | exact HB.out)⟩
      · replace c9 := Bool.eq_false_iff.mpr c9
        subst c9
        have H1 : (some false) = some r := by rw [if_neg (show ¬ (false = true) by decide)] at H; exact H
        clear H
        have H := H1
        clear H1
        obtain rfl := Option.some.inj H
        go_enter Try.func21, Try.ntmps21
        go_wp2_with (first | ((with_reducible refine gate_dst (N := 2) rfl ?_); refine box_event ?hg (N := 2) ?hd (cs := #[.slice A0_0 l0_0.length c0_0, .slice A0_1 l0_1.length c0_1, .slice A0_2 l0_2.length c0_2, .slice A0_3 l0_3.length c0_3, .int .i64 a0_4]) (t := 32) ?hr ?_; (case hd => rfl); (case hg => rfl); (case hr => first | (go_simp; done) | (go_simp; rfl)); intro gb494 hg w21 hbox hb; have n0_ := Aside0.mk (below_step (by repeat (first | (with_reducible first | exact HB.out | apply below_alloc | apply pw_below_drewN | apply below_drew1) | exact HB.out)) hb); have n1_ := Aside0.mk (hbox); have n2_ := Aside0.mk ((by rw [hg]; exact (below_size (by repeat (first | (with_reducible first | exact HB.out | apply below_alloc | apply pw_below_drewN | apply below_drew1) | exact HB.out))) : w.heap.size ≤ gb494)); have n3_ := Aside0.mk ((by rw [hg]; exact (below_size (by repeat (first | (with_reducible first | exact HB.out | apply below_alloc | apply pw_below_drewN | apply below_drew1) | exact HB.out))) : w.heap.size ≤ gb494)); clear HB; have HB := n0_; have BK494 := n1_; have GW494 := n2_; have GE494 := n3_; clear n0_ n1_ n2_ n3_; clear hb hbox hg) | ((with_reducible refine gate_dst (N := 3) rfl ?_); refine box_event ?hg (N := 3) ?hd (cs := #[.slice A1_0 l1_0.length c1_0, .slice A1_1 l1_1.length c1_1, .slice A1_2 l1_2.length c1_2, .slice A1_3 l1_3.length c1_3, .int .i64 a1_4]) (t := 32) ?hr ?_; (case hd => rfl); (case hg => rfl); (case hr => first | (go_simp; done) | (go_simp; rfl)); intro gb495 hg w22 hbox hb; have n0_ := Aside0.mk (blk_below (g := gb494) (o := .cells #[.slice A0_0 l0_0.length c0_0, .slice A0_1 l0_1.length c0_1, .slice A0_2 l0_2.length c0_2, .slice A0_3 l0_3.length c0_3, .int .i64 a0_4] 32 (0, 0)) (by (with_reducible repeat (first | refine blk_drewN ?_ _ | refine blk_drew ?_ | refine blk_alloc ?_ _)); exact BK494.out) hb); have n1_ := Aside0.mk (below_step (by repeat (first | (with_reducible first | exact HB.out | apply below_alloc | apply pw_below_drewN | apply below_drew1 | refine below_set ?_ GE494.out) | exact HB.out)) hb); have n2_ := Aside0.mk (hbox); have n3_ := Aside0.mk ((by rw [hg]; exact (below_size (by repeat (first | (with_reducible first | exact HB.out | apply below_alloc | apply pw_below_drewN | apply below_drew1 | refine below_set ?_ GE494.out) | exact HB.out))) : w.heap.size ≤ gb495)); have n4_ := Aside0.mk ((by rw [hg]; exact (below_size (by repeat (first | (with_reducible first | exact HB.out | apply below_alloc | apply pw_below_drewN | apply below_drew1 | refine below_set ?_ GE494.out) | exact HB.out))) : w.heap.size ≤ gb495)); have n5_ := Aside0.mk ((by rw [hg]; exact Nat.ne_of_lt (blk_lt (g := gb494) (o := .cells #[.slice A0_0 l0_0.length c0_0, .slice A0_1 l0_1.length c0_1, .slice A0_2 l0_2.length c0_2, .slice A0_3 l0_3.length c0_3, .int .i64 a0_4] 32 (0, 0)) (by (with_reducible repeat (first | refine blk_drewN ?_ _ | refine blk_drew ?_ | refine blk_alloc ?_ _)); exact BK494.out)) : gb494 ≠ gb495)); have n6_ := Aside0.mk ((by rw [hg]; exact Nat.ne_of_gt (blk_lt (g := gb494) (o := .cells #[.slice A0_0 l0_0.length c0_0, .slice A0_1 l0_1.length c0_1, .slice A0_2 l0_2.length c0_2, .slice A0_3 l0_3.length c0_3, .int .i64 a0_4] 32 (0, 0)) (by (with_reducible repeat (first | refine blk_drewN ?_ _ | refine blk_drew ?_ | refine blk_alloc ?_ _)); exact BK494.out)) : gb495 ≠ gb494)); clear BK494; clear HB; have BK494 := n0_; have HB := n1_; have BK495 := n2_; have GW495 := n3_; have GE495 := n4_; have NB494_495 := n5_; have NB495_494 := n6_; clear n0_ n1_ n2_ n3_ n4_ n5_ n6_; clear hb hbox hg; have hnb23 := NB494_495.out; have hnc23 := NB495_494.out; have hcz24_0 : w22.cell? ⟨gb494, 0, none⟩ = some (.slice A0_0 l0_0.length c0_0) := (blk_cell BK494.out 0).trans rfl; have hcz24_1 : w22.cell? ⟨gb494, 1, none⟩ = some (.slice A0_1 l0_1.length c0_1) := (blk_cell BK494.out 1).trans rfl; have hcz24_2 : w22.cell? ⟨gb494, 2, none⟩ = some (.slice A0_2 l0_2.length c0_2) := (blk_cell BK494.out 2).trans rfl; have hcz24_3 : w22.cell? ⟨gb494, 3, none⟩ = some (.slice A0_3 l0_3.length c0_3) := (blk_cell BK494.out 3).trans rfl; have hcz24_4 : w22.cell? ⟨gb494, 4, none⟩ = some (.int .i64 a0_4) := (blk_cell BK494.out 4).trans rfl; have hfz24_0 := blk_frozen BK494.out 0; have hfz24_1 := blk_frozen BK494.out 1; have hfz24_2 := blk_frozen BK494.out 2; have hfz24_3 := blk_frozen BK494.out 3; have hfz24_4 := blk_frozen BK494.out 4; have hcz25_0 : w22.cell? ⟨gb495, 0, none⟩ = some (.slice A1_0 l1_0.length c1_0) := (blk_cell BK495.out 0).trans rfl; have hcz25_1 : w22.cell? ⟨gb495, 1, none⟩ = some (.slice A1_1 l1_1.length c1_1) := (blk_cell BK495.out 1).trans rfl; have hcz25_2 : w22.cell? ⟨gb495, 2, none⟩ = some (.slice A1_2 l1_2.length c1_2) := (blk_cell BK495.out 2).trans rfl; have hcz25_3 : w22.cell? ⟨gb495, 3, none⟩ = some (.slice A1_3 l1_3.length c1_3) := (blk_cell BK495.out 3).trans rfl; have hcz25_4 : w22.cell? ⟨gb495, 4, none⟩ = some (.int .i64 a1_4) := (blk_cell BK495.out 4).trans rfl; have hfz25_0 := blk_frozen BK495.out 0; have hfz25_1 := blk_frozen BK495.out 1; have hfz25_2 := blk_frozen BK495.out 2; have hfz25_3 := blk_frozen BK495.out 3; have hfz25_4 := blk_frozen BK495.out 4) | ((with_reducible refine gate_callee (f := 30) rfl ?_); refine goesL_ (some 13) rfl rfl Try.func30 (by kernel_rfl) rfl #[.slice A0_0 l0_0.length c0_0, .slice A1_0 l1_0.length c1_0] rfl (by (try simp only [List.map_toArray, List.map_cons, List.map_nil]); first | done | rfl | (simp only [List.length_drop, List.length_take]; rfl)) ?_; (with_reducible refine (palinodelaw14_metas.calls k _ _ l0_0 _ _ l1_0 true _ ?side1 ?side2 ?side3 ?side4 A3.out).mono ?_); (case side1 => repeat (first | exact (Kd.C_below HR0_0.out HB.out) | (with_reducible refine Kd.C_alloc ?_ _) | (with_reducible refine Kd.C_drewN ?_ _) | (with_reducible refine Kd.C_drew ?_))); (case side2 => exact HC0_0.out); (case side3 => repeat (first | exact (Kd.C_below HR1_0.out HB.out) | (with_reducible refine Kd.C_alloc ?_ _) | (with_reducible refine Kd.C_drewN ?_ _) | (with_reducible refine Kd.C_drew ?_))); (case side4 => exact HC1_0.out); rintro e w' ⟨rfl, ⟨nd, rfl⟩⟩; refine ⟨_, rfl, ?_⟩) | ((with_reducible refine gate_callee (f := 31) rfl ?_); refine goesL_ (some 18) rfl rfl Try.func31 (by kernel_rfl) rfl #[.slice A0_1 l0_1.length c0_1, .slice A1_1 l1_1.length c1_1] rfl (by (try simp only [List.map_toArray, List.map_cons, List.map_nil]); first | done | rfl | (simp only [List.length_drop, List.length_take]; rfl)) ?_; (with_reducible refine (palinodelaw14_numbers.calls k _ _ l0_1 _ _ l1_1 true _ ?side1 ?side2 ?side3 ?side4 A4.out).mono ?_); (case side1 => repeat (first | exact (Kd.C_below HR0_1.out (by repeat (first | (with_reducible first | exact HB.out | apply below_alloc | apply pw_below_drewN | apply below_drew1 | refine below_set ?_ GE494.out | refine below_set ?_ GE495.out) | exact HB.out))) | (with_reducible refine Kd.C_alloc ?_ _) | (with_reducible refine Kd.C_drewN ?_ _) | (with_reducible refine Kd.C_drew ?_))); (case side2 => exact HC0_1.out); (case side3 => repeat (first | exact (Kd.C_below HR1_1.out (by repeat (first | (with_reducible first | exact HB.out | apply below_alloc | apply pw_below_drewN | apply below_drew1 | refine below_set ?_ GE494.out | refine below_set ?_ GE495.out) | exact HB.out))) | (with_reducible refine Kd.C_alloc ?_ _) | (with_reducible refine Kd.C_drewN ?_ _) | (with_reducible refine Kd.C_drew ?_))); (case side4 => exact HC1_1.out); rintro e w' ⟨rfl, ⟨nd, rfl⟩⟩; refine ⟨_, rfl, ?_⟩) | ((with_reducible refine gate_callee (f := 31) rfl ?_); refine goesL_ (some 23) rfl rfl Try.func31 (by kernel_rfl) rfl #[.slice A0_2 l0_2.length c0_2, .slice A1_2 l1_2.length c1_2] rfl (by (try simp only [List.map_toArray, List.map_cons, List.map_nil]); first | done | rfl | (simp only [List.length_drop, List.length_take]; rfl)) ?_; (with_reducible refine (palinodelaw14_numbers.calls k _ _ l0_2 _ _ l1_2 false _ ?side1 ?side2 ?side3 ?side4 A5.out).mono ?_); (case side1 => repeat (first | exact (Kd.C_below HR0_2.out (by repeat (first | (with_reducible first | exact HB.out | apply below_alloc | apply pw_below_drewN | apply below_drew1 | refine below_set ?_ GE494.out | refine below_set ?_ GE495.out) | exact HB.out))) | (with_reducible refine Kd.C_alloc ?_ _) | (with_reducible refine Kd.C_drewN ?_ _) | (with_reducible refine Kd.C_drew ?_))); (case side2 => exact HC0_2.out); (case side3 => repeat (first | exact (Kd.C_below HR1_2.out (by repeat (first | (with_reducible first | exact HB.out | apply below_alloc | apply pw_below_drewN | apply below_drew1 | refine below_set ?_ GE494.out | refine below_set ?_ GE495.out) | exact HB.out))) | (with_reducible refine Kd.C_alloc ?_ _) | (with_reducible refine Kd.C_drewN ?_ _) | (with_reducible refine Kd.C_drew ?_))); (case side4 => exact HC1_2.out); rintro e w' ⟨rfl, ⟨nd, rfl⟩⟩; refine ⟨_, rfl, ?_⟩) | ((with_reducible refine gate_callee (f := 31) rfl ?_); refine goesL_ (some 28) rfl rfl Try.func31 (by kernel_rfl) rfl #[.slice A0_3 l0_3.length c0_3, .slice A1_3 l1_3.length c1_3] rfl (by (try simp only [List.map_toArray, List.map_cons, List.map_nil]); first | done | rfl | (simp only [List.length_drop, List.length_take]; rfl)) ?_; (with_reducible refine (palinodelaw14_numbers.calls k _ _ l0_3 _ _ l1_3 t499 _ ?side1 ?side2 ?side3 ?side4 A6.out).mono ?_); (case side1 => repeat (first | exact (Kd.C_below HR0_3.out (by repeat (first | (with_reducible first | exact HB.out | apply below_alloc | apply pw_below_drewN | apply below_drew1 | refine below_set ?_ GE494.out | refine below_set ?_ GE495.out) | exact HB.out))) | (with_reducible refine Kd.C_alloc ?_ _) | (with_reducible refine Kd.C_drewN ?_ _) | (with_reducible refine Kd.C_drew ?_))); (case side2 => exact HC0_3.out); (case side3 => repeat (first | exact (Kd.C_below HR1_3.out (by repeat (first | (with_reducible first | exact HB.out | apply below_alloc | apply pw_below_drewN | apply below_drew1 | refine below_set ?_ GE494.out | refine below_set ?_ GE495.out) | exact HB.out))) | (with_reducible refine Kd.C_alloc ?_ _) | (with_reducible refine Kd.C_drewN ?_ _) | (with_reducible refine Kd.C_drew ?_))); (case side4 => exact HC1_3.out); rintro e w' ⟨rfl, ⟨nd, rfl⟩⟩; refine ⟨_, rfl, ?_⟩))
        go_ret
        exact ⟨by first | rfl | (simp [errW_none, errW_some] <;> rfl) | (simp [*, errW_none, errW_some] <;> rfl), by repeat (first | (with_reducible first | exact HB.out | apply below_alloc | apply pw_below_drewN | apply below_drew1 | refine below_set ?_ GE494.out | refine below_set ?_ GE495.out) | exact HB.out)⟩
    · replace c8 := Bool.eq_false_iff.mpr c8
      subst c8
      have H1 : (some false) = some r := by rw [if_neg (show ¬ (false = true) by decide)] at H; exact H
      clear H
      have H := H1
      clear H1
      obtain rfl := Option.some.inj H
      go_enter Try.func21, Try.ntmps21
      go_wp2_with (first | ((with_reducible refine gate_dst (N := 2) rfl ?_); refine box_event ?hg (N := 2) ?hd (cs := #[.slice A0_0 l0_0.length c0_0, .slice A0_1 l0_1.length c0_1, .slice A0_2 l0_2.length c0_2, .slice A0_3 l0_3.length c0_3, .int .i64 a0_4]) (t := 32) ?hr ?_; (case hd => rfl); (case hg => rfl); (case hr => first | (go_simp; done) | (go_simp; rfl)); intro gb494 hg w26 hbox hb; have n0_ := Aside0.mk (below_step (by repeat (first | (with_reducible first | exact HB.out | apply below_alloc | apply pw_below_drewN | apply below_drew1) | exact HB.out)) hb); have n1_ := Aside0.mk (hbox); have n2_ := Aside0.mk ((by rw [hg]; exact (below_size (by repeat (first | (with_reducible first | exact HB.out | apply below_alloc | apply pw_below_drewN | apply below_drew1) | exact HB.out))) : w.heap.size ≤ gb494)); have n3_ := Aside0.mk ((by rw [hg]; exact (below_size (by repeat (first | (with_reducible first | exact HB.out | apply below_alloc | apply pw_below_drewN | apply below_drew1) | exact HB.out))) : w.heap.size ≤ gb494)); clear HB; have HB := n0_; have BK494 := n1_; have GW494 := n2_; have GE494 := n3_; clear n0_ n1_ n2_ n3_; clear hb hbox hg) | ((with_reducible refine gate_dst (N := 3) rfl ?_); refine box_event ?hg (N := 3) ?hd (cs := #[.slice A1_0 l1_0.length c1_0, .slice A1_1 l1_1.length c1_1, .slice A1_2 l1_2.length c1_2, .slice A1_3 l1_3.length c1_3, .int .i64 a1_4]) (t := 32) ?hr ?_; (case hd => rfl); (case hg => rfl); (case hr => first | (go_simp; done) | (go_simp; rfl)); intro gb495 hg w27 hbox hb; have n0_ := Aside0.mk (blk_below (g := gb494) (o := .cells #[.slice A0_0 l0_0.length c0_0, .slice A0_1 l0_1.length c0_1, .slice A0_2 l0_2.length c0_2, .slice A0_3 l0_3.length c0_3, .int .i64 a0_4] 32 (0, 0)) (by (with_reducible repeat (first | refine blk_drewN ?_ _ | refine blk_drew ?_ | refine blk_alloc ?_ _)); exact BK494.out) hb); have n1_ := Aside0.mk (below_step (by repeat (first | (with_reducible first | exact HB.out | apply below_alloc | apply pw_below_drewN | apply below_drew1 | refine below_set ?_ GE494.out) | exact HB.out)) hb); have n2_ := Aside0.mk (hbox); have n3_ := Aside0.mk ((by rw [hg]; exact (below_size (by repeat (first | (with_reducible first | exact HB.out | apply below_alloc | apply pw_below_drewN | apply below_drew1 | refine below_set ?_ GE494.out) | exact HB.out))) : w.heap.size ≤ gb495)); have n4_ := Aside0.mk ((by rw [hg]; exact (below_size (by repeat (first | (with_reducible first | exact HB.out | apply below_alloc | apply pw_below_drewN | apply below_drew1 | refine below_set ?_ GE494.out) | exact HB.out))) : w.heap.size ≤ gb495)); have n5_ := Aside0.mk ((by rw [hg]; exact Nat.ne_of_lt (blk_lt (g := gb494) (o := .cells #[.slice A0_0 l0_0.length c0_0, .slice A0_1 l0_1.length c0_1, .slice A0_2 l0_2.length c0_2, .slice A0_3 l0_3.length c0_3, .int .i64 a0_4] 32 (0, 0)) (by (with_reducible repeat (first | refine blk_drewN ?_ _ | refine blk_drew ?_ | refine blk_alloc ?_ _)); exact BK494.out)) : gb494 ≠ gb495)); have n6_ := Aside0.mk ((by rw [hg]; exact Nat.ne_of_gt (blk_lt (g := gb494) (o := .cells #[.slice A0_0 l0_0.length c0_0, .slice A0_1 l0_1.length c0_1, .slice A0_2 l0_2.length c0_2, .slice A0_3 l0_3.length c0_3, .int .i64 a0_4] 32 (0, 0)) (by (with_reducible repeat (first | refine blk_drewN ?_ _ | refine blk_drew ?_ | refine blk_alloc ?_ _)); exact BK494.out)) : gb495 ≠ gb494)); clear BK494; clear HB; have BK494 := n0_; have HB := n1_; have BK495 := n2_; have GW495 := n3_; have GE495 := n4_; have NB494_495 := n5_; have NB495_494 := n6_; clear n0_ n1_ n2_ n3_ n4_ n5_ n6_; clear hb hbox hg; have hnb28 := NB494_495.out; have hnc28 := NB495_494.out; have hcz29_0 : w27.cell? ⟨gb494, 0, none⟩ = some (.slice A0_0 l0_0.length c0_0) := (blk_cell BK494.out 0).trans rfl; have hcz29_1 : w27.cell? ⟨gb494, 1, none⟩ = some (.slice A0_1 l0_1.length c0_1) := (blk_cell BK494.out 1).trans rfl; have hcz29_2 : w27.cell? ⟨gb494, 2, none⟩ = some (.slice A0_2 l0_2.length c0_2) := (blk_cell BK494.out 2).trans rfl; have hcz29_3 : w27.cell? ⟨gb494, 3, none⟩ = some (.slice A0_3 l0_3.length c0_3) := (blk_cell BK494.out 3).trans rfl; have hcz29_4 : w27.cell? ⟨gb494, 4, none⟩ = some (.int .i64 a0_4) := (blk_cell BK494.out 4).trans rfl; have hfz29_0 := blk_frozen BK494.out 0; have hfz29_1 := blk_frozen BK494.out 1; have hfz29_2 := blk_frozen BK494.out 2; have hfz29_3 := blk_frozen BK494.out 3; have hfz29_4 := blk_frozen BK494.out 4; have hcz30_0 : w27.cell? ⟨gb495, 0, none⟩ = some (.slice A1_0 l1_0.length c1_0) := (blk_cell BK495.out 0).trans rfl; have hcz30_1 : w27.cell? ⟨gb495, 1, none⟩ = some (.slice A1_1 l1_1.length c1_1) := (blk_cell BK495.out 1).trans rfl; have hcz30_2 : w27.cell? ⟨gb495, 2, none⟩ = some (.slice A1_2 l1_2.length c1_2) := (blk_cell BK495.out 2).trans rfl; have hcz30_3 : w27.cell? ⟨gb495, 3, none⟩ = some (.slice A1_3 l1_3.length c1_3) := (blk_cell BK495.out 3).trans rfl; have hcz30_4 : w27.cell? ⟨gb495, 4, none⟩ = some (.int .i64 a1_4) := (blk_cell BK495.out 4).trans rfl; have hfz30_0 := blk_frozen BK495.out 0; have hfz30_1 := blk_frozen BK495.out 1; have hfz30_2 := blk_frozen BK495.out 2; have hfz30_3 := blk_frozen BK495.out 3; have hfz30_4 := blk_frozen BK495.out 4) | ((with_reducible refine gate_callee (f := 30) rfl ?_); refine goesL_ (some 13) rfl rfl Try.func30 (by kernel_rfl) rfl #[.slice A0_0 l0_0.length c0_0, .slice A1_0 l1_0.length c1_0] rfl (by (try simp only [List.map_toArray, List.map_cons, List.map_nil]); first | done | rfl | (simp only [List.length_drop, List.length_take]; rfl)) ?_; (with_reducible refine (palinodelaw14_metas.calls k _ _ l0_0 _ _ l1_0 true _ ?side1 ?side2 ?side3 ?side4 A3.out).mono ?_); (case side1 => repeat (first | exact (Kd.C_below HR0_0.out HB.out) | (with_reducible refine Kd.C_alloc ?_ _) | (with_reducible refine Kd.C_drewN ?_ _) | (with_reducible refine Kd.C_drew ?_))); (case side2 => exact HC0_0.out); (case side3 => repeat (first | exact (Kd.C_below HR1_0.out HB.out) | (with_reducible refine Kd.C_alloc ?_ _) | (with_reducible refine Kd.C_drewN ?_ _) | (with_reducible refine Kd.C_drew ?_))); (case side4 => exact HC1_0.out); rintro e w' ⟨rfl, ⟨nd, rfl⟩⟩; refine ⟨_, rfl, ?_⟩) | ((with_reducible refine gate_callee (f := 31) rfl ?_); refine goesL_ (some 18) rfl rfl Try.func31 (by kernel_rfl) rfl #[.slice A0_1 l0_1.length c0_1, .slice A1_1 l1_1.length c1_1] rfl (by (try simp only [List.map_toArray, List.map_cons, List.map_nil]); first | done | rfl | (simp only [List.length_drop, List.length_take]; rfl)) ?_; (with_reducible refine (palinodelaw14_numbers.calls k _ _ l0_1 _ _ l1_1 false _ ?side1 ?side2 ?side3 ?side4 A4.out).mono ?_); (case side1 => repeat (first | exact (Kd.C_below HR0_1.out (by repeat (first | (with_reducible first | exact HB.out | apply below_alloc | apply pw_below_drewN | apply below_drew1 | refine below_set ?_ GE494.out | refine below_set ?_ GE495.out) | exact HB.out))) | (with_reducible refine Kd.C_alloc ?_ _) | (with_reducible refine Kd.C_drewN ?_ _) | (with_reducible refine Kd.C_drew ?_))); (case side2 => exact HC0_1.out); (case side3 => repeat (first | exact (Kd.C_below HR1_1.out (by repeat (first | (with_reducible first | exact HB.out | apply below_alloc | apply pw_below_drewN | apply below_drew1 | refine below_set ?_ GE494.out | refine below_set ?_ GE495.out) | exact HB.out))) | (with_reducible refine Kd.C_alloc ?_ _) | (with_reducible refine Kd.C_drewN ?_ _) | (with_reducible refine Kd.C_drew ?_))); (case side4 => exact HC1_1.out); rintro e w' ⟨rfl, ⟨nd, rfl⟩⟩; refine ⟨_, rfl, ?_⟩) | ((with_reducible refine gate_callee (f := 31) rfl ?_); refine goesL_ (some 23) rfl rfl Try.func31 (by kernel_rfl) rfl #[.slice A0_2 l0_2.length c0_2, .slice A1_2 l1_2.length c1_2] rfl (by (try simp only [List.map_toArray, List.map_cons, List.map_nil]); first | done | rfl | (simp only [List.length_drop, List.length_take]; rfl)) ?_; (with_reducible refine (palinodelaw14_numbers.calls k _ _ l0_2 _ _ l1_2 t498 _ ?side1 ?side2 ?side3 ?side4 A5.out).mono ?_); (case side1 => repeat (first | exact (Kd.C_below HR0_2.out (by repeat (first | (with_reducible first | exact HB.out | apply below_alloc | apply pw_below_drewN | apply below_drew1 | refine below_set ?_ GE494.out | refine below_set ?_ GE495.out) | exact HB.out))) | (with_reducible refine Kd.C_alloc ?_ _) | (with_reducible refine Kd.C_drewN ?_ _) | (with_reducible refine Kd.C_drew ?_))); (case side2 => exact HC0_2.out); (case side3 => repeat (first | exact (Kd.C_below HR1_2.out (by repeat (first | (with_reducible first | exact HB.out | apply below_alloc | apply pw_below_drewN | apply below_drew1 | refine below_set ?_ GE494.out | refine below_set ?_ GE495.out) | exact HB.out))) | (with_reducible refine Kd.C_alloc ?_ _) | (with_reducible refine Kd.C_drewN ?_ _) | (with_reducible refine Kd.C_drew ?_))); (case side4 => exact HC1_2.out); rintro e w' ⟨rfl, ⟨nd, rfl⟩⟩; refine ⟨_, rfl, ?_⟩) | ((with_reducible refine gate_callee (f := 31) rfl ?_); refine goesL_ (some 28) rfl rfl Try.func31 (by kernel_rfl) rfl #[.slice A0_3 l0_3.length c0_3, .slice A1_3 l1_3.length c1_3] rfl (by (try simp only [List.map_toArray, List.map_cons, List.map_nil]); first | done | rfl | (simp only [List.length_drop, List.length_take]; rfl)) ?_; (with_reducible refine (palinodelaw14_numbers.calls k _ _ l0_3 _ _ l1_3 t499 _ ?side1 ?side2 ?side3 ?side4 A6.out).mono ?_); (case side1 => repeat (first | exact (Kd.C_below HR0_3.out (by repeat (first | (with_reducible first | exact HB.out | apply below_alloc | apply pw_below_drewN | apply below_drew1 | refine below_set ?_ GE494.out | refine below_set ?_ GE495.out) | exact HB.out))) | (with_reducible refine Kd.C_alloc ?_ _) | (with_reducible refine Kd.C_drewN ?_ _) | (with_reducible refine Kd.C_drew ?_))); (case side2 => exact HC0_3.out); (case side3 => repeat (first | exact (Kd.C_below HR1_3.out (by repeat (first | (with_reducible first | exact HB.out | apply below_alloc | apply pw_below_drewN | apply below_drew1 | refine below_set ?_ GE494.out | refine below_set ?_ GE495.out) | exact HB.out))) | (with_reducible refine Kd.C_alloc ?_ _) | (with_reducible refine Kd.C_drewN ?_ _) | (with_reducible refine Kd.C_drew ?_))); (case side4 => exact HC1_3.out); rintro e w' ⟨rfl, ⟨nd, rfl⟩⟩; refine ⟨_, rfl, ?_⟩))
      go_ret
      exact ⟨by first | rfl | (simp [errW_none, errW_some] <;> rfl) | (simp [*, errW_none, errW_some] <;> rfl), by repeat (first | (with_reducible first | exact HB.out | apply below_alloc | apply pw_below_drewN | apply below_drew1 | refine below_set ?_ GE494.out | refine below_set ?_ GE495.out) | exact HB.out)⟩
  · replace c7 := Bool.eq_false_iff.mpr c7
    subst c7
    have H1 : (some false) = some r := by rw [if_neg (show ¬ (false = true) by decide)] at H; exact H
    clear H
    have H := H1
    clear H1
    obtain rfl := Option.some.inj H
    go_enter Try.func21, Try.ntmps21
    go_wp2_with (first | ((with_reducible refine gate_dst (N := 2) rfl ?_); refine box_event ?hg (N := 2) ?hd (cs := #[.slice A0_0 l0_0.length c0_0, .slice A0_1 l0_1.length c0_1, .slice A0_2 l0_2.length c0_2, .slice A0_3 l0_3.length c0_3, .int .i64 a0_4]) (t := 32) ?hr ?_; (case hd => rfl); (case hg => rfl); (case hr => first | (go_simp; done) | (go_simp; rfl)); intro gb494 hg w31 hbox hb; have n0_ := Aside0.mk (below_step (by repeat (first | (with_reducible first | exact HB.out | apply below_alloc | apply pw_below_drewN | apply below_drew1) | exact HB.out)) hb); have n1_ := Aside0.mk (hbox); have n2_ := Aside0.mk ((by rw [hg]; exact (below_size (by repeat (first | (with_reducible first | exact HB.out | apply below_alloc | apply pw_below_drewN | apply below_drew1) | exact HB.out))) : w.heap.size ≤ gb494)); have n3_ := Aside0.mk ((by rw [hg]; exact (below_size (by repeat (first | (with_reducible first | exact HB.out | apply below_alloc | apply pw_below_drewN | apply below_drew1) | exact HB.out))) : w.heap.size ≤ gb494)); clear HB; have HB := n0_; have BK494 := n1_; have GW494 := n2_; have GE494 := n3_; clear n0_ n1_ n2_ n3_; clear hb hbox hg) | ((with_reducible refine gate_dst (N := 3) rfl ?_); refine box_event ?hg (N := 3) ?hd (cs := #[.slice A1_0 l1_0.length c1_0, .slice A1_1 l1_1.length c1_1, .slice A1_2 l1_2.length c1_2, .slice A1_3 l1_3.length c1_3, .int .i64 a1_4]) (t := 32) ?hr ?_; (case hd => rfl); (case hg => rfl); (case hr => first | (go_simp; done) | (go_simp; rfl)); intro gb495 hg w32 hbox hb; have n0_ := Aside0.mk (blk_below (g := gb494) (o := .cells #[.slice A0_0 l0_0.length c0_0, .slice A0_1 l0_1.length c0_1, .slice A0_2 l0_2.length c0_2, .slice A0_3 l0_3.length c0_3, .int .i64 a0_4] 32 (0, 0)) (by (with_reducible repeat (first | refine blk_drewN ?_ _ | refine blk_drew ?_ | refine blk_alloc ?_ _)); exact BK494.out) hb); have n1_ := Aside0.mk (below_step (by repeat (first | (with_reducible first | exact HB.out | apply below_alloc | apply pw_below_drewN | apply below_drew1 | refine below_set ?_ GE494.out) | exact HB.out)) hb); have n2_ := Aside0.mk (hbox); have n3_ := Aside0.mk ((by rw [hg]; exact (below_size (by repeat (first | (with_reducible first | exact HB.out | apply below_alloc | apply pw_below_drewN | apply below_drew1 | refine below_set ?_ GE494.out) | exact HB.out))) : w.heap.size ≤ gb495)); have n4_ := Aside0.mk ((by rw [hg]; exact (below_size (by repeat (first | (with_reducible first | exact HB.out | apply below_alloc | apply pw_below_drewN | apply below_drew1 | refine below_set ?_ GE494.out) | exact HB.out))) : w.heap.size ≤ gb495)); have n5_ := Aside0.mk ((by rw [hg]; exact Nat.ne_of_lt (blk_lt (g := gb494) (o := .cells #[.slice A0_0 l0_0.length c0_0, .slice A0_1 l0_1.length c0_1, .slice A0_2 l0_2.length c0_2, .slice A0_3 l0_3.length c0_3, .int .i64 a0_4] 32 (0, 0)) (by (with_reducible repeat (first | refine blk_drewN ?_ _ | refine blk_drew ?_ | refine blk_alloc ?_ _)); exact BK494.out)) : gb494 ≠ gb495)); have n6_ := Aside0.mk ((by rw [hg]; exact Nat.ne_of_gt (blk_lt (g := gb494) (o := .cells #[.slice A0_0 l0_0.length c0_0, .slice A0_1 l0_1.length c0_1, .slice A0_2 l0_2.length c0_2, .slice A0_3 l0_3.length c0_3, .int .i64 a0_4] 32 (0, 0)) (by (with_reducible repeat (first | refine blk_drewN ?_ _ | refine blk_drew ?_ | refine blk_alloc ?_ _)); exact BK494.out)) : gb495 ≠ gb494)); clear BK494; clear HB; have BK494 := n0_; have HB := n1_; have BK495 := n2_; have GW495 := n3_; have GE495 := n4_; have NB494_495 := n5_; have NB495_494 := n6_; clear n0_ n1_ n2_ n3_ n4_ n5_ n6_; clear hb hbox hg; have hnb33 := NB494_495.out; have hnc33 := NB495_494.out; have hcz34_0 : w32.cell? ⟨gb494, 0, none⟩ = some (.slice A0_0 l0_0.length c0_0) := (blk_cell BK494.out 0).trans rfl; have hcz34_1 : w32.cell? ⟨gb494, 1, none⟩ = some (.slice A0_1 l0_1.length c0_1) := (blk_cell BK494.out 1).trans rfl; have hcz34_2 : w32.cell? ⟨gb494, 2, none⟩ = some (.slice A0_2 l0_2.length c0_2) := (blk_cell BK494.out 2).trans rfl; have hcz34_3 : w32.cell? ⟨gb494, 3, none⟩ = some (.slice A0_3 l0_3.length c0_3) := (blk_cell BK494.out 3).trans rfl; have hcz34_4 : w32.cell? ⟨gb494, 4, none⟩ = some (.int .i64 a0_4) := (blk_cell BK494.out 4).trans rfl; have hfz34_0 := blk_frozen BK494.out 0; have hfz34_1 := blk_frozen BK494.out 1; have hfz34_2 := blk_frozen BK494.out 2; have hfz34_3 := blk_frozen BK494.out 3; have hfz34_4 := blk_frozen BK494.out 4; have hcz35_0 : w32.cell? ⟨gb495, 0, none⟩ = some (.slice A1_0 l1_0.length c1_0) := (blk_cell BK495.out 0).trans rfl; have hcz35_1 : w32.cell? ⟨gb495, 1, none⟩ = some (.slice A1_1 l1_1.length c1_1) := (blk_cell BK495.out 1).trans rfl; have hcz35_2 : w32.cell? ⟨gb495, 2, none⟩ = some (.slice A1_2 l1_2.length c1_2) := (blk_cell BK495.out 2).trans rfl; have hcz35_3 : w32.cell? ⟨gb495, 3, none⟩ = some (.slice A1_3 l1_3.length c1_3) := (blk_cell BK495.out 3).trans rfl; have hcz35_4 : w32.cell? ⟨gb495, 4, none⟩ = some (.int .i64 a1_4) := (blk_cell BK495.out 4).trans rfl; have hfz35_0 := blk_frozen BK495.out 0; have hfz35_1 := blk_frozen BK495.out 1; have hfz35_2 := blk_frozen BK495.out 2; have hfz35_3 := blk_frozen BK495.out 3; have hfz35_4 := blk_frozen BK495.out 4) | ((with_reducible refine gate_callee (f := 30) rfl ?_); refine goesL_ (some 13) rfl rfl Try.func30 (by kernel_rfl) rfl #[.slice A0_0 l0_0.length c0_0, .slice A1_0 l1_0.length c1_0] rfl (by (try simp only [List.map_toArray, List.map_cons, List.map_nil]); first | done | rfl | (simp only [List.length_drop, List.length_take]; rfl)) ?_; (with_reducible refine (palinodelaw14_metas.calls k _ _ l0_0 _ _ l1_0 false _ ?side1 ?side2 ?side3 ?side4 A3.out).mono ?_); (case side1 => repeat (first | exact (Kd.C_below HR0_0.out HB.out) | (with_reducible refine Kd.C_alloc ?_ _) | (with_reducible refine Kd.C_drewN ?_ _) | (with_reducible refine Kd.C_drew ?_))); (case side2 => exact HC0_0.out); (case side3 => repeat (first | exact (Kd.C_below HR1_0.out HB.out) | (with_reducible refine Kd.C_alloc ?_ _) | (with_reducible refine Kd.C_drewN ?_ _) | (with_reducible refine Kd.C_drew ?_))); (case side4 => exact HC1_0.out); rintro e w' ⟨rfl, ⟨nd, rfl⟩⟩; refine ⟨_, rfl, ?_⟩) | ((with_reducible refine gate_callee (f := 31) rfl ?_); refine goesL_ (some 18) rfl rfl Try.func31 (by kernel_rfl) rfl #[.slice A0_1 l0_1.length c0_1, .slice A1_1 l1_1.length c1_1] rfl (by (try simp only [List.map_toArray, List.map_cons, List.map_nil]); first | done | rfl | (simp only [List.length_drop, List.length_take]; rfl)) ?_; (with_reducible refine (palinodelaw14_numbers.calls k _ _ l0_1 _ _ l1_1 t497 _ ?side1 ?side2 ?side3 ?side4 A4.out).mono ?_); (case side1 => repeat (first | exact (Kd.C_below HR0_1.out (by repeat (first | (with_reducible first | exact HB.out | apply below_alloc | apply pw_below_drewN | apply below_drew1 | refine below_set ?_ GE494.out | refine below_set ?_ GE495.out) | exact HB.out))) | (with_reducible refine Kd.C_alloc ?_ _) | (with_reducible refine Kd.C_drewN ?_ _) | (with_reducible refine Kd.C_drew ?_))); (case side2 => exact HC0_1.out); (case side3 => repeat (first | exact (Kd.C_below HR1_1.out (by repeat (first | (with_reducible first | exact HB.out | apply below_alloc | apply pw_below_drewN | apply below_drew1 | refine below_set ?_ GE494.out | refine below_set ?_ GE495.out) | exact HB.out))) | (with_reducible refine Kd.C_alloc ?_ _) | (with_reducible refine Kd.C_drewN ?_ _) | (with_reducible refine Kd.C_drew ?_))); (case side4 => exact HC1_1.out); rintro e w' ⟨rfl, ⟨nd, rfl⟩⟩; refine ⟨_, rfl, ?_⟩) | ((with_reducible refine gate_callee (f := 31) rfl ?_); refine goesL_ (some 23) rfl rfl Try.func31 (by kernel_rfl) rfl #[.slice A0_2 l0_2.length c0_2, .slice A1_2 l1_2.length c1_2] rfl (by (try simp only [List.map_toArray, List.map_cons, List.map_nil]); first | done | rfl | (simp only [List.length_drop, List.length_take]; rfl)) ?_; (with_reducible refine (palinodelaw14_numbers.calls k _ _ l0_2 _ _ l1_2 t498 _ ?side1 ?side2 ?side3 ?side4 A5.out).mono ?_); (case side1 => repeat (first | exact (Kd.C_below HR0_2.out (by repeat (first | (with_reducible first | exact HB.out | apply below_alloc | apply pw_below_drewN | apply below_drew1 | refine below_set ?_ GE494.out | refine below_set ?_ GE495.out) | exact HB.out))) | (with_reducible refine Kd.C_alloc ?_ _) | (with_reducible refine Kd.C_drewN ?_ _) | (with_reducible refine Kd.C_drew ?_))); (case side2 => exact HC0_2.out); (case side3 => repeat (first | exact (Kd.C_below HR1_2.out (by repeat (first | (with_reducible first | exact HB.out | apply below_alloc | apply pw_below_drewN | apply below_drew1 | refine below_set ?_ GE494.out | refine below_set ?_ GE495.out) | exact HB.out))) | (with_reducible refine Kd.C_alloc ?_ _) | (with_reducible refine Kd.C_drewN ?_ _) | (with_reducible refine Kd.C_drew ?_))); (case side4 => exact HC1_2.out); rintro e w' ⟨rfl, ⟨nd, rfl⟩⟩; refine ⟨_, rfl, ?_⟩) | ((with_reducible refine gate_callee (f := 31) rfl ?_); refine goesL_ (some 28) rfl rfl Try.func31 (by kernel_rfl) rfl #[.slice A0_3 l0_3.length c0_3, .slice A1_3 l1_3.length c1_3] rfl (by (try simp only [List.map_toArray, List.map_cons, List.map_nil]); first | done | rfl | (simp only [List.length_drop, List.length_take]; rfl)) ?_; (with_reducible refine (palinodelaw14_numbers.calls k _ _ l0_3 _ _ l1_3 t499 _ ?side1 ?side2 ?side3 ?side4 A6.out).mono ?_); (case side1 => repeat (first | exact (Kd.C_below HR0_3.out (by repeat (first | (with_reducible first | exact HB.out | apply below_alloc | apply pw_below_drewN | apply below_drew1 | refine below_set ?_ GE494.out | refine below_set ?_ GE495.out) | exact HB.out))) | (with_reducible refine Kd.C_alloc ?_ _) | (with_reducible refine Kd.C_drewN ?_ _) | (with_reducible refine Kd.C_drew ?_))); (case side2 => exact HC0_3.out); (case side3 => repeat (first | exact (Kd.C_below HR1_3.out (by repeat (first | (with_reducible first | exact HB.out | apply below_alloc | apply pw_below_drewN | apply below_drew1 | refine below_set ?_ GE494.out | refine below_set ?_ GE495.out) | exact HB.out))) | (with_reducible refine Kd.C_alloc ?_ _) | (with_reducible refine Kd.C_drewN ?_ _) | (with_reducible refine Kd.C_drew ?_))); (case side4 => exact HC1_3.out); rintro e w' ⟨rfl, ⟨nd, rfl⟩⟩; refine ⟨_, rfl, ?_⟩))
    go_ret
    exact ⟨by first | rfl | (simp [errW_none, errW_some] <;> rfl) | (simp [*, errW_none, errW_some] <;> rfl), by repeat (first | (with_reducible first | exact HB.out | apply below_alloc | apply pw_below_drewN | apply below_drew1 | refine below_set ?_ GE494.out | refine below_set ?_ GE495.out) | exact HB.out)⟩

end Go.Proofs.Ytokimlfagpddlaa.PD

/-
  Layer 14: an edit beside itself; the law's examples.
-/
set_option linter.unusedVariables false
set_option linter.unusedSimpArgs false
namespace Go.Proofs.Ytokimlfagpddlaa.PD
open Go.RowKit Go.Proofs.Ytokimlfagpddlaa Go.Proofs.YtokimlfagpddlaaW.PrintWords

theorem metasS_l0 (V : List MetaE) (hV : V.length ≤ 2000000) : ∀ (d i k : Nat), V.length = i + d → d + 1 ≤ k → palinodelaw14_metas.l0 k V V (i : Int) = some true := by
  intro d
  induction d with
  | zero =>
    intro i k hi hk
    obtain ⟨k, rfl⟩ : ∃ j, k = j + 1 := ⟨k - 1, by omega⟩
    rw [palinodelaw14_metas.l0, if_neg (by omega)]
  | succ d ih =>
    intro i k hi hk
    obtain ⟨k, rfl⟩ : ∃ j, k = j + 1 := ⟨k - 1, by omega⟩
    have e1 : wrap64 ((i : Int) + 1) = ((i + 1 : Nat) : Int) := by unfold wrap64; omega
    rw [palinodelaw14_metas.l0, if_pos (by omega), if_pos (by omega), if_pos (by omega), if_neg (by simp), e1]
    exact ih (i + 1) k (by omega) (by omega)
theorem metasS (V : List MetaE) (hV : V.length ≤ 2000000) (k : Nat) (hk : V.length + 1 ≤ k) : palinodelaw14_metas.f k V V = some true := by
  unfold palinodelaw14_metas.f
  rw [if_pos rfl]
  exact metasS_l0 V hV V.length 0 k (by omega) hk
theorem numbersS_l0 (V : List Int) (hV : V.length ≤ 2000000) : ∀ (d i k : Nat), V.length = i + d → d + 1 ≤ k → palinodelaw14_numbers.l0 k V V (i : Int) = some true := by
  intro d
  induction d with
  | zero =>
    intro i k hi hk
    obtain ⟨k, rfl⟩ : ∃ j, k = j + 1 := ⟨k - 1, by omega⟩
    rw [palinodelaw14_numbers.l0, if_neg (by omega)]
  | succ d ih =>
    intro i k hi hk
    obtain ⟨k, rfl⟩ : ∃ j, k = j + 1 := ⟨k - 1, by omega⟩
    have e1 : wrap64 ((i : Int) + 1) = ((i + 1 : Nat) : Int) := by unfold wrap64; omega
    rw [palinodelaw14_numbers.l0, if_pos (by omega), if_pos (by omega), if_pos (by omega), if_pos rfl, e1]
    exact ih (i + 1) k (by omega) (by omega)
theorem numbersS (V : List Int) (hV : V.length ≤ 2000000) (k : Nat) (hk : V.length + 1 ≤ k) : palinodelaw14_numbers.f k V V = some true := by
  unfold palinodelaw14_numbers.f
  rw [if_pos rfl]
  exact numbersS_l0 V hV V.length 0 k (by omega) hk
theorem editsS (L : List MetaE) (D G H : List Int) (q : Int) (h : L.length ≤ 2000000 ∧ D.length ≤ 2000000 ∧ G.length ≤ 2000000 ∧ H.length ≤ 2000000) (k : Nat) (hk : 2000001 ≤ k) : palinodelaw14_edits.f k L D G H q L D G H q = some true := by
  unfold palinodelaw14_edits.f
  rw [metasS L h.1 k (by omega), Option.bind_some, numbersS D h.2.1 k (by omega), Option.bind_some, numbersS G h.2.2.1 k (by omega), Option.bind_some, numbersS H h.2.2.2 k (by omega), Option.bind_some, if_pos rfl, if_pos rfl, if_pos rfl, if_pos rfl]
  simp
end Go.Proofs.Ytokimlfagpddlaa.PD

/-
  Layer 14: the document's own Encode and Decode, in closed form.
-/
set_option linter.unusedVariables false
set_option linter.unusedSimpArgs false
namespace Go.Proofs.Ytokimlfagpddlaa.PD
open Go.RowKit Go.Proofs.Ytokimlfagpddlaa Go.Proofs.YtokimlfagpddlaaW.PrintWords
open palinoderef14_Decode (bytesOf_str bytesOf_inj bytesOf_append refNum_some)

theorem refnum_eq (n : Int) (k : Nat) (hk : 100 ≤ k) : palinoderef14_num.f k n = some (version_Encode.numB n) := by
  unfold palinoderef14_num.f version_Encode.numB
  rw [refNum_some n k hk, Option.bind_some]
  split <;> rfl
theorem str_flat_one (n : Int) : strOfNums (version_Encode.flat [n]) = version_Encode.numB n := by
  have e : version_Encode.flat [n] = bytesOf (version_Encode.numB n) := by simp [version_Encode.flat]
  rw [e, str_bytes]
theorem refnumbers_l0 (l : List Int) (m : Int) (hl : l.length ≤ 2000000) : ∀ (d i k : Nat), l.length = i + d → d + 1 ≤ k → palinoderef14_numbers.l0 k l m (i : Int) = some (if (l.drop i).any slices_ContainsFunc_int_int.litB = true then false else decide ((l.length : Int) ≤ m)) := by
  intro d
  induction d with
  | zero =>
    intro i k hi hk
    obtain ⟨k, rfl⟩ : ∃ j, k = j + 1 := ⟨k - 1, by omega⟩
    rw [palinoderef14_numbers.l0, if_neg (by omega), List.drop_of_length_le (by omega)]
    rfl
  | succ d ih =>
    intro i k hi hk
    obtain ⟨k, rfl⟩ : ∃ j, k = j + 1 := ⟨k - 1, by omega⟩
    have e1 : wrap64 ((i : Int) + 1) = ((i + 1 : Nat) : Int) := by unfold wrap64; omega
    have hlt : i < l.length := by omega
    have e2 : rd l (i : Int) = l[i] := by simp [rd, List.getD, hlt]
    have e3 : l.drop i = l[i] :: l.drop (i + 1) := List.drop_eq_getElem_cons hlt
    rw [palinoderef14_numbers.l0, if_pos (by omega), if_pos (by omega), e2, e1, ih (i + 1) k (by omega) (by omega), e3, List.any_cons]
    generalize l[i] = x
    unfold slices_ContainsFunc_int_int.litB
    by_cases h1 : x < 0
    · simp [h1]
    · by_cases h2 : x > 9007199254740991
      · simp [h1, h2]
      · have : ¬ 9007199254740991 < x := h2
        simp [h1, h2, this]
theorem refnumbers (l : List Int) (m : Int) (hl : l.length ≤ 2000000) (k : Nat) (hk : 2000001 ≤ k) : palinoderef14_numbers.f k l m = some (version_Encode.nOK l m) := by
  unfold palinoderef14_numbers.f version_Encode.nOK
  have := refnumbers_l0 l m hl l.length 0 k (by omega) (by omega)
  rw [show (0 : Int) = ((0 : Nat) : Int) from rfl, this, List.drop_zero]
  by_cases h1 : (l.length : Int) ≤ m <;> cases h2 : l.any slices_ContainsFunc_int_int.litB <;> simp [h1]
theorem refmeta (m : MetaE) : palinoderef14_meta.f m.f0 m.f1 m.f2 m.f3 m.f4 = some (version_Right.meta_ m) := by
  obtain ⟨a, b, c, d, e⟩ := m
  unfold palinoderef14_meta.f version_Right.meta_ version_meta.f
  dsimp only
  by_cases a1 : a < 1
  · rw [if_pos a1, if_neg (by omega)]; rfl
  rw [if_neg a1, if_pos (by omega)]
  by_cases a2 : a > 9007199254740991
  · rw [if_pos a2, if_neg (by omega)]; rfl
  rw [if_neg a2, if_pos (by omega)]
  by_cases a3 : b < 0
  · rw [if_pos a3, if_neg (by omega)]; rfl
  rw [if_neg a3, if_pos (by omega)]
  by_cases a4 : b ≥ 4
  · rw [if_pos a4, if_neg (by omega)]; rfl
  rw [if_neg a4, if_pos (by omega)]
  by_cases a5 : c.toList = []
  · rw [if_pos a5, if_pos a5]
    by_cases h1 : e < 1
    · rw [if_pos h1]; rfl
    · rw [if_neg h1]
      by_cases h2 : e > 1048576
      · rw [if_pos h2]; rfl
      · rw [if_neg h2]; rfl
  rw [if_neg a5, if_neg a5]
  by_cases a6 : d.toList = []
  · have hb : Op.bytesLess d.toList c.toList = true := by
      rw [a6]
      cases hc : c.toList with
      | nil => exact absurd hc a5
      | cons x l => rfl
    rw [if_pos a6, if_pos hb]
    repeat' split
    all_goals rfl
  rw [if_neg a6]
  by_cases a7 : Op.bytesLess d.toList c.toList = true
  · rw [if_pos a7, if_pos a7]
    repeat' split
    all_goals rfl
  rw [if_neg a7, if_neg a7]
  by_cases a8 : (c.size : Int) ≤ 80
  · rw [if_pos a8, if_pos a8]
    by_cases a9 : (d.size : Int) ≤ 80
    · rw [if_pos a9]
      by_cases h1 : e < 1
      · rw [if_pos h1, if_neg (by omega)]; rfl
      · rw [if_neg h1, if_pos (by omega)]
        by_cases h2 : e > 1048576
        · rw [if_pos h2]; simp; omega
        · rw [if_neg h2]; simp [a9]; omega
    · rw [if_neg a9]
      repeat' split
      all_goals simp [a9]
  · rw [if_neg a8, if_neg a8]
    repeat' split
    all_goals rfl
theorem reftext (s : ByteArray) (k : Nat) (hk : 100 ≤ k) : ∃ b, palinoderef01_Text.f k s = some (version_Encode.textB s, b) := by
  unfold palinoderef01_Text.f version_Encode.textB
  by_cases h : (s.size : Int) > 1048576
  · rw [if_pos h, if_pos h]; exact ⟨_, rfl⟩
  · have hn := version_Encode.num_size (s.size : Int)
    have e := refNum_some (s.size : Int) k hk
    rw [if_neg (by omega)] at e
    have e2 : version_Encode.numB (s.size : Int) = pack_Num.bytes (s.size : Int) := by unfold version_Encode.numB; rw [if_neg (by omega)]
    rw [e2] at hn ⊢
    rw [if_neg h, if_neg h, e, Option.bind_some, if_pos (by dsimp only; omega)]
    exact ⟨_, rfl⟩
theorem refrow_l0 (l : List Int) (hl : l.length ≤ 2000000) : ∀ (d i k : Nat) (acc : ByteArray), l.length = i + d → acc.size + 9 * d ≤ 100000000 → d + 101 ≤ k → palinoderef14_row.l0 k l acc (i : Int) = some (acc ++ strOfNums (version_Encode.flat (l.drop i))) := by
  intro d
  induction d with
  | zero =>
    intro i k acc hi ha hk
    obtain ⟨k, rfl⟩ : ∃ j, k = j + 1 := ⟨k - 1, by omega⟩
    rw [palinoderef14_row.l0, if_neg (by omega), List.drop_of_length_le (by omega)]
    congr 1
    apply ByteArray.ext
    simp [version_Encode.flat, strOfNums]
  | succ d ih =>
    intro i k acc hi ha hk
    obtain ⟨k, rfl⟩ : ∃ j, k = j + 1 := ⟨k - 1, by omega⟩
    have e1 : wrap64 ((i : Int) + 1) = ((i + 1 : Nat) : Int) := by unfold wrap64; omega
    have hlt : i < l.length := by omega
    have e2 : rd l (i : Int) = l[i] := by simp [rd, List.getD, hlt]
    have e3 : l.drop i = l[i] :: l.drop (i + 1) := List.drop_eq_getElem_cons hlt
    have hn := version_Encode.num_size l[i]
    rw [palinoderef14_row.l0, if_pos (by omega), if_pos (by omega), e2, refnum_eq _ k (by omega), Option.bind_some, if_pos (by omega), e1, ih (i + 1) k _ (by omega) (by rw [ByteArray.size_append]; omega) (by omega), e3, flat_cons, str_app, str_flat_one, ByteArray.append_assoc]
theorem refrow (l : List Int) (hl : l.length ≤ 2000) (k : Nat) (hk : 3000 ≤ k) : palinoderef14_row.f k l = some (strOfNums (version_Encode.rowF l)) := by
  unfold palinoderef14_row.f version_Encode.rowF
  have hn := version_Encode.num_size (l.length : Int)
  have := refrow_l0 l (by omega) l.length 0 k (version_Encode.numB (l.length : Int)) (by omega) (by omega) (by omega)
  rw [refnum_eq _ k (by omega), Option.bind_some, show (0 : Int) = ((0 : Nat) : Int) from rfl, this, List.drop_zero, str_app, str_flat_one]
set_option maxRecDepth 100000 in
theorem refEnc_l0 (L : List MetaE) (D G H : List Int) (q : Int) (hL : L.length ≤ 200) (hD : D.length ≤ 200) (hG : G.length ≤ 20) (hH : H.length ≤ 20) : ∀ (d i k : Nat) (acc : ByteArray), L.length = i + d → acc.size + 250 * d ≤ 10000000 → d + 3002 ≤ k →
    palinoderef14_Encode.l0 k acc (i : Int) L D G H q = some (if (L.drop i).any api_Meta_39.bad = true then (⟨#[]⟩, false) else (acc ++ strOfNums ((L.drop i).flatMap version_Encode.metaF ++ (version_Encode.rowF D ++ (version_Encode.rowF G ++ (version_Encode.rowF H ++ version_Encode.flat [q])))), true)) := by
  intro d
  induction d with
  | zero =>
    intro i k acc hi ha hk
    obtain ⟨k, rfl⟩ : ∃ j, k = j + 1 := ⟨k - 1, by omega⟩
    have hr : ∀ l : List Int, l.length ≤ 200 → (strOfNums (version_Encode.rowF l)).size ≤ 10000 := fun l hl => by rw [strOfNums_size]; have := version_Encode.rowF_len l; omega
    have h1 := hr D (by omega)
    have h2 := hr G (by omega)
    have h3 := hr H (by omega)
    have h4 := version_Encode.num_size q
    rw [palinoderef14_Encode.l0, if_neg (by omega), refrow D (by omega) k (by omega), Option.bind_some, if_pos (by omega), refrow G (by omega) k (by omega), Option.bind_some, if_pos (by rw [ByteArray.size_append]; omega), refrow H (by omega) k (by omega), Option.bind_some, if_pos (by simp only [ByteArray.size_append]; omega), refnum_eq q k (by omega), Option.bind_some, if_pos (by simp only [ByteArray.size_append]; omega), List.drop_of_length_le (by omega)]
    simp only [List.any_nil, Bool.false_eq_true, if_false, List.flatMap_nil, List.nil_append, str_app, str_flat_one, ByteArray.append_assoc]
  | succ d ih =>
    intro i k acc hi ha hk
    obtain ⟨k, rfl⟩ : ∃ j, k = j + 1 := ⟨k - 1, by omega⟩
    have e1 : wrap64 ((i : Int) + 1) = ((i + 1 : Nat) : Int) := by unfold wrap64; omega
    have hlt : i < L.length := by omega
    have e2 : rd_T35 L (i : Int) = L[i] := by simp [rd_T35, List.getD, hlt]
    have e3 : L.drop i = L[i] :: L.drop (i + 1) := List.drop_eq_getElem_cons hlt
    rw [palinoderef14_Encode.l0, if_pos (by omega), if_pos (by omega), e2, refmeta, Option.bind_some, e3, List.any_cons]
    generalize L[i] = m
    cases hm : version_Right.meta_ m with
    | false =>
      rw [if_neg (by decide)]
      simp [api_Meta_39.bad, hm]
    | true =>
      obtain ⟨-, -, -, -, -, -, h7, h8⟩ := meta_facts hm
      obtain ⟨b1, ht1⟩ := reftext m.f2 k (by omega)
      obtain ⟨b2, ht2⟩ := reftext m.f3 k (by omega)
      have n0 := version_Encode.num_size m.f0
      have n1 := version_Encode.num_size m.f1
      have n4 := version_Encode.num_size m.f4
      have s2 := version_Encode.text_size m.f2
      have s3 := version_Encode.text_size m.f3
      rw [if_pos rfl, ht1, Option.bind_some, ht2, Option.bind_some, refnum_eq m.f0 k (by omega), Option.bind_some, if_pos (by omega), refnum_eq m.f1 k (by omega), Option.bind_some, if_pos (by rw [ByteArray.size_append]; omega)]
      dsimp only
      rw [if_pos (by simp only [ByteArray.size_append]; omega), if_pos (by simp only [ByteArray.size_append]; omega), refnum_eq m.f4 k (by omega), Option.bind_some, if_pos (by simp only [ByteArray.size_append]; omega), e1]
      rw [ih (i + 1) k _ (by omega) (by simp only [ByteArray.size_append]; omega) (by omega)]
      have hb : api_Meta_39.bad m = false := by simp [api_Meta_39.bad, hm]
      rw [hb, Bool.false_or]
      split
      · rfl
      · rw [List.flatMap_cons]
        simp only [version_Encode.metaF, flat_cons m.f0 [m.f1], str_app, str_flat_one, str_bytes, ByteArray.append_assoc]
theorem refEnc_some (L : List MetaE) (D G H : List Int) (q : Int) (hl : L.length ≤ 2000000 ∧ D.length ≤ 2000000 ∧ G.length ≤ 2000000 ∧ H.length ≤ 2000000) (k : Nat) (hk : 2000002 ≤ k) :
    palinoderef14_Encode.f k L D G H q = some (if version_Encode.good L D G H q = true then (strOfNums (version_Encode.all L D G H q), true) else (⟨#[]⟩, false)) := by
  obtain ⟨k, rfl⟩ : ∃ j, k = j + 1 := ⟨k - 1, by omega⟩
  have hj : ∀ b, palinoderef14_Encode.j0 (k + 1) b L D G H q = if b = true then some (⟨#[]⟩, false) else (palinoderef14_num.f k (L.length : Int)).bind fun t461 => palinoderef14_Encode.l0 k t461 0 L D G H q := fun b => by rw [palinoderef14_Encode.j0]
  unfold palinoderef14_Encode.f version_Encode.good version_Encode.fine
  rw [refnumbers D 200 (by omega) _ (by omega), Option.bind_some, refnumbers G 20 (by omega) _ (by omega), Option.bind_some, refnumbers H 20 (by omega) _ (by omega), Option.bind_some]
  cases hD : version_Encode.nOK D 200 with
  | false => rw [if_neg (by decide), hj, if_pos rfl]; simp
  | true =>
    cases hG : version_Encode.nOK G 20 with
    | false => rw [if_pos rfl, if_neg (by decide), hj, if_pos rfl]; simp
    | true =>
      cases hH : version_Encode.nOK H 20 with
      | false => rw [if_pos rfl, if_pos rfl, if_neg (by decide), hj, if_pos rfl]; simp
      | true =>
        rw [if_pos rfl, if_pos rfl, if_pos rfl]
        have hq : version_Encode.nOK [q] 1 = !(slices_ContainsFunc_int_int.litB q) := by simp [version_Encode.nOK]
        have lD := version_Encode.nOK_len hD
        have lG := version_Encode.nOK_len hG
        have lH := version_Encode.nOK_len hH
        by_cases q0 : q < 0
        · have : slices_ContainsFunc_int_int.litB q = true := by unfold slices_ContainsFunc_int_int.litB; simp [q0]
          rw [if_pos q0, hj, if_pos rfl]; simp [hq, this]
        · by_cases q1 : q > 9007199254740991
          · have : slices_ContainsFunc_int_int.litB q = true := by unfold slices_ContainsFunc_int_int.litB; simp; omega
            rw [if_neg q0, if_pos q1, hj, if_pos rfl]; simp [hq, this]
          · have hb : slices_ContainsFunc_int_int.litB q = false := by unfold slices_ContainsFunc_int_int.litB; simp; omega
            rw [if_neg q0, if_neg q1, hj]
            by_cases hL : L.length ≤ 200
            · have hn := version_Encode.num_size (L.length : Int)
              have h0 := refEnc_l0 L D G H q hL (by omega) (by omega) (by omega) L.length 0 k (version_Encode.numB (L.length : Int)) (by omega) (by omega) (by omega)
              rw [if_neg (by simp; omega), refnum_eq _ k (by omega), Option.bind_some, show (0 : Int) = ((0 : Nat) : Int) from rfl, h0, List.drop_zero]
              cases ha : L.any api_Meta_39.bad with
              | true => simp
              | false =>
                have e : strOfNums (version_Encode.all L D G H q) = version_Encode.numB (L.length : Int) ++ strOfNums (L.flatMap version_Encode.metaF ++ (version_Encode.rowF D ++ (version_Encode.rowF G ++ (version_Encode.rowF H ++ version_Encode.flat [q])))) := by
                  unfold version_Encode.all
                  rw [str_app, str_flat_one]
                rw [if_neg (by decide), if_pos (by simp [hq, hb, hL]), e]
            · rw [if_pos (by simp; omega)]; simp [hL]
theorem ints_bd : ∀ (m : Nat) (t : version_Decode.S) (l : List Int), version_Decode.bd l.length t → (version_Decode.ints m t l).1.length ≤ 1048577 ∧ version_Decode.bd 0 (version_Decode.ints m t l).2 := by
  intro m
  induction m with
  | zero => intro t l h; exact ⟨by show l.length ≤ _; have := h.1; omega, h.start⟩
  | succ m ih =>
    intro t l h
    unfold version_Decode.ints
    cases hb : t.2 with
    | true => rw [if_pos rfl]; exact ⟨by show l.length ≤ _; have := h.1; omega, h.start⟩
    | false => rw [if_neg (by decide)]; exact ih _ _ (by rw [List.length_append]; exact h.num hb)
theorem tabs_bd : ∀ (m : Nat) (t : version_Decode.S) (l : List MetaE), version_Decode.bd l.length t → (version_Decode.tabs m t l).1.length ≤ 1048577 ∧ version_Decode.bd 0 (version_Decode.tabs m t l).2 := by
  intro m
  induction m with
  | zero => intro t l h; exact ⟨by show l.length ≤ _; have := h.1; omega, h.start⟩
  | succ m ih =>
    intro t l h
    unfold version_Decode.tabs
    cases hb : t.2 with
    | true => rw [if_pos rfl]; exact ⟨by show l.length ≤ _; have := h.1; omega, h.start⟩
    | false => rw [if_neg (by decide)]; exact ih _ _ (by rw [List.length_append]; exact h.meta_ hb)
theorem row_bd (t : version_Decode.S) (h : version_Decode.bd 0 t) : (version_Decode.row t).1.length ≤ 1048577 ∧ version_Decode.bd 0 (version_Decode.row t).2 := ints_bd _ _ [] h.next
theorem tellE_len (s : ByteArray) (hs : s.size ≤ 1048576) : (version_Decode.tellE s).1.1.length ≤ 2000000 ∧ (version_Decode.tellE s).1.2.1.length ≤ 2000000 ∧ (version_Decode.tellE s).1.2.2.1.length ≤ 2000000 ∧ (version_Decode.tellE s).1.2.2.2.1.length ≤ 2000000 := by
  have h0 : version_Decode.bd 0 ((s, false) : version_Decode.S) := ⟨by show 0 + s.size ≤ _; omega, fun _ => by show 0 + s.size ≤ _; omega, hs⟩
  have h1 := tabs_bd (version_Decode.gN (s, false)).1.toNat _ [] h0.next
  have h2 := row_bd _ h1.2
  have h3 := row_bd _ h2.2
  have h4 := row_bd _ h3.2
  unfold version_Decode.tellE
  dsimp only
  exact ⟨by have := h1.1; omega, by have := h2.1; omega, by have := h3.1; omega, by have := h4.1; omega⟩
theorem refDec_some (s : ByteArray) (hs : s.size ≤ 1048576) (k : Nat) (hk : 2000002 ≤ k) : palinoderef14_Decode.f k s = some ((version_Decode.resE s).1.1, (version_Decode.resE s).1.2.1, (version_Decode.resE s).1.2.2.1, (version_Decode.resE s).1.2.2.2.1, (version_Decode.resE s).1.2.2.2.2, (version_Decode.resE s).2.isNone) := by
  have hx := refEnc_some (version_Decode.tellE s).1.1 (version_Decode.tellE s).1.2.1 (version_Decode.tellE s).1.2.2.1 (version_Decode.tellE s).1.2.2.2.1 (version_Decode.tellE s).1.2.2.2.2 (tellE_len s hs) k hk
  unfold palinoderef14_Decode.f palinoderef14_Decode.resE palinoderef14_Decode.enc version_Decode.resE
  rw [if_pos hs, hx]
  generalize version_Decode.tellE s = T
  cases hb : T.2 with
  | true => rw [if_pos rfl, Option.bind_some, if_neg (by rintro ⟨h, -⟩; exact absurd h (by decide))]; rfl
  | false =>
    rw [if_neg (by decide), Option.bind_some]
    by_cases hg : version_Encode.good T.1.1 T.1.2.1 T.1.2.2.1 T.1.2.2.2.1 T.1.2.2.2.2 = true
    · rw [if_pos hg]
      by_cases he : strOfNums (version_Encode.all T.1.1 T.1.2.1 T.1.2.2.1 T.1.2.2.2.1 T.1.2.2.2.2) = s
      · rw [if_pos ⟨rfl, he⟩, if_pos ⟨rfl, hg, he⟩]; rfl
      · rw [if_neg (fun h => he h.2), if_neg (fun h => he h.2.2)]; rfl
    · rw [if_neg hg, if_neg (fun h => absurd h.1 (by decide)), if_neg (fun h => hg h.2.1)]; rfl
end Go.Proofs.Ytokimlfagpddlaa.PD

-- printed by gprint.py (own tool) over the kit's print
namespace Go.Proofs.Ytokimlfagpddlaa.PD
open Go.RowKit Go.Proofs.Ytokimlfagpddlaa Go.Proofs.YtokimlfagpddlaaW.PrintWords Go.Proofs.YtokimlfagpddlaaW.PrintLast Go.Proofs.YtokimlfagpddlaaW.PrintMore
attribute [local go_sem] max2_int min2_int max_two min_two max_three min_three max_four min_four   -- for this text's walks alone
set_option linter.unnecessarySimpa false
attribute [local go_sem] min2_str max2_str leq_str gtr_str geq_str
set_option linter.unusedVariables false
set_option linter.unusedSimpArgs false

/-! ### api_Meta_35: function 35 -/
def api_Meta_35.f (l0 : List (S35)) : Option (List (S35)) := if l0.length < 2513169434916 then some l0 else none
set_option maxHeartbeats 1000000 in
theorem api_Meta_35.calls (A0 : Option Addr) (c0 : Nat) (l0 : List (S35)) (r : List (S35)) (w : World) (hr0 : Kd.C k35 w A0 l0.length l0) (hc0 : l0.length ≤ c0) (h : api_Meta_35.f l0 = some r) :
    Calls Try.prog 35 #[.slice A0 l0.length c0] w fun e w' => ∃ v0_ : Value, e = .returned (v0_) ∧ Kd.R k35 35 w' w.heap.size (fun _ => True) v0_ r ∧ Below w.heap.size w w' := by
  obtain ⟨hlim, rfl⟩ : l0.length < 2513169434916 ∧ l0 = r := by
    unfold api_Meta_35.f at h
    split at h
    · rename_i hl; exact ⟨hl, Option.some.inj h⟩
    · cases h
  clear h
  have HR := Aside0.mk hr0
  have HL := Aside0.mk hlim
  rcases A0 with _ | ad
  · have h0 : l0 = [] := by
      rcases Nat.eq_zero_or_pos l0.length with h0 | h0
      · exact List.eq_nil_of_length_eq_zero h0
      · obtain ⟨ad, e, _⟩ := hr0.2.2 h0; cases e
    subst h0
    clear HR HL hr0 hlim hc0
    have he := fun W => run_eql_slice_nil (P := Try.prog) W 22 35 none 0 c0 Try.underlying22
    go_enter Try.func35, Try.ntmps35
    go_wp2
    go_ret
    exact ⟨_, rfl, Kd.R_nil _ _ _ _ _, Below.refl _ _⟩
  · clear hr0 hlim
    have he := fun W => run_eql_slice_nil (P := Try.prog) W 22 35 (some ad) l0.length c0 Try.underlying22
    go_enter Try.func35, Try.ntmps35
    go_wp2_with ((with_reducible refine gate_builtin (b := .append) (xs := #[.tmp 5, .tmp 6]) rfl ?_); refine Kd.R_append_rows k35 (w0 := w) w.heap.size rfl (.tmp 5) (.tmp 6) 22 35 (.agg #[(.int .i64 0), (.int .i64 0), (.string ⟨#[]⟩), (.string ⟨#[]⟩), (.int .i64 0)]) 56 rfl Try.underlying22 info35 rfl (by decide) (by omega) _ [] l0 _ _ _ (fun _ => True) (fun _ => False) rfl rfl ?aO ?aR (fun _ _ h => h) (fun _ h => h.elim) ?aF ?aB ?aS ?aL ?_; (case aO => exact ⟨fun _ _ => trivial, [], World.ownsRow_made w #[] 0 (Nat.le_refl _) (by decide) rfl, Reps.none _ _⟩); (case aR => exact Kd.C_alloc HR.out _); (case aF => exact fun _ _ => trivial); (case aB => exact below_alloc (Below.refl _ _) _); (case aS => simp); (case aL => have := HL.out; simp; omega); intro v1 w1 ho hb hg hat; have HO := Aside0.mk ho; have HB := Aside0.mk hb; clear ho hb hg hat)
    go_ret
    exact ⟨_, rfl, HO.out, HB.out⟩


end Go.Proofs.Ytokimlfagpddlaa.PD

-- printed by gprint.py (own tool) over the kit's print
namespace Go.Proofs.Ytokimlfagpddlaa.PD
open Go.RowKit Go.Proofs.Ytokimlfagpddlaa Go.Proofs.YtokimlfagpddlaaW.PrintWords Go.Proofs.YtokimlfagpddlaaW.PrintLast Go.Proofs.YtokimlfagpddlaaW.PrintMore
attribute [local go_sem] max2_int min2_int max_two min_two max_three min_three max_four min_four   -- for this text's walks alone
set_option linter.unnecessarySimpa false
attribute [local go_sem] min2_str max2_str leq_str gtr_str geq_str
set_option linter.unusedVariables false
set_option linter.unusedSimpArgs false

/-! ### api_Meta_22: function 22 -/
theorem api_Meta_22.empty_ (A : Option Addr) (w : World) : Kd.C k35 w A 0 [] := ⟨rfl, by decide, fun h => absurd h (by omega)⟩
theorem api_Meta_22.index_ (A : Option Addr) (c : Nat) (fv : Value) (w : World) : Calls Try.prog 71 #[.slice A 0 c, fv] w fun e w' => e = .returned (.int .i64 (-1)) ∧ w' = w := by
  go_enter Try.func71, Try.ntmps71
  go_wp2_with fail
  go_loopw [8] (fun i wr => i = .int .i64 0 ∧ wr = w) (fun _ _ => 0)
  case atStart => exact ⟨rfl, rfl⟩
  case round =>
    obtain ⟨rfl, rfl⟩ := hrel
    go_wp2_with fail
    go_ret
    exact ⟨rfl, rfl⟩
theorem api_Meta_22.contains_ (A : Option Addr) (c : Nat) (fv : Value) (w : World) : Calls Try.prog 39 #[.slice A 0 c, fv] w fun e w' => e = .returned (.bool false) ∧ w' = w := by
  have HI := Lib.hid (api_Meta_22.index_ A c fv w)
  go_enter Try.func39, Try.ntmps39
  go_wp2_with (go_at_call 71; refine HI.out.mono ?_; rintro e w' ⟨rfl, rfl⟩)
  go_ret
  exact ⟨rfl, rfl⟩
theorem api_Meta_22.delete_ (A : Option Addr) (c : Nat) (fv : Value) (w : World) : Calls Try.prog 58 #[.slice A 0 c, fv] w fun e w' => e = .returned (.slice A 0 c) ∧ w' = w := by
  have HI := Lib.hid (api_Meta_22.index_ A c fv w)
  go_enter Try.func58, Try.ntmps58
  go_wp2_with (go_at_call 71; refine HI.out.mono ?_; rintro e w' ⟨rfl, rfl⟩)
  go_ret
  exact ⟨rfl, rfl⟩
set_option maxHeartbeats 2000000 in
set_option maxRecDepth 100000 in
/-- Of nothing, nothing is left out. -/
theorem api_Meta_22.none_ (A0 A1 : Option Addr) (c0 c1 : Nat) (w : World) : Calls Try.prog 22 #[.slice A0 0 c0, .slice A1 0 c1, .func (.func 23) #[] #[]] w fun e w' => ∃ v, e = .returned (.tuple #[v, .bool true]) ∧ Kd.R k35 35 w' w.heap.size (fun _ => True) v [] ∧ Below w.heap.size w w' := by
  have hmm : ∀ (n : Int) (w : World), (Instr.makeMap 95 (some (.int .i64 n))).run Try.prog w = .ok (.map (some w.heap.size)) (w.alloc (.map #[] 0)) := fun n w => by simp [Instr.makeMap, run_underlying Try.underlying95, asInt, asIntOf, Result.andThen]
  go_enter Try.func22, Try.ntmps22
  go_wp2_with fail
  have HB : Aside0 (Below w.heap.size w (((w.alloc (.cells #[.func (.func 23) #[] #[]] 56)).alloc (.map #[] 0)).alloc (.cells #[.map (some (w.heap.size + 1))] 95))) := ⟨below_alloc (below_alloc (below_alloc (Below.refl _ _) _) _) _⟩
  generalize ((w.alloc (.cells #[.func (.func 23) #[] #[]] 56)).alloc (.map #[] 0)).alloc (.cells #[.map (some (w.heap.size + 1))] 95) = w1 at HB ⊢
  clear hmm
  go_loopw [16] (fun i wr => i = .int .i64 0 ∧ wr = w1) (fun _ _ => 0)
  case atStart => exact ⟨rfl, rfl⟩
  case round =>
    obtain ⟨rfl, rfl⟩ := hrel
    go_wp2_with fail
    refine (api_Meta_35.calls A0 c0 [] [] wr (api_Meta_22.empty_ A0 wr) (Nat.zero_le _) (by rfl)).mono ?_
    rintro e w2 ⟨v, rfl, hv, hb⟩
    have HV := Aside0.mk (Kd.R_lower hv HB.out.size)
    have HB2 := Aside0.mk (below_step HB.out hb)
    clear hv hb
    obtain ⟨A, c, rfl, -, -⟩ := Kd.R_reads HV.out
    go_wp2_with (go_at_call 58; refine (api_Meta_22.delete_ A c _ _).mono ?_; rintro e w' ⟨rfl, rfl⟩)
    go_ret2
    exact ⟨_, rfl, HV.out, HB2.out⟩
set_option maxHeartbeats 2000000 in
set_option maxRecDepth 100000 in
/-- Of nothing, something cannot be left out. -/
theorem api_Meta_22.some_ (A0 A1 : Option Addr) (c0 c1 m : Nat) (G : List Int) (w : World) (hr : Kd.C (Kd.int .i64) w A1 m G) (h0 : 0 < m) (hb0 : -9223372036854775808 ≤ rd G 0 ∧ rd G 0 ≤ 9223372036854775807) : Calls Try.prog 22 #[.slice A0 0 c0, .slice A1 m c1, .func (.func 23) #[] #[]] w fun e w' => e = .returned (.tuple #[.slice none 0 0, .bool false]) ∧ Below w.heap.size w w' := by
  have hmm : ∀ (n : Int) (w : World), (Instr.makeMap 95 (some (.int .i64 n))).run Try.prog w = .ok (.map (some w.heap.size)) (w.alloc (.map #[] 0)) := fun n w => by simp [Instr.makeMap, run_underlying Try.underlying95, asInt, asIntOf, Result.andThen]
  have HR := Aside0.mk hr
  have HC := Lib.hid (api_Meta_22.contains_ A0 c0)
  have hwn : (Lit.int .i64 (rd G 0)).wf = true := version_twice.wf_ hb0
  have HWN := Aside0.mk hwn
  have HM := Aside0.mk hr.2.1
  clear hr hwn hb0
  go_enter Try.func22, Try.ntmps22
  go_wp2_with fail
  obtain ⟨W0, hW0⟩ : ∃ W0, W0 = w.alloc (.cells #[.func (.func 23) #[] #[]] 56) := ⟨_, rfl⟩
  obtain ⟨B, hBB⟩ : ∃ B, B = w.heap.size + 1 := ⟨_, rfl⟩
  have HBB := Aside0.mk hBB
  have hB0 : B = W0.heap.size := by rw [hW0, hBB]; simp
  have HS0 : SetAt (W0.alloc (.map #[] 0)) 3 4 B [] := by rw [hB0]; exact setAt_made _ _ _
  have HBW : Aside0 (Below w.heap.size w ((W0.alloc (.map #[] 0)).alloc (.cells #[.map (some B)] 95))) := ⟨by rw [hW0]; exact below_alloc (below_alloc (below_alloc (Below.refl _ _) _) _) _⟩
  rw [← hW0, ← hBB]
  obtain ⟨w1, hw1⟩ : ∃ w1, w1 = (W0.alloc (.map #[] 0)).alloc (.cells #[.map (some B)] 95) := ⟨_, rfl⟩
  rw [← hw1] at HBW
  have HS1 : Aside0 (SetAt w1 3 4 B []) := ⟨by rw [hw1]; exact World.ownsMap.alloc HS0 _⟩
  have HK : Aside0 (w1.heap[B + 1]? = some (.cells #[.map (some B)] 95 (0, 0))) := ⟨by rw [hw1, show B + 1 = (W0.alloc (.map #[] 0)).heap.size by rw [hB0]; simp]; exact blk_new _ _⟩
  have hz : ∀ w : World, (zeroValue 4).run Try.prog w = .ok (.bool false) w := fun w => by kernel_rfl
  have HZ := Aside0.mk hz
  have hd : decide (rd G 0 ∈ ([] : List Int)) = false := by simp
  have HD := Aside0.mk hd
  have hr2 := Kd.C_below HR.out HBW.out
  obtain ⟨ad, rfl, hcell⟩ := Kd.at_int hr2 0 (by omega) (by omega)
  obtain ⟨g, hg⟩ : ∃ g, g = rd G 0 := ⟨_, rfl⟩
  rw [← hg] at hcell HWN HD
  rw [show (ad.add (Int.toNat 0)) = ad by simp [Addr.add]] at hcell
  rw [← hw1]
  clear hw1 hW0 hBB hB0 HS0 hd hr2 hz hmm hg HR
  have hm1 : (0 : Int) < (m : Int) := by omega
  go_loopw [16] (fun i wr => i = .int .i64 0 ∧ wr = w1) (fun _ _ => 0)
  case atStart => exact ⟨rfl, rfl⟩
  case round =>
    obtain ⟨rfl, rfl⟩ := hrel
    go_upto_region 5 with fail
    obtain ⟨w2, hw2⟩ : ∃ w2, w2 = wr.alloc (.cells #[.int .i64 g] 3) := ⟨_, rfl⟩
    obtain ⟨gk, hgk⟩ : ∃ gk, gk = wr.heap.size := ⟨_, rfl⟩
    have HS2 : Aside0 (SetAt w2 3 4 B []) := ⟨by rw [hw2]; exact World.ownsMap.alloc HS1.out _⟩
    have HBW2 : Aside0 (Below w.heap.size w w2) := ⟨by rw [hw2]; exact below_alloc HBW.out _⟩
    have x0 : w2.cell? ⟨B + 1, 0, none⟩ = some (.map (some B)) := by rw [hw2]; exact (blk_cell (blk_alloc HK.out _) 0).trans rfl
    have hk2 : w2.heap[gk]? = some (.cells #[.int .i64 g] 3 (0, 0)) := by rw [hw2, hgk]; exact blk_new _ _
    have x1 : w2.cell? ⟨gk, 0, none⟩ = some (.int .i64 g) := (blk_cell hk2 0).trans rfl
    rw [← hw2, ← hgk]
    clear hw2 hgk hk2 hcell HS1 HBW HK
    go_wp2_with (first | (refine wpList_lookup_set _ rfl (.tmp 20) (.tmp 21) 95 rfl 3 4 Try.underlying3 Try.underlying95 Try.underlying4 HZ.out B [] rfl HS2.out g rfl HWN.out false HD.out ?_) | (go_at_call 39; refine (HC.out _ _).mono ?_; rintro e w' ⟨rfl, rfl⟩))
    go_ret2
    exact ⟨rfl, HBW2.out⟩
/-- What without answers of an empty list. -/
def api_Meta_22.f (l0 : List S35) (l1 : List Int) : Option (List S35 × Bool) := if l0.length = 0 ∧ (l1.length = 0 ∨ (-9223372036854775808 ≤ rd l1 0 ∧ rd l1 0 ≤ 9223372036854775807)) then some ([], l1.length == 0) else none
theorem api_Meta_22.calls (A0 : Option Addr) (c0 : Nat) (l0 : List S35) (A1 : Option Addr) (c1 : Nat) (l1 : List Int) (r1 : List S35) (r2 : Bool) (w : World) (hr0 : Kd.C k35 w A0 l0.length l0) (hc0 : l0.length ≤ c0) (hr1 : Kd.C (Kd.int .i64) w A1 l1.length l1) (hc1 : l1.length ≤ c1) (h : api_Meta_22.f l0 l1 = some (r1, r2)) :
    Calls Try.prog 22 #[.slice A0 l0.length c0, .slice A1 l1.length c1, .func (.func 23) #[] #[]] w fun e w' => ∃ v0_ : Value, e = .returned (.tuple #[v0_, .bool r2]) ∧ Kd.R k35 35 w' w.heap.size (fun _ => True) v0_ r1 ∧ Below w.heap.size w w' := by
  obtain ⟨⟨h0, h1⟩, hR⟩ : (l0.length = 0 ∧ (l1.length = 0 ∨ (-9223372036854775808 ≤ rd l1 0 ∧ rd l1 0 ≤ 9223372036854775807))) ∧ (([] : List S35), l1.length == 0) = (r1, r2) := by
    unfold api_Meta_22.f at h
    split at h
    · rename_i hl; exact ⟨hl, Option.some.inj h⟩
    · cases h
  obtain ⟨rfl, rfl⟩ := Prod.mk.inj hR
  rw [h0]
  by_cases hz : l1.length = 0
  · rw [hz]
    exact (api_Meta_22.none_ A0 A1 c0 c1 w).mono fun e w' ⟨v, he, hv, hb⟩ => ⟨v, he, hv, hb⟩
  · have e : (l1.length == 0) = false := by simpa using hz
    rw [e]
    refine (api_Meta_22.some_ A0 A1 c0 c1 l1.length l1 w hr1 (by omega) (h1.resolve_left hz)).mono fun e w' ⟨he, hb⟩ => ⟨_, he, Kd.R_nil _ _ _ _ _, hb⟩


end Go.Proofs.Ytokimlfagpddlaa.PD

-- printed by gprint.py (own tool) over the kit's print
namespace Go.Proofs.Ytokimlfagpddlaa.PD
open Go.RowKit Go.Proofs.Ytokimlfagpddlaa Go.Proofs.YtokimlfagpddlaaW.PrintWords Go.Proofs.YtokimlfagpddlaaW.PrintLast Go.Proofs.YtokimlfagpddlaaW.PrintMore
attribute [local go_sem] max2_int min2_int max_two min_two max_three min_three max_four min_four   -- for this text's walks alone
set_option linter.unnecessarySimpa false
attribute [local go_sem] min2_str max2_str leq_str gtr_str geq_str
set_option linter.unusedVariables false
set_option linter.unusedSimpArgs false

/-! ### slices_Clone_int_int: function 36 -/
def slices_Clone_int_int.f (l0 : List (Int)) : Option (List (Int)) := if l0.length < 17592186044416 then some l0 else none
set_option maxHeartbeats 1000000 in
theorem slices_Clone_int_int.calls (A0 : Option Addr) (c0 : Nat) (l0 : List (Int)) (r : List (Int)) (w : World) (hr0 : Kd.C (Kd.int .i64) w A0 l0.length l0) (hc0 : l0.length ≤ c0) (h : slices_Clone_int_int.f l0 = some r) :
    Calls Try.prog 36 #[.slice A0 l0.length c0] w fun e w' => ∃ v0_ : Value, e = .returned (v0_) ∧ Kd.R (Kd.int .i64) 3 w' w.heap.size (fun _ => True) v0_ r ∧ Below w.heap.size w w' := by
  obtain ⟨hlim, rfl⟩ : l0.length < 17592186044416 ∧ l0 = r := by
    unfold slices_Clone_int_int.f at h
    split at h
    · rename_i hl; exact ⟨hl, Option.some.inj h⟩
    · cases h
  clear h
  have HR := Aside0.mk hr0
  have HL := Aside0.mk hlim
  rcases A0 with _ | ad
  · have h0 : l0 = [] := by
      rcases Nat.eq_zero_or_pos l0.length with h0 | h0
      · exact List.eq_nil_of_length_eq_zero h0
      · obtain ⟨ad, e, _⟩ := hr0.2.2 h0; cases e
    subst h0
    clear HR HL hr0 hlim hc0
    have he := fun W => run_eql_slice_nil (P := Try.prog) W 23 3 none 0 c0 Try.underlying23
    go_enter Try.func36, Try.ntmps36
    go_wp2
    go_ret
    exact ⟨_, rfl, Kd.R_nil _ _ _ _ _, Below.refl _ _⟩
  · clear hr0 hlim
    have he := fun W => run_eql_slice_nil (P := Try.prog) W 23 3 (some ad) l0.length c0 Try.underlying23
    go_enter Try.func36, Try.ntmps36
    go_wp2_with ((with_reducible refine gate_builtin (b := .append) (xs := #[.tmp 5, .tmp 6]) rfl ?_); refine Kd.R_append_rows (Kd.int .i64) (w0 := w) w.heap.size rfl (.tmp 5) (.tmp 6) 23 3 (.int .i64 0) 8 rfl Try.underlying23 info3 rfl (by decide) (by omega) _ [] l0 _ _ _ (fun _ => True) (fun _ => False) rfl rfl ?aO ?aR (fun _ _ h => h) (fun _ h => h.elim) ?aF ?aB ?aS ?aL ?_; (case aO => exact ⟨fun _ _ => trivial, [], World.ownsRow_made w #[] 0 (Nat.le_refl _) (by decide) rfl, Reps.none _ _⟩); (case aR => exact Kd.C_alloc HR.out _); (case aF => exact fun _ _ => trivial); (case aB => exact below_alloc (Below.refl _ _) _); (case aS => simp); (case aL => have := HL.out; simp; omega); intro v1 w1 ho hb hg hat; have HO := Aside0.mk ho; have HB := Aside0.mk hb; clear ho hb hg hat)
    go_ret
    exact ⟨_, rfl, HO.out, HB.out⟩


end Go.Proofs.Ytokimlfagpddlaa.PD

-- printed by gprint.py (own tool) over the kit's print
namespace Go.Proofs.Ytokimlfagpddlaa.PD
open Go.RowKit Go.Proofs.Ytokimlfagpddlaa Go.Proofs.YtokimlfagpddlaaW.PrintWords Go.Proofs.YtokimlfagpddlaaW.PrintLast Go.Proofs.YtokimlfagpddlaaW.PrintMore
attribute [local go_sem] max2_int min2_int max_two min_two max_three min_three max_four min_four   -- for this text's walks alone
set_option linter.unnecessarySimpa false
attribute [local go_sem] min2_str max2_str leq_str gtr_str geq_str
set_option linter.unusedVariables false
set_option linter.unusedSimpArgs false

/-! ### version_without_int: function 24 -/
theorem version_without_int.empty_ (A : Option Addr) (w : World) : Kd.C (Kd.int .i64) w A 0 [] := ⟨rfl, by decide, fun h => absurd h (by omega)⟩
theorem version_without_int.index_ (A : Option Addr) (c : Nat) (fv : Value) (w : World) : Calls Try.prog 67 #[.slice A 0 c, fv] w fun e w' => e = .returned (.int .i64 (-1)) ∧ w' = w := by
  go_enter Try.func67, Try.ntmps67
  go_wp2_with fail
  go_loopw [8] (fun i wr => i = .int .i64 0 ∧ wr = w) (fun _ _ => 0)
  case atStart => exact ⟨rfl, rfl⟩
  case round =>
    obtain ⟨rfl, rfl⟩ := hrel
    go_wp2_with fail
    go_ret
    exact ⟨rfl, rfl⟩
theorem version_without_int.contains_ (A : Option Addr) (c : Nat) (fv : Value) (w : World) : Calls Try.prog 32 #[.slice A 0 c, fv] w fun e w' => e = .returned (.bool false) ∧ w' = w := by
  have HI := Lib.hid (version_without_int.index_ A c fv w)
  go_enter Try.func32, Try.ntmps32
  go_wp2_with (go_at_call 67; refine HI.out.mono ?_; rintro e w' ⟨rfl, rfl⟩)
  go_ret
  exact ⟨rfl, rfl⟩
theorem version_without_int.delete_ (A : Option Addr) (c : Nat) (fv : Value) (w : World) : Calls Try.prog 61 #[.slice A 0 c, fv] w fun e w' => e = .returned (.slice A 0 c) ∧ w' = w := by
  have HI := Lib.hid (version_without_int.index_ A c fv w)
  go_enter Try.func61, Try.ntmps61
  go_wp2_with (go_at_call 67; refine HI.out.mono ?_; rintro e w' ⟨rfl, rfl⟩)
  go_ret
  exact ⟨rfl, rfl⟩
set_option maxHeartbeats 2000000 in
set_option maxRecDepth 100000 in
/-- Of nothing, nothing is left out. -/
theorem version_without_int.none_ (A0 A1 : Option Addr) (c0 c1 : Nat) (w : World) : Calls Try.prog 24 #[.slice A0 0 c0, .slice A1 0 c1, .func (.func 25) #[] #[]] w fun e w' => ∃ v, e = .returned (.tuple #[v, .bool true]) ∧ Kd.R (Kd.int .i64) 3 w' w.heap.size (fun _ => True) v [] ∧ Below w.heap.size w w' := by
  have hmm : ∀ (n : Int) (w : World), (Instr.makeMap 95 (some (.int .i64 n))).run Try.prog w = .ok (.map (some w.heap.size)) (w.alloc (.map #[] 0)) := fun n w => by simp [Instr.makeMap, run_underlying Try.underlying95, asInt, asIntOf, Result.andThen]
  go_enter Try.func24, Try.ntmps24
  go_wp2_with fail
  have HB : Aside0 (Below w.heap.size w (((w.alloc (.cells #[.func (.func 25) #[] #[]] 59)).alloc (.map #[] 0)).alloc (.cells #[.map (some (w.heap.size + 1))] 95))) := ⟨below_alloc (below_alloc (below_alloc (Below.refl _ _) _) _) _⟩
  generalize ((w.alloc (.cells #[.func (.func 25) #[] #[]] 59)).alloc (.map #[] 0)).alloc (.cells #[.map (some (w.heap.size + 1))] 95) = w1 at HB ⊢
  clear hmm
  go_loopw [16] (fun i wr => i = .int .i64 0 ∧ wr = w1) (fun _ _ => 0)
  case atStart => exact ⟨rfl, rfl⟩
  case round =>
    obtain ⟨rfl, rfl⟩ := hrel
    go_wp2_with fail
    refine (slices_Clone_int_int.calls A0 c0 [] [] wr (version_without_int.empty_ A0 wr) (Nat.zero_le _) (by rfl)).mono ?_
    rintro e w2 ⟨v, rfl, hv, hb⟩
    have HV := Aside0.mk (Kd.R_lower hv HB.out.size)
    have HB2 := Aside0.mk (below_step HB.out hb)
    clear hv hb
    obtain ⟨A, c, rfl, -, -⟩ := Kd.R_reads HV.out
    go_wp2_with (go_at_call 61; refine (version_without_int.delete_ A c _ _).mono ?_; rintro e w' ⟨rfl, rfl⟩)
    go_ret2
    exact ⟨_, rfl, HV.out, HB2.out⟩
set_option maxHeartbeats 2000000 in
set_option maxRecDepth 100000 in
/-- Of nothing, something cannot be left out. -/
theorem version_without_int.some_ (A0 A1 : Option Addr) (c0 c1 m : Nat) (G : List Int) (w : World) (hr : Kd.C (Kd.int .i64) w A1 m G) (h0 : 0 < m) (hb0 : -9223372036854775808 ≤ rd G 0 ∧ rd G 0 ≤ 9223372036854775807) : Calls Try.prog 24 #[.slice A0 0 c0, .slice A1 m c1, .func (.func 25) #[] #[]] w fun e w' => e = .returned (.tuple #[.slice none 0 0, .bool false]) ∧ Below w.heap.size w w' := by
  have hmm : ∀ (n : Int) (w : World), (Instr.makeMap 95 (some (.int .i64 n))).run Try.prog w = .ok (.map (some w.heap.size)) (w.alloc (.map #[] 0)) := fun n w => by simp [Instr.makeMap, run_underlying Try.underlying95, asInt, asIntOf, Result.andThen]
  have HR := Aside0.mk hr
  have HC := Lib.hid (version_without_int.contains_ A0 c0)
  have hwn : (Lit.int .i64 (rd G 0)).wf = true := version_twice.wf_ hb0
  have HWN := Aside0.mk hwn
  have HM := Aside0.mk hr.2.1
  clear hr hwn hb0
  go_enter Try.func24, Try.ntmps24
  go_wp2_with fail
  obtain ⟨W0, hW0⟩ : ∃ W0, W0 = w.alloc (.cells #[.func (.func 25) #[] #[]] 59) := ⟨_, rfl⟩
  obtain ⟨B, hBB⟩ : ∃ B, B = w.heap.size + 1 := ⟨_, rfl⟩
  have HBB := Aside0.mk hBB
  have hB0 : B = W0.heap.size := by rw [hW0, hBB]; simp
  have HS0 : SetAt (W0.alloc (.map #[] 0)) 3 4 B [] := by rw [hB0]; exact setAt_made _ _ _
  have HBW : Aside0 (Below w.heap.size w ((W0.alloc (.map #[] 0)).alloc (.cells #[.map (some B)] 95))) := ⟨by rw [hW0]; exact below_alloc (below_alloc (below_alloc (Below.refl _ _) _) _) _⟩
  rw [← hW0, ← hBB]
  obtain ⟨w1, hw1⟩ : ∃ w1, w1 = (W0.alloc (.map #[] 0)).alloc (.cells #[.map (some B)] 95) := ⟨_, rfl⟩
  rw [← hw1] at HBW
  have HS1 : Aside0 (SetAt w1 3 4 B []) := ⟨by rw [hw1]; exact World.ownsMap.alloc HS0 _⟩
  have HK : Aside0 (w1.heap[B + 1]? = some (.cells #[.map (some B)] 95 (0, 0))) := ⟨by rw [hw1, show B + 1 = (W0.alloc (.map #[] 0)).heap.size by rw [hB0]; simp]; exact blk_new _ _⟩
  have hz : ∀ w : World, (zeroValue 4).run Try.prog w = .ok (.bool false) w := fun w => by kernel_rfl
  have HZ := Aside0.mk hz
  have hd : decide (rd G 0 ∈ ([] : List Int)) = false := by simp
  have HD := Aside0.mk hd
  have hr2 := Kd.C_below HR.out HBW.out
  obtain ⟨ad, rfl, hcell⟩ := Kd.at_int hr2 0 (by omega) (by omega)
  obtain ⟨g, hg⟩ : ∃ g, g = rd G 0 := ⟨_, rfl⟩
  rw [← hg] at hcell HWN HD
  rw [show (ad.add (Int.toNat 0)) = ad by simp [Addr.add]] at hcell
  rw [← hw1]
  clear hw1 hW0 hBB hB0 HS0 hd hr2 hz hmm hg HR
  have hm1 : (0 : Int) < (m : Int) := by omega
  go_loopw [16] (fun i wr => i = .int .i64 0 ∧ wr = w1) (fun _ _ => 0)
  case atStart => exact ⟨rfl, rfl⟩
  case round =>
    obtain ⟨rfl, rfl⟩ := hrel
    go_upto_region 5 with fail
    obtain ⟨w2, hw2⟩ : ∃ w2, w2 = wr.alloc (.cells #[.int .i64 g] 3) := ⟨_, rfl⟩
    obtain ⟨gk, hgk⟩ : ∃ gk, gk = wr.heap.size := ⟨_, rfl⟩
    have HS2 : Aside0 (SetAt w2 3 4 B []) := ⟨by rw [hw2]; exact World.ownsMap.alloc HS1.out _⟩
    have HBW2 : Aside0 (Below w.heap.size w w2) := ⟨by rw [hw2]; exact below_alloc HBW.out _⟩
    have x0 : w2.cell? ⟨B + 1, 0, none⟩ = some (.map (some B)) := by rw [hw2]; exact (blk_cell (blk_alloc HK.out _) 0).trans rfl
    have hk2 : w2.heap[gk]? = some (.cells #[.int .i64 g] 3 (0, 0)) := by rw [hw2, hgk]; exact blk_new _ _
    have x1 : w2.cell? ⟨gk, 0, none⟩ = some (.int .i64 g) := (blk_cell hk2 0).trans rfl
    rw [← hw2, ← hgk]
    clear hw2 hgk hk2 hcell HS1 HBW HK
    go_wp2_with (first | (refine wpList_lookup_set _ rfl (.tmp 20) (.tmp 21) 95 rfl 3 4 Try.underlying3 Try.underlying95 Try.underlying4 HZ.out B [] rfl HS2.out g rfl HWN.out false HD.out ?_) | (go_at_call 32; refine (HC.out _ _).mono ?_; rintro e w' ⟨rfl, rfl⟩))
    go_ret2
    exact ⟨rfl, HBW2.out⟩
/-- What without answers of an empty list. -/
def version_without_int.f (l0 : List Int) (l1 : List Int) : Option (List Int × Bool) := if l0.length = 0 ∧ (l1.length = 0 ∨ (-9223372036854775808 ≤ rd l1 0 ∧ rd l1 0 ≤ 9223372036854775807)) then some ([], l1.length == 0) else none
theorem version_without_int.calls (A0 : Option Addr) (c0 : Nat) (l0 : List Int) (A1 : Option Addr) (c1 : Nat) (l1 : List Int) (r1 : List Int) (r2 : Bool) (w : World) (hr0 : Kd.C (Kd.int .i64) w A0 l0.length l0) (hc0 : l0.length ≤ c0) (hr1 : Kd.C (Kd.int .i64) w A1 l1.length l1) (hc1 : l1.length ≤ c1) (h : version_without_int.f l0 l1 = some (r1, r2)) :
    Calls Try.prog 24 #[.slice A0 l0.length c0, .slice A1 l1.length c1, .func (.func 25) #[] #[]] w fun e w' => ∃ v0_ : Value, e = .returned (.tuple #[v0_, .bool r2]) ∧ Kd.R (Kd.int .i64) 3 w' w.heap.size (fun _ => True) v0_ r1 ∧ Below w.heap.size w w' := by
  obtain ⟨⟨h0, h1⟩, hR⟩ : (l0.length = 0 ∧ (l1.length = 0 ∨ (-9223372036854775808 ≤ rd l1 0 ∧ rd l1 0 ≤ 9223372036854775807))) ∧ (([] : List Int), l1.length == 0) = (r1, r2) := by
    unfold version_without_int.f at h
    split at h
    · rename_i hl; exact ⟨hl, Option.some.inj h⟩
    · cases h
  obtain ⟨rfl, rfl⟩ := Prod.mk.inj hR
  rw [h0]
  by_cases hz : l1.length = 0
  · rw [hz]
    exact (version_without_int.none_ A0 A1 c0 c1 w).mono fun e w' ⟨v, he, hv, hb⟩ => ⟨v, he, hv, hb⟩
  · have e : (l1.length == 0) = false := by simpa using hz
    rw [e]
    refine (version_without_int.some_ A0 A1 c0 c1 l1.length l1 w hr1 (by omega) (h1.resolve_left hz)).mono fun e w' ⟨he, hb⟩ => ⟨_, he, Kd.R_nil _ _ _ _ _, hb⟩


end Go.Proofs.Ytokimlfagpddlaa.PD

-- printed by gprint.py (own tool) over the kit's print
namespace Go.Proofs.Ytokimlfagpddlaa.PD
open Go.RowKit Go.Proofs.Ytokimlfagpddlaa Go.Proofs.YtokimlfagpddlaaW.PrintWords Go.Proofs.YtokimlfagpddlaaW.PrintLast Go.Proofs.YtokimlfagpddlaaW.PrintMore
attribute [local go_sem] max2_int min2_int max_two min_two max_three min_three max_four min_four   -- for this text's walks alone
set_option linter.unnecessarySimpa false
attribute [local go_sem] min2_str max2_str leq_str gtr_str geq_str
set_option linter.unusedVariables false
set_option linter.unusedSimpArgs false

/-! ### api_Meta_26: function 26 -/
def api_Meta_26.okP (l : List S35) : Bool := (List.range l.length).all fun j => (List.range j).all fun i => decide (0 ≤ version_Right.ord (rd_T35 l (j : Int)) (rd_T35 l (i : Int)))
theorem api_Meta_26.okP_at {l : List S35} (h : api_Meta_26.okP l = true) (i j : Nat) (h0 : i < j) (h1 : j < l.length) : 0 ≤ version_Right.ord (rd_T35 l (j : Int)) (rd_T35 l (i : Int)) := by
  have := (List.all_eq_true.1 ((List.all_eq_true.1 h) j (List.mem_range.2 h1))) i (List.mem_range.2 h0)
  exact of_decide_eq_true this
def api_Meta_26.okL (l : List S35) : Bool := (List.range l.length).all fun j => j == 0 || decide (0 ≤ version_Right.ord (rd_T35 l (j : Int)) (rd_T35 l ((j : Int) - 1)))
theorem api_Meta_26.okL_at {l : List S35} (h : api_Meta_26.okL l = true) (j : Nat) (h0 : 0 < j) (h1 : j < l.length) : 0 ≤ version_Right.ord (rd_T35 l (j : Int)) (rd_T35 l ((j : Int) - 1)) := by
  have := (List.all_eq_true.1 h) j (List.mem_range.2 h1)
  have n0 : (j == 0) = false := by simp; omega
  rw [n0, Bool.false_or] at this
  exact of_decide_eq_true this
/-- The order of two tables, told by the program's own compare. -/
theorem api_Meta_26.cmp_ (p m : S35) (w : World) : Calls Try.prog 27 #[.agg #[.int .i64 p.f0, .int .i64 p.f1, .string p.f2, .string p.f3, .int .i64 p.f4], .agg #[.int .i64 m.f0, .int .i64 m.f1, .string m.f2, .string m.f3, .int .i64 m.f4]] w fun e w' => e = .returned (.int .i64 (version_Right.ord p m)) ∧ Below w.heap.size w w' :=
  version_compare.calls 5 p.f0 p.f1 p.f2 p.f3 p.f4 m.f0 m.f1 m.f2 m.f3 m.f4 _ w (version_Right.compare_some 2 p m)
theorem api_Meta_26.load_ {w0 w : World} {A : Option Addr} {n : Nat} {l : List S35} (h : Kd.C k35 w0 A n l) (hb : Below w0.heap.size w0 w) (i : Int) (h0 : 0 ≤ i) (h1 : i < n) : ∃ ad, A = some ad ∧ (Instr.loadAt 35 (.pointer (some (ad.add (i.toNat * 5))))).run Try.prog w = .ok (.agg #[.int .i64 (rd_T35 l i).f0, .int .i64 (rd_T35 l i).f1, .string (rd_T35 l i).f2, .string (rd_T35 l i).f3, .int .i64 (rd_T35 l i).f4]) w := by
  obtain ⟨ad, rfl, x0, x1, x2, x3, x4⟩ := at_T35 (Kd.C_below h hb) i h0 h1
  refine ⟨ad, rfl, ?_⟩
  go_simp
theorem api_Meta_26.quiet_ {P : Program} {C : World → Prop} {id : Nat} {Q : Exit → Act → World → Prop} {a : Act} {w : World} {l : List Oper} (hm : P.follows .mixedOrders = true) (hB : Region.lexB .any l.toArray = true) (hC : C w.drew)
    (h : wpQuiet P l.toArray C (fun a' => ∀ w', C w' → Q .normal a' w') l a) : (Code.region id l.toArray true).wp P Q a w :=
  wp_region_quiet (C := C) hm hB hC (by simpa using h)
set_option maxHeartbeats 2000000 in
set_option maxRecDepth 100000 in
theorem api_Meta_26.ins_ (A : Option Addr) (n c : Nat) (l : List S35) (a b : Nat) (w : World) (hr : Kd.C k35 w A n l) (hs : api_Meta_26.okL l = true) (hb : b ≤ n) (ha : a ≤ b) (hn : n < 4294967296) :
    Calls Try.prog 76 #[.slice A n c, .int .i64 a, .int .i64 b, .func (.func 27) #[] #[]] w fun e w' => e = .returned (.tuple #[]) ∧ Below w.heap.size w w' := by
  have HR := Aside0.mk hr
  have HS := Aside0.mk hs
  have HLEN := Aside0.mk hr.1
  clear hr hs
  go_enter Try.func76, Try.ntmps76
  go_wp2_with fail
  have HB0 := Aside0.mk (Below.refl w.heap.size w)
  go_loopw [8] (fun i wr => ∃ k : Nat, i = .int .i64 k ∧ a + 1 ≤ k ∧ k ≤ n + 1 ∧ Aside0 (Below w.heap.size w wr)) (fun i _ => n + 1 - (intOf i).toNat)
  case atStart => exact ⟨a + 1, by go_num, Nat.le_refl _, by omega, HB0⟩
  case round =>
    clear HB0
    obtain ⟨k, rfl, hak, hkn, HB⟩ := hrel
    by_cases hkb : k < b
    · have hkb' : (k : Int) < (b : Int) := by omega
      go_wp2_with fail
      go_loopw [9] (fun i wz => i = .int .i64 k ∧ Aside0 (Below w.heap.size w wz)) (fun i _ => 0)
      case atStart => exact ⟨rfl, HB⟩
      case round =>
        clear HB
        obtain ⟨rfl, HB⟩ := hrel
        have hka : (a : Int) < (k : Int) := by omega
        have hL : n = l.length := HLEN.out.symm
        have hord := api_Meta_26.okL_at HS.out k (by omega) (by omega)
        obtain ⟨od, hod⟩ : ∃ od, od = version_Right.ord (rd_T35 l (k : Int)) (rd_T35 l ((k : Int) - 1)) := ⟨_, rfl⟩
        rw [← hod] at hord
        have HOD := Aside0.mk hod
        clear hod hL
        obtain ⟨ad, rfl, -⟩ := api_Meta_26.load_ HR.out (Below.refl _ _) (k : Int) (by omega) (by omega)
        go_wp2_with fail
        refine api_Meta_26.quiet_ (C := fun x => Below w.heap.size w x) (by kernel_rfl) (by kernel_rfl) (below_drew1 HB.out) ?_
        repeat (first | go_big_quiet_skip | (go_big_quiet_want; go_big_quiet_op; first | go_big_quiet_on | (refine ⟨_, fun _ _ => rfl, ?_⟩; go_big_quiet_on)))
        go_big_quiet_want
        go_big_quiet_op
        refine ⟨.agg #[.int .i64 (rd_T35 l k).f0, .int .i64 (rd_T35 l k).f1, .string (rd_T35 l k).f2, .string (rd_T35 l k).f3, .int .i64 (rd_T35 l k).f4], fun w' hC => ?_, ?_⟩
        · obtain ⟨ad', e, x0, x1, x2, x3, x4⟩ := at_T35 (Kd.C_below HR.out hC) (k : Int) (by omega) (by omega)
          injection e with e
          subst e
          rw [Int.toNat_natCast] at x0 x1 x2 x3 x4
          go_simp
        go_big_quiet_on
        repeat (first | go_big_quiet_skip | (go_big_quiet_want; go_big_quiet_op; first | go_big_quiet_on | (refine ⟨_, fun _ _ => rfl, ?_⟩; go_big_quiet_on)))
        go_big_quiet_want
        go_big_quiet_op
        refine ⟨.agg #[.int .i64 (rd_T35 l ((k : Int) - 1)).f0, .int .i64 (rd_T35 l ((k : Int) - 1)).f1, .string (rd_T35 l ((k : Int) - 1)).f2, .string (rd_T35 l ((k : Int) - 1)).f3, .int .i64 (rd_T35 l ((k : Int) - 1)).f4], fun w' hC => ?_, ?_⟩
        · obtain ⟨ad', e, x0, x1, x2, x3, x4⟩ := at_T35 (Kd.C_below HR.out hC) ((k : Int) - 1) (by omega) (by omega)
          injection e with e
          subst e
          rw [show ((k : Int) - 1).toNat = k - 1 by omega] at x0 x1 x2 x3 x4
          go_simp
        go_big_quiet_on
        repeat (first | go_big_quiet_skip | (go_big_quiet_want; go_big_quiet_op; first | go_big_quiet_on | (refine ⟨_, fun _ _ => rfl, ?_⟩; go_big_quiet_on) | go_big_quiet_call (first | (intro hC_; go_at_call 27; exact (api_Meta_26.cmp_ _ _ _).mono fun e w' h => ⟨by rw [h.1, ← HOD.out], below_step hC_ h.2⟩))))
        refine wpQuiet_nil ?_
        intro w9 hw9
        have HB9 := Aside0.mk hw9
        clear hw9
        have hdec : decide (od < 0) = false := decide_eq_false (by omega)
        go_wp2_with fail
        exact ⟨⟨k + 1, rfl, by omega, by omega, HB9⟩, by simp only [intOf]; omega⟩
    · go_wp2_with fail
      go_end0
      exact ⟨rfl, HB.out⟩
set_option maxHeartbeats 8000000 in
set_option maxRecDepth 100000 in
theorem api_Meta_26.sym_ (A : Option Addr) (n c : Nat) (l : List S35) (hs : api_Meta_26.okP l = true) (hn : n < 4294967296) : ∀ (d a m b : Nat) (w : World), Kd.C k35 w A n l → b - a ≤ d → a < m → m < b → b ≤ n →
    Calls Try.prog 77 #[.slice A n c, .int .i64 a, .int .i64 m, .int .i64 b, .func (.func 27) #[] #[]] w fun e w' => e = .returned (.tuple #[]) ∧ Below w.heap.size w w' := by
  intro d
  induction d with
  | zero => intro a m b w _ h1 h2 h3; omega
  | succ d ih =>
    intro a m b w hr hd ham hmb hbn
    have HIH := Lib.hid ih
    have HR := Aside0.mk hr
    have HS := Aside0.mk hs
    have HLEN := Aside0.mk hr.1
    have HB0 := Aside0.mk (Below.refl w.heap.size w)
    obtain ⟨ad, rfl, -⟩ := api_Meta_26.load_ HR.out (Below.refl _ _) (m : Int) (by omega) (by omega)
    clear ih hr hs
    by_cases h1 : m - a = 1
    · skip
      have h1' : (m : Int) - (a : Int) = 1 := by omega
      go_enter Try.func77, Try.ntmps77
      go_wp2_with fail
      go_loopw [10, 11] (fun i j wr => ∃ k : Nat, i = .int .i64 m ∧ j = .int .i64 k ∧ m ≤ k ∧ k ≤ b ∧ Aside0 (Below w.heap.size w wr)) (fun _ j _ => (intOf j).toNat)
      case atStart => exact ⟨b, rfl, rfl, by omega, Nat.le_refl _, HB0⟩
      case round =>
        clear HB0
        obtain ⟨k, rfl, rfl, hmk, hkb, HB⟩ := hrel
        by_cases hlt : m < k
        · have hlt' : (m : Int) < (k : Int) := by omega
          go_upto_region 5 with fail
          obtain ⟨h, hh⟩ : ∃ h : Nat, (h : Int) = ((m : Int) + (k : Int)) / 2 := ⟨(m + k) / 2, by omega⟩
          rw [← hh]
          have hh1 : m ≤ h := by omega
          have hh2 : h < k := by omega
          clear hh
          have hord := api_Meta_26.okP_at HS.out a h (by omega) (by have := HLEN.out; omega)
          obtain ⟨od, hod⟩ : ∃ od, od = version_Right.ord (rd_T35 l ((h : Nat) : Int)) (rd_T35 l ((a : Nat) : Int)) := ⟨_, rfl⟩
          rw [← hod] at hord
          have HOD := Aside0.mk hod
          clear hod
          refine api_Meta_26.quiet_ (C := fun x => Below w.heap.size w x) (by kernel_rfl) (by kernel_rfl) (below_drew1 HB.out) ?_
          repeat (first | go_big_quiet_skip | (go_big_quiet_want; go_big_quiet_op; first | go_big_quiet_on | (refine ⟨_, fun _ _ => rfl, ?_⟩; go_big_quiet_on)))
          go_big_quiet_want
          go_big_quiet_op
          refine ⟨.agg #[.int .i64 (rd_T35 l (h : Int)).f0, .int .i64 (rd_T35 l (h : Int)).f1, .string (rd_T35 l (h : Int)).f2, .string (rd_T35 l (h : Int)).f3, .int .i64 (rd_T35 l (h : Int)).f4], fun w' hC => ?_, ?_⟩
          · obtain ⟨ad', e, x0, x1, x2, x3, x4⟩ := at_T35 (Kd.C_below HR.out hC) (h : Int) (by omega) (by omega)
            injection e with e
            subst e
            rw [Int.toNat_natCast] at x0 x1 x2 x3 x4
            go_simp
          go_big_quiet_on
          repeat (first | go_big_quiet_skip | (go_big_quiet_want; go_big_quiet_op; first | go_big_quiet_on | (refine ⟨_, fun _ _ => rfl, ?_⟩; go_big_quiet_on)))
          go_big_quiet_want
          go_big_quiet_op
          refine ⟨.agg #[.int .i64 (rd_T35 l (a : Int)).f0, .int .i64 (rd_T35 l (a : Int)).f1, .string (rd_T35 l (a : Int)).f2, .string (rd_T35 l (a : Int)).f3, .int .i64 (rd_T35 l (a : Int)).f4], fun w' hC => ?_, ?_⟩
          · obtain ⟨ad', e, x0, x1, x2, x3, x4⟩ := at_T35 (Kd.C_below HR.out hC) (a : Int) (by omega) (by omega)
            injection e with e
            subst e
            rw [Int.toNat_natCast] at x0 x1 x2 x3 x4
            go_simp
          go_big_quiet_on
          repeat (first | go_big_quiet_skip | (go_big_quiet_want; go_big_quiet_op; first | go_big_quiet_on | (refine ⟨_, fun _ _ => rfl, ?_⟩; go_big_quiet_on) | go_big_quiet_call (first | (intro hC_; go_at_call 27; exact (api_Meta_26.cmp_ _ _ _).mono fun e w' h => ⟨by rw [h.1, ← HOD.out], below_step hC_ h.2⟩))))
          refine wpQuiet_nil ?_
          intro w9 hw9
          have HB9 := Aside0.mk hw9
          clear hw9
          have hdec : decide (od < 0) = false := decide_eq_false (by omega)
          have hdec2 : (!decide (od < 0)) = true := by rw [hdec]; rfl
          have hdec3 : decide (0 ≤ od) = true := decide_eq_true hord
          go_wp2_with fail
          exact ⟨⟨h, rfl, rfl, hh1, by omega, HB9⟩, by simp only [intOf]; omega⟩
        · obtain rfl : k = m := by omega
          go_wp2_with fail
          go_loopw [13] (fun i wr2 => i = .int .i64 a ∧ wr2 = wr) (fun _ _ => 0)
          case atStart => exact ⟨rfl, rfl⟩
          case round =>
            obtain ⟨rfl, rfl⟩ := hrel
            have h1'' : (k : Int) - 1 = (a : Int) := by omega
            go_wp2_with fail
            (first | go_end0 | ((try simp only [Exit.inBlock, Exit.then]); refine bodyPost_ret (results_none rfl _ _ _) rfl ?_))
            exact ⟨rfl, HB.out⟩
    · by_cases h2 : b - m = 1
      · skip
        have h1' : ¬ (m : Int) - (a : Int) = 1 := by omega
        have h2' : (b : Int) - (m : Int) = 1 := by omega
        go_enter Try.func77, Try.ntmps77
        go_wp2_with fail
        go_loopw [14, 15] (fun i j wr => ∃ k : Nat, i = .int .i64 k ∧ j = .int .i64 m ∧ a ≤ k ∧ k ≤ m ∧ Aside0 (Below w.heap.size w wr)) (fun i _ _ => m - (intOf i).toNat)
        case atStart => exact ⟨a, rfl, rfl, Nat.le_refl _, by omega, HB0⟩
        case round =>
          clear HB0
          obtain ⟨k, rfl, rfl, hak, hkm, HB⟩ := hrel
          by_cases hlt : k < m
          · have hlt' : (k : Int) < (m : Int) := by omega
            go_upto_region 17 with fail
            obtain ⟨h, hh⟩ : ∃ h : Nat, (h : Int) = ((k : Int) + (m : Int)) / 2 := ⟨(k + m) / 2, by omega⟩
            rw [← hh]
            have hh1 : k ≤ h := by omega
            have hh2 : h < m := by omega
            clear hh
            have hord := api_Meta_26.okP_at HS.out h m (by omega) (by have := HLEN.out; omega)
            obtain ⟨od, hod⟩ : ∃ od, od = version_Right.ord (rd_T35 l ((m : Nat) : Int)) (rd_T35 l ((h : Nat) : Int)) := ⟨_, rfl⟩
            rw [← hod] at hord
            have HOD := Aside0.mk hod
            clear hod
            refine api_Meta_26.quiet_ (C := fun x => Below w.heap.size w x) (by kernel_rfl) (by kernel_rfl) (below_drew1 HB.out) ?_
            repeat (first | go_big_quiet_skip | (go_big_quiet_want; go_big_quiet_op; first | go_big_quiet_on | (refine ⟨_, fun _ _ => rfl, ?_⟩; go_big_quiet_on)))
            go_big_quiet_want
            go_big_quiet_op
            refine ⟨.agg #[.int .i64 (rd_T35 l (m : Int)).f0, .int .i64 (rd_T35 l (m : Int)).f1, .string (rd_T35 l (m : Int)).f2, .string (rd_T35 l (m : Int)).f3, .int .i64 (rd_T35 l (m : Int)).f4], fun w' hC => ?_, ?_⟩
            · obtain ⟨ad', e, x0, x1, x2, x3, x4⟩ := at_T35 (Kd.C_below HR.out hC) (m : Int) (by omega) (by omega)
              injection e with e
              subst e
              rw [Int.toNat_natCast] at x0 x1 x2 x3 x4
              go_simp
            go_big_quiet_on
            repeat (first | go_big_quiet_skip | (go_big_quiet_want; go_big_quiet_op; first | go_big_quiet_on | (refine ⟨_, fun _ _ => rfl, ?_⟩; go_big_quiet_on)))
            go_big_quiet_want
            go_big_quiet_op
            refine ⟨.agg #[.int .i64 (rd_T35 l (h : Int)).f0, .int .i64 (rd_T35 l (h : Int)).f1, .string (rd_T35 l (h : Int)).f2, .string (rd_T35 l (h : Int)).f3, .int .i64 (rd_T35 l (h : Int)).f4], fun w' hC => ?_, ?_⟩
            · obtain ⟨ad', e, x0, x1, x2, x3, x4⟩ := at_T35 (Kd.C_below HR.out hC) (h : Int) (by omega) (by omega)
              injection e with e
              subst e
              rw [Int.toNat_natCast] at x0 x1 x2 x3 x4
              go_simp
            go_big_quiet_on
            repeat (first | go_big_quiet_skip | (go_big_quiet_want; go_big_quiet_op; first | go_big_quiet_on | (refine ⟨_, fun _ _ => rfl, ?_⟩; go_big_quiet_on) | go_big_quiet_call (first | (intro hC_; go_at_call 27; exact (api_Meta_26.cmp_ _ _ _).mono fun e w' h => ⟨by rw [h.1, ← HOD.out], below_step hC_ h.2⟩))))
            refine wpQuiet_nil ?_
            intro w9 hw9
            have HB9 := Aside0.mk hw9
            clear hw9
            have hdec : decide (od < 0) = false := decide_eq_false (by omega)
            have hdec2 : (!decide (od < 0)) = true := by rw [hdec]; rfl
            have hdec3 : decide (0 ≤ od) = true := decide_eq_true hord
            go_wp2_with fail
            all_goals first | exact ⟨⟨h + 1, by go_num, rfl, by omega, by omega, HB9⟩, by simp only [intOf]; omega⟩ | (exfalso; rename_i hx_; rw [hdec2] at hx_; cases hx_)
          · obtain rfl : k = m := by omega
            go_wp2_with fail
            go_loopw [17] (fun i wr2 => i = .int .i64 k ∧ wr2 = wr) (fun _ _ => 0)
            case atStart => exact ⟨rfl, rfl⟩
            case round =>
              obtain ⟨rfl, rfl⟩ := hrel
              go_wp2_with fail
              (first | go_end0 | ((try simp only [Exit.inBlock, Exit.then]); refine bodyPost_ret (results_none rfl _ _ _) rfl ?_))
              exact ⟨rfl, HB.out⟩
      · have h1' : ¬ (m : Int) - (a : Int) = 1 := by omega
        have h2' : ¬ (b : Int) - (m : Int) = 1 := by omega
        go_enter Try.func77, Try.ntmps77
        go_upto_region 25 with fail
        obtain ⟨mid, hmid⟩ : ∃ mid : Nat, (mid : Int) = ((a : Int) + (b : Int)) / 2 := ⟨(a + b) / 2, by omega⟩
        rw [← hmid]
        have hm1 : a < mid := by omega
        have hm2 : mid < b := by omega
        have hm3 : 2 * mid ≤ a + b := by omega
        have hm4 : a + b ≤ 2 * mid + 1 := by omega
        clear hmid
        by_cases hc0 : mid < m
        · skip
          have hc : mid < m := hc0
          have hc' : (m : Int) > (mid : Int) := by omega
          go_upto_region 33 with fail
          obtain ⟨p, hp⟩ : ∃ p : Nat, (p : Int) = (mid : Int) + (m : Int) - 1 := ⟨mid + m - 1, by omega⟩
          rw [← hp]
          have hp1 : p + 1 ≤ mid + m := by omega
          have hp2 : mid + m ≤ p + 1 := by omega
          clear hp
          obtain ⟨s0, hs0⟩ : ∃ s0 : Nat, (s0 : Int) = (mid : Int) + (m : Int) - (b : Int) := ⟨mid + m - b, by omega⟩
          rw [← hs0]
          have hs1 : s0 + b ≤ mid + m := by omega
          have hs2 : mid + m ≤ s0 + b := by omega
          clear hs0
          go_loopw [20, 21] (fun i j wr => ∃ k : Nat, i = .int .i64 k ∧ j = .int .i64 mid ∧ s0 ≤ k ∧ k ≤ mid ∧ Aside0 (Below w.heap.size w wr)) (fun i _ _ => mid - (intOf i).toNat)
          case atStart => exact ⟨s0, rfl, rfl, Nat.le_refl _, by omega, HB0⟩
          case round =>
            clear HB0
            obtain ⟨k, rfl, rfl, hak, hkm, HB⟩ := hrel
            by_cases hlt : k < mid
            · have hlt' : (k : Int) < (mid : Int) := by omega
              go_upto_region 35 with fail
              obtain ⟨h, hh⟩ : ∃ h : Nat, (h : Int) = ((k : Int) + (mid : Int)) / 2 := ⟨(k + mid) / 2, by omega⟩
              rw [← hh]
              have hh1 : k ≤ h := by omega
              have hh2 : h < mid := by omega
              obtain ⟨q, hq⟩ : ∃ q : Nat, (q : Int) = (p : Int) - (h : Int) := ⟨p - h, by omega⟩
              clear hh
              have hqh : h < q := by omega
              have hqb : q < b := by omega
              have HQ := Aside0.mk hq
              clear hq
              have hord := api_Meta_26.okP_at HS.out h q (by omega) (by have := HLEN.out; omega)
              obtain ⟨od, hod⟩ : ∃ od, od = version_Right.ord (rd_T35 l ((p : Int) - (h : Int))) (rd_T35 l ((h : Nat) : Int)) := ⟨_, rfl⟩
              rw [HQ.out, ← hod] at hord
              have HOD := Aside0.mk hod
              clear hod
              refine api_Meta_26.quiet_ (C := fun x => Below w.heap.size w x) (by kernel_rfl) (by kernel_rfl) (below_drew1 HB.out) ?_
              repeat (first | go_big_quiet_skip | (go_big_quiet_want; go_big_quiet_op; first | go_big_quiet_on | (refine ⟨_, fun _ _ => rfl, ?_⟩; go_big_quiet_on)))
              go_big_quiet_want
              go_big_quiet_op
              refine ⟨.agg #[.int .i64 (rd_T35 l ((p : Int) - (h : Int))).f0, .int .i64 (rd_T35 l ((p : Int) - (h : Int))).f1, .string (rd_T35 l ((p : Int) - (h : Int))).f2, .string (rd_T35 l ((p : Int) - (h : Int))).f3, .int .i64 (rd_T35 l ((p : Int) - (h : Int))).f4], fun w' hC => ?_, ?_⟩
              · obtain ⟨ad', e, x0, x1, x2, x3, x4⟩ := at_T35 (Kd.C_below HR.out hC) ((p : Int) - (h : Int)) (by omega) (by omega)
                injection e with e
                subst e
                rw [show ((p : Int) - (h : Int)).toNat = p - h by omega] at x0 x1 x2 x3 x4
                go_simp
              go_big_quiet_on
              repeat (first | go_big_quiet_skip | (go_big_quiet_want; go_big_quiet_op; first | go_big_quiet_on | (refine ⟨_, fun _ _ => rfl, ?_⟩; go_big_quiet_on)))
              go_big_quiet_want
              go_big_quiet_op
              refine ⟨.agg #[.int .i64 (rd_T35 l (h : Int)).f0, .int .i64 (rd_T35 l (h : Int)).f1, .string (rd_T35 l (h : Int)).f2, .string (rd_T35 l (h : Int)).f3, .int .i64 (rd_T35 l (h : Int)).f4], fun w' hC => ?_, ?_⟩
              · obtain ⟨ad', e, x0, x1, x2, x3, x4⟩ := at_T35 (Kd.C_below HR.out hC) (h : Int) (by omega) (by omega)
                injection e with e
                subst e
                rw [Int.toNat_natCast] at x0 x1 x2 x3 x4
                go_simp
              go_big_quiet_on
              repeat (first | go_big_quiet_skip | (go_big_quiet_want; go_big_quiet_op; first | go_big_quiet_on | (refine ⟨_, fun _ _ => rfl, ?_⟩; go_big_quiet_on) | go_big_quiet_call (first | (intro hC_; go_at_call 27; exact (api_Meta_26.cmp_ _ _ _).mono fun e w' h => ⟨by rw [h.1, ← HOD.out], below_step hC_ h.2⟩))))
              refine wpQuiet_nil ?_
              intro w9 hw9
              have HB9 := Aside0.mk hw9
              clear hw9
              have hdec : decide (od < 0) = false := decide_eq_false (by omega)
              have hdec2 : (!decide (od < 0)) = true := by rw [hdec]; rfl
              have hdec3 : decide (0 ≤ od) = true := decide_eq_true hord
              go_wp2_with fail
              all_goals first | exact ⟨⟨h + 1, by go_num, rfl, by omega, by omega, HB9⟩, by simp only [intOf]; omega⟩ | (exfalso; rename_i hx_; rw [hdec2] at hx_; cases hx_)
            · obtain rfl : k = mid := by omega
              have e1 : (k : Int) + (m : Int) - (k : Int) = (m : Int) := by omega
              have q1 : (k : Int) < (m : Int) := by omega
              have q2 : (m : Int) < (b : Int) := by omega
              have q3 : (a : Int) < (k : Int) := by omega
              go_wp2_with fail
              refine (HIH.out k m b wr (Kd.C_below HR.out HB.out) (by omega) (by omega) (by omega) hbn).mono ?_
              rintro e w5 ⟨rfl, hb5⟩
              have HB5 := Aside0.mk (below_step HB.out hb5)
              clear hb5
              go_wp2_with fail
              (first | go_end0 | ((try simp only [Exit.inBlock, Exit.then]); refine bodyPost_ret (results_none rfl _ _ _) rfl ?_))
              exact ⟨rfl, HB5.out⟩
        · skip
          have hc : ¬ mid < m := hc0
          have hc' : ¬ (m : Int) > (mid : Int) := by omega
          go_upto_region 33 with fail
          obtain ⟨p, hp⟩ : ∃ p : Nat, (p : Int) = (mid : Int) + (m : Int) - 1 := ⟨mid + m - 1, by omega⟩
          rw [← hp]
          have hp1 : p + 1 ≤ mid + m := by omega
          have hp2 : mid + m ≤ p + 1 := by omega
          clear hp
          obtain ⟨s0, hs0⟩ : ∃ s0 : Nat, s0 = a := ⟨_, rfl⟩
          go_loopw [20, 21] (fun i j wr => ∃ k : Nat, i = .int .i64 k ∧ j = .int .i64 m ∧ a ≤ k ∧ k ≤ m ∧ Aside0 (Below w.heap.size w wr)) (fun i _ _ => m - (intOf i).toNat)
          case atStart => exact ⟨a, rfl, rfl, Nat.le_refl _, by omega, HB0⟩
          case round =>
            clear HB0
            obtain ⟨k, rfl, rfl, hak, hkm, HB⟩ := hrel
            by_cases hlt : k < m
            · have hlt' : (k : Int) < (m : Int) := by omega
              go_upto_region 35 with fail
              obtain ⟨h, hh⟩ : ∃ h : Nat, (h : Int) = ((k : Int) + (m : Int)) / 2 := ⟨(k + m) / 2, by omega⟩
              rw [← hh]
              have hh1 : k ≤ h := by omega
              have hh2 : h < m := by omega
              obtain ⟨q, hq⟩ : ∃ q : Nat, (q : Int) = (p : Int) - (h : Int) := ⟨p - h, by omega⟩
              clear hh
              have hqh : h < q := by omega
              have hqb : q < b := by omega
              have HQ := Aside0.mk hq
              clear hq
              have hord := api_Meta_26.okP_at HS.out h q (by omega) (by have := HLEN.out; omega)
              obtain ⟨od, hod⟩ : ∃ od, od = version_Right.ord (rd_T35 l ((p : Int) - (h : Int))) (rd_T35 l ((h : Nat) : Int)) := ⟨_, rfl⟩
              rw [HQ.out, ← hod] at hord
              have HOD := Aside0.mk hod
              clear hod
              refine api_Meta_26.quiet_ (C := fun x => Below w.heap.size w x) (by kernel_rfl) (by kernel_rfl) (below_drew1 HB.out) ?_
              repeat (first | go_big_quiet_skip | (go_big_quiet_want; go_big_quiet_op; first | go_big_quiet_on | (refine ⟨_, fun _ _ => rfl, ?_⟩; go_big_quiet_on)))
              go_big_quiet_want
              go_big_quiet_op
              refine ⟨.agg #[.int .i64 (rd_T35 l ((p : Int) - (h : Int))).f0, .int .i64 (rd_T35 l ((p : Int) - (h : Int))).f1, .string (rd_T35 l ((p : Int) - (h : Int))).f2, .string (rd_T35 l ((p : Int) - (h : Int))).f3, .int .i64 (rd_T35 l ((p : Int) - (h : Int))).f4], fun w' hC => ?_, ?_⟩
              · obtain ⟨ad', e, x0, x1, x2, x3, x4⟩ := at_T35 (Kd.C_below HR.out hC) ((p : Int) - (h : Int)) (by omega) (by omega)
                injection e with e
                subst e
                rw [show ((p : Int) - (h : Int)).toNat = p - h by omega] at x0 x1 x2 x3 x4
                go_simp
              go_big_quiet_on
              repeat (first | go_big_quiet_skip | (go_big_quiet_want; go_big_quiet_op; first | go_big_quiet_on | (refine ⟨_, fun _ _ => rfl, ?_⟩; go_big_quiet_on)))
              go_big_quiet_want
              go_big_quiet_op
              refine ⟨.agg #[.int .i64 (rd_T35 l (h : Int)).f0, .int .i64 (rd_T35 l (h : Int)).f1, .string (rd_T35 l (h : Int)).f2, .string (rd_T35 l (h : Int)).f3, .int .i64 (rd_T35 l (h : Int)).f4], fun w' hC => ?_, ?_⟩
              · obtain ⟨ad', e, x0, x1, x2, x3, x4⟩ := at_T35 (Kd.C_below HR.out hC) (h : Int) (by omega) (by omega)
                injection e with e
                subst e
                rw [Int.toNat_natCast] at x0 x1 x2 x3 x4
                go_simp
              go_big_quiet_on
              repeat (first | go_big_quiet_skip | (go_big_quiet_want; go_big_quiet_op; first | go_big_quiet_on | (refine ⟨_, fun _ _ => rfl, ?_⟩; go_big_quiet_on) | go_big_quiet_call (first | (intro hC_; go_at_call 27; exact (api_Meta_26.cmp_ _ _ _).mono fun e w' h => ⟨by rw [h.1, ← HOD.out], below_step hC_ h.2⟩))))
              refine wpQuiet_nil ?_
              intro w9 hw9
              have HB9 := Aside0.mk hw9
              clear hw9
              have hdec : decide (od < 0) = false := decide_eq_false (by omega)
              have hdec2 : (!decide (od < 0)) = true := by rw [hdec]; rfl
              have hdec3 : decide (0 ≤ od) = true := decide_eq_true hord
              go_wp2_with fail
              all_goals first | exact ⟨⟨h + 1, by go_num, rfl, by omega, by omega, HB9⟩, by simp only [intOf]; omega⟩ | (exfalso; rename_i hx_; rw [hdec2] at hx_; cases hx_)
            · obtain rfl : k = m := by omega
              have e1 : (mid : Int) + (k : Int) - (k : Int) = (mid : Int) := by omega
              by_cases hmm : k < mid
              · have q1 : (k : Int) < (mid : Int) := by omega
                have q3 : (a : Int) < (k : Int) := by omega
                go_wp2_with fail
                refine (HIH.out a k mid wr (Kd.C_below HR.out HB.out) (by omega) (by omega) (by omega) (by omega)).mono ?_
                rintro e w5 ⟨rfl, hb5⟩
                have HB5 := Aside0.mk (below_step HB.out hb5)
                clear hb5
                go_wp2_with fail
                (first | go_end0 | ((try simp only [Exit.inBlock, Exit.then]); refine bodyPost_ret (results_none rfl _ _ _) rfl ?_))
                exact ⟨rfl, HB5.out⟩
              · obtain rfl : k = mid := by omega
                have q3 : (a : Int) < (k : Int) := by omega
                go_wp2_with fail
                (first | go_end0 | ((try simp only [Exit.inBlock, Exit.then]); refine bodyPost_ret (results_none rfl _ _ _) rfl ?_))
                exact ⟨rfl, HB.out⟩
theorem api_Meta_26.okP_okL {l : List S35} (h : api_Meta_26.okP l = true) : api_Meta_26.okL l = true := by
  unfold api_Meta_26.okL
  rw [List.all_eq_true]
  intro j hj
  have hj' := List.mem_range.1 hj
  by_cases h0 : j = 0
  · subst h0; rfl
  · have := api_Meta_26.okP_at h (j - 1) j (by omega) hj'
    rw [show ((j - 1 : Nat) : Int) = (j : Int) - 1 by omega] at this
    rw [decide_eq_true this, Bool.or_true]
set_option maxHeartbeats 4000000 in
set_option maxRecDepth 100000 in
/-- What stands in its order stays. -/
theorem api_Meta_26.stable_ (A : Option Addr) (n c : Nat) (l : List S35) (w : World) (hr : Kd.C k35 w A n l) (hs : api_Meta_26.okP l = true) (hn : n < 1000000) :
    Calls Try.prog 63 #[.slice A n c, .int .i64 n, .func (.func 27) #[] #[]] w fun e w' => e = .returned (.tuple #[]) ∧ Below w.heap.size w w' := by
  have HI := Lib.hid (fun a b W h1 h2 h3 => api_Meta_26.ins_ A n c l a b W h1 (api_Meta_26.okP_okL hs) h2 h3 (by omega))
  have HM := Lib.hid (api_Meta_26.sym_ A n c l hs (by omega))
  have HR := Aside0.mk hr
  have HB0 := Aside0.mk (Below.refl w.heap.size w)
  clear hr hs
  go_enter Try.func63, Try.ntmps63
  go_wp2_with fail
  go_loopw [7, 8] (fun a b wr => ∃ k : Nat, a = .int .i64 k ∧ b = .int .i64 ((k : Int) + 20) ∧ k ≤ n ∧ Aside0 (Below w.heap.size w wr)) (fun a _ _ => n - (intOf a).toNat)
  case atStart => exact ⟨0, rfl, rfl, Nat.zero_le _, HB0⟩
  case round =>
    clear HB0
    obtain ⟨k, rfl, rfl, hk, HB⟩ := hrel
    by_cases hlt : k + 20 ≤ n
    · have hlt' : (k : Int) + 20 ≤ (n : Int) := by omega
      obtain ⟨k2, hk2⟩ : ∃ k2 : Nat, (k2 : Int) = (k : Int) + 20 := ⟨k + 20, by omega⟩
      have hk3 : k2 ≤ n := by omega
      have hk4 : k < k2 := by omega
      rw [← hk2] at hlt' ⊢
      clear hk2
      go_wp2_with fail
      refine (HI.out k k2 wr (Kd.C_below HR.out HB.out) hk3 (by omega)).mono ?_
      rintro e w5 ⟨rfl, hb5⟩
      have HB5 := Aside0.mk (below_step HB.out hb5)
      clear hb5
      go_wp2_with fail
      exact ⟨⟨k2, rfl, by go_num, hk3, HB5⟩, by simp only [intOf]; omega⟩
    · have hlt' : ¬ (k : Int) + 20 ≤ (n : Int) := by omega
      go_wp2_with fail
      refine (HI.out k n wr (Kd.C_below HR.out HB.out) (Nat.le_refl _) hk).mono ?_
      rintro e w5 ⟨rfl, hb5⟩
      have HB5 := Aside0.mk (below_step HB.out hb5)
      clear hb5 HB
      go_wp2_with fail
      go_loopw [6, 7, 8, 9] (fun t _ _ _ wz => ∃ B : Nat, t = .int .i64 B ∧ 0 < B ∧ B ≤ 2 * n + 20 ∧ Aside0 (Below w.heap.size w wz)) (fun t _ _ _ _ => n - (intOf t).toNat)
      case atStart => exact ⟨20, rfl, by omega, by omega, HB5⟩
      case round =>
        clear HB5
        obtain ⟨B, rfl, hB0, hB1, HB⟩ := hrel
        by_cases hBn : B < n
        · have hBn' : (B : Int) < (n : Int) := by omega
          go_wp2_with fail
          go_loopw [7, 8] (fun a b wy => ∃ k : Nat, a = .int .i64 k ∧ b = .int .i64 ((k : Int) + 2 * (B : Int)) ∧ k ≤ n ∧ Aside0 (Below w.heap.size w wy)) (fun a _ _ => n - (intOf a).toNat)
          case atStart => exact ⟨0, rfl, by simp, Nat.zero_le _, HB⟩
          case round =>
            clear HB
            obtain ⟨q, rfl, rfl, hq, HB⟩ := hrel
            by_cases hl2 : q + 2 * B ≤ n
            · have hl2' : (q : Int) + 2 * (B : Int) ≤ (n : Int) := by omega
              obtain ⟨q2, hq2⟩ : ∃ q2 : Nat, (q2 : Int) = (q : Int) + 2 * (B : Int) := ⟨q + 2 * B, by omega⟩
              obtain ⟨q1, hq1⟩ : ∃ q1 : Nat, (q1 : Int) = (q : Int) + (B : Int) := ⟨q + B, by omega⟩
              have g1 : q < q1 := by omega
              have g2 : q1 < q2 := by omega
              have g3 : q2 ≤ n := by omega
              rw [← hq2] at hl2' ⊢
              have HQ := Aside0.mk hq1
              clear hq2 hq1
              go_wp2_with fail
              rw [← HQ.out]
              refine (HM.out (q2 - q) q q1 q2 _ (Kd.C_below HR.out HB.out) (Nat.le_refl _) g1 g2 g3).mono ?_
              rintro e w5 ⟨rfl, hb5⟩
              have HB5 := Aside0.mk (below_step HB.out hb5)
              clear hb5
              go_wp2_with fail
              exact ⟨⟨q2, rfl, by go_num, g3, HB5⟩, by simp only [intOf]; omega⟩
            · have hl2' : ¬ (q : Int) + 2 * (B : Int) ≤ (n : Int) := by omega
              by_cases hm : q + B < n
              · have hm' : (q : Int) + (B : Int) < (n : Int) := by omega
                obtain ⟨q1, hq1⟩ : ∃ q1 : Nat, (q1 : Int) = (q : Int) + (B : Int) := ⟨q + B, by omega⟩
                have g1 : q < q1 := by omega
                have g2 : q1 < n := by omega
                have HQ := Aside0.mk hq1
                clear hq1
                go_wp2_with fail
                rw [← HQ.out]
                refine (HM.out (n - q) q q1 n _ (Kd.C_below HR.out HB.out) (Nat.le_refl _) g1 g2 (Nat.le_refl _)).mono ?_
                rintro e w5 ⟨rfl, hb5⟩
                have HB5 := Aside0.mk (below_step HB.out hb5)
                clear hb5
                go_wp2_with fail
                exact ⟨⟨2 * B, by go_num, by omega, by omega, HB5⟩, by simp only [intOf]; omega⟩
              · have hm' : ¬ (q : Int) + (B : Int) < (n : Int) := by omega
                go_wp2_with fail
                exact ⟨⟨2 * B, by go_num, by omega, by omega, HB⟩, by simp only [intOf]; omega⟩
        · have hBn' : ¬ (B : Int) < (n : Int) := by omega
          go_wp2_with fail
          (first | go_end0 | ((try simp only [Exit.inBlock, Exit.then]); refine bodyPost_ret (results_none rfl _ _ _) rfl ?_))
          exact ⟨rfl, HB.out⟩
/-- The sort of what stands in its order. -/
theorem api_Meta_26.sort_ (A : Option Addr) (n c : Nat) (l : List S35) (w : World) (hr : Kd.C k35 w A n l) (hs : api_Meta_26.okP l = true) (hn : n < 1000000) :
    Calls Try.prog 26 #[.slice A n c, .func (.func 27) #[] #[]] w fun e w' => e = .returned (.tuple #[]) ∧ Below w.heap.size w w' := by
  have HI := Lib.hid (api_Meta_26.stable_ A n c l w hr hs hn)
  clear hr hs
  go_enter Try.func26, Try.ntmps26
  go_wp2_with (go_at_call 63; refine HI.out.mono ?_; rintro e w1 ⟨rfl, hb⟩; have HB := Aside0.mk hb; clear hb)
  go_end0
  exact ⟨rfl, HB.out⟩
def api_Meta_26.f (l0 : List S35) : Option Unit := if l0.length < 1000000 ∧ api_Meta_26.okP l0 = true then some () else none
theorem api_Meta_26.calls (A0 : Option Addr) (c0 : Nat) (l0 : List S35) {r : Unit} (w : World) (hr0 : Kd.C k35 w A0 l0.length l0) (hc0 : l0.length ≤ c0) (h : api_Meta_26.f l0 = some r) :
    Calls Try.prog 26 #[.slice A0 l0.length c0, .func (.func 27) #[] #[]] w fun e w' => e = .returned (.tuple #[]) ∧ Below w.heap.size w w' := by
  obtain ⟨h0, h1⟩ : l0.length < 1000000 ∧ api_Meta_26.okP l0 = true := by
    unfold api_Meta_26.f at h
    split at h
    · assumption
    · cases h
  exact api_Meta_26.sort_ A0 l0.length c0 l0 w hr0 h1 h0


end Go.Proofs.Ytokimlfagpddlaa.PD
