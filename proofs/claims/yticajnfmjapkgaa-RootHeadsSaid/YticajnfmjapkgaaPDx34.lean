-- printed by gprint.py (own tool) over the kit's print
import Derived.Test.YticajnfmjapkgaaPDx0
import Derived.Test.YticajnfmjapkgaaPDx31
namespace Go.Proofs.Yticajnfmjapkgaa.PD
open Go.RowKit Go.Proofs.Yticajnfmjapkgaa Go.Proofs.YticajnfmjapkgaaW.PrintWords Go.Proofs.YticajnfmjapkgaaW.PrintLast Go.Proofs.YticajnfmjapkgaaW.PrintMore
attribute [local go_sem] max2_int min2_int max_two min_two max_three min_three max_four min_four   -- for this text's walks alone
set_option linter.unnecessarySimpa false
attribute [local go_sem] min2_str max2_str leq_str gtr_str geq_str
set_option linter.unusedVariables false
set_option linter.unusedSimpArgs false

/-! ### palinoderef06_Head: function 11 -/
/-- What is shown of a region's worlds may grow, once it holds. -/
theorem palinoderef06_Head.more_ {P : Program} {md : Region.Mode} {ops : Array Oper} {Q : Exit → Act → World → Prop} {S S2 : World → Prop} (hs : ∀ w, S2 w → S w) : ∀ (fuel : Nat) (l : Array Bool) (a : Act) (w : World), S2 w → wpAnyLast P md ops Q S2 [] fuel l a w → wpAnyLast P md ops Q S [] fuel l a w
  | 0, _, _, _, _, h => h
  | fuel + 1, _, _, _, h0, h => ⟨h.1, fun i hi => wpOp_mono (fun a' w' h' => ⟨fun _ _ => hs _ (h'.1 (by simp) h0), palinoderef06_Head.more_ hs fuel _ a' w' (h'.1 (by simp) h0) h'.2⟩) (h.2 i hi)⟩
theorem palinoderef06_Head.be_length (k : Nat) (n : Int) : (pack_Num.be k n).length = k := by
  induction k with
  | zero => rfl
  | succ k ih => simp [pack_Num.be, ih]
def palinoderef06_Head.pre (k : Nat) (n : Int) : List Int := (pack_Num.be 7 n).take k
theorem palinoderef06_Head.pre_seven (n : Int) : palinoderef06_Head.pre 7 n = pack_Num.be 7 n := by rfl
theorem palinoderef06_Head.pre_len (k : Nat) (n : Int) : (palinoderef06_Head.pre k n).length ≤ 7 := by
  unfold palinoderef06_Head.pre
  rw [List.length_take, palinoderef06_Head.be_length]
  omega
theorem palinoderef06_Head.cast_ {w : World} {b : Nat} {ok : Nat → Prop} {v : Value} {l l2 : List Int} (e : l = l2) (h : Kd.R (Kd.int .u8) 5 w b ok v l) : Kd.R (Kd.int .u8) 5 w b ok v l2 := e ▸ h
theorem palinoderef06_Head.two_reps (w : World) (b : Nat) (x y : Int) : Reps ((Kd.int .u8).M w b (fun _ => False)) 1 [x, y] [.int .u8 x, .int .u8 y] := by
  refine ⟨rfl, fun j p hp => ?_⟩
  match j, hp with
  | 0, hp => simp at hp; subst hp; rfl
  | 1, hp => simp at hp; subst hp; rfl
def palinoderef06_Head.headR (s z : Int) : List Int := [80, 76] ++ pack_Num.be 7 s ++ [z / 256, z % 256] ++ List.replicate 45 0 ++ pack_Num.be 7 s ++ [69]
def palinoderef06_Head.f (a0 a1 : Int) : Option (ByteArray × Bool) := some (if a0 < 1 ∨ 9007199254740991 < a0 ∨ a1 < 0 ∨ 512 < a1 then (⟨#[]⟩, false) else (strOfNums (palinoderef06_Head.headR a0 a1), true))
theorem palinoderef06_Head.cat_ (a b : List Int) : strOfNums a ++ strOfNums b = strOfNums (a ++ b) := by
  apply ByteArray.ext
  simp [strOfNums, ByteArray.data_append]
theorem palinoderef06_Head.cat6 (s z : Int) : (({ data := #[80, 76] } : ByteArray) ++ strOfNums (palinoderef06_Head.pre 7 s) ++ strOfNums [z / 256, z % 256] ++ strOfNums (List.replicate (Int.toNat 45) 0) ++ strOfNums (palinoderef06_Head.pre 7 s)) ++ { data := #[69] } = strOfNums (palinoderef06_Head.headR s z) := by
  have e1 : ({ data := #[80, 76] } : ByteArray) = strOfNums [80, 76] := by decide
  have e2 : ({ data := #[69] } : ByteArray) = strOfNums [69] := by decide
  rw [e1, e2]
  simp only [palinoderef06_Head.cat_]
  rfl
set_option maxHeartbeats 4000000 in
set_option maxRecDepth 100000 in
theorem palinoderef06_Head.calls (a0 a1 : Int) (r1 : ByteArray) (r2 : Bool) (w : World) (h : palinoderef06_Head.f a0 a1 = some (r1, r2)) :
    Calls Try.prog 11 #[.int .i64 a0, .int .i64 a1] w fun e w' => e = .returned (.tuple #[.string r1, .bool r2]) ∧ Below w.heap.size w w' := by
  have H : (if a0 < 1 ∨ 9007199254740991 < a0 ∨ a1 < 0 ∨ 512 < a1 then ((⟨#[]⟩ : ByteArray), false) else (strOfNums (palinoderef06_Head.headR a0 a1), true)) = (r1, r2) := Option.some.inj h
  clear h
  by_cases c1 : a0 < 1 ∨ 9007199254740991 < a0 ∨ a1 < 0 ∨ 512 < a1
  · rw [if_pos c1] at H
    obtain ⟨rfl, rfl⟩ := Prod.mk.inj H
    clear H
    rcases (by omega : a0 < 1 ∨ (¬ a0 < 1 ∧ 9007199254740991 < a0) ∨ (¬ a0 < 1 ∧ ¬ 9007199254740991 < a0 ∧ a1 < 0) ∨ (¬ a0 < 1 ∧ ¬ 9007199254740991 < a0 ∧ ¬ a1 < 0 ∧ 512 < a1)) with h1 | ⟨h1, h2⟩ | ⟨h1, h2, h3⟩ | ⟨h1, h2, h3, h4⟩
    all_goals
      clear c1
      go_enter Try.func11, Try.ntmps11
      go_wp2
      go_ret2
      exact ⟨rfl, Below.refl _ _⟩
  · rw [if_neg c1] at H
    have g1 : 1 ≤ a0 := by omega
    have g2 : a0 ≤ 9007199254740991 := by omega
    have g3 : 0 ≤ a1 := by omega
    have g4 : a1 ≤ 512 := by omega
    obtain ⟨hr1, hr2⟩ := Prod.mk.inj H
    have HR1 := Aside0.mk hr1
    subst hr2
    clear c1 H hr1
    go_enter Try.func11, Try.ntmps11
    go_wp2
    go_loopw [6, 7] (fun v i wr => ∃ k : Nat, k ≤ 7 ∧ i = .int .i64 (6 - (k : Int)) ∧ Aside0 (Kd.R (Kd.int .u8) 5 wr w.heap.size (fun _ => True) v (palinoderef06_Head.pre k a0)) ∧ Aside0 (Below w.heap.size w wr)) (fun _ i _ => (intOf i + 1).toNat)
    case atStart => exact ⟨0, by omega, rfl, ⟨Kd.R_nil _ _ _ _ (fun _ => True)⟩, ⟨Below.refl _ _⟩⟩
    case round =>
      obtain ⟨k, hk, rfl, HO, HB⟩ := hrel
      have hcases : k = 0 ∨ k = 1 ∨ k = 2 ∨ k = 3 ∨ k = 4 ∨ k = 5 ∨ k = 6 ∨ k = 7 := by omega
      clear hk
      rcases hcases with rfl | rfl | rfl | rfl | rfl | rfl | rfl | rfl
      · go_wp2_with (first | ((with_reducible refine gate_builtin (b := .append) (xs := #[.tmp 26, .tmp 32]) rfl ?_); at_builtin; refine Kd.R_append (Kd.int .u8) (w0 := w) w.heap.size rfl (.tmp 26) (.tmp 32) 35 5 (.int .u8 0) 1 rfl Try.underlying35 info5 rfl (by decide) (by omega) _ _ _ [.int .u8 _] (fun _ => True) (fun _ => False) rfl rfl rfl (fun _ hk => hk.elim) (fun _ _ => trivial) HO.out HB.out HB.out.size (by have := palinoderef06_Head.pre_len 0 a0; omega) ?_; intro v1 w4 ho hb hg hat; clear HO HB; have HO := Aside0.mk ho; have HB := Aside0.mk hb; clear ho hb hg hat))
        exact ⟨⟨1, by omega, by simp, ⟨palinoderef06_Head.cast_ (by simp [palinoderef06_Head.pre, pack_Num.be] <;> omega) HO.out⟩, HB⟩, by simp [intOf]⟩
      · go_wp2_with (first | ((with_reducible refine gate_builtin (b := .append) (xs := #[.tmp 26, .tmp 32]) rfl ?_); at_builtin; refine Kd.R_append (Kd.int .u8) (w0 := w) w.heap.size rfl (.tmp 26) (.tmp 32) 35 5 (.int .u8 0) 1 rfl Try.underlying35 info5 rfl (by decide) (by omega) _ _ _ [.int .u8 _] (fun _ => True) (fun _ => False) rfl rfl rfl (fun _ hk => hk.elim) (fun _ _ => trivial) HO.out HB.out HB.out.size (by have := palinoderef06_Head.pre_len 1 a0; omega) ?_; intro v1 w4 ho hb hg hat; clear HO HB; have HO := Aside0.mk ho; have HB := Aside0.mk hb; clear ho hb hg hat))
        exact ⟨⟨2, by omega, by simp, ⟨palinoderef06_Head.cast_ (by simp [palinoderef06_Head.pre, pack_Num.be] <;> omega) HO.out⟩, HB⟩, by simp [intOf]⟩
      · go_wp2_with (first | ((with_reducible refine gate_builtin (b := .append) (xs := #[.tmp 26, .tmp 32]) rfl ?_); at_builtin; refine Kd.R_append (Kd.int .u8) (w0 := w) w.heap.size rfl (.tmp 26) (.tmp 32) 35 5 (.int .u8 0) 1 rfl Try.underlying35 info5 rfl (by decide) (by omega) _ _ _ [.int .u8 _] (fun _ => True) (fun _ => False) rfl rfl rfl (fun _ hk => hk.elim) (fun _ _ => trivial) HO.out HB.out HB.out.size (by have := palinoderef06_Head.pre_len 2 a0; omega) ?_; intro v1 w4 ho hb hg hat; clear HO HB; have HO := Aside0.mk ho; have HB := Aside0.mk hb; clear ho hb hg hat))
        exact ⟨⟨3, by omega, by simp, ⟨palinoderef06_Head.cast_ (by simp [palinoderef06_Head.pre, pack_Num.be] <;> omega) HO.out⟩, HB⟩, by simp [intOf]⟩
      · go_wp2_with (first | ((with_reducible refine gate_builtin (b := .append) (xs := #[.tmp 26, .tmp 32]) rfl ?_); at_builtin; refine Kd.R_append (Kd.int .u8) (w0 := w) w.heap.size rfl (.tmp 26) (.tmp 32) 35 5 (.int .u8 0) 1 rfl Try.underlying35 info5 rfl (by decide) (by omega) _ _ _ [.int .u8 _] (fun _ => True) (fun _ => False) rfl rfl rfl (fun _ hk => hk.elim) (fun _ _ => trivial) HO.out HB.out HB.out.size (by have := palinoderef06_Head.pre_len 3 a0; omega) ?_; intro v1 w4 ho hb hg hat; clear HO HB; have HO := Aside0.mk ho; have HB := Aside0.mk hb; clear ho hb hg hat))
        exact ⟨⟨4, by omega, by simp, ⟨palinoderef06_Head.cast_ (by simp [palinoderef06_Head.pre, pack_Num.be] <;> omega) HO.out⟩, HB⟩, by simp [intOf]⟩
      · go_wp2_with (first | ((with_reducible refine gate_builtin (b := .append) (xs := #[.tmp 26, .tmp 32]) rfl ?_); at_builtin; refine Kd.R_append (Kd.int .u8) (w0 := w) w.heap.size rfl (.tmp 26) (.tmp 32) 35 5 (.int .u8 0) 1 rfl Try.underlying35 info5 rfl (by decide) (by omega) _ _ _ [.int .u8 _] (fun _ => True) (fun _ => False) rfl rfl rfl (fun _ hk => hk.elim) (fun _ _ => trivial) HO.out HB.out HB.out.size (by have := palinoderef06_Head.pre_len 4 a0; omega) ?_; intro v1 w4 ho hb hg hat; clear HO HB; have HO := Aside0.mk ho; have HB := Aside0.mk hb; clear ho hb hg hat))
        exact ⟨⟨5, by omega, by simp, ⟨palinoderef06_Head.cast_ (by simp [palinoderef06_Head.pre, pack_Num.be] <;> omega) HO.out⟩, HB⟩, by simp [intOf]⟩
      · go_wp2_with (first | ((with_reducible refine gate_builtin (b := .append) (xs := #[.tmp 26, .tmp 32]) rfl ?_); at_builtin; refine Kd.R_append (Kd.int .u8) (w0 := w) w.heap.size rfl (.tmp 26) (.tmp 32) 35 5 (.int .u8 0) 1 rfl Try.underlying35 info5 rfl (by decide) (by omega) _ _ _ [.int .u8 _] (fun _ => True) (fun _ => False) rfl rfl rfl (fun _ hk => hk.elim) (fun _ _ => trivial) HO.out HB.out HB.out.size (by have := palinoderef06_Head.pre_len 5 a0; omega) ?_; intro v1 w4 ho hb hg hat; clear HO HB; have HO := Aside0.mk ho; have HB := Aside0.mk hb; clear ho hb hg hat))
        exact ⟨⟨6, by omega, by simp, ⟨palinoderef06_Head.cast_ (by simp [palinoderef06_Head.pre, pack_Num.be] <;> omega) HO.out⟩, HB⟩, by simp [intOf]⟩
      · go_wp2_with (first | ((with_reducible refine gate_builtin (b := .append) (xs := #[.tmp 26, .tmp 32]) rfl ?_); at_builtin; refine Kd.R_append (Kd.int .u8) (w0 := w) w.heap.size rfl (.tmp 26) (.tmp 32) 35 5 (.int .u8 0) 1 rfl Try.underlying35 info5 rfl (by decide) (by omega) _ _ _ [.int .u8 _] (fun _ => True) (fun _ => False) rfl rfl rfl (fun _ hk => hk.elim) (fun _ _ => trivial) HO.out HB.out HB.out.size (by have := palinoderef06_Head.pre_len 6 a0; omega) ?_; intro v1 w4 ho hb hg hat; clear HO HB; have HO := Aside0.mk ho; have HB := Aside0.mk hb; clear ho hb hg hat))
        exact ⟨⟨7, by omega, by simp, ⟨palinoderef06_Head.cast_ (by simp [palinoderef06_Head.pre, pack_Num.be] <;> omega) HO.out⟩, HB⟩, by simp [intOf]⟩
      · go_upto_region 8 with (fail)
        refine start_ (n := 21) (S := fun w' => Kd.R (Kd.int .u8) 5 w' w.heap.size (fun _ => True) u6 (palinoderef06_Head.pre 7 a0) ∧ Below w.heap.size w w') (ds := []) #[false, false, false, false, false, false, false, false, false, false, false, false, false, false, false, false, false, false, false, false, false] (by kernel_rfl) rfl rfl ⟨Kd.R_drew HO.out, below_drew HB.out⟩ (fun hHeld => ?_)
        generalize wr.drew = w1 at hHeld ⊢
        clear HO HB
        refine pure_ (i := 0) (N := some 34) (v := ?_) (a' := ?_) #[true, false, false, false, false, false, false, false, false, false, false, false, false, false, false, false, false, false, false, false, false] rfl rfl (by kernel_rfl) (fun _ _ _ h => h) (Or.inl ⟨by rfl, ?_⟩) ?_ ?_
        rotate_left
        · intro w'
          go_simp
          with_reducible rfl
        rotate_left
        · simp only [Act.put, List.setIfInBounds_toArray, List.set_cons_zero, List.set_cons_succ, i64_w, i32_w]
          rfl
        refine pure_ (i := 3) (N := some 37) (v := ?_) (a' := ?_) #[true, false, false, true, false, false, false, false, false, false, false, false, false, false, false, false, false, false, false, false, false] rfl rfl (by kernel_rfl) (fun _ _ _ h => h) (Or.inl ⟨by rfl, ?_⟩) ?_ ?_
        rotate_left
        · intro w'
          go_simp
          with_reducible rfl
        rotate_left
        · simp only [Act.put, List.setIfInBounds_toArray, List.set_cons_zero, List.set_cons_succ, i64_w, i32_w]
          rfl
        refine pure_ (i := 4) (N := some 38) (v := ?_) (a' := ?_) #[true, false, false, true, true, false, false, false, false, false, false, false, false, false, false, false, false, false, false, false, false] rfl rfl (by kernel_rfl) (fun _ _ _ h => h) (Or.inl ⟨by rfl, ?_⟩) ?_ ?_
        rotate_left
        · intro w'
          go_simp
          with_reducible rfl
        rotate_left
        · simp only [Act.put, List.setIfInBounds_toArray, List.set_cons_zero, List.set_cons_succ, i64_w, i32_w]
          rfl
        refine pure_ (i := 5) (N := some 39) (v := ?_) (a' := ?_) #[true, false, false, true, true, true, false, false, false, false, false, false, false, false, false, false, false, false, false, false, false] rfl rfl (by kernel_rfl) (fun _ _ _ h => h) (Or.inl ⟨by rfl, ?_⟩) ?_ ?_
        rotate_left
        · intro w'
          go_simp
          with_reducible rfl
        rotate_left
        · simp only [Act.put, List.setIfInBounds_toArray, List.set_cons_zero, List.set_cons_succ, i64_w, i32_w]
          rfl
        refine pure_ (i := 6) (N := some 40) (v := ?_) (a' := ?_) #[true, false, false, true, true, true, true, false, false, false, false, false, false, false, false, false, false, false, false, false, false] rfl rfl (by kernel_rfl) (fun _ _ _ h => h) (Or.inl ⟨by rfl, ?_⟩) ?_ ?_
        rotate_left
        · intro w'
          go_simp
          with_reducible rfl
        rotate_left
        · simp only [Act.put, List.setIfInBounds_toArray, List.set_cons_zero, List.set_cons_succ, i64_w, i32_w]
          rfl
        refine pure_ (i := 7) (N := some 41) (v := ?_) (a' := ?_) #[true, false, false, true, true, true, true, true, false, false, false, false, false, false, false, false, false, false, false, false, false] rfl rfl (by kernel_rfl) (fun _ _ _ h => h) (Or.inl ⟨by rfl, ?_⟩) ?_ ?_
        rotate_left
        · intro w'
          go_simp
          with_reducible rfl
        rotate_left
        · simp only [Act.put, List.setIfInBounds_toArray, List.set_cons_zero, List.set_cons_succ, i64_w, i32_w]
          rfl
        refine pure_ (i := 8) (N := some 42) (v := ?_) (a' := ?_) #[true, false, false, true, true, true, true, true, true, false, false, false, false, false, false, false, false, false, false, false, false] rfl rfl (by kernel_rfl) (fun _ _ _ h => h) (Or.inl ⟨by rfl, ?_⟩) ?_ ?_
        rotate_left
        · intro w'
          go_simp
          with_reducible rfl
        rotate_left
        · simp only [Act.put, List.setIfInBounds_toArray, List.set_cons_zero, List.set_cons_succ, i64_w, i32_w]
          rfl
        refine pure_ (i := 15) (N := some 49) (v := ?_) (a' := ?_) #[true, false, false, true, true, true, true, true, true, false, false, false, false, false, false, true, false, false, false, false, false] rfl rfl (by kernel_rfl) (fun _ _ _ h => h) (Or.inl ⟨by rfl, ?_⟩) ?_ ?_
        rotate_left
        · intro w'
          go_simp
          with_reducible rfl
        rotate_left
        · simp only [Act.put, List.setIfInBounds_toArray, List.set_cons_zero, List.set_cons_succ, i64_w, i32_w]
          rfl
        refine take_ (i := 1) (N := some 35) (v := ?_) (a' := ?_) #[true, true, false, true, true, true, true, true, true, false, false, false, false, false, false, true, false, false, false, false, false] rfl rfl (by kernel_rfl) (fun _ _ _ h => h) (Or.inl ⟨by rfl, ?_⟩) hHeld ?_ ?_
        rotate_left
        · rintro w' ⟨s0, s1⟩
          have hcv := own_string (P := Try.prog) Try.underlying35 Try.underlying5 Try.underlying9 (Kd.own_of_R s0)
          go_simp
          with_reducible rfl
        rotate_left
        · simp only [Act.put, List.setIfInBounds_toArray, List.set_cons_zero, List.set_cons_succ, i64_w, i32_w]
          rfl
        refine take_ (i := 16) (N := some 50) (v := ?_) (a' := ?_) #[true, true, false, true, true, true, true, true, true, false, false, false, false, false, false, true, true, false, false, false, false] rfl rfl (by kernel_rfl) (fun _ _ _ h => h) (Or.inl ⟨by rfl, ?_⟩) hHeld ?_ ?_
        rotate_left
        · rintro w' ⟨s0, s1⟩
          have hcv := own_string (P := Try.prog) Try.underlying35 Try.underlying5 Try.underlying9 (Kd.own_of_R s0)
          go_simp
          with_reducible rfl
        rotate_left
        · simp only [Act.put, List.setIfInBounds_toArray, List.set_cons_zero, List.set_cons_succ, i64_w, i32_w]
          rfl
        have e1 : IntKind.u8.wrap (wrap64 (a1.tdiv 256)) = a1 / 256 := by rw [Int.tdiv_eq_ediv_of_nonneg g3]; simp [IntKind.wrap, IntKind.bits, IntKind.signed, wrap64]; omega
        have e2 : IntKind.u8.wrap (a1.tmod 256) = a1 % 256 := by rw [Int.tmod_eq_emod_of_nonneg g3]; simp [IntKind.wrap, IntKind.bits, IntKind.signed]
        rw [e1, e2]
        clear e1 e2
        have hz7 : (strOfNums (palinoderef06_Head.pre 7 a0)).size = 7 := by rw [strOfNums_size, palinoderef06_Head.pre_seven, palinoderef06_Head.be_length]
        have hp0 : 0 ≤ a1 / 256 ∧ a1 / 256 < 256 := by omega
        have hp1 : 0 ≤ a1 % 256 ∧ a1 % 256 < 256 := by omega
        obtain ⟨p0, HP0⟩ : ∃ p0, Aside0 (p0 = a1 / 256) := ⟨_, ⟨rfl⟩⟩
        rw [← HP0.out] at hp0 ⊢
        obtain ⟨p1, HP1⟩ : ∃ p1, Aside0 (p1 = a1 % 256) := ⟨_, ⟨rfl⟩⟩
        rw [← HP1.out] at hp1 ⊢
        refine pure_ (i := 2) (N := some 36) (v := ?_) (a' := ?_) #[true, true, true, true, true, true, true, true, true, false, false, false, false, false, false, true, true, false, false, false, false] rfl rfl (by kernel_rfl) (fun _ _ _ h => h) (Or.inl ⟨by rfl, ?_⟩) ?_ ?_
        rotate_left
        · intro w'
          go_simp
          with_reducible rfl
        rotate_left
        · simp only [Act.put, List.setIfInBounds_toArray, List.set_cons_zero, List.set_cons_succ, i64_w, i32_w]
          rfl
        have hz36 : (({ data := #[80, 76] } : ByteArray) ++ strOfNums (palinoderef06_Head.pre 7 a0)).size = 9 := by rw [ByteArray.size_append, hz7]; rfl
        generalize h36 : ({ data := #[80, 76] } : ByteArray) ++ strOfNums (palinoderef06_Head.pre 7 a0) = b36 at hz36 ⊢
        obtain ⟨z45, hr45⟩ : ∃ z : List Int, Aside0 (z = List.replicate (Int.toNat 45) 0) := ⟨_, ⟨rfl⟩⟩
        refine two_ (i := 9) (j := 12) (Ni := some 43) (Nj := some 46) #[true, true, true, true, true, true, true, true, true, true, false, false, false, false, false, true, true, false, false, false, false] #[true, true, true, true, true, true, true, true, true, false, false, false, true, false, false, true, true, false, false, false, false] rfl rfl rfl rfl (by kernel_rfl) (by decide) (by decide) (fun K hK => ?_) (fun K hK => ?_)
        · skip
          refine Kd.R_lit_step (Kd.int .u8) (w0 := w1) w1.heap.size 5 ?hg (N := 43) ?hd (xs := [p0, p1]) (inner := [.int .u8 p0, .int .u8 p1]) (ok := fun _ => True) (okp := fun _ => False) ?hr ?hp (fun _ hk => hk.elim) trivial (Below.refl _ _) (Nat.le_refl _) (by simp) ?_
          case hd => rfl
          case hg => rfl
          case hr => first | (go_simp; done) | (go_simp; rfl)
          case hp => exact palinoderef06_Head.two_reps _ _ _ _
          intro v43 w2 ho hb hg hat
          refine hK.out _ _ ⟨Kd.R_below hHeld.1 hb, below_step hHeld.2 hb⟩ (fun hHeld2 => ?_)
          refine norm_ (a' := ?_) ?_ ?_
          rotate_left
          · show Act.put _ (some 43) _ = _
            simp only [Act.put, List.setIfInBounds_toArray, List.set_cons_zero, List.set_cons_succ, i64_w, i32_w]
            rfl
          refine palinoderef06_Head.more_ (S2 := fun w' => (Kd.R (Kd.int .u8) 5 w' w.heap.size (fun _ => True) u6 (palinoderef06_Head.pre 7 a0) ∧ Below w.heap.size w w') ∧ Kd.R (Kd.int .u8) 5 w' w1.heap.size (fun _ => True) v43 [p0, p1]) (fun _ h => h.1) _ _ _ _ ⟨hHeld2, ho⟩ ?_
          have hHeld3 := And.intro hHeld2 ho
          clear hHeld hHeld2 ho hb hg hat hK
          refine take_ (i := 10) (N := some 44) (v := ?_) (a' := ?_) #[true, true, true, true, true, true, true, true, true, true, true, false, false, false, false, true, true, false, false, false, false] rfl rfl (by kernel_rfl) (fun _ _ _ h => h) (Or.inl ⟨by rfl, ?_⟩) hHeld3 ?_ ?_
          rotate_left
          · rintro w' ⟨s0, s2⟩
            have hcv := own_string (P := Try.prog) Try.underlying35 Try.underlying5 Try.underlying9 (Kd.own_of_R s2)
            go_simp
            with_reducible rfl
          rotate_left
          · simp only [Act.put, List.setIfInBounds_toArray, List.set_cons_zero, List.set_cons_succ, i64_w, i32_w]
            rfl
          have hz44 : (strOfNums [p0, p1]).size = 2 := by rw [strOfNums_size]; rfl
          generalize h44 : strOfNums [p0, p1] = b44 at hz44 ⊢
          refine pure_ (i := 11) (N := some 45) (v := ?_) (a' := ?_) #[true, true, true, true, true, true, true, true, true, true, true, true, false, false, false, true, true, false, false, false, false] rfl rfl (by kernel_rfl) (fun _ _ _ h => h) (Or.inl ⟨by rfl, ?_⟩) ?_ ?_
          rotate_left
          · intro w'
            go_simp
            with_reducible rfl
          rotate_left
          · simp only [Act.put, List.setIfInBounds_toArray, List.set_cons_zero, List.set_cons_succ, i64_w, i32_w]
            rfl
          have hz45 : (b36 ++ b44).size = 11 := by rw [ByteArray.size_append, hz36, hz44]
          generalize h45 : b36 ++ b44 = b45 at hz45 ⊢
          refine one_ (i := 12) (N := some 46) #[true, true, true, true, true, true, true, true, true, true, true, true, true, false, false, true, true, false, false, false, false] rfl rfl (by kernel_rfl) (by decide) (fun K hK => ?_)
          refine Kd.R_make_step (Kd.int .u8) (w0 := w2) w2.heap.size 5 (by rfl) (N := 46) rfl 35 _ _ rfl 45 rfl rfl Try.underlying35 (.int .u8 0) 1 info5 rfl (by decide) (by omega) 0 (ok := fun _ => True) (okp := fun _ => True) rfl (fun _ hk => hk) trivial (by omega) (by omega) (Below.refl _ _) (Nat.le_refl _) ?_
          intro v46 w3 ho hb hg hat
          rw [← hr45.out] at ho
          refine hK.out _ _ ⟨⟨Kd.R_below hHeld3.1.1 hb, below_step hHeld3.1.2 hb⟩, Kd.R_below hHeld3.2 hb⟩ (fun hHeld4 => ?_)
          refine norm_ (a' := ?_) ?_ ?_
          rotate_left
          · show Act.put _ (some 46) _ = _
            simp only [Act.put, List.setIfInBounds_toArray, List.set_cons_zero, List.set_cons_succ, i64_w, i32_w]
            rfl
          refine palinoderef06_Head.more_ (S2 := fun w' => ((Kd.R (Kd.int .u8) 5 w' w.heap.size (fun _ => True) u6 (palinoderef06_Head.pre 7 a0) ∧ Below w.heap.size w w') ∧ Kd.R (Kd.int .u8) 5 w' w1.heap.size (fun _ => True) v43 [p0, p1]) ∧ Kd.R (Kd.int .u8) 5 w' w2.heap.size (fun _ => True) v46 z45) (fun _ h => h.1) _ _ _ _ ⟨hHeld4, ho⟩ ?_
          have hHeld5 := And.intro hHeld4 ho
          have HB5 := Aside0.mk hHeld4.1.2
          clear hHeld3 hHeld4 ho hb hg hat hK
          refine take_ (i := 13) (N := some 47) (v := ?_) (a' := ?_) #[true, true, true, true, true, true, true, true, true, true, true, true, true, true, false, true, true, false, false, false, false] rfl rfl (by kernel_rfl) (fun _ _ _ h => h) (Or.inl ⟨by rfl, ?_⟩) hHeld5 ?_ ?_
          rotate_left
          · rintro w' ⟨s0, s2⟩
            have hcv := own_string (P := Try.prog) Try.underlying35 Try.underlying5 Try.underlying9 (Kd.own_of_R s2)
            go_simp
            with_reducible rfl
          rotate_left
          · simp only [Act.put, List.setIfInBounds_toArray, List.set_cons_zero, List.set_cons_succ, i64_w, i32_w]
            rfl
          have hz47 : (strOfNums z45).size = 45 := by rw [strOfNums_size, hr45.out]; rfl
          generalize h47 : strOfNums z45 = b47 at hz47 ⊢
          refine pure_ (i := 14) (N := some 48) (v := ?_) (a' := ?_) #[true, true, true, true, true, true, true, true, true, true, true, true, true, true, true, true, true, false, false, false, false] rfl rfl (by kernel_rfl) (fun _ _ _ h => h) (Or.inl ⟨by rfl, ?_⟩) ?_ ?_
          rotate_left
          · intro w'
            go_simp
            with_reducible rfl
          rotate_left
          · simp only [Act.put, List.setIfInBounds_toArray, List.set_cons_zero, List.set_cons_succ, i64_w, i32_w]
            rfl
          have hz48 : (b45 ++ b47).size = 56 := by rw [ByteArray.size_append, hz45, hz47]
          generalize h48 : b45 ++ b47 = b48 at hz48 ⊢
          refine pure_ (i := 17) (N := some 51) (v := ?_) (a' := ?_) #[true, true, true, true, true, true, true, true, true, true, true, true, true, true, true, true, true, true, false, false, false] rfl rfl (by kernel_rfl) (fun _ _ _ h => h) (Or.inl ⟨by rfl, ?_⟩) ?_ ?_
          rotate_left
          · intro w'
            go_simp
            with_reducible rfl
          rotate_left
          · simp only [Act.put, List.setIfInBounds_toArray, List.set_cons_zero, List.set_cons_succ, i64_w, i32_w]
            rfl
          have hz51 : (b48 ++ strOfNums (palinoderef06_Head.pre 7 a0)).size = 63 := by rw [ByteArray.size_append, hz48, hz7]
          generalize h51 : b48 ++ strOfNums (palinoderef06_Head.pre 7 a0) = b51 at hz51 ⊢
          refine pure_ (i := 18) (N := some 52) (v := ?_) (a' := ?_) #[true, true, true, true, true, true, true, true, true, true, true, true, true, true, true, true, true, true, true, false, false] rfl rfl (by kernel_rfl) (fun _ _ _ h => h) (Or.inl ⟨by rfl, ?_⟩) ?_ ?_
          rotate_left
          · intro w'
            go_simp
            with_reducible rfl
          rotate_left
          · simp only [Act.put, List.setIfInBounds_toArray, List.set_cons_zero, List.set_cons_succ, i64_w, i32_w]
            rfl
          refine pure_ (i := 19) (N := some 4) (v := ?_) (a' := ?_) #[true, true, true, true, true, true, true, true, true, true, true, true, true, true, true, true, true, true, true, true, false] rfl rfl (by kernel_rfl) (fun _ _ _ h => h) (Or.inl ⟨by rfl, ?_⟩) ?_ ?_
          rotate_left
          · intro w'
            go_simp
            with_reducible rfl
          rotate_left
          · simp only [Act.put, List.setIfInBounds_toArray, List.set_cons_zero, List.set_cons_succ, i64_w, i32_w]
            rfl
          refine pure_ (i := 20) (N := some 5) (v := ?_) (a' := ?_) #[true, true, true, true, true, true, true, true, true, true, true, true, true, true, true, true, true, true, true, true, true] rfl rfl (by kernel_rfl) (fun _ _ _ h => h) (Or.inl ⟨by rfl, ?_⟩) ?_ ?_
          rotate_left
          · intro w'
            go_simp
            with_reducible rfl
          rotate_left
          · simp only [Act.put, List.setIfInBounds_toArray, List.set_cons_zero, List.set_cons_succ, i64_w, i32_w]
            rfl
          refine done_ (by kernel_rfl) ?_
          have HE : Aside0 (b51 ++ { data := #[69] } = r1) := ⟨by rw [← HR1.out, ← h51, ← h48, ← h45, ← h36, ← h44, ← h47, HP0.out, HP1.out, hr45.out]; exact palinoderef06_Head.cat6 _ _⟩
          clear hz7 hz36 hz44 hz45 hz47 hz48 hz51 h36 h44 h45 h47 h48 h51 hHeld5
          go_wp2
          go_ret2
          exact ⟨by rw [← HE.out]; rfl, HB5.out⟩
        · skip
          refine Kd.R_make_step (Kd.int .u8) (w0 := w1) w1.heap.size 5 (by rfl) (N := 46) rfl 35 _ _ rfl 45 rfl rfl Try.underlying35 (.int .u8 0) 1 info5 rfl (by decide) (by omega) 0 (ok := fun _ => True) (okp := fun _ => True) rfl (fun _ hk => hk) trivial (by omega) (by omega) (Below.refl _ _) (Nat.le_refl _) ?_
          intro v46 w2 ho hb hg hat
          rw [← hr45.out] at ho
          refine hK.out _ _ ⟨Kd.R_below hHeld.1 hb, below_step hHeld.2 hb⟩ (fun hHeld2 => ?_)
          refine norm_ (a' := ?_) ?_ ?_
          rotate_left
          · show Act.put _ (some 46) _ = _
            simp only [Act.put, List.setIfInBounds_toArray, List.set_cons_zero, List.set_cons_succ, i64_w, i32_w]
            rfl
          refine palinoderef06_Head.more_ (S2 := fun w' => (Kd.R (Kd.int .u8) 5 w' w.heap.size (fun _ => True) u6 (palinoderef06_Head.pre 7 a0) ∧ Below w.heap.size w w') ∧ Kd.R (Kd.int .u8) 5 w' w1.heap.size (fun _ => True) v46 z45) (fun _ h => h.1) _ _ _ _ ⟨hHeld2, ho⟩ ?_
          have hHeld3 := And.intro hHeld2 ho
          clear hHeld hHeld2 ho hb hg hat hK
          refine take_ (i := 13) (N := some 47) (v := ?_) (a' := ?_) #[true, true, true, true, true, true, true, true, true, false, false, false, true, true, false, true, true, false, false, false, false] rfl rfl (by kernel_rfl) (fun _ _ _ h => h) (Or.inl ⟨by rfl, ?_⟩) hHeld3 ?_ ?_
          rotate_left
          · rintro w' ⟨s0, s2⟩
            have hcv := own_string (P := Try.prog) Try.underlying35 Try.underlying5 Try.underlying9 (Kd.own_of_R s2)
            go_simp
            with_reducible rfl
          rotate_left
          · simp only [Act.put, List.setIfInBounds_toArray, List.set_cons_zero, List.set_cons_succ, i64_w, i32_w]
            rfl
          refine one_ (i := 9) (N := some 43) #[true, true, true, true, true, true, true, true, true, true, false, false, true, true, false, true, true, false, false, false, false] rfl rfl (by kernel_rfl) (by decide) (fun K hK => ?_)
          refine Kd.R_lit_step (Kd.int .u8) (w0 := w2) w2.heap.size 5 ?hg (N := 43) ?hd (xs := [p0, p1]) (inner := [.int .u8 p0, .int .u8 p1]) (ok := fun _ => True) (okp := fun _ => False) ?hr ?hp (fun _ hk => hk.elim) trivial (Below.refl _ _) (Nat.le_refl _) (by simp) ?_
          case hd => rfl
          case hg => rfl
          case hr => first | (go_simp; done) | (go_simp; rfl)
          case hp => exact palinoderef06_Head.two_reps _ _ _ _
          intro v43 w3 ho hb hg hat
          refine hK.out _ _ ⟨⟨Kd.R_below hHeld3.1.1 hb, below_step hHeld3.1.2 hb⟩, Kd.R_below hHeld3.2 hb⟩ (fun hHeld4 => ?_)
          refine norm_ (a' := ?_) ?_ ?_
          rotate_left
          · show Act.put _ (some 43) _ = _
            simp only [Act.put, List.setIfInBounds_toArray, List.set_cons_zero, List.set_cons_succ, i64_w, i32_w]
            rfl
          refine palinoderef06_Head.more_ (S2 := fun w' => ((Kd.R (Kd.int .u8) 5 w' w.heap.size (fun _ => True) u6 (palinoderef06_Head.pre 7 a0) ∧ Below w.heap.size w w') ∧ Kd.R (Kd.int .u8) 5 w' w1.heap.size (fun _ => True) v46 z45) ∧ Kd.R (Kd.int .u8) 5 w' w2.heap.size (fun _ => True) v43 [p0, p1]) (fun _ h => h.1) _ _ _ _ ⟨hHeld4, ho⟩ ?_
          have hHeld5 := And.intro hHeld4 ho
          have HB5 := Aside0.mk hHeld4.1.2
          clear hHeld3 hHeld4 ho hb hg hat hK
          refine take_ (i := 10) (N := some 44) (v := ?_) (a' := ?_) #[true, true, true, true, true, true, true, true, true, true, true, false, true, true, false, true, true, false, false, false, false] rfl rfl (by kernel_rfl) (fun _ _ _ h => h) (Or.inl ⟨by rfl, ?_⟩) hHeld5 ?_ ?_
          rotate_left
          · rintro w' ⟨s0, s2⟩
            have hcv := own_string (P := Try.prog) Try.underlying35 Try.underlying5 Try.underlying9 (Kd.own_of_R s2)
            go_simp
            with_reducible rfl
          rotate_left
          · simp only [Act.put, List.setIfInBounds_toArray, List.set_cons_zero, List.set_cons_succ, i64_w, i32_w]
            rfl
          have hz44 : (strOfNums [p0, p1]).size = 2 := by rw [strOfNums_size]; rfl
          generalize h44 : strOfNums [p0, p1] = b44 at hz44 ⊢
          refine pure_ (i := 11) (N := some 45) (v := ?_) (a' := ?_) #[true, true, true, true, true, true, true, true, true, true, true, true, true, true, false, true, true, false, false, false, false] rfl rfl (by kernel_rfl) (fun _ _ _ h => h) (Or.inl ⟨by rfl, ?_⟩) ?_ ?_
          rotate_left
          · intro w'
            go_simp
            with_reducible rfl
          rotate_left
          · simp only [Act.put, List.setIfInBounds_toArray, List.set_cons_zero, List.set_cons_succ, i64_w, i32_w]
            rfl
          have hz45 : (b36 ++ b44).size = 11 := by rw [ByteArray.size_append, hz36, hz44]
          generalize h45 : b36 ++ b44 = b45 at hz45 ⊢
          have hz47 : (strOfNums z45).size = 45 := by rw [strOfNums_size, hr45.out]; rfl
          generalize h47 : strOfNums z45 = b47 at hz47 ⊢
          refine pure_ (i := 14) (N := some 48) (v := ?_) (a' := ?_) #[true, true, true, true, true, true, true, true, true, true, true, true, true, true, true, true, true, false, false, false, false] rfl rfl (by kernel_rfl) (fun _ _ _ h => h) (Or.inl ⟨by rfl, ?_⟩) ?_ ?_
          rotate_left
          · intro w'
            go_simp
            with_reducible rfl
          rotate_left
          · simp only [Act.put, List.setIfInBounds_toArray, List.set_cons_zero, List.set_cons_succ, i64_w, i32_w]
            rfl
          have hz48 : (b45 ++ b47).size = 56 := by rw [ByteArray.size_append, hz45, hz47]
          generalize h48 : b45 ++ b47 = b48 at hz48 ⊢
          refine pure_ (i := 17) (N := some 51) (v := ?_) (a' := ?_) #[true, true, true, true, true, true, true, true, true, true, true, true, true, true, true, true, true, true, false, false, false] rfl rfl (by kernel_rfl) (fun _ _ _ h => h) (Or.inl ⟨by rfl, ?_⟩) ?_ ?_
          rotate_left
          · intro w'
            go_simp
            with_reducible rfl
          rotate_left
          · simp only [Act.put, List.setIfInBounds_toArray, List.set_cons_zero, List.set_cons_succ, i64_w, i32_w]
            rfl
          have hz51 : (b48 ++ strOfNums (palinoderef06_Head.pre 7 a0)).size = 63 := by rw [ByteArray.size_append, hz48, hz7]
          generalize h51 : b48 ++ strOfNums (palinoderef06_Head.pre 7 a0) = b51 at hz51 ⊢
          refine pure_ (i := 18) (N := some 52) (v := ?_) (a' := ?_) #[true, true, true, true, true, true, true, true, true, true, true, true, true, true, true, true, true, true, true, false, false] rfl rfl (by kernel_rfl) (fun _ _ _ h => h) (Or.inl ⟨by rfl, ?_⟩) ?_ ?_
          rotate_left
          · intro w'
            go_simp
            with_reducible rfl
          rotate_left
          · simp only [Act.put, List.setIfInBounds_toArray, List.set_cons_zero, List.set_cons_succ, i64_w, i32_w]
            rfl
          refine pure_ (i := 19) (N := some 4) (v := ?_) (a' := ?_) #[true, true, true, true, true, true, true, true, true, true, true, true, true, true, true, true, true, true, true, true, false] rfl rfl (by kernel_rfl) (fun _ _ _ h => h) (Or.inl ⟨by rfl, ?_⟩) ?_ ?_
          rotate_left
          · intro w'
            go_simp
            with_reducible rfl
          rotate_left
          · simp only [Act.put, List.setIfInBounds_toArray, List.set_cons_zero, List.set_cons_succ, i64_w, i32_w]
            rfl
          refine pure_ (i := 20) (N := some 5) (v := ?_) (a' := ?_) #[true, true, true, true, true, true, true, true, true, true, true, true, true, true, true, true, true, true, true, true, true] rfl rfl (by kernel_rfl) (fun _ _ _ h => h) (Or.inl ⟨by rfl, ?_⟩) ?_ ?_
          rotate_left
          · intro w'
            go_simp
            with_reducible rfl
          rotate_left
          · simp only [Act.put, List.setIfInBounds_toArray, List.set_cons_zero, List.set_cons_succ, i64_w, i32_w]
            rfl
          refine done_ (by kernel_rfl) ?_
          have HE : Aside0 (b51 ++ { data := #[69] } = r1) := ⟨by rw [← HR1.out, ← h51, ← h48, ← h45, ← h36, ← h44, ← h47, HP0.out, HP1.out, hr45.out]; exact palinoderef06_Head.cat6 _ _⟩
          clear hz7 hz36 hz44 hz45 hz47 hz48 hz51 h36 h44 h45 h47 h48 h51 hHeld5
          go_wp2
          go_ret2
          exact ⟨by rw [← HE.out]; rfl, HB5.out⟩


end Go.Proofs.Yticajnfmjapkgaa.PD
