-- printed by gprint.py (own tool) over the kit's print
import Derived.Test.YticajnfmjapkgaaPDx0
import Derived.Test.YticajnfmjapkgaaPDx30
namespace Go.Proofs.Yticajnfmjapkgaa.PD
open Go.RowKit Go.Proofs.Yticajnfmjapkgaa Go.Proofs.YticajnfmjapkgaaW.PrintWords Go.Proofs.YticajnfmjapkgaaW.PrintLast Go.Proofs.YticajnfmjapkgaaW.PrintMore
attribute [local go_sem] max2_int min2_int max_two min_two max_three min_three max_four min_four   -- for this text's walks alone
set_option linter.unnecessarySimpa false
attribute [local go_sem] min2_str max2_str leq_str gtr_str geq_str
set_option linter.unusedVariables false
set_option linter.unusedSimpArgs false

/-! ### pack_Num: function 25 -/
/-- The lowest k bytes of a number, the greatest first. -/
def pack_Num.be : Nat → Int → List Int
  | 0, _ => []
  | k + 1, n => n / 256 ^ k % 256 :: pack_Num.be k n
/-- How many bytes a number takes. -/
def pack_Num.sz : Nat → Int → Nat
  | 0, _ => 0
  | k + 1, n => if 0 < n then pack_Num.sz k (n / 256) + 1 else 0
def pack_Num.bytes (n : Int) : ByteArray := strOfNums ((pack_Num.sz 8 n : Int) :: pack_Num.be (pack_Num.sz 8 n) n)
theorem pack_Num.sz_le (k : Nat) : ∀ (m : Nat) (n : Int), n < 256 ^ k → pack_Num.sz m n ≤ k := by
  induction k with
  | zero =>
    intro m n h
    cases m with
    | zero => exact Nat.le_refl _
    | succ m =>
      have : ¬ 0 < n := by simp at h; omega
      simp [pack_Num.sz, this]
  | succ k ih =>
    intro m n h
    cases m with
    | zero => exact Nat.zero_le _
    | succ m =>
      simp only [pack_Num.sz]
      split
      · have h2 : n / 256 < 256 ^ k := by
          rw [Int.pow_succ] at h
          exact Int.ediv_lt_of_lt_mul (by omega) h
        have := ih m (n / 256) h2
        omega
      · omega
theorem pack_Num.size_loop (n : Int) (h0 : n ≤ 9007199254740991) : ∀ (m k : Nat) (x : Int) (a : Nat), x ≤ 9007199254740991 → pack_Num.sz m x < m → a + m ≤ 100 → m + 1 ≤ k → pack_size.l0 k x (a : Int) = some ((a + pack_Num.sz m x : Nat) : Int) := by
  intro m
  induction m with
  | zero => intro k x a _ h; omega
  | succ m ih =>
    intro k x a hx hs ha hk
    obtain ⟨k, rfl⟩ : ∃ q, k = q + 1 := ⟨k - 1, by omega⟩
    simp only [pack_size.l0]
    simp only [pack_Num.sz] at hs ⊢
    by_cases h : 0 < x
    · rw [if_pos h] at hs ⊢
      have E1 : Hid (wrap64 ((a : Int) + 1) = ((a + 1 : Nat) : Int)) := Lib.hid (by unfold wrap64; omega)
      rw [if_pos (by omega), E1.out, ih k (x / 256) (a + 1) (by omega) (by omega) (by omega) (by omega)]
      congr 2
      omega
    · rw [if_neg h, if_neg (by omega)]
      simp
theorem pack_Num.size_some (n : Int) (h0 : n ≤ 9007199254740991) : pack_size.f 10 n = some ((pack_Num.sz 8 n : Nat) : Int) := by
  have h := pack_Num.sz_le 7 8 n (by omega)
  have := pack_Num.size_loop n h0 8 10 n 0 h0 (by omega) (by omega) (by omega)
  unfold pack_size.f
  simpa using this
def pack_Num.f (a0 : Int) : Option (ByteArray × Option Int) := some (if a0 < 0 ∨ 9007199254740991 < a0 then (⟨#[]⟩, some 1) else (pack_Num.bytes a0, none))
theorem pack_Num.first_ (W : World) (base g : Nat) (x : Int) (r : List Value) (hl : r.length = 7) (hb : base ≤ g) (hg : W.heap[g]? = some (.cells (.int .u8 x :: r).toArray 5 (0, 0))) : Kd.R (Kd.int .u8) 5 W base (fun _ => True) (.slice (some ⟨g, 0, none⟩) 1 8) [x] := by
  refine ⟨fun _ _ => trivial, [.int .u8 x], ⟨rfl, Or.inr ⟨g, 8, _, rfl, hb, hg, by simp, by decide, by simp [hl]; rfl, by simp [Kd.int, Kd.scalar]⟩⟩, ?_⟩
  refine ⟨rfl, fun j p hp => ?_⟩
  match j, hp with
  | 0, hp => simp at hp; subst hp; rfl
set_option maxHeartbeats 4000000 in
set_option maxRecDepth 100000 in
theorem pack_Num.calls (a0 : Int) (r1 : ByteArray) (r2 : Option Int) (w : World) (h : pack_Num.f a0 = some (r1, r2)) :
    Calls Try.prog 25 #[.int .i64 a0] w fun e w' => e = .returned (.tuple #[.string r1, errW r2]) ∧ Below w.heap.size w w' := by
  have H : (if a0 < 0 ∨ 9007199254740991 < a0 then ((⟨#[]⟩ : ByteArray), some 1) else (pack_Num.bytes a0, none)) = (r1, r2) := Option.some.inj h
  clear h
  by_cases c1 : a0 < 0 ∨ 9007199254740991 < a0
  · rw [if_pos c1] at H
    obtain ⟨rfl, rfl⟩ := Prod.mk.inj H
    clear H
    rcases (by omega : a0 < 0 ∨ (¬ a0 < 0 ∧ 9007199254740991 < a0)) with h1 | ⟨h1, h2⟩
    all_goals
      clear c1
      go_enter Try.func25, Try.ntmps25
      go_wp2
      go_ret2
      exact ⟨by simp [errW_some], Below.refl _ _⟩
  · rw [if_neg c1] at H
    have g1 : 0 ≤ a0 := by omega
    have g2 : a0 ≤ 9007199254740991 := by omega
    have hs := pack_Num.size_some a0 g2
    have hle := pack_Num.sz_le 7 8 a0 (by omega)
    unfold pack_Num.bytes at H
    obtain ⟨s, hse⟩ : ∃ s, s = pack_Num.sz 8 a0 := ⟨_, rfl⟩
    rw [← hse] at H hs hle
    have HS := Aside0.mk hs
    obtain ⟨hr1, hr2⟩ := Prod.mk.inj H
    have HR1 := Aside0.mk hr1
    subst hr2
    clear c1 H hs hse hr1
    have hmk : ∀ w, (Instr.makeSlice 35 (.int .i64 1) (.int .i64 8)).run Try.prog w = .ok (.slice (some ⟨w.heap.size, 0, none⟩) 1 8) (w.alloc (.cells #[.int .u8 0, .int .u8 0, .int .u8 0, .int .u8 0, .int .u8 0, .int .u8 0, .int .u8 0, .int .u8 0] 5)) := fun _ => by kernel_rfl
    go_enter Try.func25, Try.ntmps25
    go_wp2_with fail
    refine (pack_size.calls 10 a0 _ w HS.out).mono ?_
    rintro e w1 ⟨rfl, hd⟩
    have HB := Aside0.mk hd.below
    clear hd HS
    have hs256 : (s : Int) % 256 = s := by omega
    go_upto_region 6 with (fail)
    have HO := Aside0.mk (pack_Num.first_ (w1.alloc (.cells #[.int .u8 s, .int .u8 0, .int .u8 0, .int .u8 0, .int .u8 0, .int .u8 0, .int .u8 0, .int .u8 0] 5)) w.heap.size w1.heap.size s (List.replicate 7 (.int .u8 0)) rfl HB.out.size (heap_alloc_new w1 _))
    have HB2 := Aside0.mk (below_alloc HB.out (.cells #[.int .u8 s, .int .u8 0, .int .u8 0, .int .u8 0, .int .u8 0, .int .u8 0, .int .u8 0, .int .u8 0] 5))
    clear HB hmk hs256
    generalize w1.alloc (.cells #[.int .u8 s, .int .u8 0, .int .u8 0, .int .u8 0, .int .u8 0, .int .u8 0, .int .u8 0, .int .u8 0] 5) = w2 at HO HB2 ⊢
    generalize w1.heap.size = g at HO ⊢
    have hcases : s = 0 ∨ s = 1 ∨ s = 2 ∨ s = 3 ∨ s = 4 ∨ s = 5 ∨ s = 6 ∨ s = 7 := by omega
    clear hle
    rcases hcases with rfl | rfl | rfl | rfl | rfl | rfl | rfl | rfl
    · have HR2 : Aside0 (strOfNums [0] = r1) := ⟨by rw [← HR1.out]; simp [pack_Num.be]⟩
      clear HR1
      have hcv := own_string (P := Try.prog) Try.underlying35 Try.underlying5 Try.underlying9 (Kd.own_of_R HO.out)
      go_wp2_with (fail)
      go_ret2
      exact ⟨by rw [← HR2.out]; rfl, HB2.out⟩
    · have HR2 : Aside0 (strOfNums [1, a0 % 256] = r1) := ⟨by rw [← HR1.out]; simp [pack_Num.be]⟩
      clear HR1
      have hcv := own_string (P := Try.prog) Try.underlying35 Try.underlying5 Try.underlying9 (Kd.own_of_R HO.out)
      go_wp2_with (first | ((with_reducible refine gate_builtin (b := .append) (xs := #[.tmp 71, .tmp 74]) rfl ?_); at_builtin; refine Kd.R_append (Kd.int .u8) (w0 := w) w.heap.size rfl (.tmp 71) (.tmp 74) 35 5 (.int .u8 0) 1 rfl Try.underlying35 info5 rfl (by decide) (by omega) _ _ _ [.int .u8 _] (fun _ => True) (fun _ => False) rfl rfl rfl (fun _ hk => hk.elim) (fun _ _ => trivial) HO.out HB2.out HB2.out.size (by simp) ?_; intro v1 w4 ho hb hg hat; clear hcv HO HB2; have HO := Aside0.mk ho; have HB2 := Aside0.mk hb; have hcv := own_string (P := Try.prog) Try.underlying35 Try.underlying5 Try.underlying9 (Kd.own_of_R HO.out); clear ho hb hg hat))
      go_ret2
      exact ⟨by rw [← HR2.out]; rfl, HB2.out⟩
    · have HR2 : Aside0 (strOfNums [2, a0 / 256 % 256, a0 % 256] = r1) := ⟨by rw [← HR1.out]; simp [pack_Num.be]⟩
      clear HR1
      have hcv := own_string (P := Try.prog) Try.underlying35 Try.underlying5 Try.underlying9 (Kd.own_of_R HO.out)
      go_wp2_with (first | ((with_reducible refine gate_builtin (b := .append) (xs := #[.tmp 65, .tmp 69]) rfl ?_); at_builtin; refine Kd.R_append (Kd.int .u8) (w0 := w) w.heap.size rfl (.tmp 65) (.tmp 69) 35 5 (.int .u8 0) 1 rfl Try.underlying35 info5 rfl (by decide) (by omega) _ _ _ [.int .u8 _] (fun _ => True) (fun _ => False) rfl rfl rfl (fun _ hk => hk.elim) (fun _ _ => trivial) HO.out HB2.out HB2.out.size (by simp) ?_; intro v1 w4 ho hb hg hat; clear hcv HO HB2; have HO := Aside0.mk ho; have HB2 := Aside0.mk hb; have hcv := own_string (P := Try.prog) Try.underlying35 Try.underlying5 Try.underlying9 (Kd.own_of_R HO.out); clear ho hb hg hat) | ((with_reducible refine gate_builtin (b := .append) (xs := #[.tmp 71, .tmp 74]) rfl ?_); at_builtin; refine Kd.R_append (Kd.int .u8) (w0 := w) w.heap.size rfl (.tmp 71) (.tmp 74) 35 5 (.int .u8 0) 1 rfl Try.underlying35 info5 rfl (by decide) (by omega) _ _ _ [.int .u8 _] (fun _ => True) (fun _ => False) rfl rfl rfl (fun _ hk => hk.elim) (fun _ _ => trivial) HO.out HB2.out HB2.out.size (by simp) ?_; intro v1 w4 ho hb hg hat; clear hcv HO HB2; have HO := Aside0.mk ho; have HB2 := Aside0.mk hb; have hcv := own_string (P := Try.prog) Try.underlying35 Try.underlying5 Try.underlying9 (Kd.own_of_R HO.out); clear ho hb hg hat))
      go_ret2
      exact ⟨by rw [← HR2.out]; rfl, HB2.out⟩
    · have HR2 : Aside0 (strOfNums [3, a0 / 65536 % 256, a0 / 256 % 256, a0 % 256] = r1) := ⟨by rw [← HR1.out]; simp [pack_Num.be]⟩
      clear HR1
      have hcv := own_string (P := Try.prog) Try.underlying35 Try.underlying5 Try.underlying9 (Kd.own_of_R HO.out)
      go_wp2_with (first | ((with_reducible refine gate_builtin (b := .append) (xs := #[.tmp 59, .tmp 63]) rfl ?_); at_builtin; refine Kd.R_append (Kd.int .u8) (w0 := w) w.heap.size rfl (.tmp 59) (.tmp 63) 35 5 (.int .u8 0) 1 rfl Try.underlying35 info5 rfl (by decide) (by omega) _ _ _ [.int .u8 _] (fun _ => True) (fun _ => False) rfl rfl rfl (fun _ hk => hk.elim) (fun _ _ => trivial) HO.out HB2.out HB2.out.size (by simp) ?_; intro v1 w4 ho hb hg hat; clear hcv HO HB2; have HO := Aside0.mk ho; have HB2 := Aside0.mk hb; have hcv := own_string (P := Try.prog) Try.underlying35 Try.underlying5 Try.underlying9 (Kd.own_of_R HO.out); clear ho hb hg hat) | ((with_reducible refine gate_builtin (b := .append) (xs := #[.tmp 65, .tmp 69]) rfl ?_); at_builtin; refine Kd.R_append (Kd.int .u8) (w0 := w) w.heap.size rfl (.tmp 65) (.tmp 69) 35 5 (.int .u8 0) 1 rfl Try.underlying35 info5 rfl (by decide) (by omega) _ _ _ [.int .u8 _] (fun _ => True) (fun _ => False) rfl rfl rfl (fun _ hk => hk.elim) (fun _ _ => trivial) HO.out HB2.out HB2.out.size (by simp) ?_; intro v1 w4 ho hb hg hat; clear hcv HO HB2; have HO := Aside0.mk ho; have HB2 := Aside0.mk hb; have hcv := own_string (P := Try.prog) Try.underlying35 Try.underlying5 Try.underlying9 (Kd.own_of_R HO.out); clear ho hb hg hat) | ((with_reducible refine gate_builtin (b := .append) (xs := #[.tmp 71, .tmp 74]) rfl ?_); at_builtin; refine Kd.R_append (Kd.int .u8) (w0 := w) w.heap.size rfl (.tmp 71) (.tmp 74) 35 5 (.int .u8 0) 1 rfl Try.underlying35 info5 rfl (by decide) (by omega) _ _ _ [.int .u8 _] (fun _ => True) (fun _ => False) rfl rfl rfl (fun _ hk => hk.elim) (fun _ _ => trivial) HO.out HB2.out HB2.out.size (by simp) ?_; intro v1 w4 ho hb hg hat; clear hcv HO HB2; have HO := Aside0.mk ho; have HB2 := Aside0.mk hb; have hcv := own_string (P := Try.prog) Try.underlying35 Try.underlying5 Try.underlying9 (Kd.own_of_R HO.out); clear ho hb hg hat))
      go_ret2
      exact ⟨by rw [← HR2.out]; rfl, HB2.out⟩
    · have HR2 : Aside0 (strOfNums [4, a0 / 16777216 % 256, a0 / 65536 % 256, a0 / 256 % 256, a0 % 256] = r1) := ⟨by rw [← HR1.out]; simp [pack_Num.be]⟩
      clear HR1
      have hcv := own_string (P := Try.prog) Try.underlying35 Try.underlying5 Try.underlying9 (Kd.own_of_R HO.out)
      go_wp2_with (first | ((with_reducible refine gate_builtin (b := .append) (xs := #[.tmp 53, .tmp 57]) rfl ?_); at_builtin; refine Kd.R_append (Kd.int .u8) (w0 := w) w.heap.size rfl (.tmp 53) (.tmp 57) 35 5 (.int .u8 0) 1 rfl Try.underlying35 info5 rfl (by decide) (by omega) _ _ _ [.int .u8 _] (fun _ => True) (fun _ => False) rfl rfl rfl (fun _ hk => hk.elim) (fun _ _ => trivial) HO.out HB2.out HB2.out.size (by simp) ?_; intro v1 w4 ho hb hg hat; clear hcv HO HB2; have HO := Aside0.mk ho; have HB2 := Aside0.mk hb; have hcv := own_string (P := Try.prog) Try.underlying35 Try.underlying5 Try.underlying9 (Kd.own_of_R HO.out); clear ho hb hg hat) | ((with_reducible refine gate_builtin (b := .append) (xs := #[.tmp 59, .tmp 63]) rfl ?_); at_builtin; refine Kd.R_append (Kd.int .u8) (w0 := w) w.heap.size rfl (.tmp 59) (.tmp 63) 35 5 (.int .u8 0) 1 rfl Try.underlying35 info5 rfl (by decide) (by omega) _ _ _ [.int .u8 _] (fun _ => True) (fun _ => False) rfl rfl rfl (fun _ hk => hk.elim) (fun _ _ => trivial) HO.out HB2.out HB2.out.size (by simp) ?_; intro v1 w4 ho hb hg hat; clear hcv HO HB2; have HO := Aside0.mk ho; have HB2 := Aside0.mk hb; have hcv := own_string (P := Try.prog) Try.underlying35 Try.underlying5 Try.underlying9 (Kd.own_of_R HO.out); clear ho hb hg hat) | ((with_reducible refine gate_builtin (b := .append) (xs := #[.tmp 65, .tmp 69]) rfl ?_); at_builtin; refine Kd.R_append (Kd.int .u8) (w0 := w) w.heap.size rfl (.tmp 65) (.tmp 69) 35 5 (.int .u8 0) 1 rfl Try.underlying35 info5 rfl (by decide) (by omega) _ _ _ [.int .u8 _] (fun _ => True) (fun _ => False) rfl rfl rfl (fun _ hk => hk.elim) (fun _ _ => trivial) HO.out HB2.out HB2.out.size (by simp) ?_; intro v1 w4 ho hb hg hat; clear hcv HO HB2; have HO := Aside0.mk ho; have HB2 := Aside0.mk hb; have hcv := own_string (P := Try.prog) Try.underlying35 Try.underlying5 Try.underlying9 (Kd.own_of_R HO.out); clear ho hb hg hat) | ((with_reducible refine gate_builtin (b := .append) (xs := #[.tmp 71, .tmp 74]) rfl ?_); at_builtin; refine Kd.R_append (Kd.int .u8) (w0 := w) w.heap.size rfl (.tmp 71) (.tmp 74) 35 5 (.int .u8 0) 1 rfl Try.underlying35 info5 rfl (by decide) (by omega) _ _ _ [.int .u8 _] (fun _ => True) (fun _ => False) rfl rfl rfl (fun _ hk => hk.elim) (fun _ _ => trivial) HO.out HB2.out HB2.out.size (by simp) ?_; intro v1 w4 ho hb hg hat; clear hcv HO HB2; have HO := Aside0.mk ho; have HB2 := Aside0.mk hb; have hcv := own_string (P := Try.prog) Try.underlying35 Try.underlying5 Try.underlying9 (Kd.own_of_R HO.out); clear ho hb hg hat))
      go_ret2
      exact ⟨by rw [← HR2.out]; rfl, HB2.out⟩
    · have HR2 : Aside0 (strOfNums [5, a0 / 4294967296 % 256, a0 / 16777216 % 256, a0 / 65536 % 256, a0 / 256 % 256, a0 % 256] = r1) := ⟨by rw [← HR1.out]; simp [pack_Num.be]⟩
      clear HR1
      have hcv := own_string (P := Try.prog) Try.underlying35 Try.underlying5 Try.underlying9 (Kd.own_of_R HO.out)
      go_wp2_with (first | ((with_reducible refine gate_builtin (b := .append) (xs := #[.tmp 47, .tmp 51]) rfl ?_); at_builtin; refine Kd.R_append (Kd.int .u8) (w0 := w) w.heap.size rfl (.tmp 47) (.tmp 51) 35 5 (.int .u8 0) 1 rfl Try.underlying35 info5 rfl (by decide) (by omega) _ _ _ [.int .u8 _] (fun _ => True) (fun _ => False) rfl rfl rfl (fun _ hk => hk.elim) (fun _ _ => trivial) HO.out HB2.out HB2.out.size (by simp) ?_; intro v1 w4 ho hb hg hat; clear hcv HO HB2; have HO := Aside0.mk ho; have HB2 := Aside0.mk hb; have hcv := own_string (P := Try.prog) Try.underlying35 Try.underlying5 Try.underlying9 (Kd.own_of_R HO.out); clear ho hb hg hat) | ((with_reducible refine gate_builtin (b := .append) (xs := #[.tmp 53, .tmp 57]) rfl ?_); at_builtin; refine Kd.R_append (Kd.int .u8) (w0 := w) w.heap.size rfl (.tmp 53) (.tmp 57) 35 5 (.int .u8 0) 1 rfl Try.underlying35 info5 rfl (by decide) (by omega) _ _ _ [.int .u8 _] (fun _ => True) (fun _ => False) rfl rfl rfl (fun _ hk => hk.elim) (fun _ _ => trivial) HO.out HB2.out HB2.out.size (by simp) ?_; intro v1 w4 ho hb hg hat; clear hcv HO HB2; have HO := Aside0.mk ho; have HB2 := Aside0.mk hb; have hcv := own_string (P := Try.prog) Try.underlying35 Try.underlying5 Try.underlying9 (Kd.own_of_R HO.out); clear ho hb hg hat) | ((with_reducible refine gate_builtin (b := .append) (xs := #[.tmp 59, .tmp 63]) rfl ?_); at_builtin; refine Kd.R_append (Kd.int .u8) (w0 := w) w.heap.size rfl (.tmp 59) (.tmp 63) 35 5 (.int .u8 0) 1 rfl Try.underlying35 info5 rfl (by decide) (by omega) _ _ _ [.int .u8 _] (fun _ => True) (fun _ => False) rfl rfl rfl (fun _ hk => hk.elim) (fun _ _ => trivial) HO.out HB2.out HB2.out.size (by simp) ?_; intro v1 w4 ho hb hg hat; clear hcv HO HB2; have HO := Aside0.mk ho; have HB2 := Aside0.mk hb; have hcv := own_string (P := Try.prog) Try.underlying35 Try.underlying5 Try.underlying9 (Kd.own_of_R HO.out); clear ho hb hg hat) | ((with_reducible refine gate_builtin (b := .append) (xs := #[.tmp 65, .tmp 69]) rfl ?_); at_builtin; refine Kd.R_append (Kd.int .u8) (w0 := w) w.heap.size rfl (.tmp 65) (.tmp 69) 35 5 (.int .u8 0) 1 rfl Try.underlying35 info5 rfl (by decide) (by omega) _ _ _ [.int .u8 _] (fun _ => True) (fun _ => False) rfl rfl rfl (fun _ hk => hk.elim) (fun _ _ => trivial) HO.out HB2.out HB2.out.size (by simp) ?_; intro v1 w4 ho hb hg hat; clear hcv HO HB2; have HO := Aside0.mk ho; have HB2 := Aside0.mk hb; have hcv := own_string (P := Try.prog) Try.underlying35 Try.underlying5 Try.underlying9 (Kd.own_of_R HO.out); clear ho hb hg hat) | ((with_reducible refine gate_builtin (b := .append) (xs := #[.tmp 71, .tmp 74]) rfl ?_); at_builtin; refine Kd.R_append (Kd.int .u8) (w0 := w) w.heap.size rfl (.tmp 71) (.tmp 74) 35 5 (.int .u8 0) 1 rfl Try.underlying35 info5 rfl (by decide) (by omega) _ _ _ [.int .u8 _] (fun _ => True) (fun _ => False) rfl rfl rfl (fun _ hk => hk.elim) (fun _ _ => trivial) HO.out HB2.out HB2.out.size (by simp) ?_; intro v1 w4 ho hb hg hat; clear hcv HO HB2; have HO := Aside0.mk ho; have HB2 := Aside0.mk hb; have hcv := own_string (P := Try.prog) Try.underlying35 Try.underlying5 Try.underlying9 (Kd.own_of_R HO.out); clear ho hb hg hat))
      go_ret2
      exact ⟨by rw [← HR2.out]; rfl, HB2.out⟩
    · have HR2 : Aside0 (strOfNums [6, a0 / 1099511627776 % 256, a0 / 4294967296 % 256, a0 / 16777216 % 256, a0 / 65536 % 256, a0 / 256 % 256, a0 % 256] = r1) := ⟨by rw [← HR1.out]; simp [pack_Num.be]⟩
      clear HR1
      have hcv := own_string (P := Try.prog) Try.underlying35 Try.underlying5 Try.underlying9 (Kd.own_of_R HO.out)
      go_wp2_with (first | ((with_reducible refine gate_builtin (b := .append) (xs := #[.tmp 41, .tmp 45]) rfl ?_); at_builtin; refine Kd.R_append (Kd.int .u8) (w0 := w) w.heap.size rfl (.tmp 41) (.tmp 45) 35 5 (.int .u8 0) 1 rfl Try.underlying35 info5 rfl (by decide) (by omega) _ _ _ [.int .u8 _] (fun _ => True) (fun _ => False) rfl rfl rfl (fun _ hk => hk.elim) (fun _ _ => trivial) HO.out HB2.out HB2.out.size (by simp) ?_; intro v1 w4 ho hb hg hat; clear hcv HO HB2; have HO := Aside0.mk ho; have HB2 := Aside0.mk hb; have hcv := own_string (P := Try.prog) Try.underlying35 Try.underlying5 Try.underlying9 (Kd.own_of_R HO.out); clear ho hb hg hat) | ((with_reducible refine gate_builtin (b := .append) (xs := #[.tmp 47, .tmp 51]) rfl ?_); at_builtin; refine Kd.R_append (Kd.int .u8) (w0 := w) w.heap.size rfl (.tmp 47) (.tmp 51) 35 5 (.int .u8 0) 1 rfl Try.underlying35 info5 rfl (by decide) (by omega) _ _ _ [.int .u8 _] (fun _ => True) (fun _ => False) rfl rfl rfl (fun _ hk => hk.elim) (fun _ _ => trivial) HO.out HB2.out HB2.out.size (by simp) ?_; intro v1 w4 ho hb hg hat; clear hcv HO HB2; have HO := Aside0.mk ho; have HB2 := Aside0.mk hb; have hcv := own_string (P := Try.prog) Try.underlying35 Try.underlying5 Try.underlying9 (Kd.own_of_R HO.out); clear ho hb hg hat) | ((with_reducible refine gate_builtin (b := .append) (xs := #[.tmp 53, .tmp 57]) rfl ?_); at_builtin; refine Kd.R_append (Kd.int .u8) (w0 := w) w.heap.size rfl (.tmp 53) (.tmp 57) 35 5 (.int .u8 0) 1 rfl Try.underlying35 info5 rfl (by decide) (by omega) _ _ _ [.int .u8 _] (fun _ => True) (fun _ => False) rfl rfl rfl (fun _ hk => hk.elim) (fun _ _ => trivial) HO.out HB2.out HB2.out.size (by simp) ?_; intro v1 w4 ho hb hg hat; clear hcv HO HB2; have HO := Aside0.mk ho; have HB2 := Aside0.mk hb; have hcv := own_string (P := Try.prog) Try.underlying35 Try.underlying5 Try.underlying9 (Kd.own_of_R HO.out); clear ho hb hg hat) | ((with_reducible refine gate_builtin (b := .append) (xs := #[.tmp 59, .tmp 63]) rfl ?_); at_builtin; refine Kd.R_append (Kd.int .u8) (w0 := w) w.heap.size rfl (.tmp 59) (.tmp 63) 35 5 (.int .u8 0) 1 rfl Try.underlying35 info5 rfl (by decide) (by omega) _ _ _ [.int .u8 _] (fun _ => True) (fun _ => False) rfl rfl rfl (fun _ hk => hk.elim) (fun _ _ => trivial) HO.out HB2.out HB2.out.size (by simp) ?_; intro v1 w4 ho hb hg hat; clear hcv HO HB2; have HO := Aside0.mk ho; have HB2 := Aside0.mk hb; have hcv := own_string (P := Try.prog) Try.underlying35 Try.underlying5 Try.underlying9 (Kd.own_of_R HO.out); clear ho hb hg hat) | ((with_reducible refine gate_builtin (b := .append) (xs := #[.tmp 65, .tmp 69]) rfl ?_); at_builtin; refine Kd.R_append (Kd.int .u8) (w0 := w) w.heap.size rfl (.tmp 65) (.tmp 69) 35 5 (.int .u8 0) 1 rfl Try.underlying35 info5 rfl (by decide) (by omega) _ _ _ [.int .u8 _] (fun _ => True) (fun _ => False) rfl rfl rfl (fun _ hk => hk.elim) (fun _ _ => trivial) HO.out HB2.out HB2.out.size (by simp) ?_; intro v1 w4 ho hb hg hat; clear hcv HO HB2; have HO := Aside0.mk ho; have HB2 := Aside0.mk hb; have hcv := own_string (P := Try.prog) Try.underlying35 Try.underlying5 Try.underlying9 (Kd.own_of_R HO.out); clear ho hb hg hat) | ((with_reducible refine gate_builtin (b := .append) (xs := #[.tmp 71, .tmp 74]) rfl ?_); at_builtin; refine Kd.R_append (Kd.int .u8) (w0 := w) w.heap.size rfl (.tmp 71) (.tmp 74) 35 5 (.int .u8 0) 1 rfl Try.underlying35 info5 rfl (by decide) (by omega) _ _ _ [.int .u8 _] (fun _ => True) (fun _ => False) rfl rfl rfl (fun _ hk => hk.elim) (fun _ _ => trivial) HO.out HB2.out HB2.out.size (by simp) ?_; intro v1 w4 ho hb hg hat; clear hcv HO HB2; have HO := Aside0.mk ho; have HB2 := Aside0.mk hb; have hcv := own_string (P := Try.prog) Try.underlying35 Try.underlying5 Try.underlying9 (Kd.own_of_R HO.out); clear ho hb hg hat))
      go_ret2
      exact ⟨by rw [← HR2.out]; rfl, HB2.out⟩
    · have HR2 : Aside0 (strOfNums [7, a0 / 281474976710656, a0 / 1099511627776 % 256, a0 / 4294967296 % 256, a0 / 16777216 % 256, a0 / 65536 % 256, a0 / 256 % 256, a0 % 256] = r1) := ⟨by
      rw [← HR1.out]
      have e7 : a0 / 281474976710656 % 256 = a0 / 281474976710656 := by omega
      simp [pack_Num.be, e7]⟩
      clear HR1
      have hcv := own_string (P := Try.prog) Try.underlying35 Try.underlying5 Try.underlying9 (Kd.own_of_R HO.out)
      go_wp2_with (first | ((with_reducible refine gate_builtin (b := .append) (xs := #[.tmp 35, .tmp 39]) rfl ?_); at_builtin; refine Kd.R_append (Kd.int .u8) (w0 := w) w.heap.size rfl (.tmp 35) (.tmp 39) 35 5 (.int .u8 0) 1 rfl Try.underlying35 info5 rfl (by decide) (by omega) _ _ _ [.int .u8 _] (fun _ => True) (fun _ => False) rfl rfl rfl (fun _ hk => hk.elim) (fun _ _ => trivial) HO.out HB2.out HB2.out.size (by simp) ?_; intro v1 w4 ho hb hg hat; clear hcv HO HB2; have HO := Aside0.mk ho; have HB2 := Aside0.mk hb; have hcv := own_string (P := Try.prog) Try.underlying35 Try.underlying5 Try.underlying9 (Kd.own_of_R HO.out); clear ho hb hg hat) | ((with_reducible refine gate_builtin (b := .append) (xs := #[.tmp 41, .tmp 45]) rfl ?_); at_builtin; refine Kd.R_append (Kd.int .u8) (w0 := w) w.heap.size rfl (.tmp 41) (.tmp 45) 35 5 (.int .u8 0) 1 rfl Try.underlying35 info5 rfl (by decide) (by omega) _ _ _ [.int .u8 _] (fun _ => True) (fun _ => False) rfl rfl rfl (fun _ hk => hk.elim) (fun _ _ => trivial) HO.out HB2.out HB2.out.size (by simp) ?_; intro v1 w4 ho hb hg hat; clear hcv HO HB2; have HO := Aside0.mk ho; have HB2 := Aside0.mk hb; have hcv := own_string (P := Try.prog) Try.underlying35 Try.underlying5 Try.underlying9 (Kd.own_of_R HO.out); clear ho hb hg hat) | ((with_reducible refine gate_builtin (b := .append) (xs := #[.tmp 47, .tmp 51]) rfl ?_); at_builtin; refine Kd.R_append (Kd.int .u8) (w0 := w) w.heap.size rfl (.tmp 47) (.tmp 51) 35 5 (.int .u8 0) 1 rfl Try.underlying35 info5 rfl (by decide) (by omega) _ _ _ [.int .u8 _] (fun _ => True) (fun _ => False) rfl rfl rfl (fun _ hk => hk.elim) (fun _ _ => trivial) HO.out HB2.out HB2.out.size (by simp) ?_; intro v1 w4 ho hb hg hat; clear hcv HO HB2; have HO := Aside0.mk ho; have HB2 := Aside0.mk hb; have hcv := own_string (P := Try.prog) Try.underlying35 Try.underlying5 Try.underlying9 (Kd.own_of_R HO.out); clear ho hb hg hat) | ((with_reducible refine gate_builtin (b := .append) (xs := #[.tmp 53, .tmp 57]) rfl ?_); at_builtin; refine Kd.R_append (Kd.int .u8) (w0 := w) w.heap.size rfl (.tmp 53) (.tmp 57) 35 5 (.int .u8 0) 1 rfl Try.underlying35 info5 rfl (by decide) (by omega) _ _ _ [.int .u8 _] (fun _ => True) (fun _ => False) rfl rfl rfl (fun _ hk => hk.elim) (fun _ _ => trivial) HO.out HB2.out HB2.out.size (by simp) ?_; intro v1 w4 ho hb hg hat; clear hcv HO HB2; have HO := Aside0.mk ho; have HB2 := Aside0.mk hb; have hcv := own_string (P := Try.prog) Try.underlying35 Try.underlying5 Try.underlying9 (Kd.own_of_R HO.out); clear ho hb hg hat) | ((with_reducible refine gate_builtin (b := .append) (xs := #[.tmp 59, .tmp 63]) rfl ?_); at_builtin; refine Kd.R_append (Kd.int .u8) (w0 := w) w.heap.size rfl (.tmp 59) (.tmp 63) 35 5 (.int .u8 0) 1 rfl Try.underlying35 info5 rfl (by decide) (by omega) _ _ _ [.int .u8 _] (fun _ => True) (fun _ => False) rfl rfl rfl (fun _ hk => hk.elim) (fun _ _ => trivial) HO.out HB2.out HB2.out.size (by simp) ?_; intro v1 w4 ho hb hg hat; clear hcv HO HB2; have HO := Aside0.mk ho; have HB2 := Aside0.mk hb; have hcv := own_string (P := Try.prog) Try.underlying35 Try.underlying5 Try.underlying9 (Kd.own_of_R HO.out); clear ho hb hg hat) | ((with_reducible refine gate_builtin (b := .append) (xs := #[.tmp 65, .tmp 69]) rfl ?_); at_builtin; refine Kd.R_append (Kd.int .u8) (w0 := w) w.heap.size rfl (.tmp 65) (.tmp 69) 35 5 (.int .u8 0) 1 rfl Try.underlying35 info5 rfl (by decide) (by omega) _ _ _ [.int .u8 _] (fun _ => True) (fun _ => False) rfl rfl rfl (fun _ hk => hk.elim) (fun _ _ => trivial) HO.out HB2.out HB2.out.size (by simp) ?_; intro v1 w4 ho hb hg hat; clear hcv HO HB2; have HO := Aside0.mk ho; have HB2 := Aside0.mk hb; have hcv := own_string (P := Try.prog) Try.underlying35 Try.underlying5 Try.underlying9 (Kd.own_of_R HO.out); clear ho hb hg hat) | ((with_reducible refine gate_builtin (b := .append) (xs := #[.tmp 71, .tmp 74]) rfl ?_); at_builtin; refine Kd.R_append (Kd.int .u8) (w0 := w) w.heap.size rfl (.tmp 71) (.tmp 74) 35 5 (.int .u8 0) 1 rfl Try.underlying35 info5 rfl (by decide) (by omega) _ _ _ [.int .u8 _] (fun _ => True) (fun _ => False) rfl rfl rfl (fun _ hk => hk.elim) (fun _ _ => trivial) HO.out HB2.out HB2.out.size (by simp) ?_; intro v1 w4 ho hb hg hat; clear hcv HO HB2; have HO := Aside0.mk ho; have HB2 := Aside0.mk hb; have hcv := own_string (P := Try.prog) Try.underlying35 Try.underlying5 Try.underlying9 (Kd.own_of_R HO.out); clear ho hb hg hat))
      go_ret2
      exact ⟨by rw [← HR2.out]; rfl, HB2.out⟩


end Go.Proofs.Yticajnfmjapkgaa.PD
