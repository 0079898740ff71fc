-- printed by gprint.py (own tool) over the kit's print
import Derived.Test.YticajnfmjapkgaaPDx0
import Derived.Test.YticajnfmjapkgaaPDx7
namespace Go.Proofs.Yticajnfmjapkgaa.PD
open Go.RowKit Go.Proofs.Yticajnfmjapkgaa Go.Proofs.YticajnfmjapkgaaW.PrintWords Go.Proofs.YticajnfmjapkgaaW.PrintLast Go.Proofs.YticajnfmjapkgaaW.PrintMore
attribute [local go_sem] max2_int min2_int max_two min_two max_three min_three max_four min_four   -- for this text's walks alone
set_option linter.unnecessarySimpa false
attribute [local go_sem] min2_str max2_str leq_str gtr_str geq_str
set_option linter.unusedVariables false
set_option linter.unusedSimpArgs false

/-! ### space_sorted: function 31 -/
/-- The runs in their order: insertion by the place. -/
def space_sorted.ins (r : S62) : List S62 → List S62
  | [] => [r]
  | x :: l => if r.f0 ≤ x.f0 then r :: x :: l else x :: space_sorted.ins r l
def space_sorted.sort : List S62 → List S62
  | [] => []
  | x :: l => space_sorted.ins x (space_sorted.sort l)
/-- Right, from a place on. -/
def space_sorted.ok (total : Int) : Int → List S62 → Bool
  | _, [] => true
  | e, r :: l => decide (1 ≤ r.f1) && (decide (e ≤ r.f0) && (decide (r.f0 ≤ total) && (decide (r.f1 ≤ total - r.f0) && space_sorted.ok total (r.f0 + r.f1) l)))
theorem space_sorted.ins_perm (r : S62) (l : List S62) : (space_sorted.ins r l).Perm (r :: l) := by
  induction l with
  | nil => exact List.Perm.refl _
  | cons x l ih =>
    simp only [space_sorted.ins]
    split
    · exact List.Perm.refl _
    · exact (ih.cons x).trans (List.Perm.swap r x l)
theorem space_sorted.sort_perm (l : List S62) : (space_sorted.sort l).Perm l := by
  induction l with
  | nil => exact List.Perm.refl _
  | cons x l ih => exact (space_sorted.ins_perm x _).trans (ih.cons x)
theorem space_sorted.ins_sorted (r : S62) (l : List S62) (h : l.Pairwise fun a b => a.f0 ≤ b.f0) : (space_sorted.ins r l).Pairwise fun a b => a.f0 ≤ b.f0 := by
  induction l with
  | nil => simp [space_sorted.ins]
  | cons x l ih =>
    rw [List.pairwise_cons] at h
    simp only [space_sorted.ins]
    split
    · rename_i hle
      rw [List.pairwise_cons, List.pairwise_cons]
      exact ⟨fun b hb => by rcases List.mem_cons.1 hb with rfl | hb; exact hle; exact Int.le_trans hle (h.1 b hb), h⟩
    · rename_i hle
      rw [List.pairwise_cons]
      refine ⟨fun b hb => ?_, ih h.2⟩
      rcases List.mem_cons.1 ((space_sorted.ins_perm r l).mem_iff.1 hb) with rfl | hb
      · omega
      · exact h.1 b hb
theorem space_sorted.sort_sorted (l : List S62) : (space_sorted.sort l).Pairwise fun a b => a.f0 ≤ b.f0 := by
  induction l with
  | nil => exact List.Pairwise.nil
  | cons x l ih => exact space_sorted.ins_sorted x _ ih
theorem space_sorted.ok_strict (total : Int) (l : List S62) : ∀ e, space_sorted.ok total e l = true → (∀ x ∈ l, e ≤ x.f0) ∧ l.Pairwise fun a b => a.f0 < b.f0 := by
  induction l with
  | nil => intro e _; exact ⟨by simp, List.Pairwise.nil⟩
  | cons r l ih =>
    intro e h
    simp only [space_sorted.ok, Bool.and_eq_true, decide_eq_true_eq] at h
    obtain ⟨h1, h2, h3, h4, h5⟩ := h
    obtain ⟨i1, i2⟩ := ih _ h5
    refine ⟨fun x hx => ?_, ?_⟩
    · rcases List.mem_cons.1 hx with rfl | hx
      · exact h2
      · have := i1 x hx; omega
    · rw [List.pairwise_cons]
      exact ⟨fun b hb => by have := i1 b hb; omega, i2⟩
/-- Of one rising strictly there is but one order. -/
theorem space_sorted.only (x : List S62) : ∀ y : List S62, x.Perm y → (x.Pairwise fun a b => a.f0 < b.f0) → (y.Pairwise fun a b => a.f0 ≤ b.f0) → x = y := by
  induction x with
  | nil => intro y hp _ _; exact hp.nil_eq
  | cons a x ih =>
    intro y hp hx hy
    cases y with
    | nil => exact absurd hp.length_eq (by simp)
    | cons b y =>
      rw [List.pairwise_cons] at hx hy
      have hab : a = b := by
        rcases List.mem_cons.1 (hp.mem_iff.1 (List.mem_cons_self)) with h | h
        · exact h
        · have h1 := hy.1 a h
          rcases List.mem_cons.1 (hp.mem_iff.2 (List.mem_cons_self)) with k | k
          · exact k.symm
          · have := hx.1 b k; omega
      subst hab
      rw [ih y (List.Perm.cons_inv hp) hx.2 hy.2]
theorem space_sorted.any_order (total : Int) (l d : List S62) (hp : d.Perm l) (hd : d.Pairwise fun a b => a.f0 ≤ b.f0) : space_sorted.ok total 0 d = space_sorted.ok total 0 (space_sorted.sort l) ∧ (space_sorted.ok total 0 d = true → d = space_sorted.sort l) := by
  have hq : d.Perm (space_sorted.sort l) := hp.trans (space_sorted.sort_perm l).symm
  have h1 : space_sorted.ok total 0 d = true → d = space_sorted.sort l := fun h => space_sorted.only _ _ hq (space_sorted.ok_strict total d 0 h).2 (space_sorted.sort_sorted l)
  refine ⟨?_, h1⟩
  cases ho : space_sorted.ok total 0 d with
  | true => rw [← h1 ho, ho]
  | false =>
    cases hs : space_sorted.ok total 0 (space_sorted.sort l) with
    | false => rfl
    | true =>
      have := space_sorted.only _ _ hq.symm (space_sorted.ok_strict total _ 0 hs).2 hd
      rw [← this, hs] at ho
      cases ho
def space_sorted.enc (x : S62) : List Value := [.int .i64 x.f0, .int .i64 x.f1]
instance space_sorted.inh : Inhabited S62 := ⟨z62⟩
theorem space_sorted.lt_ (x y : S62) : Go.Proofs.ltOf (fun x y : S62 => Lib.compareInt x.f0 y.f0) x y = decide (x.f0 < y.f0) := by
  unfold Go.Proofs.ltOf Lib.compareInt
  by_cases h1 : x.f0 < y.f0
  · simp [h1]
  · by_cases h2 : y.f0 < x.f0 <;> simp [h1, h2]
theorem space_sorted.swo_ : Go.Sort.SWO (Go.Proofs.ltOf fun x y : S62 => Lib.compareInt x.f0 y.f0) where
  irrefl x := by rw [space_sorted.lt_]; simp
  trans x y z h1 h2 := by rw [space_sorted.lt_] at *; simp at *; omega
  ntrans x y z h1 h2 := by rw [space_sorted.lt_] at *; simp at *; omega
set_option maxHeartbeats 1000000 in
theorem space_sorted.cmp_ (x y : S62) (W : World) : Calls Try.prog 37 #[.agg (space_sorted.enc x).toArray, .agg (space_sorted.enc y).toArray] W fun e w' => e = .returned (.int .i64 (Lib.compareInt x.f0 y.f0)) ∧ ∃ q os', w' = Go.Sort.grow (W.drewN q) os' := by
  have hcon := fun W' => AnyG.cmp_Compare_int Try.cmpInt x.f0 y.f0 W'
  change ∀ W', Calls Try.prog 38 _ _ _ at hcon
  generalize Lib.compareInt x.f0 y.f0 = r at hcon ⊢
  show Calls Try.prog 37 #[.agg #[.int .i64 x.f0, .int .i64 x.f1], .agg #[.int .i64 y.f0, .int .i64 y.f1]] W _
  have HC := Lib.hid hcon
  clear hcon
  go_enter Try.func37, Try.ntmps37
  go_wp2_with (go_at_call 38; refine (HC.out _).mono ?_; rintro e w' ⟨rfl, rfl⟩)
  go_ret
  exact ⟨rfl, 0, _, by rw [Go.Sort.alloc_eq_grow, Go.Sort.alloc_eq_grow, Go.Sort.grow_grow]; rfl⟩
theorem space_sorted.isAgg_ : ∀ w, (isAgg 62).run Try.prog w = .ok true w := Try.isAgg62
theorem space_sorted.k_len (x : S62) : (space_sorted.enc x).length = (k62).sz := rfl
set_option maxHeartbeats 1000000 in
/-- The library's sort, of a row of the call's own. -/
theorem space_sorted.sort_ (e : Nat) (v : Value) (l : List S62) (w : World) (base : Nat) (ok : Nat → Prop) (h : Kd.R k62 e w base ok v l) (hl : l.length ≤ 200) :
    Calls Try.prog 36 #[v, .func (.func 37) #[] #[]] w fun en w' => en = .returned (.tuple #[]) ∧ ∃ d : List S62, d.Perm l ∧ (d.Pairwise fun a b => a.f0 ≤ b.f0) ∧ Kd.R k62 e w' base ok v d ∧ w.grownBy w' v.ownBlock := by
  have ho := h.2
  obtain ⟨inner, ⟨ho1, ho2⟩, hr⟩ := ho
  rcases ho2 with ⟨rfl, h0⟩ | ⟨g, cap, cur, rfl, hb, hg, hn, _, hs, hx⟩
  · have hnil : l = [] := List.eq_nil_of_length_eq_zero h0
    subst hnil
    have hc := AnyF.slices_SortFunc_none Try.sortRun none 0 (.func (.func 37) #[] #[]) w
    change Calls Try.prog 36 _ _ _ at hc
    refine hc.mono fun en w' ⟨he, hw⟩ => ?_
    subst hw
    exact ⟨he, [], List.Perm.refl _, List.Pairwise.nil, h, ⟨rfl, rfl, rfl, Nat.le_refl _, fun _ _ _ => rfl⟩⟩
  · have hM : ∀ {w : World} {base : Nat} {ok : Nat → Prop} {x : S62} {cs : List Value}, (k62).M w base ok x cs → cs = space_sorted.enc x := fun hh => k62_openM hh
    have hM2 : ∀ (w : World) (base : Nat) (ok : Nat → Prop) (x : S62), (k62).M w base ok x (space_sorted.enc x) := fun w base ok x => k62_mkM w base ok x
    have hH := R_holds (d := k62) (enc := space_sorted.enc) space_sorted.k_len (by decide) hM h
    have eg : ∀ args w, (callFunc 37 args).run Try.prog w = .ok (.enter 37 args) w := enters_of Try.func37 (by kernel_rfl) rfl
    have hc := AnyQ.slices_SortFunc Try.sortRun 2 Try.isAgg62 Try.sizeOf62 space_sorted.enc (fun _ => rfl) (fun x v hv => by simp [space_sorted.enc] at hv; rcases hv with rfl | rfl <;> rfl) (fun x y => Lib.compareInt x.f0 y.f0) space_sorted.swo_ 37 #[] g 0 cap l.toArray w eg (fun _ _ _ _ x y => space_sorted.cmp_ x y _) hH.1 hH.2.1 (by simp; omega)
    change Calls Try.prog 36 _ _ _ at hc
    rw [List.size_toArray] at hc
    refine hc.mono fun en w' hh => ?_
    obtain ⟨he, d', n, os, ⟨hp1, _, hp3⟩, hsd, hw⟩ := hh
    subst hw
    have hsz : d'.size = l.length := by simpa using hp1
    have hfull : d'.extract 0 l.length = d' := by rw [← hsz]; simp
    have hperm : d'.toList.Perm l := by
      have h2 : (l.toArray).extract 0 l.length = l.toArray := by simp
      rw [hfull, h2] at hp3
      simpa using hp3
    have hR := sorted_R (d := k62) (enc := space_sorted.enc) (m := n) (os := os) space_sorted.k_len (by decide) hM hM2 h hsz
    refine ⟨he, d'.toList, hperm, ?_, hR.1, hR.2⟩
    rw [List.pairwise_iff_getElem]
    intro i j hi hj hij
    have hi' : i < d'.size := by simpa using hi
    have hj' : j < d'.size := by simpa using hj
    have := hsd i j (Nat.zero_le _) hij (by simpa [hsz] using hj')
    rw [space_sorted.lt_, getElem!_pos d' i hi', getElem!_pos d' j hj'] at this
    simp at this
    simpa using this
def space_sorted.f (a0 : Int) (l1 : List S62) : Option (List S62 × Bool) :=
  some (if a0 < 0 ∨ 4000 < a0 ∨ 200 < l1.length then ([], false) else if space_sorted.ok a0 0 (space_sorted.sort l1) = true then (space_sorted.sort l1, true) else ([], false))
set_option maxHeartbeats 2000000 in
set_option maxRecDepth 100000 in
theorem space_sorted.calls (a0 : Int) (A1 : Option Addr) (c1 : Nat) (l1 : List S62) (r1 : List S62) (r2 : Bool) (w : World) (hr1 : Kd.C k62 w A1 l1.length l1) (hc1 : l1.length ≤ c1) (h : space_sorted.f a0 l1 = some (r1, r2)) :
    Calls Try.prog 31 #[.int .i64 a0, .slice A1 l1.length c1] w fun e w' => ∃ v0_ : Value, e = .returned (.tuple #[v0_, .bool r2]) ∧ Kd.R k62 62 w' w.heap.size (fun _ => True) v0_ r1 ∧ Below w.heap.size w w' := by
  have HR := Aside0.mk hr1
  have HC := Aside0.mk hc1
  have H : (if a0 < 0 ∨ 4000 < a0 ∨ 200 < l1.length then ([], false) else if space_sorted.ok a0 0 (space_sorted.sort l1) = true then (space_sorted.sort l1, true) else ([], false)) = (r1, r2) := Option.some.inj h
  have hmost := hr1.2.1
  clear hr1 hc1 h
  by_cases c1_ : a0 < 0 ∨ 4000 < a0 ∨ 200 < l1.length
  · rw [if_pos c1_] at H
    obtain ⟨rfl, rfl⟩ := Prod.mk.inj H
    clear H
    rcases (by omega : a0 < 0 ∨ (¬ a0 < 0 ∧ 4000 < a0) ∨ (¬ a0 < 0 ∧ ¬ 4000 < a0 ∧ 200 < l1.length)) with h1 | ⟨h1, h2⟩ | ⟨h1, h2, h3⟩
    all_goals
      clear c1_
      go_enter Try.func31, Try.ntmps31
      go_wp2
      go_ret2
      exact ⟨_, rfl, Kd.R_nil _ _ _ _ _, Below.refl _ _⟩
  · rw [if_neg c1_] at H
    have g1 : 0 ≤ a0 := by omega
    have g2 : a0 ≤ 4000 := by omega
    have g3 : l1.length ≤ 200 := by omega
    have HH := Aside0.mk H
    clear c1_ H
    go_enter Try.func31, Try.ntmps31
    go_wp2_with fail
    refine (api_Run_35.calls A1 c1 l1 l1 w HR.out HC.out (by unfold api_Run_35.f; rw [if_pos (by omega)])).mono ?_
    rintro e w1 ⟨v, rfl, hv, hb⟩
    have HV := Aside0.mk hv
    have HB := Aside0.mk hb
    clear hv hb HR HC
    go_wp2_with fail
    refine (space_sorted.sort_ 62 v l1 w1 w.heap.size (fun _ => True) HV.out g3).mono ?_
    rintro e w2 ⟨rfl, d, hp, hs, hd, hg⟩
    have HB2 := Aside0.mk (pw_below_grown HB.out v.ownBlock HB.out.size hg (fun k hk => by obtain ⟨inner, ho⟩ := Kd.R_own HV.out; exact own_base ho k hk))
    have hdl : d.length = l1.length := hp.length_eq
    have ho := space_sorted.any_order a0 l1 d hp hs
    have HD := Aside0.mk hd
    have HH2 : Aside0 ((if space_sorted.ok a0 0 d = true then (d, true) else ([], false)) = (r1, r2)) := ⟨by
      rw [← HH.out, ← ho.1]
      by_cases q : space_sorted.ok a0 0 d = true
      · rw [if_pos q, if_pos q, ← ho.2 q]
      · rw [if_neg q, if_neg q]⟩
    clear hp hs ho hd hg HV HB HH
    obtain ⟨A, c, rfl, hc, -⟩ := Kd.R_reads HD.out
    obtain ⟨n, hn⟩ : ∃ n, n = d.length := ⟨_, rfl⟩
    have hn2 : n ≤ 200 := by omega
    have HN := Aside0.mk hn
    clear hdl hmost g3
    rw [← hn] at hc HD ⊢
    clear hn
    go_wp2_with fail
    go_loopw [7, 27] (fun en i wr => ∃ (k : Nat) (E : Int), k ≤ n ∧ i = .int .i64 k ∧ en = .int .i64 E ∧ 0 ≤ E ∧ E ≤ 4000 ∧ Aside0 (space_sorted.ok a0 E (d.drop k) = space_sorted.ok a0 0 d) ∧ Aside0 (Kd.R k62 62 wr w.heap.size (fun _ => True) (.slice A n c) d) ∧ Aside0 (Below w.heap.size w wr)) (fun _ i _ => n - (intOf i).toNat)
    case atStart => exact ⟨0, 0, Nat.zero_le _, rfl, rfl, by omega, by omega, ⟨by simp⟩, HD, HB2⟩
    case round =>
      clear HD HB2
      obtain ⟨k, E, hk, rfl, rfl, hE0, hE1, HO, HD, HB⟩ := hrel
      by_cases hlt : k < n
      · have hkd : k < d.length := by rw [← HN.out]; exact hlt
        have hrd : Kd.C k62 wr A n d := by
          obtain ⟨A', c', e', _, hr⟩ := Kd.R_reads HD.out
          injection e' with e1 e2 e3
          rw [e1, e2]
          exact hr
        obtain ⟨ad, rfl, hx0, hx1⟩ := at_T62 hrd (k : Int) (by omega) (by omega)
        obtain ⟨x, hx⟩ : ∃ x, x = rd_T62 d (k : Int) := ⟨_, rfl⟩
        rw [← hx, Int.toNat_natCast] at hx0 hx1
        have hdrop : d.drop k = x :: d.drop (k + 1) := by
          rw [List.drop_eq_getElem_cons hkd, hx, rd_T62, Int.toNat_natCast]
          simp [List.getD, hkd]
        have hok := HO.out
        rw [hdrop] at hok
        simp only [space_sorted.ok] at hok
        obtain ⟨p, q⟩ := x
        simp only at hx0 hx1 hok
        have HO2 := Aside0.mk hok
        clear hrd hx hdrop hok HO hkd
        have BAD : Aside0 (space_sorted.ok a0 0 d = false → (([], false) : List S62 × Bool) = (r1, r2)) := ⟨fun e => by rw [← HH2.out, e]; rfl⟩
        by_cases b1 : q < 1
        · have hb := BAD.out (by rw [← HO2.out]; simp; intro q1; omega)
          obtain ⟨rfl, rfl⟩ := Prod.mk.inj hb
          clear hb BAD HH2 HO2
          go_wp2_with fail
          go_ret2
          exact ⟨_, rfl, Kd.R_nil _ _ _ _ _, below_alloc HB.out _⟩
        · by_cases b2 : p < E
          · have hb := BAD.out (by rw [← HO2.out]; simp; intro q1 q2; omega)
            obtain ⟨rfl, rfl⟩ := Prod.mk.inj hb
            clear hb BAD HH2 HO2
            go_wp2_with fail
            go_ret2
            exact ⟨_, rfl, Kd.R_nil _ _ _ _ _, below_alloc HB.out _⟩
          · by_cases b3 : a0 < p
            · have hb := BAD.out (by rw [← HO2.out]; simp; intro q1 q2 q3; omega)
              obtain ⟨rfl, rfl⟩ := Prod.mk.inj hb
              clear hb BAD HH2 HO2
              go_wp2_with fail
              go_ret2
              exact ⟨_, rfl, Kd.R_nil _ _ _ _ _, below_alloc HB.out _⟩
            · have p0 : 0 ≤ p := by omega
              have p1 : p ≤ 4000 := by omega
              by_cases b4 : a0 - p < q
              · have hb := BAD.out (by rw [← HO2.out]; simp; intro q1 q2 q3 q4; omega)
                obtain ⟨rfl, rfl⟩ := Prod.mk.inj hb
                clear hb BAD HH2 HO2
                go_wp2_with fail
                go_ret2
                exact ⟨_, rfl, Kd.R_nil _ _ _ _ _, below_alloc HB.out _⟩
              · have q0 : 0 ≤ q := by omega
                have q1 : q ≤ 4000 := by omega
                have HO3 : Aside0 (space_sorted.ok a0 (p + q) (d.drop (k + 1)) = space_sorted.ok a0 0 d) := ⟨by rw [← HO2.out]; simp [show 1 ≤ q by omega, show E ≤ p by omega, show p ≤ a0 by omega, show q ≤ a0 - p by omega]⟩
                have hpq : p + q ≤ 4000 := by omega
                clear BAD HO2
                go_wp2_with fail
                go_roundw
                case rel => exact ⟨k + 1, p + q, by omega, by go_num, rfl, by omega, by omega, HO3, ⟨Kd.R_alloc HD.out _⟩, ⟨below_alloc HB.out _⟩⟩
                case measure => simp [intOf]; omega
      · obtain rfl : k = n := by omega
        have ho := HO.out
        rw [HN.out, List.drop_length] at ho
        simp only [space_sorted.ok] at ho
        have hb := HH2.out
        rw [← ho, if_pos rfl] at hb
        obtain ⟨rfl, rfl⟩ := Prod.mk.inj hb
        clear hb ho HO HH2
        go_wp2_with fail
        go_ret2
        exact ⟨_, rfl, HD.out, HB.out⟩


end Go.Proofs.Yticajnfmjapkgaa.PD
