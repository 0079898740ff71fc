-- packed: PDx20 PDx21 PkA PDx29
import Derived.Test.YtepgnefkpjnmlaaQP1
-- printed by gprint.py (own tool) over the kit's print
namespace Go.Proofs.Ytepgnefkpjnmlaa.PD
open Go.RowKit Go.Proofs.Ytepgnefkpjnmlaa Go.Proofs.YtepgnefkpjnmlaaW.PrintWords Go.Proofs.YtepgnefkpjnmlaaW.PrintLast Go.Proofs.YtepgnefkpjnmlaaW.PrintMore
attribute [local go_sem] max2_int min2_int max_two min_two max_three min_three max_four min_four   -- for this text's walks alone
set_option linter.unnecessarySimpa false
attribute [local go_sem] min2_str max2_str leq_str gtr_str geq_str
set_option linter.unusedVariables false
set_option linter.unusedSimpArgs false

/-! ### api_Meta_25: function 25 -/
/-- An element of a row of rows. -/
theorem api_Meta_25.at_ {w : World} {A : Option Addr} {n : Nat} {xs : List (List (S49))} (h : Kd.C (Kd.slice 49 k49) w A n xs) (k : Nat) (hk : k < xs.length) :
    ∃ ad Ai ci, A = some ad ∧ w.cell? (ad.add k) = some (.slice Ai (xs.getD k []).length ci) ∧ (xs.getD k []).length ≤ ci ∧ Kd.C k49 w Ai (xs.getD k []).length (xs.getD k []) := by
  obtain ⟨ad, c, rfl, _, ⟨Ai, ci, rfl, h1, h2⟩, hc⟩ := Kd.C_get h ([] : List (S49)) (k : Int) (by omega) (by have := h.1; omega)
  refine ⟨ad, Ai, ci, rfl, ?_, by simpa using h1, by simpa using h2⟩
  have := hc 0 _ rfl
  have hs : ((Kd.slice 49 k49)).sz = 1 := rfl
  simpa [hs] using this
theorem api_Meta_25.grow_ (n : Nat) (w : World) (hn : n < 2513169434916) :
    Calls Try.prog 36 #[.slice none 0 0, .int .i64 n] w fun e w' => ∃ v0_ : Value, e = .returned (v0_) ∧ Kd.R k49 49 w' w.heap.size (fun _ => True) v0_ [] ∧ Below w.heap.size w w' := by
  by_cases h0 : n = 0
  · subst h0
    go_enter Try.func36, Try.ntmps36
    go_wp2
    go_ret
    exact ⟨_, rfl, Kd.R_nil _ _ _ _ _, Below.refl _ _⟩
  · have h1 : (0 : Int) < n := by omega
    go_enter Try.func36, Try.ntmps36
    go_wp2_with ((with_reducible refine gate_builtin (b := .append) (xs := #[.tmp 20, .tmp 21]) rfl ?_); refine Kd.R_append_zeros k49 (w0 := w) w.heap.size rfl (.tmp 20) (.tmp 21) 22 3 49 (.agg #[(.int .i64 0), (.int .i64 0), (.string ⟨#[]⟩), (.string ⟨#[]⟩), (.int .i64 0)]) 56 rfl Try.underlying22 Try.underlying3 info49 rfl (by decide) (by omega) _ [] z49 (n : Int) (fun _ => True) rfl rfl ?aZ ?aF ?aO ?aN ?aB ?aS ?aL ?_; (case aZ => first | exact k49_mkM _ _ _ _ | rfl); (case aF => exact fun _ _ => trivial); (case aO => exact Kd.R_nil _ _ _ _ _); (case aN => omega); (case aB => exact Below.refl _ _); (case aS => exact Nat.le_refl _); (case aL => simp; omega); intro v1 w1 ho hb hg hat; obtain ⟨A1, c1, rfl, hc1, _⟩ := Kd.R_reads ho; have HO := Aside0.mk (Kd.R_take (m := 0) ho (Nat.zero_le _)); have HB := Aside0.mk hb; clear ho hb hg hat)
    go_ret
    exact ⟨_, rfl, HO.out, HB.out⟩
def api_Meta_25.f (l0 : List (List (S49))) : Option (List (S49)) := if l0.flatten.length < 2513169434916 then some l0.flatten else none
set_option maxHeartbeats 1000000 in
theorem api_Meta_25.calls (A0 : Option Addr) (c0 : Nat) (l0 : List (List (S49))) (r : (List (S49))) (w : World) (hr0 : Kd.C (Kd.slice 49 k49) w A0 l0.length l0) (hc0 : l0.length ≤ c0) (h : api_Meta_25.f l0 = some r) :
    Calls Try.prog 25 #[.slice A0 l0.length c0] w fun e w' => ∃ v0_ : Value, e = .returned (v0_) ∧ Kd.R k49 49 w' w.heap.size (fun _ => True) v0_ r ∧ Below w.heap.size w w' := by
  obtain ⟨hlim, rfl⟩ : l0.flatten.length < 2513169434916 ∧ l0.flatten = r := by
    unfold api_Meta_25.f at h
    split at h
    · rename_i hl; exact ⟨hl, Option.some.inj h⟩
    · cases h
  clear h
  have hmost := hr0.2.1
  have HR := Aside0.mk hr0
  have hsum : ∀ k, (l0.take k).flatten.length ≤ l0.flatten.length := fun k => by
    have e : l0.flatten = (l0.take k).flatten ++ (l0.drop k).flatten := by rw [← List.flatten_append, List.take_append_drop]
    rw [e, List.length_append]
    omega
  have hstep : ∀ k, k < l0.length → (l0.take (k + 1)).flatten = (l0.take k).flatten ++ l0.getD k [] := fun k hk => by
    rw [List.take_succ_eq_append_getElem hk, List.flatten_append]
    simp [List.getD, hk]
  have HS := Aside0.mk hsum; have HST := Aside0.mk hstep; have HL := Aside0.mk hlim
  clear hr0 hsum hstep hlim hc0
  go_enter Try.func25, Try.ntmps25
  go_wp2_with fail
  go_loop [3, 11] (fun n i => ∃ k : Nat, k ≤ l0.length ∧ i = .int .i64 k ∧ n = .int .i64 ((l0.take k).flatten.length : Nat)) (fun _ i => l0.length - (intOf i).toNat)
  case atStart => exact ⟨0, Nat.zero_le _, rfl, by simp⟩
  case round =>
    obtain ⟨k, hk, rfl, rfl⟩ := hrel
    by_cases hlt : k < l0.length
    · obtain ⟨ad, Ai, ci, rfl, hcell, hci, _⟩ := api_Meta_25.at_ HR.out k hlt
      have e1 := HST.out k hlt
      have e2 := HS.out (k + 1)
      have e3 := HL.out
      rw [e1, List.length_append] at e2
      have E1 := Aside0.mk (congrArg List.length e1)
      clear e1
      rw [List.length_append] at E1
      generalize (l0.take k).flatten.length = s at *
      generalize (l0.getD k []).length = m at *
      generalize l0.flatten.length = tot at *
      go_wp2
      have h1 := E1.out
      refine ⟨⟨k + 1, by omega, by go_num, by rw [h1]; go_num⟩, by simp [intOf]; omega⟩
    · obtain rfl : k = l0.length := by omega
      have hn := HL.out
      rw [List.take_length]
      obtain ⟨n, hn0⟩ : ∃ n : Nat, n = l0.flatten.length := ⟨_, rfl⟩
      rw [← hn0] at hn ⊢
      have HN := Aside0.mk hn0
      clear hn0
      go_wp2_with (go_at_call 36; refine (api_Meta_25.grow_ n _ hn).mono ?_; rintro e w1 ⟨v, rfl, hv, hb⟩; have HV := Aside0.mk hv; have HB := Aside0.mk hb; clear hv hb)
      go_loopw [6, 27] (fun u i wr => ∃ k : Nat, k ≤ l0.length ∧ i = .int .i64 k ∧ Aside0 (Kd.R k49 49 wr w.heap.size (fun _ => True) u (l0.take k).flatten) ∧ Aside0 (Below w.heap.size w wr)) (fun _ i _ => l0.length - (intOf i).toNat)
      case atStart => exact ⟨0, Nat.zero_le _, rfl, by simpa using HV, HB⟩
      case round =>
        clear HV HB
        obtain ⟨k, hk, rfl, HV, HB⟩ := hrel
        by_cases hlt : k < l0.length
        · obtain ⟨ad, Ai, ci, rfl, hcell, hci, hrow⟩ := api_Meta_25.at_ (Kd.C_below HR.out HB.out) k hlt
          have hl : (l0.take k).flatten.length + (l0.getD k []).length < 2513169434916 := by
            have e1 := HST.out k hlt; have e2 := HS.out (k + 1); have e3 := HL.out
            rw [e1, List.length_append] at e2; omega
          have h1 := HST.out k hlt
          obtain ⟨x, hx⟩ : ∃ x : (List (S49)), x = l0.getD k [] := ⟨_, rfl⟩
          rw [← hx] at hcell hci hrow hl h1
          obtain ⟨y, hy⟩ : ∃ y : (List (S49)), y = (l0.take k).flatten := ⟨_, rfl⟩
          rw [← hy] at hl h1 HV
          have HW := Aside0.mk hrow
          have HLL := Aside0.mk hl
          have H1 := Aside0.mk h1
          clear hrow hl hci h1 hx hy
          go_wp2_with ((with_reducible refine gate_builtin (b := .append) (xs := #[.tmp 31, .tmp 32]) rfl ?_); refine Kd.R_append_rows k49 (w0 := w) w.heap.size rfl (.tmp 31) (.tmp 32) 22 49 (.agg #[(.int .i64 0), (.int .i64 0), (.string ⟨#[]⟩), (.string ⟨#[]⟩), (.int .i64 0)]) 56 rfl Try.underlying22 info49 rfl (by decide) (by omega) _ y x _ _ _ (fun _ => True) (fun _ => False) rfl rfl ?aO ?aR (fun _ _ h => h) (fun _ h => h.elim) ?aF ?aB ?aS ?aL ?_; (case aO => exact HV.out); (case aR => exact HW.out); (case aF => exact fun _ _ => trivial); (case aB => exact HB.out); (case aS => exact HB.out.size); (case aL => have := HLL.out; omega); intro v1 w2 ho hb hg hat; have HO := Aside0.mk ho; clear HB; have HB := Aside0.mk hb; clear ho hb hg hat)
          refine ⟨⟨k + 1, by omega, by go_num, ⟨by rw [H1.out]; exact HO.out⟩, HB⟩, by simp [intOf]; omega⟩
        · obtain rfl : k = l0.length := by omega
          have HV2 := HV.out
          rw [List.take_length] at HV2
          have HV3 := Aside0.mk HV2
          clear HV2 HV
          go_wp2
          go_ret
          exact ⟨_, rfl, HV3.out, HB.out⟩


end Go.Proofs.Ytepgnefkpjnmlaa.PD

-- printed by gprint.py (own tool) over the kit's print
namespace Go.Proofs.Ytepgnefkpjnmlaa.PD
open Go.RowKit Go.Proofs.Ytepgnefkpjnmlaa Go.Proofs.YtepgnefkpjnmlaaW.PrintWords Go.Proofs.YtepgnefkpjnmlaaW.PrintLast Go.Proofs.YtepgnefkpjnmlaaW.PrintMore
attribute [local go_sem] max2_int min2_int max_two min_two max_three min_three max_four min_four   -- for this text's walks alone
set_option linter.unnecessarySimpa false
attribute [local go_sem] min2_str max2_str leq_str gtr_str geq_str
set_option linter.unusedVariables false
set_option linter.unusedSimpArgs false

/-! ### pick_Pick: function 9 -/
/-- A table against the keys of some. -/
def pick_Pick.lo (l : List S49) (x : ByteArray) : ByteArray := l.foldl (fun a y => minB a y.f2) x
def pick_Pick.hi (l : List S49) (x : ByteArray) : ByteArray := l.foldl (fun a y => maxB a y.f3) x
def pick_Pick.meetB (l : List S49) (m : S49) : Bool :=
  match l with
  | [] => false
  | x :: _ => !(Op.bytesLess (pick_Pick.hi l x.f3).toList m.f2.toList) && !(Op.bytesLess m.f3.toList (pick_Pick.lo l x.f2).toList)
theorem pick_Pick.meet_loop (L : List S49) (m : S49) (hL : L.length < 1099511627776) (d : Nat) : ∀ (k i : Nat) (a b : ByteArray), d = L.length - i → i ≤ L.length → d < k →
    pick_meet.l0 k a b L (L.length : Int) i m.f0 m.f1 m.f2 m.f3 m.f4 = some (!(Op.bytesLess (pick_Pick.hi (L.drop i) b).toList m.f2.toList) && !(Op.bytesLess m.f3.toList (pick_Pick.lo (L.drop i) a).toList)) := by
  induction d with
  | zero =>
    intro k i a b hd hi hk
    obtain ⟨k, rfl⟩ : ∃ m, k = m + 1 := ⟨k - 1, by omega⟩
    obtain rfl : i = L.length := by omega
    simp only [pick_meet.l0]
    rw [if_neg (by omega), List.drop_length]
    simp only [pick_Pick.hi, pick_Pick.lo, List.foldl_nil]
    by_cases h : Op.bytesLess b.toList m.f2.toList = true
    · rw [if_pos h]; simp [h]
    · rw [if_neg h]; simp [h]
  | succ d ih =>
    intro k i a b hd hi hk
    obtain ⟨k, rfl⟩ : ∃ m, k = m + 1 := ⟨k - 1, by omega⟩
    have hlt : i < L.length := by omega
    have hw : wrap64 ((i : Int) + 1) = ((i + 1 : Nat) : Int) := by unfold wrap64; omega
    have hm : rd_T49 L (i : Int) = L[i] := by simp [rd_T49, List.getD, hlt]
    simp only [pick_meet.l0]
    rw [if_pos (by omega), if_pos (by omega), if_pos (by omega), hw, hm, ih k (i + 1) _ _ (by omega) (by omega) (by omega), List.drop_eq_getElem_cons hlt]
    rfl
theorem pick_Pick.meet_some (m : S49) (L : List S49) (hL : L.length < 1099511627776) : pick_meet.f (L.length + 1) m.f0 m.f1 m.f2 m.f3 m.f4 L = some (pick_Pick.meetB L m) := by
  unfold pick_meet.f
  cases L with
  | nil => rw [if_pos (by simp)]; rfl
  | cons x L =>
    rw [if_neg (by simp <;> omega), if_pos (by simp <;> omega)]
    have := pick_Pick.meet_loop (x :: L) m hL (x :: L).length ((x :: L).length + 1) 0 x.f2 x.f3 (by omega) (by omega) (by omega)
    exact this
theorem pick_Pick.ids_loop (L : List S49) (hL : L.length < 17592186044416) (d : Nat) : ∀ (k i : Nat) (acc : List Int), d = L.length - i → i ≤ L.length → acc.length = i → d < k →
    pick_ids.l0 k acc L (L.length : Int) i = some (acc ++ (L.drop i).map (·.f0)) := by
  induction d with
  | zero =>
    intro k i acc hd hi ha hk
    obtain ⟨k, rfl⟩ : ∃ m, k = m + 1 := ⟨k - 1, by omega⟩
    obtain rfl : i = L.length := by omega
    simp only [pick_ids.l0]
    rw [if_neg (by omega)]
    simp
  | succ d ih =>
    intro k i acc hd hi ha hk
    obtain ⟨k, rfl⟩ : ∃ m, k = m + 1 := ⟨k - 1, by omega⟩
    have hlt : i < L.length := by omega
    have hw : wrap64 ((i : Int) + 1) = ((i + 1 : Nat) : Int) := by unfold wrap64; omega
    simp only [pick_ids.l0]
    rw [if_pos (by omega), if_pos (by omega), if_pos (by omega), if_pos (by omega), hw, ih k (i + 1) _ (by omega) (by omega) (by simp [ha]) (by omega), List.drop_eq_getElem_cons hlt, List.map_cons]
    simp only [rd_T49, Int.toNat_natCast, List.getD, List.getElem?_eq_getElem hlt, Option.getD_some, List.append_assoc, List.cons_append, List.nil_append]
theorem pick_Pick.ids_some (L : List S49) (hL : L.length < 17592186044416) : pick_ids.f (L.length + 1) L = some (L.map (·.f0)) := by
  unfold pick_ids.f
  have := pick_Pick.ids_loop L hL L.length (L.length + 1) 0 [] (by omega) (by omega) rfl (by omega)
  simpa using this
def pick_Pick.under (l i : List S49) (n : Int) : List S49 := (pick_first.lev l (n + 1)).filter (pick_Pick.meetB i)
def pick_Pick.tell (l : List S49) (i : List S49) (n : Int) : Int × List Int × List Int × Bool × Bool :=
  (n, i.map (·.f0), (pick_Pick.under l i n).map (·.f0), !(l.any fun m => decide (n + 1 < m.f1) && pick_Pick.meetB (i ++ pick_Pick.under l i n) m), true)
def pick_Pick.f (l0_0 : List S49) (l0_1 : List Int) (a0_2 : Int) : Option (Int × List Int × List Int × Bool × Bool) :=
  (version_Right.f l0_0 l0_1 a0_2).bind fun ok => if ok = true then ((pick_first.f l0_0 l0_1 a0_2).bind fun p => if p.1 < 0 then some (0, [], [], false, false) else some (pick_Pick.tell l0_0 p.2 p.1)) else some (0, [], [], false, false)
theorem pick_Pick.first_facts {l0 : List S49} {l1 : List Int} {a lv : Int} {ins : List S49} (h : pick_first.f l0 l1 a = some (lv, ins)) : -1 ≤ lv ∧ lv ≤ 2 ∧ ins.length ≤ 200 ∧ l0.length ≤ 200 := by
  unfold pick_first.f at h
  split at h
  · rename_i hl
    have h := Option.some.inj h
    have hlev : ∀ n, (pick_first.lev l0 n).length ≤ 200 := fun n => Nat.le_trans (List.length_filter_le _ _) hl.1
    have h0 := hlev 0; have h1 := hlev 1; have h2 := hlev 2
    unfold pick_first.tell at h
    refine ⟨?_, ?_, ?_, hl.1⟩ <;> (repeat' split at h) <;> (obtain ⟨rfl, rfl⟩ := Prod.mk.inj h) <;> first | omega | simp <;> omega
  · cases h
theorem pick_Pick.filter_snoc (p : S49 → Bool) (l : List S49) (k : Nat) (hk : k < l.length) : (l.take (k + 1)).filter p = if p (l.getD k z49) then (l.take k).filter p ++ [l.getD k z49] else (l.take k).filter p := by
  rw [List.take_succ_eq_append_getElem hk, List.filter_append]
  simp only [List.getD, List.getElem?_eq_getElem hk, Option.getD_some, List.filter_cons, List.filter_nil]
  split <;> simp
theorem pick_Pick.any_snoc (p : S49 → Bool) (l : List S49) (k : Nat) (hk : k < l.length) : (l.take (k + 1)).any p = ((l.take k).any p || p (l.getD k z49)) := by
  rw [List.take_succ_eq_append_getElem hk, List.any_append]
  simp [List.getD, hk]
set_option maxHeartbeats 8000000 in
set_option maxRecDepth 100000 in
theorem pick_Pick.calls (A0_0 : Option Addr) (c0_0 : Nat) (l0_0 : List (S49)) (A0_1 : Option Addr) (c0_1 : Nat) (l0_1 : List Int) (a0_2 : Int) (r1 : Int) (r2 r3 : List Int) (r4 r5 : Bool) (w : World) (hr0_0 : Kd.C k49 w A0_0 l0_0.length l0_0) (hc0_0 : l0_0.length ≤ c0_0) (hr0_1 : Kd.C (Kd.int .i64) w A0_1 l0_1.length l0_1) (hc0_1 : l0_1.length ≤ c0_1) (h : pick_Pick.f l0_0 l0_1 a0_2 = some (r1, r2, r3, r4, r5)) :
    Calls Try.prog 9 #[.agg #[.slice A0_0 l0_0.length c0_0, .slice A0_1 l0_1.length c0_1, .int .i64 a0_2]] w fun e w' => ∃ v1_ v2_ : Value, e = .returned (.tuple #[.agg #[.int .i64 r1, v1_, v2_, .bool r4], .bool r5]) ∧ Kd.R (Kd.int .i64) 3 w' w.heap.size (fun k_ => some k_ ≠ (v2_ : Value).ownBlock) v1_ r2 ∧ Kd.R (Kd.int .i64) 3 w' w.heap.size (fun k_ => some k_ ≠ (v1_ : Value).ownBlock) v2_ r3 ∧ Below w.heap.size w w' := by
  unfold pick_Pick.f at h
  obtain ⟨ok, hok, h1⟩ := Option.bind_eq_some_iff.1 h
  have HOK := Aside0.mk hok
  have HR0 := Aside0.mk hr0_0
  have HR1 := Aside0.mk hr0_1
  have HC0 := Aside0.mk hc0_0
  have HC1 := Aside0.mk hc0_1
  have HH := Aside0.mk h1
  clear hr0_0 hr0_1 hc0_0 hc0_1 h1 h hok
  have HB := Aside0.mk (Below.refl w.heap.size w)
  go_enter Try.func9, Try.ntmps9
  go_wp2_with (first | ((with_reducible refine gate_dst (N := 1) rfl ?_); refine box_event ?hg (N := 1) ?hd (cs := #[.slice A0_0 l0_0.length c0_0, .slice A0_1 l0_1.length c0_1, .int .i64 a0_2]) (t := 25) ?hr ?_; (case hd => rfl); (case hg => rfl); (case hr => first | (go_simp; done) | (go_simp; rfl)); intro gb hg w1 hbox hb; have HB1 := Aside0.mk (below_step HB.out hb); have Hgb := Aside0.mk hbox; have Sgb := Aside0.mk (by rw [hg]; exact HB.out.size : w.heap.size ≤ gb); clear hb hbox hg; have e_0 : w1.cell? ⟨gb, 0, none⟩ = some (.slice A0_0 l0_0.length c0_0) := (blk_cell Hgb.out 0).trans rfl; have e_1 : w1.cell? ⟨gb, 1, none⟩ = some (.slice A0_1 l0_1.length c0_1) := (blk_cell Hgb.out 1).trans rfl; have e_2 : w1.cell? ⟨gb, 2, none⟩ = some (.int .i64 a0_2) := (blk_cell Hgb.out 2).trans rfl) | ((with_reducible refine gate_dst (N := 2) rfl ?_); refine box_event ?hg (N := 2) ?hd (cs := #[.int .i64 0, .slice none 0 0, .slice none 0 0, .bool false]) (t := 28) ?hr ?_; (case hd => rfl); (case hg => rfl); (case hr => first | (go_simp; done) | (go_simp; rfl)); intro gj hg w2 hbox hb; have HB2 := Aside0.mk (below_step HB1.out hb); have Hgj := Aside0.mk hbox; have Sgj := Aside0.mk (by rw [hg]; exact HB1.out.size : w.heap.size ≤ gj); have HK2 := Aside0.mk (blk_below Hgb.out hb); have Ngb_gj := Aside0.mk (by rw [hg]; exact blk_lt Hgb.out : gb < gj); clear hb hbox hg; clear e_0 e_1 e_2 Hgb; have z_0 : w2.cell? ⟨gj, 0, none⟩ = some (.int .i64 0) := (blk_cell Hgj.out 0).trans rfl; have z_1 : w2.cell? ⟨gj, 1, none⟩ = some (.slice none 0 0) := (blk_cell Hgj.out 1).trans rfl; have z_2 : w2.cell? ⟨gj, 2, none⟩ = some (.slice none 0 0) := (blk_cell Hgj.out 2).trans rfl; have z_3 : w2.cell? ⟨gj, 3, none⟩ = some (.bool false) := (blk_cell Hgj.out 3).trans rfl); have e_0 : w2.cell? ⟨gb, 0, none⟩ = some (.slice A0_0 l0_0.length c0_0) := (blk_cell HK2.out 0).trans rfl; have e_1 : w2.cell? ⟨gb, 1, none⟩ = some (.slice A0_1 l0_1.length c0_1) := (blk_cell HK2.out 1).trans rfl; have e_2 : w2.cell? ⟨gb, 2, none⟩ = some (.int .i64 a0_2) := (blk_cell HK2.out 2).trans rfl)
  refine (version_Right.calls A0_0 c0_0 l0_0 A0_1 c0_1 l0_1 a0_2 ok w2 (Kd.C_below HR0.out HB2.out) HC0.out (Kd.C_below HR1.out HB2.out) HC1.out HOK.out).mono ?_
  rintro e w3 ⟨rfl, hb3⟩
  have HB3 := Aside0.mk (below_step HB2.out hb3)
  have HK3 := Aside0.mk (blk_below HK2.out hb3)
  have HJ3 := Aside0.mk (blk_below Hgj.out hb3)
  clear hb3 HB HB1 HB2 HK2 Hgj e_0 e_1 e_2 z_0 z_1 z_2 z_3
  cases ok with
  | false =>
    have hh := HH.out
    rw [if_neg (by simp)] at hh
    obtain ⟨rfl, rfl, rfl, rfl, rfl⟩ : r1 = 0 ∧ r2 = [] ∧ r3 = [] ∧ r4 = false ∧ r5 = false := by simpa [eq_comm] using hh
    clear hh HH
    go_wp2_with (((with_reducible refine gate_store (t := 28) (p := 2) (v := (.tmp 16)) rfl ?_); refine agg_event rfl 28 (.tmp 2) (.tmp 16) rfl gj rfl #[.int .i64 0, .slice none 0 0, .slice none 0 0, .bool false] #[.int .i64 0, .slice none 0 0, .slice none 0 0, .bool false] rfl HJ3.out (by kernel_rfl) rfl (by simp [Value.oneCell']) ?_; intro w4 hst hgr hszz; clear hszz; have HJ4 := Aside0.mk hst; have HB4 := Aside0.mk (pw_below_grown HB3.out (some gj) HB3.out.size hgr (fun k_ e_ => by injection e_ with e_; have := Sgj.out; omega)); clear hst hgr))
    refine bodyPost_ret (results_ct rfl _ _ gj 28 #[.int .i64 0, .slice none 0 0, .slice none 0 0, .bool false] (0, 0) _ rfl HJ4.out Try.underlying28 rfl (by kernel_rfl)) rfl ?_
    exact ⟨_, _, rfl, Kd.R_nil _ _ _ _ _, Kd.R_nil _ _ _ _ _, HB4.out⟩
  | true =>
    have hh := HH.out
    rw [if_pos rfl] at hh
    obtain ⟨⟨lv, ins⟩, hp, hh3⟩ := Option.bind_eq_some_iff.1 hh
    have HP := Aside0.mk hp
    obtain ⟨hl1, hl2, hil, hlen⟩ := pick_Pick.first_facts hp
    have HH2 := Aside0.mk hh3
    clear hh hh3 HH hp
    have e_0 : w3.cell? ⟨gb, 0, none⟩ = some (.slice A0_0 l0_0.length c0_0) := (blk_cell HK3.out 0).trans rfl
    have e_1 : w3.cell? ⟨gb, 1, none⟩ = some (.slice A0_1 l0_1.length c0_1) := (blk_cell HK3.out 1).trans rfl
    have e_2 : w3.cell? ⟨gb, 2, none⟩ = some (.int .i64 a0_2) := (blk_cell HK3.out 2).trans rfl
    go_wp2_with fail
    refine (pick_first.calls A0_0 c0_0 l0_0 A0_1 c0_1 l0_1 a0_2 lv ins w3 (Kd.C_below HR0.out HB3.out) HC0.out (Kd.C_below HR1.out HB3.out) HC1.out HP.out).mono ?_
    rintro e w4 ⟨v1, rfl, hv, hb4⟩
    obtain ⟨Ai, ci, rfl, hci, -⟩ := Kd.R_reads hv
    have HCI := Aside0.mk hci
    have HB4 := Aside0.mk (below_step HB3.out hb4)
    have HK4 := Aside0.mk (blk_below HK3.out hb4)
    have HJ4 := Aside0.mk (blk_below HJ3.out hb4)
    have HI4 := Aside0.mk (Kd.R_lower hv HB3.out.size)
    clear hv hb4 HB3 HK3 HJ3 e_0 e_1 e_2 hci
    by_cases hneg : lv < 0
    · have hh := HH2.out
      rw [if_pos hneg] at hh
      obtain ⟨rfl, rfl, rfl, rfl, rfl⟩ : r1 = 0 ∧ r2 = [] ∧ r3 = [] ∧ r4 = false ∧ r5 = false := by simpa [eq_comm] using hh
      clear hh HH2
      go_wp2_with (((with_reducible refine gate_store (t := 28) (p := 2) (v := (.tmp 24)) rfl ?_); refine agg_event rfl 28 (.tmp 2) (.tmp 24) rfl gj rfl #[.int .i64 0, .slice none 0 0, .slice none 0 0, .bool false] #[.int .i64 0, .slice none 0 0, .slice none 0 0, .bool false] rfl HJ4.out (by kernel_rfl) rfl (by simp [Value.oneCell']) ?_; intro w5 hst hgr hszz; clear hszz; have HJ5 := Aside0.mk hst; have HB5 := Aside0.mk (pw_below_grown HB4.out (some gj) HB4.out.size hgr (fun k_ e_ => by injection e_ with e_; have := Sgj.out; omega)); clear hst hgr))
      refine bodyPost_ret (results_ct rfl _ _ gj 28 #[.int .i64 0, .slice none 0 0, .slice none 0 0, .bool false] (0, 0) _ rfl HJ5.out Try.underlying28 rfl (by kernel_rfl)) rfl ?_
      exact ⟨_, _, rfl, Kd.R_nil _ _ _ _ _, Kd.R_nil _ _ _ _ _, HB5.out⟩
    · have hh := HH2.out
      rw [if_neg hneg] at hh
      have hh2 := Option.some.inj hh
      simp only [pick_Pick.tell, Prod.mk.injEq] at hh2
      obtain ⟨g1, g2, g3, g4, g5⟩ := hh2
      have G1 := Aside0.mk g1; have G2 := Aside0.mk g2; have G3 := Aside0.mk g3; have G4 := Aside0.mk g4; have G5 := Aside0.mk g5
      clear g1 g2 g3 g4 g5 HH2 hh
      have e_0 : w4.cell? ⟨gb, 0, none⟩ = some (.slice A0_0 l0_0.length c0_0) := (blk_cell HK4.out 0).trans rfl
      have e_1 : w4.cell? ⟨gb, 1, none⟩ = some (.slice A0_1 l0_1.length c0_1) := (blk_cell HK4.out 1).trans rfl
      have e_2 : w4.cell? ⟨gb, 2, none⟩ = some (.int .i64 a0_2) := (blk_cell HK4.out 2).trans rfl
      go_wp2_with fail
      refine (version_Level.calls (l0_0.length + 1) A0_0 c0_0 l0_0 A0_1 c0_1 l0_1 a0_2 (lv + 1) _ w4 (Kd.C_below HR0.out HB4.out) HC0.out (Kd.C_below HR1.out HB4.out) HC1.out (pick_first.level_some l0_0 l0_1 a0_2 (lv + 1) (by omega))).mono ?_
      rintro e w5 ⟨v2, rfl, hv2, hb5⟩
      have hnl : (pick_first.lev l0_0 (lv + 1)).length ≤ 200 := Nat.le_trans (List.length_filter_le _ _) hlen
      obtain ⟨NX, hNX⟩ : ∃ NX, NX = pick_first.lev l0_0 (lv + 1) := ⟨_, rfl⟩
      rw [← hNX] at hv2 hnl
      have HNX := Aside0.mk hNX
      obtain ⟨An, cn, rfl, hcn, -⟩ := Kd.R_reads hv2
      have HB5 := Aside0.mk (below_step HB4.out hb5)
      have HK5 := Aside0.mk (blk_below HK4.out hb5)
      have HJ5 := Aside0.mk (blk_below HJ4.out hb5)
      obtain ⟨N, hN⟩ : ∃ N, N = w5.heap.size := ⟨_, rfl⟩
      have HI5 : Aside0 (Kd.R k49 49 w5 w.heap.size (fun k_ => k_ < N) (.slice Ai ins.length ci) ins) := ⟨Kd.R_mono (Kd.R_bound (Kd.R_below HI4.out hb5)) (fun k_ hk => by rw [hN]; exact hk.2.2.1)⟩
      have HX5 : Aside0 (Kd.R k49 49 w5 w.heap.size (fun k_ => k_ < N) (.slice An NX.length cn) NX) := ⟨Kd.R_mono (Kd.R_bound (Kd.R_lower hv2 HB4.out.size)) (fun k_ hk => by rw [hN]; exact hk.2.2.1)⟩
      have HZ5 : Aside0 (N ≤ w5.heap.size) := ⟨by omega⟩
      have HU5 : Aside0 (Kd.R k49 49 w5 w.heap.size (fun k_ => N ≤ k_) (.slice none 0 0) []) := ⟨Kd.R_nil _ _ _ _ _⟩
      have NGB : Aside0 (gb < N) := ⟨by rw [hN]; exact blk_lt HK5.out⟩
      have NGJ : Aside0 (gj < N) := ⟨by rw [hN]; exact blk_lt HJ5.out⟩
      clear hv2 hb5 HB4 HK4 HJ4 HI4 e_0 e_1 e_2 hN hNX hcn
      go_wp2_with fail
      go_loopw [6, 30] (fun u i wr => ∃ k : Nat, k ≤ NX.length ∧ i = .int .i64 k ∧ Aside0 (Kd.R k49 49 wr w.heap.size (fun k_ => N ≤ k_) u ((NX.take k).filter (pick_Pick.meetB ins))) ∧ Aside0 (wr.heap[gb]? = some (.cells #[.slice A0_0 l0_0.length c0_0, .slice A0_1 l0_1.length c0_1, .int .i64 a0_2] 25 (0, 0))) ∧ Aside0 (wr.heap[gj]? = some (.cells #[.int .i64 0, .slice none 0 0, .slice none 0 0, .bool false] 28 (0, 0))) ∧ Aside0 (Kd.R k49 49 wr w.heap.size (fun k_ => k_ < N) (.slice Ai ins.length ci) ins) ∧ Aside0 (Kd.R k49 49 wr w.heap.size (fun k_ => k_ < N) (.slice An NX.length cn) NX) ∧ Aside0 (Below w.heap.size w wr) ∧ Aside0 (N ≤ wr.heap.size)) (fun _ i _ => NX.length - (intOf i).toNat)
      case atStart => exact ⟨0, Nat.zero_le _, rfl, HU5, HK5, HJ5, HI5, HX5, HB5, HZ5⟩
      case round =>
        clear HU5 HK5 HJ5 HI5 HX5 HB5 HZ5
        obtain ⟨k, hk, rfl, HU, HK, HJ, HI, HX, HB, HZ⟩ := hrel
        by_cases hlt : k < NX.length
        · obtain ⟨-, -, hrd⟩ := Kd.R_reads' HX.out
          obtain ⟨ad, hAn, x0, x1, x2, x3, x4⟩ := at_T49 hrd (k : Int) (by omega) (by omega)
          subst hAn
          clear hrd
          obtain ⟨m, hm⟩ : ∃ m : S49, m = rd_T49 NX (k : Int) := ⟨_, rfl⟩
          rw [← hm, Int.toNat_natCast] at x0 x1 x2 x3 x4
          have hmg : m = NX.getD k z49 := by rw [hm, rd_T49, Int.toNat_natCast]
          have hfs := pick_Pick.filter_snoc (pick_Pick.meetB ins) NX k hlt
          rw [← hmg] at hfs
          have HFS := Aside0.mk hfs
          have HFL : Aside0 (((NX.take k).filter (pick_Pick.meetB ins)).length ≤ k) := ⟨Nat.le_trans (List.length_filter_le _ _) (List.length_take_le _ _)⟩
          obtain ⟨acc, hacc⟩ : ∃ acc, acc = (NX.take k).filter (pick_Pick.meetB ins) := ⟨_, rfl⟩
          rw [← hacc] at HU HFL HFS
          clear hm hmg hfs hacc
          go_wp2_with (first | ((with_reducible refine gate_dst (N := 8) rfl ?_); refine box_event ?hg (N := 8) ?hd (cs := #[.int .i64 0, .int .i64 0, .string (⟨#[]⟩ : ByteArray), .string (⟨#[]⟩ : ByteArray), .int .i64 0]) (t := 49) ?hr ?_; (case hd => rfl); (case hg => rfl); (case hr => first | (go_simp; done) | (go_simp; rfl)); intro g8 hg w6 hbox hb; have HB6 := Aside0.mk (below_step HB.out hb); have Hg8 := Aside0.mk hbox; have Sg8 := Aside0.mk (by rw [hg]; exact HB.out.size : w.heap.size ≤ g8); have HK6 := Aside0.mk (blk_below HK.out hb); have Ngb_g8 := Aside0.mk (by rw [hg]; exact blk_lt HK.out : gb < g8); have HJ6 := Aside0.mk (blk_below HJ.out hb); have Ngj_g8 := Aside0.mk (by rw [hg]; exact blk_lt HJ.out : gj < g8); have HZ6 := Aside0.mk (Nat.le_trans HZ.out hb.size); have HU6 := Aside0.mk (Kd.R_below (Kd.R_elderB HU.out g8 (Nat.le_of_eq hg.symm)) hb); have HI6 := Aside0.mk (Kd.R_below (Kd.R_elderB HI.out g8 (Nat.le_of_eq hg.symm)) hb); have HX6 := Aside0.mk (Kd.R_below (Kd.R_elderB HX.out g8 (Nat.le_of_eq hg.symm)) hb); clear hb hbox hg) | ((with_reducible refine gate_store (t := 49) (p := 8) (v := (.tmp 33)) rfl ?_); refine agg_event rfl 49 (.tmp 8) (.tmp 33) rfl g8 rfl #[.int .i64 m.f0, .int .i64 m.f1, .string m.f2, .string m.f3, .int .i64 m.f4] #[.int .i64 0, .int .i64 0, .string (⟨#[]⟩ : ByteArray), .string (⟨#[]⟩ : ByteArray), .int .i64 0] rfl Hg8.out (by kernel_rfl) rfl (by simp [Value.oneCell']) ?_; intro w7 hst hgr hszz; clear hszz; have HM7 := Aside0.mk hst; have HB7 := Aside0.mk (pw_below_grown HB6.out (some g8) HB6.out.size hgr (fun k_ e_ => by injection e_ with e_; have := Sg8.out; omega)); have HK7 := Aside0.mk (blk_grown HK6.out hgr (by intro e_; injection e_ with e_; have := Ngb_g8.out; omega)); have HJ7 := Aside0.mk (blk_grown HJ6.out hgr (by intro e_; injection e_ with e_; have := Ngj_g8.out; omega)); have HZ7 := Aside0.mk (Nat.le_trans HZ6.out hgr.size); have HU7 := Aside0.mk (Kd.R_mono (Kd.R_grown HU6.out hgr (fun k_ hk => by intro e_; injection e_ with e_; exact hk.2 e_)) (fun _ hk => hk.1)); have HI7 := Aside0.mk (Kd.R_mono (Kd.R_grown HI6.out hgr (fun k_ hk => by intro e_; injection e_ with e_; exact hk.2 e_)) (fun _ hk => hk.1)); have HX7 := Aside0.mk (Kd.R_mono (Kd.R_grown HX6.out hgr (fun k_ hk => by intro e_; injection e_ with e_; exact hk.2 e_)) (fun _ hk => hk.1)); clear hst hgr; clear x0 x1 x2 x3 x4; have c8_0 : w7.cell? ⟨g8, 0, none⟩ = some (.int .i64 m.f0) := (blk_cell HM7.out 0).trans rfl; have c8_1 : w7.cell? ⟨g8, 1, none⟩ = some (.int .i64 m.f1) := (blk_cell HM7.out 1).trans rfl; have c8_2 : w7.cell? ⟨g8, 2, none⟩ = some (.string m.f2) := (blk_cell HM7.out 2).trans rfl; have c8_3 : w7.cell? ⟨g8, 3, none⟩ = some (.string m.f3) := (blk_cell HM7.out 3).trans rfl; have c8_4 : w7.cell? ⟨g8, 4, none⟩ = some (.int .i64 m.f4) := (blk_cell HM7.out 4).trans rfl))
          refine (pick_meet.calls (ins.length + 1) m.f0 m.f1 m.f2 m.f3 m.f4 Ai ci ins (pick_Pick.meetB ins m) w7 (Kd.R_reads' HI7.out).2.2 HCI.out (pick_Pick.meet_some m ins (by omega))).mono ?_
          rintro e w8 ⟨rfl, hb8⟩
          have HB8 := Aside0.mk (below_step HB7.out hb8)
          have HK8 := Aside0.mk (blk_below HK7.out hb8)
          have HJ8 := Aside0.mk (blk_below HJ7.out hb8)
          have HM8 := Aside0.mk (blk_below HM7.out hb8)
          have HU8 := Aside0.mk (Kd.R_below HU7.out hb8)
          have HI8 := Aside0.mk (Kd.R_below HI7.out hb8)
          have HX8 := Aside0.mk (Kd.R_below HX7.out hb8)
          have HZ8 := Aside0.mk (Nat.le_trans HZ7.out hb8.size)
          clear HU HK HJ HI HX HB HZ HU6 HK6 HJ6 HI6 HX6 HB6 HZ6 HU7 HK7 HJ7 HI7 HX7 HB7 HZ7 HM7 Hg8 hb8 c8_0 c8_1 c8_2 c8_3 c8_4
          cases hmt : pick_Pick.meetB ins m with
          | false =>
            have hf := HFS.out
            rw [hmt, if_neg (by simp)] at hf
            have HF := Aside0.mk hf
            clear hf hmt HFS
            go_wp2_with fail
            refine ⟨⟨k + 1, by omega, by go_num, by rw [HF.out]; exact HU8, HK8, HJ8, HI8, HX8, HB8, HZ8⟩, by simp [intOf]; omega⟩
          | true =>
            have hf := HFS.out
            rw [hmt, if_pos rfl] at hf
            have HF := Aside0.mk hf
            clear hf hmt HFS
            have c8_0 : w8.cell? ⟨g8, 0, none⟩ = some (.int .i64 m.f0) := (blk_cell HM8.out 0).trans rfl
            have c8_1 : w8.cell? ⟨g8, 1, none⟩ = some (.int .i64 m.f1) := (blk_cell HM8.out 1).trans rfl
            have c8_2 : w8.cell? ⟨g8, 2, none⟩ = some (.string m.f2) := (blk_cell HM8.out 2).trans rfl
            have c8_3 : w8.cell? ⟨g8, 3, none⟩ = some (.string m.f3) := (blk_cell HM8.out 3).trans rfl
            have c8_4 : w8.cell? ⟨g8, 4, none⟩ = some (.int .i64 m.f4) := (blk_cell HM8.out 4).trans rfl
            go_wp2_with ((with_reducible refine gate_builtin (b := .append) (xs := #[.tmp 37, .tmp 39]) rfl ?_); refine Kd.R_append k49 (w0 := w) w.heap.size rfl (.tmp 37) (.tmp 39) 22 49 (.agg #[.int .i64 0, .int .i64 0, .string (⟨#[]⟩ : ByteArray), .string (⟨#[]⟩ : ByteArray), .int .i64 0]) 56 rfl Try.underlying22 info49 rfl (by decide) (by omega) _ acc m [.int .i64 m.f0, .int .i64 m.f1, .string m.f2, .string m.f3, .int .i64 m.f4] (fun k_ => N ≤ k_) (fun _ => False) rfl (by first | (go_simp; done) | (go_simp; rfl)) ?aP (fun _ hk => hk.elim) ?aF ?aO ?aB ?aS ?aL ?_; (case aP => exact k49_mkM _ _ _ m); (case aF => exact fun k_ hk => Nat.le_trans HZ8.out hk); (case aO => exact HU8.out); (case aB => exact HB8.out); (case aS => exact HB8.out.size); (case aL => have := HFL.out; omega); intro v9 w9 ho hb hg hat; have HU9 := Aside0.mk ho; have HB9 := Aside0.mk hb; have HK9 := Aside0.mk (blk_grown HK8.out hg (Kd.R_ne HU8.out HK8.out (by decide))); have HJ9 := Aside0.mk (blk_grown HJ8.out hg (Kd.R_ne HU8.out HJ8.out (by decide))); have HI9 := Aside0.mk (Kd.R_grown HI8.out hg (fun k_ hk e_ => by have := HU8.out.1 k_ e_.symm; omega)); have HX9 := Aside0.mk (Kd.R_grown HX8.out hg (fun k_ hk e_ => by have := HU8.out.1 k_ e_.symm; omega)); have HZ9 := Aside0.mk (Nat.le_trans HZ8.out hg.size); clear ho hb hg hat)
            refine ⟨⟨k + 1, by omega, by go_num, by rw [HF.out]; exact HU9, HK9, HJ9, HI9, HX9, HB9, HZ9⟩, by simp [intOf]; omega⟩
        · obtain rfl : k = NX.length := by omega
          have hfull := HU.out
          rw [List.take_length] at hfull
          obtain ⟨U, hU⟩ : ∃ U, U = NX.filter (pick_Pick.meetB ins) := ⟨_, rfl⟩
          rw [← hU] at hfull
          have hUn : U = pick_Pick.under l0_0 ins lv := by rw [hU, HNX.out]; rfl
          have hUl : U.length ≤ 200 := by rw [hU]; exact Nat.le_trans (List.length_filter_le _ _) hnl
          have HUN := Aside0.mk hUn
          obtain ⟨Au, cu, rfl, hcu, -⟩ := Kd.R_reads hfull
          have HCU := Aside0.mk hcu
          have HU1 := Aside0.mk hfull
          clear HU hU hUn hfull hcu HX
          obtain ⟨I1, hI1⟩ : ∃ I1 : List Int, I1 = ins.map (·.f0) := ⟨_, rfl⟩
          have hid1 : pick_ids.f (ins.length + 1) ins = some I1 := by rw [hI1]; exact pick_Pick.ids_some ins (by omega)
          obtain ⟨I2, hI2⟩ : ∃ I2 : List Int, I2 = U.map (·.f0) := ⟨_, rfl⟩
          have hid2 : pick_ids.f (U.length + 1) U = some I2 := by rw [hI2]; exact pick_Pick.ids_some U (by omega)
          have HI1 := Aside0.mk hI1; have HI2 := Aside0.mk hI2; have HD1 := Aside0.mk hid1; have HD2 := Aside0.mk hid2
          clear hI1 hI2 hid1 hid2
          go_wp2_with fail
          refine (pick_ids.calls (ins.length + 1) Ai ci ins I1 wr (Kd.R_reads' HI.out).2.2 HCI.out HD1.out).mono ?_
          rintro e w6 ⟨v6, rfl, hv6, hb6⟩
          obtain ⟨A1, c1, rfl, hc1, -⟩ := Kd.R_reads hv6
          obtain ⟨Mx, hMx⟩ : ∃ Mx, Mx = w6.heap.size := ⟨_, rfl⟩
          have HV6 : Aside0 (Kd.R (Kd.int .i64) 3 w6 w.heap.size (fun k_ => k_ < Mx) (.slice A1 I1.length c1) I1) := ⟨Kd.R_mono (Kd.R_bound (Kd.R_lower hv6 HB.out.size)) (fun k_ hk => by rw [hMx]; exact hk.2.2.1)⟩
          have HB6 := Aside0.mk (below_step HB.out hb6)
          have HK6 := Aside0.mk (blk_below HK.out hb6)
          have HJ6 := Aside0.mk (blk_below HJ.out hb6)
          have HI6 := Aside0.mk (Kd.R_below HI.out hb6)
          have HU6 := Aside0.mk (Kd.R_below HU1.out hb6)
          have HMX := Aside0.mk hMx
          clear hv6 hb6 hc1 hMx HB HK HJ HI HU1 HZ
          go_wp2_with fail
          refine (pick_ids.calls (U.length + 1) Au cu U I2 w6 (Kd.R_reads' HU6.out).2.2 HCU.out HD2.out).mono ?_
          rintro e w7 ⟨v7, rfl, hv7, hb7⟩
          obtain ⟨A2, c2, rfl, hc2, -⟩ := Kd.R_reads hv7
          have HW7 : Aside0 (Kd.R (Kd.int .i64) 3 w7 w.heap.size (fun k_ => Mx ≤ k_) (.slice A2 I2.length c2) I2) := ⟨Kd.R_mono (Kd.R_lower (Kd.R_bound hv7) HB6.out.size) (fun k_ hk => by rw [HMX.out]; exact hk.2.1)⟩
          have HB7 := Aside0.mk (below_step HB6.out hb7)
          have HK7 := Aside0.mk (blk_below HK6.out hb7)
          have HJ7 := Aside0.mk (blk_below HJ6.out hb7)
          have HI7 := Aside0.mk (Kd.R_below HI6.out hb7)
          have HU7 := Aside0.mk (Kd.R_below HU6.out hb7)
          have HV7 := Aside0.mk (Kd.R_below HV6.out hb7)
          clear hv7 hb7 hc2 HB6 HK6 HJ6 HI6 HU6 HV6
          go_wp2_with (first | ((with_reducible refine gate_dst (N := 9) rfl ?_); refine box_event ?hg (N := 9) ?hd (cs := #[.int .i64 0, .slice none 0 0, .slice none 0 0, .bool false]) (t := 28) ?hr ?_; (case hd => rfl); (case hg => rfl); (case hr => first | (go_simp; done) | (go_simp; rfl)); intro g9 hg w8 hbox hb; have HB8 := Aside0.mk (below_step HB7.out hb); have Hg9 := Aside0.mk hbox; have Sg9 := Aside0.mk (by rw [hg]; exact HB7.out.size : w.heap.size ≤ g9); have HK8 := Aside0.mk (blk_below HK7.out hb); have Ngb_g9 := Aside0.mk (by rw [hg]; exact blk_lt HK7.out : gb < g9); have HJ8 := Aside0.mk (blk_below HJ7.out hb); have Ngj_g9 := Aside0.mk (by rw [hg]; exact blk_lt HJ7.out : gj < g9); have HI8 := Aside0.mk (Kd.R_below (Kd.R_elderB HI7.out g9 (Nat.le_of_eq hg.symm)) hb); have HU8 := Aside0.mk (Kd.R_below (Kd.R_elderB HU7.out g9 (Nat.le_of_eq hg.symm)) hb); have HV8 := Aside0.mk (Kd.R_below (Kd.R_elderB HV7.out g9 (Nat.le_of_eq hg.symm)) hb); have HW8 := Aside0.mk (Kd.R_below (Kd.R_elderB HW7.out g9 (Nat.le_of_eq hg.symm)) hb); clear hb hbox hg) | ((with_reducible refine gate_store (t := 28) (p := 9) (v := (.tmp 47)) rfl ?_); refine agg_event rfl 28 (.tmp 9) (.tmp 47) rfl g9 rfl #[.int .i64 lv, .slice A1 I1.length c1, .slice A2 I2.length c2, .bool true] #[.int .i64 0, .slice none 0 0, .slice none 0 0, .bool false] rfl Hg9.out (by kernel_rfl) rfl (by simp [Value.oneCell']) ?_; intro w9 hst hgr hszz; clear hszz; have H9 := Aside0.mk hst; have HB9 := Aside0.mk (pw_below_grown HB8.out (some g9) HB8.out.size hgr (fun k_ e_ => by injection e_ with e_; have := Sg9.out; omega)); have HK9 := Aside0.mk (blk_grown HK8.out hgr (by intro e_; injection e_ with e_; have := Ngb_g9.out; omega)); have HJ9 := Aside0.mk (blk_grown HJ8.out hgr (by intro e_; injection e_ with e_; have := Ngj_g9.out; omega)); have HI9 := Aside0.mk (Kd.R_mono (Kd.R_grown HI8.out hgr (fun k_ hk => by intro e_; injection e_ with e_; exact hk.2 e_)) (fun _ hk => hk.1)); have HU9 := Aside0.mk (Kd.R_mono (Kd.R_grown HU8.out hgr (fun k_ hk => by intro e_; injection e_ with e_; exact hk.2 e_)) (fun _ hk => hk.1)); have HV9 := Aside0.mk (Kd.R_mono (Kd.R_grown HV8.out hgr (fun k_ hk => by intro e_; injection e_ with e_; exact hk.2 e_)) (fun _ hk => hk.1)); have HW9 := Aside0.mk (Kd.R_mono (Kd.R_grown HW8.out hgr (fun k_ hk => by intro e_; injection e_ with e_; exact hk.2 e_)) (fun _ hk => hk.1)); clear hst hgr))
          have hx := heap_alloc_new w9 (.cells #[.slice Ai ins.length ci, .slice Au U.length cu] 22)
          have hB10 := below_alloc (Below.refl _ w9) (.cells #[.slice Ai ins.length ci, .slice Au U.length cu] 22)
          have HX10 := Aside0.mk hx
          have HA10 := Aside0.mk (reads_two (e := 49) hx HCI.out HCU.out (Kd.C_below (Kd.R_reads' HI9.out).2.2 hB10) (Kd.C_below (Kd.R_reads' HU9.out).2.2 hB10))
          have HB10 := Aside0.mk (below_step HB9.out hB10)
          have HK10 := Aside0.mk (blk_below HK9.out hB10)
          have HJ10 := Aside0.mk (blk_below HJ9.out hB10)
          have H10 := Aside0.mk (blk_below H9.out hB10)
          have HV10 := Aside0.mk (Kd.R_below HV9.out hB10)
          have HW10 := Aside0.mk (Kd.R_below HW9.out hB10)
          clear hx hB10 HB7 HK7 HJ7 HI7 HU7 HV7 HW7 HB8 HK8 HJ8 HI8 HU8 HV8 HW8 Hg9 HX10
          obtain ⟨AL, hAL⟩ : ∃ AL, AL = ins ++ U := ⟨_, rfl⟩
          have hcf : api_Meta_25.f [ins, U] = some AL := by
            unfold api_Meta_25.f
            rw [hAL, if_pos (by simp; omega)]
            simp
          have hall : AL.length ≤ 400 := by rw [hAL, List.length_append]; omega
          have HCF := Aside0.mk hcf
          have HAL := Aside0.mk hAL
          clear hcf hAL
          refine (api_Meta_25.calls _ 2 [ins, U] AL _ HA10.out (Nat.le_refl _) HCF.out).mono ?_
          rintro e w11 ⟨v11, rfl, hv11, hb11⟩
          obtain ⟨Aa, ca, rfl, hca, -⟩ := Kd.R_reads hv11
          have HCA := Aside0.mk hca
          have HA11 := Aside0.mk (Kd.R_lower hv11 HB10.out.size)
          have HB11 := Aside0.mk (below_step HB10.out hb11)
          have HK11 := Aside0.mk (blk_below HK10.out hb11)
          have HJ11 := Aside0.mk (blk_below HJ10.out hb11)
          have H11 := Aside0.mk (blk_below H10.out hb11)
          have HV11 := Aside0.mk (Kd.R_below HV10.out hb11)
          have HW11 := Aside0.mk (Kd.R_below HW10.out hb11)
          clear hv11 hb11 hca HB9 HK9 HJ9 HI9 HU9 HV9 HW9 H9 HB10 HK10 HJ10 H10 HV10 HW10 HA10
          have e_0 : w11.cell? ⟨gb, 0, none⟩ = some (.slice A0_0 l0_0.length c0_0) := (blk_cell HK11.out 0).trans rfl
          go_wp2_with fail
          clear e_0
          obtain ⟨q, hq⟩ : ∃ q : S49 → Bool, q = fun m => decide (lv + 1 < m.f1) && pick_Pick.meetB AL m := ⟨_, rfl⟩
          have HQ := Aside0.mk hq
          clear hq
          go_loopw [55] (fun i wr => ∃ k : Nat, k ≤ l0_0.length ∧ i = .int .i64 k ∧ Aside0 (wr.heap[g9]? = some (.cells #[.int .i64 lv, .slice A1 I1.length c1, .slice A2 I2.length c2, .bool (!((l0_0.take k).any q))] 28 (0, 0))) ∧ Aside0 (wr.heap[gb]? = some (.cells #[.slice A0_0 l0_0.length c0_0, .slice A0_1 l0_1.length c0_1, .int .i64 a0_2] 25 (0, 0))) ∧ Aside0 (wr.heap[gj]? = some (.cells #[.int .i64 0, .slice none 0 0, .slice none 0 0, .bool false] 28 (0, 0))) ∧ Aside0 (Kd.R k49 49 wr w.heap.size (fun _ => True) (.slice Aa AL.length ca) AL) ∧ Aside0 (Kd.R (Kd.int .i64) 3 wr w.heap.size (fun k_ => k_ < Mx) (.slice A1 I1.length c1) I1) ∧ Aside0 (Kd.R (Kd.int .i64) 3 wr w.heap.size (fun k_ => Mx ≤ k_) (.slice A2 I2.length c2) I2) ∧ Aside0 (Below w.heap.size w wr)) (fun i _ => l0_0.length - (intOf i).toNat)
          case atStart => exact ⟨0, Nat.zero_le _, rfl, H11, HK11, HJ11, HA11, HV11, HW11, HB11⟩
          case round =>
            clear H11 HK11 HJ11 HA11 HV11 HW11 HB11
            obtain ⟨k, hk, rfl, H9, HK, HJ, HA, HV, HW, HB⟩ := hrel
            by_cases hlt : k < l0_0.length
            · obtain ⟨ad, hA0, x0, x1, x2, x3, x4⟩ := at_T49 (Kd.C_below HR0.out HB.out) (k : Int) (by omega) (by omega)
              subst hA0
              obtain ⟨m, hm⟩ : ∃ m : S49, m = rd_T49 l0_0 (k : Int) := ⟨_, rfl⟩
              rw [← hm, Int.toNat_natCast] at x0 x1 x2 x3 x4
              have hmg : m = l0_0.getD k z49 := by rw [hm, rd_T49, Int.toNat_natCast]
              have hfs := pick_Pick.any_snoc q l0_0 k hlt
              rw [← hmg] at hfs
              have HFS := Aside0.mk hfs
              obtain ⟨b, hb⟩ : ∃ b : Bool, b = (l0_0.take k).any q := ⟨_, rfl⟩
              rw [← hb] at H9 HFS
              clear hm hmg hfs hb
              by_cases hd : lv + 1 < m.f1
              · have hdb : decide (lv + 1 < m.f1) = true := decide_eq_true hd
                have HD := Aside0.mk hdb
                go_wp2_with (first | ((with_reducible refine gate_dst (N := 12) rfl ?_); refine box_event ?hg (N := 12) ?hd (cs := #[.int .i64 0, .int .i64 0, .string (⟨#[]⟩ : ByteArray), .string (⟨#[]⟩ : ByteArray), .int .i64 0]) (t := 49) ?hr ?_; (case hd => rfl); (case hg => rfl); (case hr => first | (go_simp; done) | (go_simp; rfl)); intro g12 hg w6 hbox hb; have HB6 := Aside0.mk (below_step HB.out hb); have Hg12 := Aside0.mk hbox; have Sg12 := Aside0.mk (by rw [hg]; exact HB.out.size : w.heap.size ≤ g12); have H6 := Aside0.mk (blk_below H9.out hb); have Ng9_g12 := Aside0.mk (by rw [hg]; exact blk_lt H9.out : g9 < g12); have HK6 := Aside0.mk (blk_below HK.out hb); have Ngb_g12 := Aside0.mk (by rw [hg]; exact blk_lt HK.out : gb < g12); have HJ6 := Aside0.mk (blk_below HJ.out hb); have Ngj_g12 := Aside0.mk (by rw [hg]; exact blk_lt HJ.out : gj < g12); have HA6 := Aside0.mk (Kd.R_below (Kd.R_elderB HA.out g12 (Nat.le_of_eq hg.symm)) hb); have HV6 := Aside0.mk (Kd.R_below (Kd.R_elderB HV.out g12 (Nat.le_of_eq hg.symm)) hb); have HW6 := Aside0.mk (Kd.R_below (Kd.R_elderB HW.out g12 (Nat.le_of_eq hg.symm)) hb); clear hb hbox hg) | ((with_reducible refine gate_store (t := 49) (p := 12) (v := (.tmp 58)) rfl ?_); refine agg_event rfl 49 (.tmp 12) (.tmp 58) rfl g12 rfl #[.int .i64 m.f0, .int .i64 m.f1, .string m.f2, .string m.f3, .int .i64 m.f4] #[.int .i64 0, .int .i64 0, .string (⟨#[]⟩ : ByteArray), .string (⟨#[]⟩ : ByteArray), .int .i64 0] rfl Hg12.out (by kernel_rfl) rfl (by simp [Value.oneCell']) ?_; intro w7 hst hgr hszz; clear hszz; have HM7 := Aside0.mk hst; have HB7 := Aside0.mk (pw_below_grown HB6.out (some g12) HB6.out.size hgr (fun k_ e_ => by injection e_ with e_; have := Sg12.out; omega)); have H7 := Aside0.mk (blk_grown H6.out hgr (by intro e_; injection e_ with e_; have := Ng9_g12.out; omega)); have HK7 := Aside0.mk (blk_grown HK6.out hgr (by intro e_; injection e_ with e_; have := Ngb_g12.out; omega)); have HJ7 := Aside0.mk (blk_grown HJ6.out hgr (by intro e_; injection e_ with e_; have := Ngj_g12.out; omega)); have HA7 := Aside0.mk (Kd.R_mono (Kd.R_grown HA6.out hgr (fun k_ hk => by intro e_; injection e_ with e_; exact hk.2 e_)) (fun _ hk => hk.1)); have HV7 := Aside0.mk (Kd.R_mono (Kd.R_grown HV6.out hgr (fun k_ hk => by intro e_; injection e_ with e_; exact hk.2 e_)) (fun _ hk => hk.1)); have HW7 := Aside0.mk (Kd.R_mono (Kd.R_grown HW6.out hgr (fun k_ hk => by intro e_; injection e_ with e_; exact hk.2 e_)) (fun _ hk => hk.1)); clear hst hgr; clear x0 x1 x2 x3 x4; have c12_0 : w7.cell? ⟨g12, 0, none⟩ = some (.int .i64 m.f0) := (blk_cell HM7.out 0).trans rfl; have c12_1 : w7.cell? ⟨g12, 1, none⟩ = some (.int .i64 m.f1) := (blk_cell HM7.out 1).trans rfl; have c12_2 : w7.cell? ⟨g12, 2, none⟩ = some (.string m.f2) := (blk_cell HM7.out 2).trans rfl; have c12_3 : w7.cell? ⟨g12, 3, none⟩ = some (.string m.f3) := (blk_cell HM7.out 3).trans rfl; have c12_4 : w7.cell? ⟨g12, 4, none⟩ = some (.int .i64 m.f4) := (blk_cell HM7.out 4).trans rfl))
                refine (pick_meet.calls (AL.length + 1) m.f0 m.f1 m.f2 m.f3 m.f4 Aa ca AL (pick_Pick.meetB AL m) w7 (Kd.R_reads' HA7.out).2.2 HCA.out (pick_Pick.meet_some m AL (by omega))).mono ?_
                rintro e w8 ⟨rfl, hb8⟩
                have HB8 := Aside0.mk (below_step HB7.out hb8)
                have H8 := Aside0.mk (blk_below H7.out hb8)
                have HK8 := Aside0.mk (blk_below HK7.out hb8)
                have HJ8 := Aside0.mk (blk_below HJ7.out hb8)
                have HA8 := Aside0.mk (Kd.R_below HA7.out hb8)
                have HV8 := Aside0.mk (Kd.R_below HV7.out hb8)
                have HW8 := Aside0.mk (Kd.R_below HW7.out hb8)
                clear H9 HK HJ HA HV HW HB H6 HK6 HJ6 HA6 HV6 HW6 HB6 H7 HK7 HJ7 HA7 HV7 HW7 HB7 HM7 Hg12 hb8 c12_0 c12_1 c12_2 c12_3 c12_4 hd hdb
                cases hmt : pick_Pick.meetB AL m with
                | false =>
                  have hf := HFS.out
                  rw [HQ.out] at hf
                  simp only [hmt, Bool.and_false, Bool.or_false] at hf
                  rw [← HQ.out] at hf
                  have HF := Aside0.mk hf
                  clear hf hmt HFS HD
                  go_wp2_with fail
                  refine ⟨⟨k + 1, by omega, by go_num, by rw [HF.out]; exact H8, HK8, HJ8, HA8, HV8, HW8, HB8⟩, by simp [intOf]; omega⟩
                | true =>
                  have hf := HFS.out
                  rw [HQ.out] at hf
                  simp only [hmt, HD.out, Bool.and_true, Bool.or_true] at hf
                  rw [← HQ.out] at hf
                  have HF := Aside0.mk hf
                  clear hf hmt HFS HD
                  go_wp2_with (((with_reducible refine gate_store (t := 4) (p := 69) (v := (.const (.bool false))) rfl ?_); refine put_event rfl 4 (.tmp 69) (.const (.bool false)) rfl g9 3 rfl (.bool false) #[.int .i64 lv, .slice A1 I1.length c1, .slice A2 I2.length c2, .bool (!b)] _ rfl H8.out (by kernel_rfl) (by simp) rfl rfl ?_; intro w9 hst hgr hszz; clear hszz; have H9 := Aside0.mk hst; have HB9 := Aside0.mk (pw_below_grown HB8.out (some g9) HB8.out.size hgr (fun k_ e_ => by injection e_ with e_; have := Sg9.out; omega)); have HK9 := Aside0.mk (blk_grown HK8.out hgr (by intro e_; injection e_ with e_; have := Ngb_g9.out; omega)); have HJ9 := Aside0.mk (blk_grown HJ8.out hgr (by intro e_; injection e_ with e_; have := Ngj_g9.out; omega)); have HA9 := Aside0.mk (Kd.R_mono (Kd.R_grown (Kd.R_types HA8.out H8.out (by decide)) hgr (fun k_ hk => by intro e_; injection e_ with e_; exact hk.2 e_)) (fun _ hk => hk.1)); have HV9 := Aside0.mk (Kd.R_mono (Kd.R_grown (Kd.R_types HV8.out H8.out (by decide)) hgr (fun k_ hk => by intro e_; injection e_ with e_; exact hk.2 e_)) (fun _ hk => hk.1)); have HW9 := Aside0.mk (Kd.R_mono (Kd.R_grown (Kd.R_types HW8.out H8.out (by decide)) hgr (fun k_ hk => by intro e_; injection e_ with e_; exact hk.2 e_)) (fun _ hk => hk.1)); clear hst hgr))
                  refine ⟨⟨k + 1, by omega, by go_num, by rw [HF.out]; exact H9, HK9, HJ9, HA9, HV9, HW9, HB9⟩, by simp [intOf]; omega⟩
              · have hdb : decide (lv + 1 < m.f1) = false := decide_eq_false hd
                have hf := HFS.out
                rw [HQ.out] at hf
                simp only [hdb, Bool.false_and, Bool.or_false] at hf
                rw [← HQ.out] at hf
                have HF := Aside0.mk hf
                clear hf HFS
                go_wp2_with (first | ((with_reducible refine gate_dst (N := 12) rfl ?_); refine box_event ?hg (N := 12) ?hd (cs := #[.int .i64 0, .int .i64 0, .string (⟨#[]⟩ : ByteArray), .string (⟨#[]⟩ : ByteArray), .int .i64 0]) (t := 49) ?hr ?_; (case hd => rfl); (case hg => rfl); (case hr => first | (go_simp; done) | (go_simp; rfl)); intro g12 hg w6 hbox hb; have HB6 := Aside0.mk (below_step HB.out hb); have Hg12 := Aside0.mk hbox; have Sg12 := Aside0.mk (by rw [hg]; exact HB.out.size : w.heap.size ≤ g12); have H6 := Aside0.mk (blk_below H9.out hb); have Ng9_g12 := Aside0.mk (by rw [hg]; exact blk_lt H9.out : g9 < g12); have HK6 := Aside0.mk (blk_below HK.out hb); have Ngb_g12 := Aside0.mk (by rw [hg]; exact blk_lt HK.out : gb < g12); have HJ6 := Aside0.mk (blk_below HJ.out hb); have Ngj_g12 := Aside0.mk (by rw [hg]; exact blk_lt HJ.out : gj < g12); have HA6 := Aside0.mk (Kd.R_below (Kd.R_elderB HA.out g12 (Nat.le_of_eq hg.symm)) hb); have HV6 := Aside0.mk (Kd.R_below (Kd.R_elderB HV.out g12 (Nat.le_of_eq hg.symm)) hb); have HW6 := Aside0.mk (Kd.R_below (Kd.R_elderB HW.out g12 (Nat.le_of_eq hg.symm)) hb); clear hb hbox hg) | ((with_reducible refine gate_store (t := 49) (p := 12) (v := (.tmp 58)) rfl ?_); refine agg_event rfl 49 (.tmp 12) (.tmp 58) rfl g12 rfl #[.int .i64 m.f0, .int .i64 m.f1, .string m.f2, .string m.f3, .int .i64 m.f4] #[.int .i64 0, .int .i64 0, .string (⟨#[]⟩ : ByteArray), .string (⟨#[]⟩ : ByteArray), .int .i64 0] rfl Hg12.out (by kernel_rfl) rfl (by simp [Value.oneCell']) ?_; intro w7 hst hgr hszz; clear hszz; have HM7 := Aside0.mk hst; have HB7 := Aside0.mk (pw_below_grown HB6.out (some g12) HB6.out.size hgr (fun k_ e_ => by injection e_ with e_; have := Sg12.out; omega)); have H7 := Aside0.mk (blk_grown H6.out hgr (by intro e_; injection e_ with e_; have := Ng9_g12.out; omega)); have HK7 := Aside0.mk (blk_grown HK6.out hgr (by intro e_; injection e_ with e_; have := Ngb_g12.out; omega)); have HJ7 := Aside0.mk (blk_grown HJ6.out hgr (by intro e_; injection e_ with e_; have := Ngj_g12.out; omega)); have HA7 := Aside0.mk (Kd.R_mono (Kd.R_grown HA6.out hgr (fun k_ hk => by intro e_; injection e_ with e_; exact hk.2 e_)) (fun _ hk => hk.1)); have HV7 := Aside0.mk (Kd.R_mono (Kd.R_grown HV6.out hgr (fun k_ hk => by intro e_; injection e_ with e_; exact hk.2 e_)) (fun _ hk => hk.1)); have HW7 := Aside0.mk (Kd.R_mono (Kd.R_grown HW6.out hgr (fun k_ hk => by intro e_; injection e_ with e_; exact hk.2 e_)) (fun _ hk => hk.1)); clear hst hgr; clear x0 x1 x2 x3 x4; have c12_0 : w7.cell? ⟨g12, 0, none⟩ = some (.int .i64 m.f0) := (blk_cell HM7.out 0).trans rfl; have c12_1 : w7.cell? ⟨g12, 1, none⟩ = some (.int .i64 m.f1) := (blk_cell HM7.out 1).trans rfl; have c12_2 : w7.cell? ⟨g12, 2, none⟩ = some (.string m.f2) := (blk_cell HM7.out 2).trans rfl; have c12_3 : w7.cell? ⟨g12, 3, none⟩ = some (.string m.f3) := (blk_cell HM7.out 3).trans rfl; have c12_4 : w7.cell? ⟨g12, 4, none⟩ = some (.int .i64 m.f4) := (blk_cell HM7.out 4).trans rfl))
                refine ⟨⟨k + 1, by omega, by go_num, by rw [HF.out]; exact H7, HK7, HJ7, HA7, HV7, HW7, HB7⟩, by simp [intOf]; omega⟩
            · obtain rfl : k = l0_0.length := by omega
              have h9 := H9.out
              rw [List.take_length] at h9
              obtain ⟨b, hb⟩ : ∃ b : Bool, b = !(l0_0.any q) := ⟨_, rfl⟩
              rw [← hb] at h9
              have HBB := Aside0.mk hb
              have c9_0 : wr.cell? ⟨g9, 0, none⟩ = some (.int .i64 lv) := (blk_cell h9 0).trans rfl
              have c9_1 : wr.cell? ⟨g9, 1, none⟩ = some (.slice A1 I1.length c1) := (blk_cell h9 1).trans rfl
              have c9_2 : wr.cell? ⟨g9, 2, none⟩ = some (.slice A2 I2.length c2) := (blk_cell h9 2).trans rfl
              have c9_3 : wr.cell? ⟨g9, 3, none⟩ = some (.bool b) := (blk_cell h9 3).trans rfl
              clear hb h9 H9
              go_wp2_with (((with_reducible refine gate_store (t := 28) (p := 2) (v := (.tmp 71)) rfl ?_); refine agg_event rfl 28 (.tmp 2) (.tmp 71) rfl gj rfl #[.int .i64 lv, .slice A1 I1.length c1, .slice A2 I2.length c2, .bool b] #[.int .i64 0, .slice none 0 0, .slice none 0 0, .bool false] rfl HJ.out (by kernel_rfl) rfl (by simp [Value.oneCell']) ?_; intro w9 hst hgr hszz; clear hszz; have HJ9 := Aside0.mk hst; have HB9 := Aside0.mk (pw_below_grown HB.out (some gj) HB.out.size hgr (fun k_ e_ => by injection e_ with e_; have := Sgj.out; omega)); have HV9 := Aside0.mk (Kd.R_mono (Kd.R_grown (Kd.R_types HV.out HJ.out (by decide)) hgr (fun k_ hk => by intro e_; injection e_ with e_; exact hk.2 e_)) (fun _ hk => hk.1)); have HW9 := Aside0.mk (Kd.R_mono (Kd.R_grown (Kd.R_types HW.out HJ.out (by decide)) hgr (fun k_ hk => by intro e_; injection e_ with e_; exact hk.2 e_)) (fun _ hk => hk.1)); clear hst hgr; clear c9_0 c9_1 c9_2 c9_3))
              refine bodyPost_ret (results_ct rfl _ _ gj 28 #[.int .i64 lv, .slice A1 I1.length c1, .slice A2 I2.length c2, .bool b] (0, 0) _ rfl HJ9.out Try.underlying28 rfl (by kernel_rfl)) rfl ?_
              have e1 := G1.out; have e2 := G2.out; have e3 := G3.out; have e4 := G4.out; have e5 := G5.out
              rw [← HUN.out, ← HAL.out, ← HQ.out, ← HBB.out] at e4
              rw [← HUN.out, ← HI2.out] at e3
              rw [← HI1.out] at e2
              subst e1 e2 e3 e4 e5
              exact ⟨_, _, rfl, Kd.R_mono HV9.out (fun k_ hk e_ => by have := HW9.out.1 k_ e_.symm; omega), Kd.R_mono HW9.out (fun k_ hk e_ => by have := HV9.out.1 k_ e_.symm; omega), HB9.out⟩


end Go.Proofs.Ytepgnefkpjnmlaa.PD

/-
  Layers 14 and 16, the plain part of the document's own answers: Right, Level, meets.
-/
set_option linter.unusedVariables false
set_option linter.unusedSimpArgs false
namespace Go.Proofs.Ytepgnefkpjnmlaa.PD
open Go.RowKit Go.Proofs.Ytepgnefkpjnmlaa Go.Proofs.YtepgnefkpjnmlaaW.PrintWords

abbrev MetaT := S49
theorem wrapP (n : Int) (h0 : -4611686018427387904 ≤ n) (h : n ≤ 4611686018427387904) : wrap64 n = n := by unfold wrap64; omega
theorem rd_get (L : List MetaT) (i : Nat) : rd_T49 L (i : Int) = L.getD i z49 := by simp [rd_T49]
theorem getD_eq (L : List MetaT) (i : Nat) (h : i < L.length) : L.getD i z49 = L[i] := by simp [List.getD, h]

/-! ### the order of texts -/
theorem lessT : ∀ x y z : List UInt8, Op.bytesLess x y = true → Op.bytesLess y z = true → Op.bytesLess x z = true
  | x, y, [], _, h => by cases y <;> simp [Op.bytesLess] at h
  | x, [], _ :: _, h, _ => by cases x <;> simp [Op.bytesLess] at h
  | [], _ :: _, _ :: _, _, _ => rfl
  | a :: x, b :: y, c :: z, h1, h2 => by
    simp only [Op.bytesLess, Bool.or_eq_true, decide_eq_true_eq, Bool.and_eq_true, beq_iff_eq] at h1 h2 ⊢
    rcases h1 with h1 | ⟨rfl, h1⟩
    · rcases h2 with h2 | ⟨rfl, h2⟩
      · exact .inl (by
          have := UInt8.lt_iff_toNat_lt.1 h1
          have := UInt8.lt_iff_toNat_lt.1 h2
          exact UInt8.lt_iff_toNat_lt.2 (by omega))
      · exact .inl h1
    · rcases h2 with h2 | ⟨rfl, h2⟩
      · exact .inl h2
      · exact .inr ⟨rfl, lessT x y z h1 h2⟩
theorem lessTri : ∀ x y : List UInt8, Op.bytesLess x y = true ∨ x = y ∨ Op.bytesLess y x = true
  | [], [] => .inr (.inl rfl)
  | [], _ :: _ => .inl rfl
  | _ :: _, [] => .inr (.inr rfl)
  | a :: x, b :: y => by
    simp only [Op.bytesLess, Bool.or_eq_true, decide_eq_true_eq, Bool.and_eq_true, beq_iff_eq, List.cons.injEq]
    rcases Nat.lt_trichotomy a.toNat b.toNat with h | h | h
    · exact .inl (.inl (UInt8.lt_iff_toNat_lt.2 h))
    · have e : a = b := UInt8.toNat_inj.1 h
      subst e
      rcases lessTri x y with q | q | q
      · exact .inl (.inr ⟨rfl, q⟩)
      · exact .inr (.inl ⟨rfl, q⟩)
      · exact .inr (.inr (.inr ⟨rfl, q⟩))
    · exact .inr (.inr (.inl (UInt8.lt_iff_toNat_lt.2 h)))
/-- a ≤ b < c -/
theorem less_of (a b c : ByteArray) (h : ¬ Op.bytesLess b.toList a.toList = true) (k : Op.bytesLess b.toList c.toList = true) : Op.bytesLess a.toList c.toList = true := by
  rcases lessTri a.toList b.toList with q | q | q
  · exact lessT _ _ _ q k
  · rw [q]; exact k
  · exact absurd q h

/-! ### meets, Level -/
theorem meets_l0 (L : List MetaT) (hL : L.length ≤ 1000) (m : MetaT) : ∀ (d i k : Nat) (p q : ByteArray), L.length = i + d → d + 1 ≤ k →
    palinoderef16_meets.l0 k L p q (i : Int) m.f0 m.f1 m.f2 m.f3 m.f4 = some (!(Op.bytesLess (pick_Pick.hi (L.drop i) q).toList m.f2.toList) && !(Op.bytesLess m.f3.toList (pick_Pick.lo (L.drop i) p).toList)) := by
  intro d
  induction d with
  | zero =>
    intro i k p q hi hk
    obtain ⟨k, rfl⟩ : ∃ j, k = j + 1 := ⟨k - 1, by omega⟩
    rw [palinoderef16_meets.l0, if_neg (by omega), List.drop_eq_nil_of_le (by omega)]
    simp only [pick_Pick.hi, pick_Pick.lo, List.foldl_nil]
    split
    · next h => rw [h]; rfl
    · next h => rw [Bool.not_eq_true] at h; rw [h]; rfl
  | succ d ih =>
    intro i k p q hi hk
    obtain ⟨k, rfl⟩ : ∃ j, k = j + 1 := ⟨k - 1, by omega⟩
    have e1 : wrap64 ((i : Int) + 1) = ((i + 1 : Nat) : Int) := by rw [wrapP _ (by omega) (by omega)]; omega
    rw [palinoderef16_meets.l0, if_pos (by omega), if_pos (by omega), e1, ih (i + 1) k _ _ (by omega) (by omega)]
    rw [List.drop_eq_getElem_cons (show i < L.length by omega), rd_get, getD_eq L i (by omega)]
    rfl
theorem refMeets_some (L : List MetaT) (hL : L.length ≤ 1000) (m : MetaT) (k : Nat) (hk : L.length + 1 ≤ k) : palinoderef16_meets.f k m.f0 m.f1 m.f2 m.f3 m.f4 L = some (pick_Pick.meetB L m) := by
  unfold palinoderef16_meets.f
  cases L with
  | nil => rfl
  | cons x l =>
    have h := meets_l0 (x :: l) hL m (x :: l).length 0 k x.f2 x.f3 (by omega) hk
    rw [if_neg (by simp only [List.length_cons]; omega), if_pos (by simp only [List.length_cons]; omega)]
    have e : rd_T49 (x :: l) 0 = x := rfl
    rw [e]
    exact h
theorem refLevel_l0 (V : List MetaT) (G : List Int) (a n : Int) (hV : V.length ≤ 1000) : ∀ (d i k : Nat) (acc : List MetaT), V.length = i + d → acc.length ≤ i → d + 1 ≤ k →
    palinoderef14_Level.l0 k n acc (i : Int) V G a = some (acc ++ pick_first.lev (V.drop i) n) := by
  intro d
  induction d with
  | zero =>
    intro i k acc hi ha hk
    obtain ⟨k, rfl⟩ : ∃ j, k = j + 1 := ⟨k - 1, by omega⟩
    rw [palinoderef14_Level.l0, if_neg (by omega), List.drop_eq_nil_of_le (by omega)]
    simp [pick_first.lev]
  | succ d ih =>
    intro i k acc hi ha hk
    obtain ⟨k, rfl⟩ : ∃ j, k = j + 1 := ⟨k - 1, by omega⟩
    have e1 : wrap64 ((i : Int) + 1) = ((i + 1 : Nat) : Int) := by rw [wrapP _ (by omega) (by omega)]; omega
    have hc : V.drop i = V[i]'(by omega) :: V.drop (i + 1) := List.drop_eq_getElem_cons (by omega)
    rw [palinoderef14_Level.l0, if_pos (by omega), if_pos (by omega), e1, rd_get, getD_eq V i (by omega), hc]
    by_cases h : (V[i]'(by omega)).f1 = n
    · have e : pick_first.lev (V[i]'(by omega) :: V.drop (i + 1)) n = V[i]'(by omega) :: pick_first.lev (V.drop (i + 1)) n := by
        unfold pick_first.lev
        rw [List.filter_cons, if_pos (by simp [h])]
      rw [if_pos h, if_pos (by omega), ih (i + 1) k _ (by omega) (by simp; omega) (by omega), e, List.append_assoc]
      rfl
    · have e : pick_first.lev (V[i]'(by omega) :: V.drop (i + 1)) n = pick_first.lev (V.drop (i + 1)) n := by
        unfold pick_first.lev
        rw [List.filter_cons, if_neg (by simp [h])]
      rw [if_neg h, ih (i + 1) k _ (by omega) (by omega) (by omega), e]
theorem refLevel_some (V : List MetaT) (G : List Int) (a n : Int) (hV : V.length ≤ 1000) (k : Nat) (hk : V.length + 1 ≤ k) : palinoderef14_Level.f k V G a n = some (pick_first.lev V n) := by
  have := refLevel_l0 V G a n hV V.length 0 k [] (by omega) (by simp) hk
  simpa [palinoderef14_Level.f] using this

/-! ### twice -/
def noTw (l : List Int) (i : Nat) : Prop := ∀ i', i ≤ i' → i' < l.length → ∀ j, j < i' → l.getD i' 0 ≠ l.getD j 0
theorem tw_l1 (l : List Int) (hl : l.length ≤ 1000) (i : Nat) (hi : i < l.length) : ∀ (d j k : Nat), i = j + d →
    ((∀ t, j ≤ t → t < i → l.getD i 0 ≠ l.getD t 0) → palinoderef14_twice.l1 (k + d + 1) l (i : Int) (j : Int) = palinoderef14_twice.l0 k l ((i + 1 : Nat) : Int)) ∧
    ((∃ t, j ≤ t ∧ t < i ∧ l.getD i 0 = l.getD t 0) → palinoderef14_twice.l1 (k + d + 1) l (i : Int) (j : Int) = some true) := by
  intro d
  have hr : ∀ t : Nat, rd l (t : Int) = l.getD t 0 := fun t => by simp [rd]
  induction d with
  | zero =>
    intro j k hj
    have e1 : wrap64 ((i : Int) + 1) = ((i + 1 : Nat) : Int) := by rw [wrapP _ (by omega) (by omega)]; omega
    refine ⟨fun _ => ?_, fun ⟨t, h1, h2, _⟩ => by omega⟩
    rw [Nat.add_zero, palinoderef14_twice.l1, if_neg (by omega), e1]
  | succ d ih =>
    intro j k hj
    have e1 : wrap64 ((j : Int) + 1) = ((j + 1 : Nat) : Int) := by rw [wrapP _ (by omega) (by omega)]; omega
    have hstep : palinoderef14_twice.l1 (k + (d + 1) + 1) l (i : Int) (j : Int) = if l.getD i 0 = l.getD j 0 then some true else palinoderef14_twice.l1 (k + d + 1) l (i : Int) ((j + 1 : Nat) : Int) := by
      rw [show k + (d + 1) + 1 = (k + d + 1) + 1 by omega, palinoderef14_twice.l1, if_pos (by omega), if_pos (by omega), if_pos (by omega), if_pos (by omega), if_pos (by omega), hr, hr, e1]
    rw [hstep]
    refine ⟨fun h => ?_, fun ⟨t, h1, h2, h3⟩ => ?_⟩
    · rw [if_neg (h j (by omega) (by omega))]
      exact (ih (j + 1) k (by omega)).1 (fun t q1 q2 => h t (by omega) q2)
    · by_cases e : l.getD i 0 = l.getD j 0
      · rw [if_pos e]
      · rw [if_neg e]
        exact (ih (j + 1) k (by omega)).2 ⟨t, by rcases Nat.lt_or_ge j t with q | q; omega; exact absurd (by rw [show t = j by omega] at h3; exact h3) e, h2, h3⟩
theorem tw_l0 (l : List Int) (hl : l.length ≤ 1000) : ∀ (d i k : Nat), l.length = i + d → d * (l.length + 3) + 1 ≤ k →
    (noTw l i → palinoderef14_twice.l0 k l (i : Int) = some false) ∧ (¬ noTw l i → palinoderef14_twice.l0 k l (i : Int) = some true) := by
  intro d
  induction d with
  | zero =>
    intro i k hi hk
    obtain ⟨k, rfl⟩ : ∃ j, k = j + 1 := ⟨k - 1, by omega⟩
    rw [palinoderef14_twice.l0, if_neg (by omega)]
    exact ⟨fun _ => rfl, fun h => absurd (fun i' h1 h2 => by omega) h⟩
  | succ d ih =>
    intro i k hi hk
    rw [Nat.add_mul, Nat.one_mul] at hk
    obtain ⟨k, rfl⟩ : ∃ j, k = j + i + 1 + 1 := ⟨k - i - 2, by omega⟩
    have h1 := tw_l1 l hl i (by omega) i 0 k (by omega)
    have hn := ih (i + 1) k (by omega) (by omega)
    rw [palinoderef14_twice.l0, if_pos (by omega)]
    rw [Int.natCast_zero] at h1
    by_cases hq : ∃ t, 0 ≤ t ∧ t < i ∧ l.getD i 0 = l.getD t 0
    · refine ⟨fun h => ?_, fun _ => h1.2 hq⟩
      obtain ⟨t, _, q2, q3⟩ := hq
      exact absurd q3 (h i (Nat.le_refl _) (by omega) t q2)
    · have hq' : ∀ t, 0 ≤ t → t < i → l.getD i 0 ≠ l.getD t 0 := fun t q1 q2 q3 => hq ⟨t, q1, q2, q3⟩
      rw [h1.1 hq']
      refine ⟨fun h => hn.1 (fun i' q1 q2 => h i' (by omega) q2), fun h => hn.2 (fun hno => h (fun i' q1 q2 j q3 => ?_))⟩
      rcases Nat.lt_or_ge i i' with q | q
      · exact hno i' (by omega) q2 j q3
      · obtain rfl : i' = i := by omega
        exact hq' j (by omega) q3
theorem noTw_iff (l : List Int) : noTw l 0 ↔ l.Nodup := by
  unfold noTw List.Nodup
  rw [List.pairwise_iff_getElem]
  constructor
  · intro h i j hi hj hij e
    have := h j (by omega) hj i hij
    simp [List.getD, hi, hj] at this
    exact this e.symm
  · intro h i' _ h2 j h3
    have := h j i' (by omega) h2 h3
    simp only [List.getD, List.getElem?_eq_getElem h2, List.getElem?_eq_getElem (show j < l.length by omega), Option.getD_some]
    exact fun e => this e.symm
theorem twice_some (l : List Int) (hl : l.length ≤ 300) (k : Nat) (hk : 100000 ≤ k) : palinoderef14_twice.f k l = some (!(decide l.Nodup)) := by
  unfold palinoderef14_twice.f
  have hm : l.length * (l.length + 3) ≤ 300 * 303 := Nat.mul_le_mul (by omega) (by omega)
  have := tw_l0 l (by omega) l.length 0 k (by omega) (by omega)
  rw [Int.natCast_zero, noTw_iff] at this
  by_cases h : l.Nodup
  · rw [this.1 h]; simp [h]
  · rw [this.2 h]; simp [h]
theorem refIds_l0 (V : List MetaT) (G : List Int) (a : Int) (hV : V.length ≤ 1000) (hG : G.length ≤ 1000) : ∀ (d i k : Nat) (acc : List Int), V.length = i + d → acc.length = i → d + 1 ≤ k →
    palinoderef14_ids.l0 k acc (i : Int) V G a = some (acc ++ (V.drop i).map (·.f0) ++ G) := by
  intro d
  induction d with
  | zero =>
    intro i k acc hi ha hk
    obtain ⟨k, rfl⟩ : ∃ j, k = j + 1 := ⟨k - 1, by omega⟩
    rw [palinoderef14_ids.l0, if_neg (by omega), if_pos (by omega), List.drop_eq_nil_of_le (by omega)]
    simp
  | succ d ih =>
    intro i k acc hi ha hk
    obtain ⟨k, rfl⟩ : ∃ j, k = j + 1 := ⟨k - 1, by omega⟩
    have e1 : wrap64 ((i : Int) + 1) = ((i + 1 : Nat) : Int) := by rw [wrapP _ (by omega) (by omega)]; omega
    have hc : V.drop i = V[i]'(by omega) :: V.drop (i + 1) := List.drop_eq_getElem_cons (by omega)
    rw [palinoderef14_ids.l0, if_pos (by omega), if_pos (by omega), if_pos (by omega), e1, ih (i + 1) k _ (by omega) (by simp [ha]) (by omega), rd_get, getD_eq V i (by omega), hc, List.map_cons, List.append_assoc acc]
    rfl
theorem refIds_some (V : List MetaT) (G : List Int) (a : Int) (hV : V.length ≤ 1000) (hG : G.length ≤ 1000) (k : Nat) (hk : V.length + 1 ≤ k) : palinoderef14_ids.f k V G a = some (V.map (·.f0) ++ G) := by
  have := refIds_l0 V G a hV hG V.length 0 k [] (by omega) rfl hk
  simpa [palinoderef14_ids.f] using this

/-! ### Right -/
theorem refMeta_some (m : MetaT) : palinoderef14_meta.f m.f0 m.f1 m.f2 m.f3 m.f4 = some (version_Right.meta_ m) := by
  obtain ⟨x0, x1, x2, x3, x4⟩ := m
  unfold palinoderef14_meta.f version_Right.meta_ version_meta.f
  simp only
  by_cases h0 : x0 < 1
  · simp [h0, show ¬ x0 ≥ 1 by omega]
  by_cases h1 : x0 > 9007199254740991
  · simp [h0, h1, show x0 ≥ 1 by omega, show ¬ x0 ≤ 9007199254740991 by omega]
  rw [if_pos (by omega), if_pos (by omega), if_neg h0, if_neg h1]
  by_cases h2 : x1 < 0
  · simp [h2, show ¬ x1 ≥ 0 by omega]
  by_cases h3 : x1 ≥ 4
  · simp [h2, h3, show x1 ≥ 0 by omega, show ¬ x1 < 4 by omega]
  rw [if_pos (by omega), if_pos (by omega), if_neg h2, if_neg h3]
  by_cases h6 : x2.toList = []
  · rw [if_pos h6, if_pos h6]
    repeat' split
    all_goals rfl
  rw [if_neg h6, if_neg h6]
  by_cases h7 : Op.bytesLess x3.toList x2.toList = true
  · rw [if_pos h7, if_pos h7]
    repeat' split
    all_goals rfl
  rw [if_neg h7, if_neg h7]
  have h8 : ¬ x3.toList = [] := by
    intro e
    rw [e] at h7
    cases hx : x2.toList with
    | nil => exact h6 hx
    | cons y l => rw [hx] at h7; exact h7 rfl
  rw [if_neg h8]
  by_cases h4 : x4 < 1
  · rw [if_pos h4, if_neg (by omega : ¬ x4 ≥ 1)]
    repeat' split
    all_goals rfl
  rw [if_neg h4, if_pos (by omega : x4 ≥ 1)]
  by_cases h5 : x4 > 1048576
  · rw [if_pos h5]
    have : decide (x4 ≤ 1048576) = false := by simp; omega
    rw [this]
    repeat' split
    all_goals rfl
  rw [if_neg h5]
  have h9 : decide (x4 ≤ 1048576) = true := by simp; omega
  rw [h9]
  by_cases h10 : (x2.size : Int) ≤ 80
  · rw [if_pos h10, if_pos h10]
    by_cases h11 : (x3.size : Int) ≤ 80
    · rw [if_pos h11]; simp [h11]
    · rw [if_neg h11]; simp [h11]
  · rw [if_neg h10, if_neg h10]; rfl
end Go.Proofs.Ytepgnefkpjnmlaa.PD

-- printed by gprint.py (own tool) over the kit's print
namespace Go.Proofs.Ytepgnefkpjnmlaa.PD
open Go.RowKit Go.Proofs.Ytepgnefkpjnmlaa Go.Proofs.YtepgnefkpjnmlaaW.PrintWords Go.Proofs.YtepgnefkpjnmlaaW.PrintLast Go.Proofs.YtepgnefkpjnmlaaW.PrintMore
attribute [local go_sem] max2_int min2_int max_two min_two max_three min_three max_four min_four   -- for this text's walks alone
set_option linter.unnecessarySimpa false
attribute [local go_sem] min2_str max2_str leq_str gtr_str geq_str
set_option linter.unusedVariables false
set_option linter.unusedSimpArgs false

/-! ### palinoderef14_Right: function 26 -/
mutual
def palinoderef14_Right.j0 : Nat → Bool → List (S49) → List Int → Int → Option (Bool)
  | 0, _, _, _, _ => none
  | k + 1, x27, x197000, x197001, x197002 => if x27 = true then (some false) else (palinoderef14_Right.l0 k 0 x197000 x197001 x197002)
def palinoderef14_Right.l0 : Nat → Int → List (S49) → List Int → Int → Option (Bool)
  | 0, _, _, _, _ => none
  | k + 1, x3, x197000, x197001, x197002 => if x3 < (x197001.length : Int) then (if 0 ≤ x3 then (if (rd x197001 x3) < 1 then (some false) else (if (rd x197001 x3) > 9007199254740991 then (some false) else (palinoderef14_Right.l0 k (wrap64 (x3 + 1)) x197000 x197001 x197002))) else (none)) else (palinoderef14_Right.l1 k 0 x197000 x197001 x197002)
def palinoderef14_Right.l1 : Nat → Int → List (S49) → List Int → Int → Option (Bool)
  | 0, _, _, _, _ => none
  | k + 1, x4, x197000, x197001, x197002 => if x4 < (x197000.length : Int) then (if 0 ≤ x4 then ((palinoderef14_meta.f ((rd_T49 x197000 x4).f0) ((rd_T49 x197000 x4).f1) ((rd_T49 x197000 x4).f2) ((rd_T49 x197000 x4).f3) ((rd_T49 x197000 x4).f4)).bind fun t205 => (if t205 = true then (if x4 = 0 then (palinoderef14_Right.l1 k (wrap64 (x4 + 1)) x197000 x197001 x197002) else (if 0 ≤ (wrap64 (x4 - 1)) then (if (wrap64 (x4 - 1)) < (x197000.length : Int) then (if ((rd_T49 x197000 (wrap64 (x4 - 1))).f1) > ((rd_T49 x197000 x4).f1) then (some false) else (if ((rd_T49 x197000 (wrap64 (x4 - 1))).f1) = ((rd_T49 x197000 x4).f1) then (if ((rd_T49 x197000 x4).f1) = 0 then (if ((rd_T49 x197000 (wrap64 (x4 - 1))).f0) ≥ ((rd_T49 x197000 x4).f0) then (some false) else (if ((rd_T49 x197000 x4).f1) > 0 then (if ((Op.bytesLess (((rd_T49 x197000 (wrap64 (x4 - 1))).f3).toList) (((rd_T49 x197000 x4).f2).toList)) = true) then (palinoderef14_Right.l1 k (wrap64 (x4 + 1)) x197000 x197001 x197002) else (some false)) else (palinoderef14_Right.l1 k (wrap64 (x4 + 1)) x197000 x197001 x197002))) else (if ((rd_T49 x197000 x4).f1) > 0 then (if ((Op.bytesLess (((rd_T49 x197000 (wrap64 (x4 - 1))).f3).toList) (((rd_T49 x197000 x4).f2).toList)) = true) then (palinoderef14_Right.l1 k (wrap64 (x4 + 1)) x197000 x197001 x197002) else (some false)) else (palinoderef14_Right.l1 k (wrap64 (x4 + 1)) x197000 x197001 x197002))) else (palinoderef14_Right.l1 k (wrap64 (x4 + 1)) x197000 x197001 x197002))) else (none)) else (none))) else (some false))) else (none)) else ((palinoderef14_ids.f k x197000 x197001 x197002).bind fun t199 => ((palinoderef14_twice.f k t199).bind fun t202 => (some (!t202))))
end
def palinoderef14_Right.f (k : Nat) (l0_0 : List (S49)) (l0_1 : List Int) (a0_2 : Int) : Option (Bool) := if (l0_0.length : Int) > 200 then (palinoderef14_Right.j0 k true l0_0 l0_1 a0_2) else (if (l0_1.length : Int) > 20 then (palinoderef14_Right.j0 k true l0_0 l0_1 a0_2) else (if a0_2 < 0 then (palinoderef14_Right.j0 k true l0_0 l0_1 a0_2) else (palinoderef14_Right.j0 k (decide (a0_2 > 9007199254740991)) l0_0 l0_1 a0_2)))
theorem palinoderef14_Right.mono_l : ∀ k, (∀ y0 y1 y2 y3, LeO (palinoderef14_Right.j0 k y0 y1 y2 y3) (palinoderef14_Right.j0 (k + 1) y0 y1 y2 y3)) ∧ (∀ y0 y1 y2 y3, LeO (palinoderef14_Right.l0 k y0 y1 y2 y3) (palinoderef14_Right.l0 (k + 1) y0 y1 y2 y3)) ∧ (∀ y0 y1 y2 y3, LeO (palinoderef14_Right.l1 k y0 y1 y2 y3) (palinoderef14_Right.l1 (k + 1) y0 y1 y2 y3))
  | 0 => ⟨fun _ _ _ _ r h => by simp [palinoderef14_Right.j0] at h, fun _ _ _ _ r h => by simp [palinoderef14_Right.l0] at h, fun _ _ _ _ r h => by simp [palinoderef14_Right.l1] at h⟩
  | k + 1 => by
    obtain ⟨ih0, ih1, ih2⟩ := palinoderef14_Right.mono_l k
    refine ⟨?_, ?_, ?_⟩
    · intro y0 y1 y2 y3
      unfold palinoderef14_Right.j0
      repeat' first
      | (with_reducible exact ih0 _ _ _ _)
      | (with_reducible exact ih1 _ _ _ _)
      | (with_reducible exact ih2 _ _ _ _)
      | (with_reducible exact palinoderef14_ids.mono _ _ _ _)
      | (with_reducible exact palinoderef14_twice.mono _ _)
      | (with_reducible exact LeO.refl _)
      | (with_reducible exact LeO.none _)
      | (with_reducible refine LeO.ite ?_ ?_)
      | (with_reducible refine LeO.bind ?_ (fun _ => ?_))
      | exact ih0 _ _ _ _
      | exact ih1 _ _ _ _
      | exact ih2 _ _ _ _
      | exact palinoderef14_ids.mono _ _ _ _
      | exact palinoderef14_twice.mono _ _
      | exact LeO.none _
      | refine LeO.ite ?_ ?_
      | refine LeO.bind ?_ (fun _ => ?_)
    · intro y0 y1 y2 y3
      unfold palinoderef14_Right.l0
      repeat' first
      | (with_reducible exact ih0 _ _ _ _)
      | (with_reducible exact ih1 _ _ _ _)
      | (with_reducible exact ih2 _ _ _ _)
      | (with_reducible exact palinoderef14_ids.mono _ _ _ _)
      | (with_reducible exact palinoderef14_twice.mono _ _)
      | (with_reducible exact LeO.refl _)
      | (with_reducible exact LeO.none _)
      | (with_reducible refine LeO.ite ?_ ?_)
      | (with_reducible refine LeO.bind ?_ (fun _ => ?_))
      | exact ih0 _ _ _ _
      | exact ih1 _ _ _ _
      | exact ih2 _ _ _ _
      | exact palinoderef14_ids.mono _ _ _ _
      | exact palinoderef14_twice.mono _ _
      | exact LeO.none _
      | refine LeO.ite ?_ ?_
      | refine LeO.bind ?_ (fun _ => ?_)
    · intro y0 y1 y2 y3
      unfold palinoderef14_Right.l1
      repeat' first
      | (with_reducible exact ih0 _ _ _ _)
      | (with_reducible exact ih1 _ _ _ _)
      | (with_reducible exact ih2 _ _ _ _)
      | (with_reducible exact palinoderef14_ids.mono _ _ _ _)
      | (with_reducible exact palinoderef14_twice.mono _ _)
      | (with_reducible exact LeO.refl _)
      | (with_reducible exact LeO.none _)
      | (with_reducible refine LeO.ite ?_ ?_)
      | (with_reducible refine LeO.bind ?_ (fun _ => ?_))
      | exact ih0 _ _ _ _
      | exact ih1 _ _ _ _
      | exact ih2 _ _ _ _
      | exact palinoderef14_ids.mono _ _ _ _
      | exact palinoderef14_twice.mono _ _
      | exact LeO.none _
      | refine LeO.ite ?_ ?_
      | refine LeO.bind ?_ (fun _ => ?_)
theorem palinoderef14_Right.mono : ∀ a0 a1 a2 k, LeO (palinoderef14_Right.f k a0 a1 a2) (palinoderef14_Right.f (k + 1) a0 a1 a2) := by
  intro a0 a1 a2 k
  obtain ⟨ih0, ih1, ih2⟩ := palinoderef14_Right.mono_l k
  unfold palinoderef14_Right.f
  repeat' first
      | (with_reducible exact ih0 _ _ _ _)
      | (with_reducible exact ih1 _ _ _ _)
      | (with_reducible exact ih2 _ _ _ _)
      | (with_reducible exact palinoderef14_ids.mono _ _ _ _)
      | (with_reducible exact palinoderef14_twice.mono _ _)
      | (with_reducible exact LeO.refl _)
      | (with_reducible exact LeO.none _)
      | (with_reducible refine LeO.ite ?_ ?_)
      | (with_reducible refine LeO.bind ?_ (fun _ => ?_))
      | exact ih0 _ _ _ _
      | exact ih1 _ _ _ _
      | exact ih2 _ _ _ _
      | exact palinoderef14_ids.mono _ _ _ _
      | exact palinoderef14_twice.mono _ _
      | exact LeO.none _
      | refine LeO.ite ?_ ?_
      | refine LeO.bind ?_ (fun _ => ?_)
set_option maxHeartbeats 8000000 in
set_option maxRecDepth 100000 in
theorem palinoderef14_Right.calls (k : Nat) (A0_0 : Option Addr) (c0_0 : Nat) (l0_0 : List (S49)) (A0_1 : Option Addr) (c0_1 : Nat) (l0_1 : List Int) (a0_2 : Int) (r : Bool) (w : World) (hr0_0 : Kd.C k49 w A0_0 l0_0.length l0_0) (hc0_0 : l0_0.length ≤ c0_0) (hr0_1 : Kd.C (Kd.int .i64) w A0_1 l0_1.length l0_1) (hc0_1 : l0_1.length ≤ c0_1) (h : palinoderef14_Right.f k l0_0 l0_1 a0_2 = some r) :
    Calls Try.prog 26 #[.agg #[.slice A0_0 l0_0.length c0_0, .slice A0_1 l0_1.length c0_1, .int .i64 a0_2]] w fun e w' => e = .returned (.bool r) ∧ Below w.heap.size w w' := by
  have hu25 := Try.underlying25
  have hu49 := Try.underlying49
  have HR0_0 := Aside0.mk hr0_0
  have HC0_0 := Aside0.mk hc0_0
  clear hr0_0 hc0_0
  have HR0_1 := Aside0.mk hr0_1
  have HC0_1 := Aside0.mk hc0_1
  clear hr0_1 hc0_1
  have HB := Aside0.mk (Below.refl w.heap.size w)
  have H : (if (l0_0.length : Int) > 200 then (palinoderef14_Right.j0 k true l0_0 l0_1 a0_2) else (if (l0_1.length : Int) > 20 then (palinoderef14_Right.j0 k true l0_0 l0_1 a0_2) else (if a0_2 < 0 then (palinoderef14_Right.j0 k true l0_0 l0_1 a0_2) else (palinoderef14_Right.j0 k (decide (a0_2 > 9007199254740991)) l0_0 l0_1 a0_2)))) = some r := h
  clear h
  have HC2 := Aside0.mk H
  clear H
  go_enter Try.func26, Try.ntmps26
  go_upto_region 1 with (first | ((with_reducible refine gate_dst (N := 1) rfl ?_); (try (refine gate_guard (by rfl) ?_; dsimp only)); refine box_event ?hg (N := 1) ?hd (cs := #[.slice A0_0 l0_0.length c0_0, .slice A0_1 l0_1.length c0_1, .int .i64 a0_2]) (t := 25) ?hr ?_; (case hd => rfl); (case hg => rfl); (case hr => first | (go_simp; done) | (go_simp; rfl)); intro gb196 hg w3 hbox hb; have n0_ := Aside0.mk (below_step (by repeat (first | (with_reducible first | exact HB.out | apply below_alloc | apply pw_below_drewN | apply below_drew1) | exact HB.out)) hb); have n1_ := Aside0.mk (hbox); have n2_ := Aside0.mk ((by rw [hg]; exact (below_size (by repeat (first | (with_reducible first | exact HB.out | apply below_alloc | apply pw_below_drewN | apply below_drew1) | exact HB.out))) : w.heap.size ≤ gb196)); have n3_ := Aside0.mk ((by rw [hg]; exact (below_size (by repeat (first | (with_reducible first | exact HB.out | apply below_alloc | apply pw_below_drewN | apply below_drew1) | exact HB.out))) : w.heap.size ≤ gb196)); clear HB; have HB := n0_; have BK196 := n1_; have GW196 := n2_; have GE196 := n3_; clear n0_ n1_ n2_ n3_; clear hb hbox hg))
  (try simp only [Act.put, List.setIfInBounds_toArray, List.set_cons_zero, List.set_cons_succ])
  go_cut [27] (fun v27 wc => ∃ (kq : Nat) (x27_1 : Bool), v27 = .bool x27_1 ∧ Aside0 (palinoderef14_Right.j0 kq x27_1 l0_0 l0_1 a0_2 = some r) ∧ Aside0 (kq ≤ k) ∧ Aside0 (wc.heap[gb196]? = some (.cells #[(.slice A0_0 l0_0.length c0_0), (.slice A0_1 l0_1.length c0_1), .int .i64 a0_2] 25 (0, 0))) ∧ Aside0 (Below w.heap.size w wc))
  case first =>
    have H := HC2.out
    clear HC2
    by_cases c4 : (l0_0.length : Int) > 200
    · rw [if_pos c4] at H
      have c4b0 : decide (200 < (l0_0.length : Int)) = true := decide_eq_true c4
      have c4b1 : decide (200 < l0_0.length) = true := decide_eq_true (by omega)
      clear c4
      (first | rw [c4b0] | (simp only [i64_w, i32_w]; rw [c4b0]) | skip)
      have H' := Aside0.mk H
      clear H
      have hcz5_0 : w3.cell? ⟨gb196, 0, none⟩ = some (.slice A0_0 l0_0.length c0_0) := (blk_cell BK196.out 0).trans rfl
      have hcz5_1 : w3.cell? ⟨gb196, 1, none⟩ = some (.slice A0_1 l0_1.length c0_1) := (blk_cell BK196.out 1).trans rfl
      have hcz5_2 : w3.cell? ⟨gb196, 2, none⟩ = some (.int .i64 a0_2) := (blk_cell BK196.out 2).trans rfl
      have hfz5_0 := blk_frozen BK196.out 0
      have hfz5_1 := blk_frozen BK196.out 1
      have hfz5_2 := blk_frozen BK196.out 2
      go_wp2
      go_meet
      case rel => exact ⟨_, (true), (by first | rfl | (simp; done) | (simp [*]; done)), H', ⟨by first | omega | exact Nat.le_refl _⟩, ⟨by (with_reducible repeat (first | refine blk_drewN ?_ _ | refine blk_drew ?_ | refine blk_alloc ?_ _)); exact BK196.out⟩, ⟨by repeat (first | (with_reducible first | exact HB.out | apply below_alloc | apply pw_below_drewN | apply below_drew1 | refine below_set ?_ GE196.out) | exact HB.out)⟩⟩
    rw [if_neg c4] at H
    have c4b0 : decide (200 < (l0_0.length : Int)) = false := decide_eq_false c4
    have c4b1 : decide (200 < l0_0.length) = false := decide_eq_false (by omega)
    clear c4
    (first | rw [c4b0] | (simp only [i64_w, i32_w]; rw [c4b0]) | skip)
    by_cases c6 : (l0_1.length : Int) > 20
    · rw [if_pos c6] at H
      have c6b0 : decide (20 < (l0_1.length : Int)) = true := decide_eq_true c6
      have c6b1 : decide (20 < l0_1.length) = true := decide_eq_true (by omega)
      clear c6
      have H' := Aside0.mk H
      clear H
      have hcz7_0 : w3.cell? ⟨gb196, 0, none⟩ = some (.slice A0_0 l0_0.length c0_0) := (blk_cell BK196.out 0).trans rfl
      have hcz7_1 : w3.cell? ⟨gb196, 1, none⟩ = some (.slice A0_1 l0_1.length c0_1) := (blk_cell BK196.out 1).trans rfl
      have hcz7_2 : w3.cell? ⟨gb196, 2, none⟩ = some (.int .i64 a0_2) := (blk_cell BK196.out 2).trans rfl
      have hfz7_0 := blk_frozen BK196.out 0
      have hfz7_1 := blk_frozen BK196.out 1
      have hfz7_2 := blk_frozen BK196.out 2
      go_wp2
      go_meet
      case rel => exact ⟨_, (true), (by first | rfl | (simp; done) | (simp [*]; done)), H', ⟨by first | omega | exact Nat.le_refl _⟩, ⟨by (with_reducible repeat (first | refine blk_drewN ?_ _ | refine blk_drew ?_ | refine blk_alloc ?_ _)); exact BK196.out⟩, ⟨by repeat (first | (with_reducible first | exact HB.out | apply below_alloc | apply pw_below_drewN | apply below_drew1 | refine below_set ?_ GE196.out) | exact HB.out)⟩⟩
    rw [if_neg c6] at H
    have c6b0 : decide (20 < (l0_1.length : Int)) = false := decide_eq_false c6
    have c6b1 : decide (20 < l0_1.length) = false := decide_eq_false (by omega)
    clear c6
    by_cases c8 : a0_2 < 0
    · rw [if_pos c8] at H
      have c8b0 : decide (a0_2 < 0) = true := decide_eq_true c8
      clear c8
      have H' := Aside0.mk H
      clear H
      have hcz9_0 : w3.cell? ⟨gb196, 0, none⟩ = some (.slice A0_0 l0_0.length c0_0) := (blk_cell BK196.out 0).trans rfl
      have hcz9_1 : w3.cell? ⟨gb196, 1, none⟩ = some (.slice A0_1 l0_1.length c0_1) := (blk_cell BK196.out 1).trans rfl
      have hcz9_2 : w3.cell? ⟨gb196, 2, none⟩ = some (.int .i64 a0_2) := (blk_cell BK196.out 2).trans rfl
      have hfz9_0 := blk_frozen BK196.out 0
      have hfz9_1 := blk_frozen BK196.out 1
      have hfz9_2 := blk_frozen BK196.out 2
      go_wp2
      go_meet
      case rel => exact ⟨_, (true), (by first | rfl | (simp; done) | (simp [*]; done)), H', ⟨by first | omega | exact Nat.le_refl _⟩, ⟨by (with_reducible repeat (first | refine blk_drewN ?_ _ | refine blk_drew ?_ | refine blk_alloc ?_ _)); exact BK196.out⟩, ⟨by repeat (first | (with_reducible first | exact HB.out | apply below_alloc | apply pw_below_drewN | apply below_drew1 | refine below_set ?_ GE196.out) | exact HB.out)⟩⟩
    rw [if_neg c8] at H
    have c8b0 : decide (a0_2 < 0) = false := decide_eq_false c8
    clear c8
    have H' := Aside0.mk H
    clear H
    have hcz10_0 : w3.cell? ⟨gb196, 0, none⟩ = some (.slice A0_0 l0_0.length c0_0) := (blk_cell BK196.out 0).trans rfl
    have hcz10_1 : w3.cell? ⟨gb196, 1, none⟩ = some (.slice A0_1 l0_1.length c0_1) := (blk_cell BK196.out 1).trans rfl
    have hcz10_2 : w3.cell? ⟨gb196, 2, none⟩ = some (.int .i64 a0_2) := (blk_cell BK196.out 2).trans rfl
    have hfz10_0 := blk_frozen BK196.out 0
    have hfz10_1 := blk_frozen BK196.out 1
    have hfz10_2 := blk_frozen BK196.out 2
    go_wp2
    go_meet
    case rel => exact ⟨_, (decide (a0_2 > 9007199254740991)), (by first | rfl | (simp; done) | (simp [*]; done)), H', ⟨by first | omega | exact Nat.le_refl _⟩, ⟨by (with_reducible repeat (first | refine blk_drewN ?_ _ | refine blk_drew ?_ | refine blk_alloc ?_ _)); exact BK196.out⟩, ⟨by repeat (first | (with_reducible first | exact HB.out | apply below_alloc | apply pw_below_drewN | apply below_drew1 | refine below_set ?_ GE196.out) | exact HB.out)⟩⟩
  case rest =>
    clear HC2
    try clear c2
    try clear p2
    try clear c4
    try clear c4b0
    try clear c4b1
    try clear c6
    try clear c6b0
    try clear c6b1
    try clear c8
    try clear c8b0
    try clear hcz10_0
    try clear hcz10_1
    try clear hcz10_2
    try clear hcz5_0
    try clear hcz5_1
    try clear hcz5_2
    try clear hcz7_0
    try clear hcz7_1
    try clear hcz7_2
    try clear hcz9_0
    try clear hcz9_1
    try clear hcz9_2
    try clear hfz10_0
    try clear hfz10_1
    try clear hfz10_2
    try clear hfz5_0
    try clear hfz5_1
    try clear hfz5_2
    try clear hfz7_0
    try clear hfz7_1
    try clear hfz7_2
    try clear hfz9_0
    try clear hfz9_1
    try clear hfz9_2
    obtain ⟨kq, x27_1, rfl, HA, HJ1, BK196, HB⟩ := hcut
    cases kq with
    | zero => exact absurd HA.out (by simp [palinoderef14_Right.j0])
    | succ kj1 =>
      have H := HA.out
      clear HA
      simp only [palinoderef14_Right.j0] at H
      by_cases c11 : x27_1 = true
      · subst c11
        have H1 : (some false) = some r := by rw [if_pos rfl] at H; exact H
        clear H
        have H := H1
        clear H1
        obtain rfl := Option.some.inj H
        go_wp2
        go_ret
        exact ⟨by first | rfl | (simp [errW_none, errW_some] <;> rfl) | (simp [*, errW_none, errW_some] <;> rfl), by repeat (first | (with_reducible first | exact HB.out | apply below_alloc | apply pw_below_drewN | apply below_drew1 | refine below_set ?_ GE196.out) | exact HB.out)⟩
      replace c11 := Bool.eq_false_iff.mpr c11
      subst c11
      have H1 : (palinoderef14_Right.l0 kj1 0 l0_0 l0_1 a0_2) = some r := by rw [if_neg (show ¬ (false = true) by decide)] at H; exact H
      clear H
      have H := H1
      clear H1
      have H' := Aside0.mk H
      clear H
      go_wp2
      go_loopg [3] kj1 (fun kq v3 w' => ∃ (x3_2 : Int), v3 = .int .i64 x3_2 ∧ Aside0 (palinoderef14_Right.l0 kq x3_2 l0_0 l0_1 a0_2 = some r) ∧ Aside0 (kq ≤ kj1) ∧ Aside0 (w'.heap[gb196]? = some (.cells #[(.slice A0_0 l0_0.length c0_0), (.slice A0_1 l0_1.length c0_1), .int .i64 a0_2] 25 (0, 0))) ∧ Aside0 (Below w.heap.size w w'))
      case atStart => exact ⟨(0), (by first | rfl | (simp; done) | (simp [*]; done)), H', ⟨Nat.le_refl _⟩, ⟨by (with_reducible repeat (first | refine blk_drewN ?_ _ | refine blk_drew ?_ | refine blk_alloc ?_ _)); exact BK196.out⟩, ⟨by repeat (first | (with_reducible first | exact HB.out | apply below_alloc | apply pw_below_drewN | apply below_drew1 | refine below_set ?_ GE196.out) | exact HB.out)⟩⟩
      case round =>
        clear H'
        try clear c1
        try clear c2
        try clear p2
        try clear c4
        try clear c4b0
        try clear c4b1
        try clear c6
        try clear c6b0
        try clear c6b1
        try clear c8
        try clear c8b0
        try clear c11
        try clear hcz10_0
        try clear hcz10_1
        try clear hcz10_2
        try clear hcz5_0
        try clear hcz5_1
        try clear hcz5_2
        try clear hcz7_0
        try clear hcz7_1
        try clear hcz7_2
        try clear hcz9_0
        try clear hcz9_1
        try clear hcz9_2
        try clear hfz10_0
        try clear hfz10_1
        try clear hfz10_2
        try clear hfz5_0
        try clear hfz5_1
        try clear hfz5_2
        try clear hfz7_0
        try clear hfz7_1
        try clear hfz7_2
        try clear hfz9_0
        try clear hfz9_1
        try clear hfz9_2
        try clear p2
        obtain ⟨x3_2, rfl, HA, HK2, BK196, HB⟩ := hrel
        cases gk with
        | zero => exact absurd HA.out (by simp [palinoderef14_Right.l0])
        | succ k2 =>
          have H := HA.out
          clear HA
          simp only [palinoderef14_Right.l0] at H
          by_cases c12 : x3_2 < (l0_1.length : Int)
          · rw [if_pos c12] at H
            have c12b0 : decide (x3_2 < (l0_1.length : Int)) = true := decide_eq_true c12
            clear c12
            by_cases c13 : 0 ≤ x3_2
            rotate_left
            · rw [if_neg c13] at H
              exact absurd H (by simp)
            rw [if_pos c13] at H
            have c13b0 : decide (0 ≤ x3_2) = true := decide_eq_true c13
            clear c13
            by_cases c14 : (rd l0_1 x3_2) < 1
            · rw [if_pos c14] at H
              have c14b0 : decide ((rd l0_1 x3_2) < 1) = true := decide_eq_true c14
              clear c14
              obtain rfl := Option.some.inj H
              have hcz15_0 : wr.cell? ⟨gb196, 0, none⟩ = some (.slice A0_0 l0_0.length c0_0) := (blk_cell BK196.out 0).trans rfl
              have hcz15_1 : wr.cell? ⟨gb196, 1, none⟩ = some (.slice A0_1 l0_1.length c0_1) := (blk_cell BK196.out 1).trans rfl
              have hcz15_2 : wr.cell? ⟨gb196, 2, none⟩ = some (.int .i64 a0_2) := (blk_cell BK196.out 2).trans rfl
              have hfz15_0 := blk_frozen BK196.out 0
              have hfz15_1 := blk_frozen BK196.out 1
              have hfz15_2 := blk_frozen BK196.out 2
              have p197 : 0 ≤ (x3_2 : Int) := of_decide_eq_true (by first | (with_reducible assumption) | assumption)
              have q197 : x3_2 < (l0_1.length : Int) := of_decide_eq_true (by first | (with_reducible assumption) | assumption)
              obtain ⟨ad197, e197, hx197_0⟩ := Kd.at_int HR0_1.out x3_2 p197 q197
              cases e197
              replace hx197_0 := (HB.out.cell (World.block_lt_of_cell? w _ hx197_0)).trans hx197_0
              replace p197 := eq_true p197
              replace q197 := eq_true q197
              go_wp2
              go_ret
              exact ⟨by first | rfl | (simp [errW_none, errW_some] <;> rfl) | (simp [*, errW_none, errW_some] <;> rfl), by repeat (first | (with_reducible first | exact HB.out | apply below_alloc | apply pw_below_drewN | apply below_drew1 | refine below_set ?_ GE196.out) | exact HB.out)⟩
            rw [if_neg c14] at H
            have c14b0 : decide ((rd l0_1 x3_2) < 1) = false := decide_eq_false c14
            clear c14
            by_cases c16 : (rd l0_1 x3_2) > 9007199254740991
            · rw [if_pos c16] at H
              have c16b0 : decide (9007199254740991 < (rd l0_1 x3_2)) = true := decide_eq_true c16
              clear c16
              obtain rfl := Option.some.inj H
              have hcz17_0 : wr.cell? ⟨gb196, 0, none⟩ = some (.slice A0_0 l0_0.length c0_0) := (blk_cell BK196.out 0).trans rfl
              have hcz17_1 : wr.cell? ⟨gb196, 1, none⟩ = some (.slice A0_1 l0_1.length c0_1) := (blk_cell BK196.out 1).trans rfl
              have hcz17_2 : wr.cell? ⟨gb196, 2, none⟩ = some (.int .i64 a0_2) := (blk_cell BK196.out 2).trans rfl
              have hfz17_0 := blk_frozen BK196.out 0
              have hfz17_1 := blk_frozen BK196.out 1
              have hfz17_2 := blk_frozen BK196.out 2
              have p197 : 0 ≤ (x3_2 : Int) := of_decide_eq_true (by first | (with_reducible assumption) | assumption)
              have q197 : x3_2 < (l0_1.length : Int) := of_decide_eq_true (by first | (with_reducible assumption) | assumption)
              obtain ⟨ad197, e197, hx197_0⟩ := Kd.at_int HR0_1.out x3_2 p197 q197
              cases e197
              replace hx197_0 := (HB.out.cell (World.block_lt_of_cell? w _ hx197_0)).trans hx197_0
              replace p197 := eq_true p197
              replace q197 := eq_true q197
              have p198 : 0 ≤ (x3_2 : Int) := of_decide_eq_true (by first | (with_reducible assumption) | assumption)
              have q198 : x3_2 < (l0_1.length : Int) := of_decide_eq_true (by first | (with_reducible assumption) | assumption)
              obtain ⟨ad198, e198, hx198_0⟩ := Kd.at_int HR0_1.out x3_2 p198 q198
              obtain rfl : ad197 = ad198 := (by injection e198)
              replace hx198_0 := (HB.out.cell (World.block_lt_of_cell? w _ hx198_0)).trans hx198_0
              replace p198 := eq_true p198
              replace q198 := eq_true q198
              go_wp2
              go_ret
              exact ⟨by first | rfl | (simp [errW_none, errW_some] <;> rfl) | (simp [*, errW_none, errW_some] <;> rfl), by repeat (first | (with_reducible first | exact HB.out | apply below_alloc | apply pw_below_drewN | apply below_drew1 | refine below_set ?_ GE196.out) | exact HB.out)⟩
            rw [if_neg c16] at H
            have c16b0 : decide (9007199254740991 < (rd l0_1 x3_2)) = false := decide_eq_false c16
            clear c16
            have H' := Aside0.mk H
            clear H
            have hcz18_0 : wr.cell? ⟨gb196, 0, none⟩ = some (.slice A0_0 l0_0.length c0_0) := (blk_cell BK196.out 0).trans rfl
            have hcz18_1 : wr.cell? ⟨gb196, 1, none⟩ = some (.slice A0_1 l0_1.length c0_1) := (blk_cell BK196.out 1).trans rfl
            have hcz18_2 : wr.cell? ⟨gb196, 2, none⟩ = some (.int .i64 a0_2) := (blk_cell BK196.out 2).trans rfl
            have hfz18_0 := blk_frozen BK196.out 0
            have hfz18_1 := blk_frozen BK196.out 1
            have hfz18_2 := blk_frozen BK196.out 2
            have p197 : 0 ≤ (x3_2 : Int) := of_decide_eq_true (by first | (with_reducible assumption) | assumption)
            have q197 : x3_2 < (l0_1.length : Int) := of_decide_eq_true (by first | (with_reducible assumption) | assumption)
            obtain ⟨ad197, e197, hx197_0⟩ := Kd.at_int HR0_1.out x3_2 p197 q197
            cases e197
            replace hx197_0 := (HB.out.cell (World.block_lt_of_cell? w _ hx197_0)).trans hx197_0
            replace p197 := eq_true p197
            replace q197 := eq_true q197
            have p198 : 0 ≤ (x3_2 : Int) := of_decide_eq_true (by first | (with_reducible assumption) | assumption)
            have q198 : x3_2 < (l0_1.length : Int) := of_decide_eq_true (by first | (with_reducible assumption) | assumption)
            obtain ⟨ad198, e198, hx198_0⟩ := Kd.at_int HR0_1.out x3_2 p198 q198
            obtain rfl : ad197 = ad198 := (by injection e198)
            replace hx198_0 := (HB.out.cell (World.block_lt_of_cell? w _ hx198_0)).trans hx198_0
            replace p198 := eq_true p198
            replace q198 := eq_true q198
            go_wp2
            go_roundg k2
            case measure => have := HJ1.out; have := HK2.out; omega
            case rel => exact ⟨(wrap64 (x3_2 + 1)), (by first | rfl | (simp; done) | (simp [*]; done)), H', ⟨by have := HJ1.out; have := HK2.out; omega⟩, ⟨by (with_reducible repeat (first | refine blk_drewN ?_ _ | refine blk_drew ?_ | refine blk_alloc ?_ _)); exact BK196.out⟩, ⟨by repeat (first | (with_reducible first | exact HB.out | apply below_alloc | apply pw_below_drewN | apply below_drew1 | refine below_set ?_ GE196.out) | exact HB.out)⟩⟩
          rw [if_neg c12] at H
          have c12b0 : decide (x3_2 < (l0_1.length : Int)) = false := decide_eq_false c12
          clear c12
          have H' := Aside0.mk H
          clear H
          have hcz19_0 : wr.cell? ⟨gb196, 0, none⟩ = some (.slice A0_0 l0_0.length c0_0) := (blk_cell BK196.out 0).trans rfl
          have hcz19_1 : wr.cell? ⟨gb196, 1, none⟩ = some (.slice A0_1 l0_1.length c0_1) := (blk_cell BK196.out 1).trans rfl
          have hcz19_2 : wr.cell? ⟨gb196, 2, none⟩ = some (.int .i64 a0_2) := (blk_cell BK196.out 2).trans rfl
          have hfz19_0 := blk_frozen BK196.out 0
          have hfz19_1 := blk_frozen BK196.out 1
          have hfz19_2 := blk_frozen BK196.out 2
          go_wp2
          go_loopg [4] k2 (fun kq v4 w' => ∃ (x4_3 : Int), v4 = .int .i64 x4_3 ∧ Aside0 (palinoderef14_Right.l1 kq x4_3 l0_0 l0_1 a0_2 = some r) ∧ Aside0 (kq ≤ k2) ∧ Aside0 (w'.heap[gb196]? = some (.cells #[(.slice A0_0 l0_0.length c0_0), (.slice A0_1 l0_1.length c0_1), .int .i64 a0_2] 25 (0, 0))) ∧ Aside0 (Below w.heap.size w w'))
          case atStart => exact ⟨(0), (by first | rfl | (simp; done) | (simp [*]; done)), H', ⟨Nat.le_refl _⟩, ⟨by (with_reducible repeat (first | refine blk_drewN ?_ _ | refine blk_drew ?_ | refine blk_alloc ?_ _)); exact BK196.out⟩, ⟨by repeat (first | (with_reducible first | exact HB.out | apply below_alloc | apply pw_below_drewN | apply below_drew1 | refine below_set ?_ GE196.out) | exact HB.out)⟩⟩
          case round =>
            clear H'
            try clear c1
            try clear p1
            try clear q1
            try clear hx1
            try clear c2
            try clear p2
            try clear c4
            try clear c4b0
            try clear c4b1
            try clear c6
            try clear c6b0
            try clear c6b1
            try clear p6
            try clear c8
            try clear c8b0
            try clear c11
            try clear c12
            try clear c12b0
            try clear c13
            try clear c13b0
            try clear c14
            try clear c14b0
            try clear c16
            try clear c16b0
            try clear p19
            try clear q19
            try clear hx19
            try clear hcz10_0
            try clear hcz10_1
            try clear hcz10_2
            try clear hcz15_0
            try clear hcz15_1
            try clear hcz15_2
            try clear hcz17_0
            try clear hcz17_1
            try clear hcz17_2
            try clear hcz18_0
            try clear hcz18_1
            try clear hcz18_2
            try clear hcz19_0
            try clear hcz19_1
            try clear hcz19_2
            try clear hcz5_0
            try clear hcz5_1
            try clear hcz5_2
            try clear hcz7_0
            try clear hcz7_1
            try clear hcz7_2
            try clear hcz9_0
            try clear hcz9_1
            try clear hcz9_2
            try clear hfz10_0
            try clear hfz10_1
            try clear hfz10_2
            try clear hfz15_0
            try clear hfz15_1
            try clear hfz15_2
            try clear hfz17_0
            try clear hfz17_1
            try clear hfz17_2
            try clear hfz18_0
            try clear hfz18_1
            try clear hfz18_2
            try clear hfz19_0
            try clear hfz19_1
            try clear hfz19_2
            try clear hfz5_0
            try clear hfz5_1
            try clear hfz5_2
            try clear hfz7_0
            try clear hfz7_1
            try clear hfz7_2
            try clear hfz9_0
            try clear hfz9_1
            try clear hfz9_2
            try clear hx197_0
            try clear hx198_0
            try clear p197
            try clear p198
            try clear p2
            try clear q197
            try clear q198
            obtain ⟨x4_3, rfl, HA, HK3, BK196, HB⟩ := hrel
            cases gk with
            | zero => exact absurd HA.out (by simp [palinoderef14_Right.l1])
            | succ k3 =>
              have H := HA.out
              clear HA
              simp only [palinoderef14_Right.l1] at H
              by_cases c20 : x4_3 < (l0_0.length : Int)
              rotate_left
              · rw [if_neg c20] at H
                have c20b0 : decide (x4_3 < (l0_0.length : Int)) = false := decide_eq_false c20
                clear c20
                replace H := Option.bind_eq_some_iff.mp H
                obtain ⟨t199, A1450, H⟩ := H
                replace H : ((palinoderef14_twice.f k3 t199).bind fun t202 => (some (!t202))) = some r := H
                have A145 := Aside0.mk A1450
                clear A1450
                replace H := Option.bind_eq_some_iff.mp H
                obtain ⟨t202, A1460, H⟩ := H
                replace H : (some (!t202)) = some r := H
                have A146 := Aside0.mk A1460
                clear A1460
                obtain rfl := Option.some.inj H
                have hcz147_0 : wr.cell? ⟨gb196, 0, none⟩ = some (.slice A0_0 l0_0.length c0_0) := (blk_cell BK196.out 0).trans rfl
                have hcz147_1 : wr.cell? ⟨gb196, 1, none⟩ = some (.slice A0_1 l0_1.length c0_1) := (blk_cell BK196.out 1).trans rfl
                have hcz147_2 : wr.cell? ⟨gb196, 2, none⟩ = some (.int .i64 a0_2) := (blk_cell BK196.out 2).trans rfl
                have hfz147_0 := blk_frozen BK196.out 0
                have hfz147_1 := blk_frozen BK196.out 1
                have hfz147_2 := blk_frozen BK196.out 2
                go_wp2_with (first | ((with_reducible refine gate_callee (f := 39) rfl ?_); refine goesL_ (some 110) rfl rfl Try.func39 (by kernel_rfl) rfl #[.agg #[.slice A0_0 l0_0.length c0_0, .slice A0_1 l0_1.length c0_1, .int .i64 a0_2]] rfl (by (try simp only [List.map_toArray, List.map_cons, List.map_nil]); first | done | rfl | (simp only [List.length_drop, List.length_take]; rfl)) ?_; (with_reducible refine (palinoderef14_ids.calls k3 _ _ l0_0 _ _ l0_1 a0_2 t199 _ ?side1 ?side2 ?side3 ?side4 A145.out).mono ?_); (case side1 => repeat (first | exact (Kd.C_below HR0_0.out HB.out) | (with_reducible refine Kd.C_alloc ?_ _) | (with_reducible refine Kd.C_drewN ?_ _) | (with_reducible refine Kd.C_drew ?_))); (case side2 => exact HC0_0.out); (case side3 => repeat (first | exact (Kd.C_below HR0_1.out HB.out) | (with_reducible refine Kd.C_alloc ?_ _) | (with_reducible refine Kd.C_drewN ?_ _) | (with_reducible refine Kd.C_drew ?_))); (case side4 => exact HC0_1.out); rintro e w148 ⟨v200, rfl, ho0, hb⟩; refine ⟨_, rfl, ?_⟩; have n0_ := Aside0.mk (Kd.R_lower ho0 (below_size (by repeat (first | (with_reducible first | exact HB.out | apply below_alloc | apply pw_below_drewN | apply below_drew1 | refine below_set ?_ GE196.out) | exact HB.out)))); have n1_ := Aside0.mk (blk_below (g := gb196) (o := .cells #[.slice A0_0 l0_0.length c0_0, .slice A0_1 l0_1.length c0_1, .int .i64 a0_2] 25 (0, 0)) (by (with_reducible repeat (first | refine blk_drewN ?_ _ | refine blk_drew ?_ | refine blk_alloc ?_ _)); exact BK196.out) hb); have n2_ := Aside0.mk (below_step (by repeat (first | (with_reducible first | exact HB.out | apply below_alloc | apply pw_below_drewN | apply below_drew1 | refine below_set ?_ GE196.out) | exact HB.out)) hb); clear BK196; clear HB; have HO201 := n0_; have BK196 := n1_; have HB := n2_; clear n0_ n1_ n2_; (try clear hb); (try clear hb2); (try clear hk); (try clear hi); (try clear ho0); obtain ⟨Ao149, co149, eo149⟩ := Kd.R_slice HO201.out; subst eo149) | ((with_reducible refine gate_callee (f := 38) rfl ?_); refine goesL_ (some 111) rfl rfl Try.func38 (by kernel_rfl) rfl #[.slice Ao149 t199.length co149] rfl (by (try simp only [List.map_toArray, List.map_cons, List.map_nil]); first | done | rfl | (simp only [List.length_drop, List.length_take]; rfl)) ?_; (with_reducible refine (palinoderef14_twice.calls k3 _ _ t199 t202 _ ?side1 ?side2 A146.out).mono ?_); (case side1 => repeat (first | exact (Kd.R_reads' HO201.out).2.2 | (with_reducible refine Kd.C_alloc ?_ _) | (with_reducible refine Kd.C_drewN ?_ _) | (with_reducible refine Kd.C_drew ?_))); (case side2 => exact (Kd.R_reads' HO201.out).2.1); rintro e w' ⟨rfl, ⟨nd, rfl⟩⟩; refine ⟨_, rfl, ?_⟩))
                go_ret
                exact ⟨by first | rfl | (simp [errW_none, errW_some] <;> rfl) | (simp [*, errW_none, errW_some] <;> rfl), by repeat (first | (with_reducible first | exact HB.out | apply below_alloc | apply pw_below_drewN | apply below_drew1 | refine below_set ?_ GE196.out) | exact HB.out)⟩
              rw [if_pos c20] at H
              have c20b0 : decide (x4_3 < (l0_0.length : Int)) = true := decide_eq_true c20
              clear c20
              by_cases c21 : 0 ≤ x4_3
              rotate_left
              · rw [if_neg c21] at H
                exact absurd H (by simp)
              rw [if_pos c21] at H
              have c21b0 : decide (0 ≤ x4_3) = true := decide_eq_true c21
              clear c21
              replace H := Option.bind_eq_some_iff.mp H
              obtain ⟨t205, A220, H⟩ := H
              replace H : (if t205 = true then (if x4_3 = 0 then (palinoderef14_Right.l1 k3 (wrap64 (x4_3 + 1)) l0_0 l0_1 a0_2) else (if 0 ≤ (wrap64 (x4_3 - 1)) then (if (wrap64 (x4_3 - 1)) < (l0_0.length : Int) then (if ((rd_T49 l0_0 (wrap64 (x4_3 - 1))).f1) > ((rd_T49 l0_0 x4_3).f1) then (some false) else (if ((rd_T49 l0_0 (wrap64 (x4_3 - 1))).f1) = ((rd_T49 l0_0 x4_3).f1) then (if ((rd_T49 l0_0 x4_3).f1) = 0 then (if ((rd_T49 l0_0 (wrap64 (x4_3 - 1))).f0) ≥ ((rd_T49 l0_0 x4_3).f0) then (some false) else (if ((rd_T49 l0_0 x4_3).f1) > 0 then (if ((Op.bytesLess (((rd_T49 l0_0 (wrap64 (x4_3 - 1))).f3).toList) (((rd_T49 l0_0 x4_3).f2).toList)) = true) then (palinoderef14_Right.l1 k3 (wrap64 (x4_3 + 1)) l0_0 l0_1 a0_2) else (some false)) else (palinoderef14_Right.l1 k3 (wrap64 (x4_3 + 1)) l0_0 l0_1 a0_2))) else (if ((rd_T49 l0_0 x4_3).f1) > 0 then (if ((Op.bytesLess (((rd_T49 l0_0 (wrap64 (x4_3 - 1))).f3).toList) (((rd_T49 l0_0 x4_3).f2).toList)) = true) then (palinoderef14_Right.l1 k3 (wrap64 (x4_3 + 1)) l0_0 l0_1 a0_2) else (some false)) else (palinoderef14_Right.l1 k3 (wrap64 (x4_3 + 1)) l0_0 l0_1 a0_2))) else (palinoderef14_Right.l1 k3 (wrap64 (x4_3 + 1)) l0_0 l0_1 a0_2))) else (none)) else (none))) else (some false)) = some r := H
              have A22 := Aside0.mk A220
              clear A220
              by_cases c23 : t205 = true
              rotate_left
              · replace c23 := Bool.eq_false_iff.mpr c23
                subst c23
                have H1 : (some false) = some r := by rw [if_neg (show ¬ (false = true) by decide)] at H; exact H
                clear H
                have H := H1
                clear H1
                obtain rfl := Option.some.inj H
                have hcz140_0 : wr.cell? ⟨gb196, 0, none⟩ = some (.slice A0_0 l0_0.length c0_0) := (blk_cell BK196.out 0).trans rfl
                have hcz140_1 : wr.cell? ⟨gb196, 1, none⟩ = some (.slice A0_1 l0_1.length c0_1) := (blk_cell BK196.out 1).trans rfl
                have hcz140_2 : wr.cell? ⟨gb196, 2, none⟩ = some (.int .i64 a0_2) := (blk_cell BK196.out 2).trans rfl
                have hfz140_0 := blk_frozen BK196.out 0
                have hfz140_1 := blk_frozen BK196.out 1
                have hfz140_2 := blk_frozen BK196.out 2
                have p203 : 0 ≤ (x4_3 : Int) := of_decide_eq_true (by first | (with_reducible assumption) | assumption)
                have q203 : x4_3 < (l0_0.length : Int) := of_decide_eq_true (by first | (with_reducible assumption) | assumption)
                obtain ⟨ad203, e203, hx203_0, hx203_1, hx203_2, hx203_3, hx203_4⟩ := at_T49 HR0_0.out x4_3 p203 q203
                cases e203
                replace hx203_0 := (HB.out.cell (World.block_lt_of_cell? w _ hx203_0)).trans hx203_0
                replace hx203_1 := (HB.out.cell (World.block_lt_of_cell? w _ hx203_1)).trans hx203_1
                replace hx203_2 := (HB.out.cell (World.block_lt_of_cell? w _ hx203_2)).trans hx203_2
                replace hx203_3 := (HB.out.cell (World.block_lt_of_cell? w _ hx203_3)).trans hx203_3
                replace hx203_4 := (HB.out.cell (World.block_lt_of_cell? w _ hx203_4)).trans hx203_4
                replace p203 := eq_true p203
                replace q203 := eq_true q203
                go_wp2_with (first | ((with_reducible refine gate_dst (N := 5) rfl ?_); (try (refine gate_guard (by rfl) ?_; dsimp only)); refine box_event ?hg (N := 5) ?hd (cs := #[.int .i64 0, .int .i64 0, .string (⟨#[]⟩ : ByteArray), .string (⟨#[]⟩ : ByteArray), .int .i64 0]) (t := 49) ?hr ?_; (case hd => rfl); (case hg => rfl); (case hr => first | (go_simp; done) | (go_simp; rfl)); intro gb204 hg w141 hbox hb; have n0_ := Aside0.mk (blk_below (g := gb196) (o := .cells #[.slice (some ad203) l0_0.length c0_0, .slice A0_1 l0_1.length c0_1, .int .i64 a0_2] 25 (0, 0)) (by (with_reducible repeat (first | refine blk_drewN ?_ _ | refine blk_drew ?_ | refine blk_alloc ?_ _)); exact BK196.out) hb); have n1_ := Aside0.mk (below_step (by repeat (first | (with_reducible first | exact HB.out | apply below_alloc | apply pw_below_drewN | apply below_drew1 | refine below_set ?_ GE196.out) | exact HB.out)) hb); have n2_ := Aside0.mk (hbox); have n3_ := Aside0.mk ((by rw [hg]; exact (below_size (by repeat (first | (with_reducible first | exact HB.out | apply below_alloc | apply pw_below_drewN | apply below_drew1 | refine below_set ?_ GE196.out) | exact HB.out))) : w.heap.size ≤ gb204)); have n4_ := Aside0.mk ((by rw [hg]; exact (below_size (by repeat (first | (with_reducible first | exact HB.out | apply below_alloc | apply pw_below_drewN | apply below_drew1 | refine below_set ?_ GE196.out) | exact HB.out))) : w.heap.size ≤ gb204)); have n5_ := Aside0.mk ((by rw [hg]; exact Nat.ne_of_lt (blk_lt (g := gb196) (o := .cells #[.slice (some ad203) l0_0.length c0_0, .slice A0_1 l0_1.length c0_1, .int .i64 a0_2] 25 (0, 0)) (by (with_reducible repeat (first | refine blk_drewN ?_ _ | refine blk_drew ?_ | refine blk_alloc ?_ _)); exact BK196.out)) : gb196 ≠ gb204)); have n6_ := Aside0.mk ((by rw [hg]; exact Nat.ne_of_gt (blk_lt (g := gb196) (o := .cells #[.slice (some ad203) l0_0.length c0_0, .slice A0_1 l0_1.length c0_1, .int .i64 a0_2] 25 (0, 0)) (by (with_reducible repeat (first | refine blk_drewN ?_ _ | refine blk_drew ?_ | refine blk_alloc ?_ _)); exact BK196.out)) : gb204 ≠ gb196)); clear BK196; clear HB; have BK196 := n0_; have HB := n1_; have BK204 := n2_; have GW204 := n3_; have GE204 := n4_; have NB196_204 := n5_; have NB204_196 := n6_; clear n0_ n1_ n2_ n3_ n4_ n5_ n6_; clear hb hbox hg; have hnb142 := NB204_196.out; have hnc142 := NB196_204.out; have hcz143_0 : w141.cell? ⟨gb204, 0, none⟩ = some (.int .i64 0) := (blk_cell BK204.out 0).trans rfl; have hcz143_1 : w141.cell? ⟨gb204, 1, none⟩ = some (.int .i64 0) := (blk_cell BK204.out 1).trans rfl; have hcz143_2 : w141.cell? ⟨gb204, 2, none⟩ = some (.string (⟨#[]⟩ : ByteArray)) := (blk_cell BK204.out 2).trans rfl; have hcz143_3 : w141.cell? ⟨gb204, 3, none⟩ = some (.string (⟨#[]⟩ : ByteArray)) := (blk_cell BK204.out 3).trans rfl; have hcz143_4 : w141.cell? ⟨gb204, 4, none⟩ = some (.int .i64 0) := (blk_cell BK204.out 4).trans rfl; have hfz143_0 := blk_frozen BK204.out 0; have hfz143_1 := blk_frozen BK204.out 1; have hfz143_2 := blk_frozen BK204.out 2; have hfz143_3 := blk_frozen BK204.out 3; have hfz143_4 := blk_frozen BK204.out 4) | ((with_reducible refine gate_callee (f := 37) rfl ?_); refine goesL_ (some 62) rfl rfl Try.func37 (by kernel_rfl) rfl #[.agg #[.int .i64 ((rd_T49 l0_0 x4_3).f0), .int .i64 ((rd_T49 l0_0 x4_3).f1), .string ((rd_T49 l0_0 x4_3).f2), .string ((rd_T49 l0_0 x4_3).f3), .int .i64 ((rd_T49 l0_0 x4_3).f4)]] rfl (by (try simp only [List.map_toArray, List.map_cons, List.map_nil]); first | done | rfl | (simp only [List.length_drop, List.length_take]; rfl)) ?_; (with_reducible refine (palinoderef14_meta.calls ((rd_T49 l0_0 x4_3).f0) ((rd_T49 l0_0 x4_3).f1) ((rd_T49 l0_0 x4_3).f2) ((rd_T49 l0_0 x4_3).f3) ((rd_T49 l0_0 x4_3).f4) false _ A22.out).mono ?_); rintro e w144 ⟨rfl, hb⟩; refine ⟨_, rfl, ?_⟩; have n0_ := Aside0.mk (blk_below (g := gb196) (o := .cells #[.slice (some ad203) l0_0.length c0_0, .slice A0_1 l0_1.length c0_1, .int .i64 a0_2] 25 (0, 0)) (by (with_reducible repeat (first | refine blk_drewN ?_ _ | refine blk_drew ?_ | refine blk_alloc ?_ _)); refine blk_far ?_ NB196_204.out _; (with_reducible repeat (first | refine blk_drewN ?_ _ | refine blk_drew ?_ | refine blk_alloc ?_ _)); refine blk_far ?_ NB196_204.out _; (with_reducible repeat (first | refine blk_drewN ?_ _ | refine blk_drew ?_ | refine blk_alloc ?_ _)); refine blk_far ?_ NB196_204.out _; (with_reducible repeat (first | refine blk_drewN ?_ _ | refine blk_drew ?_ | refine blk_alloc ?_ _)); refine blk_far ?_ NB196_204.out _; (with_reducible repeat (first | refine blk_drewN ?_ _ | refine blk_drew ?_ | refine blk_alloc ?_ _)); refine blk_far ?_ NB196_204.out _; (with_reducible repeat (first | refine blk_drewN ?_ _ | refine blk_drew ?_ | refine blk_alloc ?_ _)); exact BK196.out) hb); have n1_ := Aside0.mk (blk_below (g := gb204) (o := .cells #[.int .i64 ((rd_T49 l0_0 x4_3).f0), .int .i64 ((rd_T49 l0_0 x4_3).f1), .string ((rd_T49 l0_0 x4_3).f2), .string ((rd_T49 l0_0 x4_3).f3), .int .i64 ((rd_T49 l0_0 x4_3).f4)] 49 (0, 0)) (by (with_reducible repeat (first | refine blk_drewN ?_ _ | refine blk_drew ?_ | refine blk_alloc ?_ _)); refine blk_put (cs := #[.int .i64 ((rd_T49 l0_0 x4_3).f0), .int .i64 ((rd_T49 l0_0 x4_3).f1), .string ((rd_T49 l0_0 x4_3).f2), .string ((rd_T49 l0_0 x4_3).f3), .int .i64 0]) ?_ 4 _ rfl; (with_reducible repeat (first | refine blk_drewN ?_ _ | refine blk_drew ?_ | refine blk_alloc ?_ _)); refine blk_put (cs := #[.int .i64 ((rd_T49 l0_0 x4_3).f0), .int .i64 ((rd_T49 l0_0 x4_3).f1), .string ((rd_T49 l0_0 x4_3).f2), .string (⟨#[]⟩ : ByteArray), .int .i64 0]) ?_ 3 _ rfl; (with_reducible repeat (first | refine blk_drewN ?_ _ | refine blk_drew ?_ | refine blk_alloc ?_ _)); refine blk_put (cs := #[.int .i64 ((rd_T49 l0_0 x4_3).f0), .int .i64 ((rd_T49 l0_0 x4_3).f1), .string (⟨#[]⟩ : ByteArray), .string (⟨#[]⟩ : ByteArray), .int .i64 0]) ?_ 2 _ rfl; (with_reducible repeat (first | refine blk_drewN ?_ _ | refine blk_drew ?_ | refine blk_alloc ?_ _)); refine blk_put (cs := #[.int .i64 ((rd_T49 l0_0 x4_3).f0), .int .i64 0, .string (⟨#[]⟩ : ByteArray), .string (⟨#[]⟩ : ByteArray), .int .i64 0]) ?_ 1 _ rfl; (with_reducible repeat (first | refine blk_drewN ?_ _ | refine blk_drew ?_ | refine blk_alloc ?_ _)); refine blk_put (cs := #[.int .i64 0, .int .i64 0, .string (⟨#[]⟩ : ByteArray), .string (⟨#[]⟩ : ByteArray), .int .i64 0]) ?_ 0 _ rfl; (with_reducible repeat (first | refine blk_drewN ?_ _ | refine blk_drew ?_ | refine blk_alloc ?_ _)); exact BK204.out) hb); have n2_ := Aside0.mk (below_step (by repeat (first | (with_reducible first | exact HB.out | apply below_alloc | apply pw_below_drewN | apply below_drew1 | refine below_set ?_ GE196.out | refine below_set ?_ GE204.out) | exact HB.out)) hb); clear BK196; clear BK204; clear HB; have BK196 := n0_; have BK204 := n1_; have HB := n2_; clear n0_ n1_ n2_; (try clear hb); (try clear hb2); (try clear hk); (try clear hi)))
                go_ret
                exact ⟨by first | rfl | (simp [errW_none, errW_some] <;> rfl) | (simp [*, errW_none, errW_some] <;> rfl), by repeat (first | (with_reducible first | exact HB.out | apply below_alloc | apply pw_below_drewN | apply below_drew1 | refine below_set ?_ GE196.out | refine below_set ?_ GE204.out) | exact HB.out)⟩
              subst c23
              have H1 : (if x4_3 = 0 then (palinoderef14_Right.l1 k3 (wrap64 (x4_3 + 1)) l0_0 l0_1 a0_2) else (if 0 ≤ (wrap64 (x4_3 - 1)) then (if (wrap64 (x4_3 - 1)) < (l0_0.length : Int) then (if ((rd_T49 l0_0 (wrap64 (x4_3 - 1))).f1) > ((rd_T49 l0_0 x4_3).f1) then (some false) else (if ((rd_T49 l0_0 (wrap64 (x4_3 - 1))).f1) = ((rd_T49 l0_0 x4_3).f1) then (if ((rd_T49 l0_0 x4_3).f1) = 0 then (if ((rd_T49 l0_0 (wrap64 (x4_3 - 1))).f0) ≥ ((rd_T49 l0_0 x4_3).f0) then (some false) else (if ((rd_T49 l0_0 x4_3).f1) > 0 then (if ((Op.bytesLess (((rd_T49 l0_0 (wrap64 (x4_3 - 1))).f3).toList) (((rd_T49 l0_0 x4_3).f2).toList)) = true) then (palinoderef14_Right.l1 k3 (wrap64 (x4_3 + 1)) l0_0 l0_1 a0_2) else (some false)) else (palinoderef14_Right.l1 k3 (wrap64 (x4_3 + 1)) l0_0 l0_1 a0_2))) else (if ((rd_T49 l0_0 x4_3).f1) > 0 then (if ((Op.bytesLess (((rd_T49 l0_0 (wrap64 (x4_3 - 1))).f3).toList) (((rd_T49 l0_0 x4_3).f2).toList)) = true) then (palinoderef14_Right.l1 k3 (wrap64 (x4_3 + 1)) l0_0 l0_1 a0_2) else (some false)) else (palinoderef14_Right.l1 k3 (wrap64 (x4_3 + 1)) l0_0 l0_1 a0_2))) else (palinoderef14_Right.l1 k3 (wrap64 (x4_3 + 1)) l0_0 l0_1 a0_2))) else (none)) else (none))) = some r := by rw [if_pos rfl] at H; exact H
              clear H
              have H := H1
              clear H1
              by_cases c24 : x4_3 = 0
              · rw [if_pos c24] at H
                have c24b0 : (x4_3 == 0) = true := beq_iff_eq.mpr c24
                have c24b1 : (x4_3 != 0) = false := bne_eq_false_iff_eq.mpr c24
                clear c24
                have H' := Aside0.mk H
                clear H
                have hcz25_0 : wr.cell? ⟨gb196, 0, none⟩ = some (.slice A0_0 l0_0.length c0_0) := (blk_cell BK196.out 0).trans rfl
                have hcz25_1 : wr.cell? ⟨gb196, 1, none⟩ = some (.slice A0_1 l0_1.length c0_1) := (blk_cell BK196.out 1).trans rfl
                have hcz25_2 : wr.cell? ⟨gb196, 2, none⟩ = some (.int .i64 a0_2) := (blk_cell BK196.out 2).trans rfl
                have hfz25_0 := blk_frozen BK196.out 0
                have hfz25_1 := blk_frozen BK196.out 1
                have hfz25_2 := blk_frozen BK196.out 2
                have p203 : 0 ≤ (x4_3 : Int) := of_decide_eq_true (by first | (with_reducible assumption) | assumption)
                have q203 : x4_3 < (l0_0.length : Int) := of_decide_eq_true (by first | (with_reducible assumption) | assumption)
                obtain ⟨ad203, e203, hx203_0, hx203_1, hx203_2, hx203_3, hx203_4⟩ := at_T49 HR0_0.out x4_3 p203 q203
                cases e203
                replace hx203_0 := (HB.out.cell (World.block_lt_of_cell? w _ hx203_0)).trans hx203_0
                replace hx203_1 := (HB.out.cell (World.block_lt_of_cell? w _ hx203_1)).trans hx203_1
                replace hx203_2 := (HB.out.cell (World.block_lt_of_cell? w _ hx203_2)).trans hx203_2
                replace hx203_3 := (HB.out.cell (World.block_lt_of_cell? w _ hx203_3)).trans hx203_3
                replace hx203_4 := (HB.out.cell (World.block_lt_of_cell? w _ hx203_4)).trans hx203_4
                replace p203 := eq_true p203
                replace q203 := eq_true q203
                go_wp2_with (first | ((with_reducible refine gate_dst (N := 5) rfl ?_); (try (refine gate_guard (by rfl) ?_; dsimp only)); refine box_event ?hg (N := 5) ?hd (cs := #[.int .i64 0, .int .i64 0, .string (⟨#[]⟩ : ByteArray), .string (⟨#[]⟩ : ByteArray), .int .i64 0]) (t := 49) ?hr ?_; (case hd => rfl); (case hg => rfl); (case hr => first | (go_simp; done) | (go_simp; rfl)); intro gb204 hg w26 hbox hb; have n0_ := Aside0.mk (blk_below (g := gb196) (o := .cells #[.slice (some ad203) l0_0.length c0_0, .slice A0_1 l0_1.length c0_1, .int .i64 a0_2] 25 (0, 0)) (by (with_reducible repeat (first | refine blk_drewN ?_ _ | refine blk_drew ?_ | refine blk_alloc ?_ _)); exact BK196.out) hb); have n1_ := Aside0.mk (below_step (by repeat (first | (with_reducible first | exact HB.out | apply below_alloc | apply pw_below_drewN | apply below_drew1 | refine below_set ?_ GE196.out) | exact HB.out)) hb); have n2_ := Aside0.mk (hbox); have n3_ := Aside0.mk ((by rw [hg]; exact (below_size (by repeat (first | (with_reducible first | exact HB.out | apply below_alloc | apply pw_below_drewN | apply below_drew1 | refine below_set ?_ GE196.out) | exact HB.out))) : w.heap.size ≤ gb204)); have n4_ := Aside0.mk ((by rw [hg]; exact (below_size (by repeat (first | (with_reducible first | exact HB.out | apply below_alloc | apply pw_below_drewN | apply below_drew1 | refine below_set ?_ GE196.out) | exact HB.out))) : w.heap.size ≤ gb204)); have n5_ := Aside0.mk ((by rw [hg]; exact Nat.ne_of_lt (blk_lt (g := gb196) (o := .cells #[.slice (some ad203) l0_0.length c0_0, .slice A0_1 l0_1.length c0_1, .int .i64 a0_2] 25 (0, 0)) (by (with_reducible repeat (first | refine blk_drewN ?_ _ | refine blk_drew ?_ | refine blk_alloc ?_ _)); exact BK196.out)) : gb196 ≠ gb204)); have n6_ := Aside0.mk ((by rw [hg]; exact Nat.ne_of_gt (blk_lt (g := gb196) (o := .cells #[.slice (some ad203) l0_0.length c0_0, .slice A0_1 l0_1.length c0_1, .int .i64 a0_2] 25 (0, 0)) (by (with_reducible repeat (first | refine blk_drewN ?_ _ | refine blk_drew ?_ | refine blk_alloc ?_ _)); exact BK196.out)) : gb204 ≠ gb196)); clear BK196; clear HB; have BK196 := n0_; have HB := n1_; have BK204 := n2_; have GW204 := n3_; have GE204 := n4_; have NB196_204 := n5_; have NB204_196 := n6_; clear n0_ n1_ n2_ n3_ n4_ n5_ n6_; clear hb hbox hg; have hnb27 := NB204_196.out; have hnc27 := NB196_204.out; have hcz28_0 : w26.cell? ⟨gb204, 0, none⟩ = some (.int .i64 0) := (blk_cell BK204.out 0).trans rfl; have hcz28_1 : w26.cell? ⟨gb204, 1, none⟩ = some (.int .i64 0) := (blk_cell BK204.out 1).trans rfl; have hcz28_2 : w26.cell? ⟨gb204, 2, none⟩ = some (.string (⟨#[]⟩ : ByteArray)) := (blk_cell BK204.out 2).trans rfl; have hcz28_3 : w26.cell? ⟨gb204, 3, none⟩ = some (.string (⟨#[]⟩ : ByteArray)) := (blk_cell BK204.out 3).trans rfl; have hcz28_4 : w26.cell? ⟨gb204, 4, none⟩ = some (.int .i64 0) := (blk_cell BK204.out 4).trans rfl; have hfz28_0 := blk_frozen BK204.out 0; have hfz28_1 := blk_frozen BK204.out 1; have hfz28_2 := blk_frozen BK204.out 2; have hfz28_3 := blk_frozen BK204.out 3; have hfz28_4 := blk_frozen BK204.out 4) | ((with_reducible refine gate_callee (f := 37) rfl ?_); refine goesL_ (some 62) rfl rfl Try.func37 (by kernel_rfl) rfl #[.agg #[.int .i64 ((rd_T49 l0_0 x4_3).f0), .int .i64 ((rd_T49 l0_0 x4_3).f1), .string ((rd_T49 l0_0 x4_3).f2), .string ((rd_T49 l0_0 x4_3).f3), .int .i64 ((rd_T49 l0_0 x4_3).f4)]] rfl (by (try simp only [List.map_toArray, List.map_cons, List.map_nil]); first | done | rfl | (simp only [List.length_drop, List.length_take]; rfl)) ?_; (with_reducible refine (palinoderef14_meta.calls ((rd_T49 l0_0 x4_3).f0) ((rd_T49 l0_0 x4_3).f1) ((rd_T49 l0_0 x4_3).f2) ((rd_T49 l0_0 x4_3).f3) ((rd_T49 l0_0 x4_3).f4) true _ A22.out).mono ?_); rintro e w29 ⟨rfl, hb⟩; refine ⟨_, rfl, ?_⟩; have n0_ := Aside0.mk (blk_below (g := gb196) (o := .cells #[.slice (some ad203) l0_0.length c0_0, .slice A0_1 l0_1.length c0_1, .int .i64 a0_2] 25 (0, 0)) (by (with_reducible repeat (first | refine blk_drewN ?_ _ | refine blk_drew ?_ | refine blk_alloc ?_ _)); refine blk_far ?_ NB196_204.out _; (with_reducible repeat (first | refine blk_drewN ?_ _ | refine blk_drew ?_ | refine blk_alloc ?_ _)); refine blk_far ?_ NB196_204.out _; (with_reducible repeat (first | refine blk_drewN ?_ _ | refine blk_drew ?_ | refine blk_alloc ?_ _)); refine blk_far ?_ NB196_204.out _; (with_reducible repeat (first | refine blk_drewN ?_ _ | refine blk_drew ?_ | refine blk_alloc ?_ _)); refine blk_far ?_ NB196_204.out _; (with_reducible repeat (first | refine blk_drewN ?_ _ | refine blk_drew ?_ | refine blk_alloc ?_ _)); refine blk_far ?_ NB196_204.out _; (with_reducible repeat (first | refine blk_drewN ?_ _ | refine blk_drew ?_ | refine blk_alloc ?_ _)); exact BK196.out) hb); have n1_ := Aside0.mk (blk_below (g := gb204) (o := .cells #[.int .i64 ((rd_T49 l0_0 x4_3).f0), .int .i64 ((rd_T49 l0_0 x4_3).f1), .string ((rd_T49 l0_0 x4_3).f2), .string ((rd_T49 l0_0 x4_3).f3), .int .i64 ((rd_T49 l0_0 x4_3).f4)] 49 (0, 0)) (by (with_reducible repeat (first | refine blk_drewN ?_ _ | refine blk_drew ?_ | refine blk_alloc ?_ _)); refine blk_put (cs := #[.int .i64 ((rd_T49 l0_0 x4_3).f0), .int .i64 ((rd_T49 l0_0 x4_3).f1), .string ((rd_T49 l0_0 x4_3).f2), .string ((rd_T49 l0_0 x4_3).f3), .int .i64 0]) ?_ 4 _ rfl; (with_reducible repeat (first | refine blk_drewN ?_ _ | refine blk_drew ?_ | refine blk_alloc ?_ _)); refine blk_put (cs := #[.int .i64 ((rd_T49 l0_0 x4_3).f0), .int .i64 ((rd_T49 l0_0 x4_3).f1), .string ((rd_T49 l0_0 x4_3).f2), .string (⟨#[]⟩ : ByteArray), .int .i64 0]) ?_ 3 _ rfl; (with_reducible repeat (first | refine blk_drewN ?_ _ | refine blk_drew ?_ | refine blk_alloc ?_ _)); refine blk_put (cs := #[.int .i64 ((rd_T49 l0_0 x4_3).f0), .int .i64 ((rd_T49 l0_0 x4_3).f1), .string (⟨#[]⟩ : ByteArray), .string (⟨#[]⟩ : ByteArray), .int .i64 0]) ?_ 2 _ rfl; (with_reducible repeat (first | refine blk_drewN ?_ _ | refine blk_drew ?_ | refine blk_alloc ?_ _)); refine blk_put (cs := #[.int .i64 ((rd_T49 l0_0 x4_3).f0), .int .i64 0, .string (⟨#[]⟩ : ByteArray), .string (⟨#[]⟩ : ByteArray), .int .i64 0]) ?_ 1 _ rfl; (with_reducible repeat (first | refine blk_drewN ?_ _ | refine blk_drew ?_ | refine blk_alloc ?_ _)); refine blk_put (cs := #[.int .i64 0, .int .i64 0, .string (⟨#[]⟩ : ByteArray), .string (⟨#[]⟩ : ByteArray), .int .i64 0]) ?_ 0 _ rfl; (with_reducible repeat (first | refine blk_drewN ?_ _ | refine blk_drew ?_ | refine blk_alloc ?_ _)); exact BK204.out) hb); have n2_ := Aside0.mk (below_step (by repeat (first | (with_reducible first | exact HB.out | apply below_alloc | apply pw_below_drewN | apply below_drew1 | refine below_set ?_ GE196.out | refine below_set ?_ GE204.out) | exact HB.out)) hb); clear BK196; clear BK204; clear HB; have BK196 := n0_; have BK204 := n1_; have HB := n2_; clear n0_ n1_ n2_; (try clear hb); (try clear hb2); (try clear hk); (try clear hi)))
                go_roundg k3
                case measure => have := HJ1.out; have := HK2.out; have := HK3.out; omega
                case rel => exact ⟨(wrap64 (x4_3 + 1)), (by first | rfl | (simp; done) | (simp [*]; done)), H', ⟨by have := HJ1.out; have := HK2.out; have := HK3.out; omega⟩, ⟨by (with_reducible repeat (first | refine blk_drewN ?_ _ | refine blk_drew ?_ | refine blk_alloc ?_ _)); exact BK196.out⟩, ⟨by repeat (first | (with_reducible first | exact HB.out | apply below_alloc | apply pw_below_drewN | apply below_drew1 | refine below_set ?_ GE196.out | refine below_set ?_ GE204.out) | exact HB.out)⟩⟩
              rw [if_neg c24] at H
              have c24b0 : (x4_3 == 0) = false := beq_eq_false_iff_ne.mpr c24
              have c24b1 : (x4_3 != 0) = true := bne_iff_ne.mpr c24
              obtain ⟨ji30, hji30⟩ : ∃ j_ : Int, (wrap64 (x4_3 - 1)) = j_ := ⟨_, rfl⟩
              replace H : (if 0 ≤ (ji30) then (if (ji30) < (l0_0.length : Int) then (if ((rd_T49 l0_0 (ji30)).f1) > ((rd_T49 l0_0 x4_3).f1) then (some false) else (if ((rd_T49 l0_0 (ji30)).f1) = ((rd_T49 l0_0 x4_3).f1) then (if ((rd_T49 l0_0 x4_3).f1) = 0 then (if ((rd_T49 l0_0 (ji30)).f0) ≥ ((rd_T49 l0_0 x4_3).f0) then (some false) else (if ((rd_T49 l0_0 x4_3).f1) > 0 then (if ((Op.bytesLess (((rd_T49 l0_0 (ji30)).f3).toList) (((rd_T49 l0_0 x4_3).f2).toList)) = true) then (palinoderef14_Right.l1 k3 (wrap64 (x4_3 + 1)) l0_0 l0_1 a0_2) else (some false)) else (palinoderef14_Right.l1 k3 (wrap64 (x4_3 + 1)) l0_0 l0_1 a0_2))) else (if ((rd_T49 l0_0 x4_3).f1) > 0 then (if ((Op.bytesLess (((rd_T49 l0_0 (ji30)).f3).toList) (((rd_T49 l0_0 x4_3).f2).toList)) = true) then (palinoderef14_Right.l1 k3 (wrap64 (x4_3 + 1)) l0_0 l0_1 a0_2) else (some false)) else (palinoderef14_Right.l1 k3 (wrap64 (x4_3 + 1)) l0_0 l0_1 a0_2))) else (palinoderef14_Right.l1 k3 (wrap64 (x4_3 + 1)) l0_0 l0_1 a0_2))) else (none)) else (none)) = some r := by first | (rw [hji30] at H; exact H) | (simp only [hji30] at H ⊢; exact H)
              (try rw [hji30] at A22)
              have hji30w : (IntKind.i64.wrap (x4_3 - 1)) = ji30 := (i64_w _).trans hji30
              by_cases c31 : 0 ≤ (ji30)
              rotate_left
              · rw [if_neg c31] at H
                exact absurd H (by simp)
              rw [if_pos c31] at H
              have c31b0 : decide (0 ≤ (ji30)) = true := decide_eq_true c31
              clear c31
              by_cases c32 : (ji30) < (l0_0.length : Int)
              rotate_left
              · rw [if_neg c32] at H
                exact absurd H (by simp)
              rw [if_pos c32] at H
              have c32b0 : decide ((ji30) < (l0_0.length : Int)) = true := decide_eq_true c32
              clear c32
              by_cases c33 : ((rd_T49 l0_0 (ji30)).f1) > ((rd_T49 l0_0 x4_3).f1)
              · rw [if_pos c33] at H
                have c33b0 : decide (((rd_T49 l0_0 x4_3).f1) < ((rd_T49 l0_0 (ji30)).f1)) = true := decide_eq_true c33
                clear c33
                obtain rfl := Option.some.inj H
                have hcz34_0 : wr.cell? ⟨gb196, 0, none⟩ = some (.slice A0_0 l0_0.length c0_0) := (blk_cell BK196.out 0).trans rfl
                have hcz34_1 : wr.cell? ⟨gb196, 1, none⟩ = some (.slice A0_1 l0_1.length c0_1) := (blk_cell BK196.out 1).trans rfl
                have hcz34_2 : wr.cell? ⟨gb196, 2, none⟩ = some (.int .i64 a0_2) := (blk_cell BK196.out 2).trans rfl
                have hfz34_0 := blk_frozen BK196.out 0
                have hfz34_1 := blk_frozen BK196.out 1
                have hfz34_2 := blk_frozen BK196.out 2
                have p203 : 0 ≤ (x4_3 : Int) := of_decide_eq_true (by first | (with_reducible assumption) | assumption)
                have q203 : x4_3 < (l0_0.length : Int) := of_decide_eq_true (by first | (with_reducible assumption) | assumption)
                obtain ⟨ad203, e203, hx203_0, hx203_1, hx203_2, hx203_3, hx203_4⟩ := at_T49 HR0_0.out x4_3 p203 q203
                cases e203
                replace hx203_0 := (HB.out.cell (World.block_lt_of_cell? w _ hx203_0)).trans hx203_0
                replace hx203_1 := (HB.out.cell (World.block_lt_of_cell? w _ hx203_1)).trans hx203_1
                replace hx203_2 := (HB.out.cell (World.block_lt_of_cell? w _ hx203_2)).trans hx203_2
                replace hx203_3 := (HB.out.cell (World.block_lt_of_cell? w _ hx203_3)).trans hx203_3
                replace hx203_4 := (HB.out.cell (World.block_lt_of_cell? w _ hx203_4)).trans hx203_4
                replace p203 := eq_true p203
                replace q203 := eq_true q203
                go_wp2_with (first | ((with_reducible refine gate_dst (N := 5) rfl ?_); (try (refine gate_guard (by rfl) ?_; dsimp only)); refine box_event ?hg (N := 5) ?hd (cs := #[.int .i64 0, .int .i64 0, .string (⟨#[]⟩ : ByteArray), .string (⟨#[]⟩ : ByteArray), .int .i64 0]) (t := 49) ?hr ?_; (case hd => rfl); (case hg => rfl); (case hr => first | (go_simp; done) | (go_simp; rfl)); intro gb204 hg w35 hbox hb; have n0_ := Aside0.mk (blk_below (g := gb196) (o := .cells #[.slice (some ad203) l0_0.length c0_0, .slice A0_1 l0_1.length c0_1, .int .i64 a0_2] 25 (0, 0)) (by (with_reducible repeat (first | refine blk_drewN ?_ _ | refine blk_drew ?_ | refine blk_alloc ?_ _)); exact BK196.out) hb); have n1_ := Aside0.mk (below_step (by repeat (first | (with_reducible first | exact HB.out | apply below_alloc | apply pw_below_drewN | apply below_drew1 | refine below_set ?_ GE196.out) | exact HB.out)) hb); have n2_ := Aside0.mk (hbox); have n3_ := Aside0.mk ((by rw [hg]; exact (below_size (by repeat (first | (with_reducible first | exact HB.out | apply below_alloc | apply pw_below_drewN | apply below_drew1 | refine below_set ?_ GE196.out) | exact HB.out))) : w.heap.size ≤ gb204)); have n4_ := Aside0.mk ((by rw [hg]; exact (below_size (by repeat (first | (with_reducible first | exact HB.out | apply below_alloc | apply pw_below_drewN | apply below_drew1 | refine below_set ?_ GE196.out) | exact HB.out))) : w.heap.size ≤ gb204)); have n5_ := Aside0.mk ((by rw [hg]; exact Nat.ne_of_lt (blk_lt (g := gb196) (o := .cells #[.slice (some ad203) l0_0.length c0_0, .slice A0_1 l0_1.length c0_1, .int .i64 a0_2] 25 (0, 0)) (by (with_reducible repeat (first | refine blk_drewN ?_ _ | refine blk_drew ?_ | refine blk_alloc ?_ _)); exact BK196.out)) : gb196 ≠ gb204)); have n6_ := Aside0.mk ((by rw [hg]; exact Nat.ne_of_gt (blk_lt (g := gb196) (o := .cells #[.slice (some ad203) l0_0.length c0_0, .slice A0_1 l0_1.length c0_1, .int .i64 a0_2] 25 (0, 0)) (by (with_reducible repeat (first | refine blk_drewN ?_ _ | refine blk_drew ?_ | refine blk_alloc ?_ _)); exact BK196.out)) : gb204 ≠ gb196)); clear BK196; clear HB; have BK196 := n0_; have HB := n1_; have BK204 := n2_; have GW204 := n3_; have GE204 := n4_; have NB196_204 := n5_; have NB204_196 := n6_; clear n0_ n1_ n2_ n3_ n4_ n5_ n6_; clear hb hbox hg; have hnb36 := NB204_196.out; have hnc36 := NB196_204.out; have hcz37_0 : w35.cell? ⟨gb204, 0, none⟩ = some (.int .i64 0) := (blk_cell BK204.out 0).trans rfl; have hcz37_1 : w35.cell? ⟨gb204, 1, none⟩ = some (.int .i64 0) := (blk_cell BK204.out 1).trans rfl; have hcz37_2 : w35.cell? ⟨gb204, 2, none⟩ = some (.string (⟨#[]⟩ : ByteArray)) := (blk_cell BK204.out 2).trans rfl; have hcz37_3 : w35.cell? ⟨gb204, 3, none⟩ = some (.string (⟨#[]⟩ : ByteArray)) := (blk_cell BK204.out 3).trans rfl; have hcz37_4 : w35.cell? ⟨gb204, 4, none⟩ = some (.int .i64 0) := (blk_cell BK204.out 4).trans rfl; have hfz37_0 := blk_frozen BK204.out 0; have hfz37_1 := blk_frozen BK204.out 1; have hfz37_2 := blk_frozen BK204.out 2; have hfz37_3 := blk_frozen BK204.out 3; have hfz37_4 := blk_frozen BK204.out 4) | ((with_reducible refine gate_callee (f := 37) rfl ?_); refine goesL_ (some 62) rfl rfl Try.func37 (by kernel_rfl) rfl #[.agg #[.int .i64 ((rd_T49 l0_0 x4_3).f0), .int .i64 ((rd_T49 l0_0 x4_3).f1), .string ((rd_T49 l0_0 x4_3).f2), .string ((rd_T49 l0_0 x4_3).f3), .int .i64 ((rd_T49 l0_0 x4_3).f4)]] rfl (by (try simp only [List.map_toArray, List.map_cons, List.map_nil]); first | done | rfl | (simp only [List.length_drop, List.length_take]; rfl)) ?_; (with_reducible refine (palinoderef14_meta.calls ((rd_T49 l0_0 x4_3).f0) ((rd_T49 l0_0 x4_3).f1) ((rd_T49 l0_0 x4_3).f2) ((rd_T49 l0_0 x4_3).f3) ((rd_T49 l0_0 x4_3).f4) true _ A22.out).mono ?_); rintro e w38 ⟨rfl, hb⟩; refine ⟨_, rfl, ?_⟩; have n0_ := Aside0.mk (blk_below (g := gb196) (o := .cells #[.slice (some ad203) l0_0.length c0_0, .slice A0_1 l0_1.length c0_1, .int .i64 a0_2] 25 (0, 0)) (by (with_reducible repeat (first | refine blk_drewN ?_ _ | refine blk_drew ?_ | refine blk_alloc ?_ _)); refine blk_far ?_ NB196_204.out _; (with_reducible repeat (first | refine blk_drewN ?_ _ | refine blk_drew ?_ | refine blk_alloc ?_ _)); refine blk_far ?_ NB196_204.out _; (with_reducible repeat (first | refine blk_drewN ?_ _ | refine blk_drew ?_ | refine blk_alloc ?_ _)); refine blk_far ?_ NB196_204.out _; (with_reducible repeat (first | refine blk_drewN ?_ _ | refine blk_drew ?_ | refine blk_alloc ?_ _)); refine blk_far ?_ NB196_204.out _; (with_reducible repeat (first | refine blk_drewN ?_ _ | refine blk_drew ?_ | refine blk_alloc ?_ _)); refine blk_far ?_ NB196_204.out _; (with_reducible repeat (first | refine blk_drewN ?_ _ | refine blk_drew ?_ | refine blk_alloc ?_ _)); exact BK196.out) hb); have n1_ := Aside0.mk (blk_below (g := gb204) (o := .cells #[.int .i64 ((rd_T49 l0_0 x4_3).f0), .int .i64 ((rd_T49 l0_0 x4_3).f1), .string ((rd_T49 l0_0 x4_3).f2), .string ((rd_T49 l0_0 x4_3).f3), .int .i64 ((rd_T49 l0_0 x4_3).f4)] 49 (0, 0)) (by (with_reducible repeat (first | refine blk_drewN ?_ _ | refine blk_drew ?_ | refine blk_alloc ?_ _)); refine blk_put (cs := #[.int .i64 ((rd_T49 l0_0 x4_3).f0), .int .i64 ((rd_T49 l0_0 x4_3).f1), .string ((rd_T49 l0_0 x4_3).f2), .string ((rd_T49 l0_0 x4_3).f3), .int .i64 0]) ?_ 4 _ rfl; (with_reducible repeat (first | refine blk_drewN ?_ _ | refine blk_drew ?_ | refine blk_alloc ?_ _)); refine blk_put (cs := #[.int .i64 ((rd_T49 l0_0 x4_3).f0), .int .i64 ((rd_T49 l0_0 x4_3).f1), .string ((rd_T49 l0_0 x4_3).f2), .string (⟨#[]⟩ : ByteArray), .int .i64 0]) ?_ 3 _ rfl; (with_reducible repeat (first | refine blk_drewN ?_ _ | refine blk_drew ?_ | refine blk_alloc ?_ _)); refine blk_put (cs := #[.int .i64 ((rd_T49 l0_0 x4_3).f0), .int .i64 ((rd_T49 l0_0 x4_3).f1), .string (⟨#[]⟩ : ByteArray), .string (⟨#[]⟩ : ByteArray), .int .i64 0]) ?_ 2 _ rfl; (with_reducible repeat (first | refine blk_drewN ?_ _ | refine blk_drew ?_ | refine blk_alloc ?_ _)); refine blk_put (cs := #[.int .i64 ((rd_T49 l0_0 x4_3).f0), .int .i64 0, .string (⟨#[]⟩ : ByteArray), .string (⟨#[]⟩ : ByteArray), .int .i64 0]) ?_ 1 _ rfl; (with_reducible repeat (first | refine blk_drewN ?_ _ | refine blk_drew ?_ | refine blk_alloc ?_ _)); refine blk_put (cs := #[.int .i64 0, .int .i64 0, .string (⟨#[]⟩ : ByteArray), .string (⟨#[]⟩ : ByteArray), .int .i64 0]) ?_ 0 _ rfl; (with_reducible repeat (first | refine blk_drewN ?_ _ | refine blk_drew ?_ | refine blk_alloc ?_ _)); exact BK204.out) hb); have n2_ := Aside0.mk (below_step (by repeat (first | (with_reducible first | exact HB.out | apply below_alloc | apply pw_below_drewN | apply below_drew1 | refine below_set ?_ GE196.out | refine below_set ?_ GE204.out) | exact HB.out)) hb); clear BK196; clear BK204; clear HB; have BK196 := n0_; have BK204 := n1_; have HB := n2_; clear n0_ n1_ n2_; (try clear hb); (try clear hb2); (try clear hk); (try clear hi); have hcz39_0 : w38.cell? ⟨gb196, 0, none⟩ = some (.slice (some ad203) l0_0.length c0_0) := (blk_cell BK196.out 0).trans rfl; have hcz39_1 : w38.cell? ⟨gb196, 1, none⟩ = some (.slice A0_1 l0_1.length c0_1) := (blk_cell BK196.out 1).trans rfl; have hcz39_2 : w38.cell? ⟨gb196, 2, none⟩ = some (.int .i64 a0_2) := (blk_cell BK196.out 2).trans rfl; have hfz39_0 := blk_frozen BK196.out 0; have hfz39_1 := blk_frozen BK196.out 1; have hfz39_2 := blk_frozen BK196.out 2; have p206 : 0 ≤ ((ji30) : Int) := of_decide_eq_true (by first | (with_reducible assumption) | assumption); have q206 : (ji30) < (l0_0.length : Int) := of_decide_eq_true (by first | (with_reducible assumption) | assumption); obtain ⟨ad206, e206, hx206_0, hx206_1, hx206_2, hx206_3, hx206_4⟩ := at_T49 HR0_0.out (ji30) p206 q206; obtain rfl : ad203 = ad206 := (by injection e206); replace hx206_0 := (HB.out.cell (World.block_lt_of_cell? w _ hx206_0)).trans hx206_0; replace hx206_1 := (HB.out.cell (World.block_lt_of_cell? w _ hx206_1)).trans hx206_1; replace hx206_2 := (HB.out.cell (World.block_lt_of_cell? w _ hx206_2)).trans hx206_2; replace hx206_3 := (HB.out.cell (World.block_lt_of_cell? w _ hx206_3)).trans hx206_3; replace hx206_4 := (HB.out.cell (World.block_lt_of_cell? w _ hx206_4)).trans hx206_4; replace p206 := eq_true p206; replace q206 := eq_true q206) | ((with_reducible refine gate_dst (N := 7) rfl ?_); (try (refine gate_guard (by rfl) ?_; dsimp only)); refine box_event ?hg (N := 7) ?hd (cs := #[.int .i64 0, .int .i64 0, .string (⟨#[]⟩ : ByteArray), .string (⟨#[]⟩ : ByteArray), .int .i64 0]) (t := 49) ?hr ?_; (case hd => rfl); (case hg => rfl); (case hr => first | (go_simp; done) | (go_simp; rfl)); intro gb207 hg w40 hbox hb; have n0_ := Aside0.mk (blk_below (g := gb196) (o := .cells #[.slice (some ad203) l0_0.length c0_0, .slice A0_1 l0_1.length c0_1, .int .i64 a0_2] 25 (0, 0)) (by (with_reducible repeat (first | refine blk_drewN ?_ _ | refine blk_drew ?_ | refine blk_alloc ?_ _)); exact BK196.out) hb); have n1_ := Aside0.mk (blk_below (g := gb204) (o := .cells #[.int .i64 ((rd_T49 l0_0 x4_3).f0), .int .i64 ((rd_T49 l0_0 x4_3).f1), .string ((rd_T49 l0_0 x4_3).f2), .string ((rd_T49 l0_0 x4_3).f3), .int .i64 ((rd_T49 l0_0 x4_3).f4)] 49 (0, 0)) (by (with_reducible repeat (first | refine blk_drewN ?_ _ | refine blk_drew ?_ | refine blk_alloc ?_ _)); exact BK204.out) hb); have n2_ := Aside0.mk (below_step (by repeat (first | (with_reducible first | exact HB.out | apply below_alloc | apply pw_below_drewN | apply below_drew1 | refine below_set ?_ GE196.out | refine below_set ?_ GE204.out) | exact HB.out)) hb); have n3_ := Aside0.mk (hbox); have n4_ := Aside0.mk ((by rw [hg]; exact (below_size (by repeat (first | (with_reducible first | exact HB.out | apply below_alloc | apply pw_below_drewN | apply below_drew1 | refine below_set ?_ GE196.out | refine below_set ?_ GE204.out) | exact HB.out))) : w.heap.size ≤ gb207)); have n5_ := Aside0.mk ((by rw [hg]; exact (below_size (by repeat (first | (with_reducible first | exact HB.out | apply below_alloc | apply pw_below_drewN | apply below_drew1 | refine below_set ?_ GE196.out | refine below_set ?_ GE204.out) | exact HB.out))) : w.heap.size ≤ gb207)); have n6_ := Aside0.mk ((by rw [hg]; exact Nat.ne_of_lt (blk_lt (g := gb196) (o := .cells #[.slice (some ad203) l0_0.length c0_0, .slice A0_1 l0_1.length c0_1, .int .i64 a0_2] 25 (0, 0)) (by (with_reducible repeat (first | refine blk_drewN ?_ _ | refine blk_drew ?_ | refine blk_alloc ?_ _)); exact BK196.out)) : gb196 ≠ gb207)); have n7_ := Aside0.mk ((by rw [hg]; exact Nat.ne_of_gt (blk_lt (g := gb196) (o := .cells #[.slice (some ad203) l0_0.length c0_0, .slice A0_1 l0_1.length c0_1, .int .i64 a0_2] 25 (0, 0)) (by (with_reducible repeat (first | refine blk_drewN ?_ _ | refine blk_drew ?_ | refine blk_alloc ?_ _)); exact BK196.out)) : gb207 ≠ gb196)); have n8_ := Aside0.mk ((by rw [hg]; exact Nat.ne_of_lt (blk_lt (g := gb204) (o := .cells #[.int .i64 ((rd_T49 l0_0 x4_3).f0), .int .i64 ((rd_T49 l0_0 x4_3).f1), .string ((rd_T49 l0_0 x4_3).f2), .string ((rd_T49 l0_0 x4_3).f3), .int .i64 ((rd_T49 l0_0 x4_3).f4)] 49 (0, 0)) (by (with_reducible repeat (first | refine blk_drewN ?_ _ | refine blk_drew ?_ | refine blk_alloc ?_ _)); exact BK204.out)) : gb204 ≠ gb207)); have n9_ := Aside0.mk ((by rw [hg]; exact Nat.ne_of_gt (blk_lt (g := gb204) (o := .cells #[.int .i64 ((rd_T49 l0_0 x4_3).f0), .int .i64 ((rd_T49 l0_0 x4_3).f1), .string ((rd_T49 l0_0 x4_3).f2), .string ((rd_T49 l0_0 x4_3).f3), .int .i64 ((rd_T49 l0_0 x4_3).f4)] 49 (0, 0)) (by (with_reducible repeat (first | refine blk_drewN ?_ _ | refine blk_drew ?_ | refine blk_alloc ?_ _)); exact BK204.out)) : gb207 ≠ gb204)); clear BK196; clear BK204; clear HB; have BK196 := n0_; have BK204 := n1_; have HB := n2_; have BK207 := n3_; have GW207 := n4_; have GE207 := n5_; have NB196_207 := n6_; have NB207_196 := n7_; have NB204_207 := n8_; have NB207_204 := n9_; clear n0_ n1_ n2_ n3_ n4_ n5_ n6_ n7_ n8_ n9_; clear hb hbox hg; have hnb41 := NB207_196.out; have hnc41 := NB196_207.out; have hnb42 := NB207_204.out; have hnc42 := NB204_207.out; have hcz43_0 : w40.cell? ⟨gb207, 0, none⟩ = some (.int .i64 0) := (blk_cell BK207.out 0).trans rfl; have hcz43_1 : w40.cell? ⟨gb207, 1, none⟩ = some (.int .i64 0) := (blk_cell BK207.out 1).trans rfl; have hcz43_2 : w40.cell? ⟨gb207, 2, none⟩ = some (.string (⟨#[]⟩ : ByteArray)) := (blk_cell BK207.out 2).trans rfl; have hcz43_3 : w40.cell? ⟨gb207, 3, none⟩ = some (.string (⟨#[]⟩ : ByteArray)) := (blk_cell BK207.out 3).trans rfl; have hcz43_4 : w40.cell? ⟨gb207, 4, none⟩ = some (.int .i64 0) := (blk_cell BK207.out 4).trans rfl; have hfz43_0 := blk_frozen BK207.out 0; have hfz43_1 := blk_frozen BK207.out 1; have hfz43_2 := blk_frozen BK207.out 2; have hfz43_3 := blk_frozen BK207.out 3; have hfz43_4 := blk_frozen BK207.out 4; have hcz44_0 : w40.cell? ⟨gb204, 0, none⟩ = some (.int .i64 ((rd_T49 l0_0 x4_3).f0)) := (blk_cell BK204.out 0).trans rfl; have hcz44_1 : w40.cell? ⟨gb204, 1, none⟩ = some (.int .i64 ((rd_T49 l0_0 x4_3).f1)) := (blk_cell BK204.out 1).trans rfl; have hcz44_2 : w40.cell? ⟨gb204, 2, none⟩ = some (.string ((rd_T49 l0_0 x4_3).f2)) := (blk_cell BK204.out 2).trans rfl; have hcz44_3 : w40.cell? ⟨gb204, 3, none⟩ = some (.string ((rd_T49 l0_0 x4_3).f3)) := (blk_cell BK204.out 3).trans rfl; have hcz44_4 : w40.cell? ⟨gb204, 4, none⟩ = some (.int .i64 ((rd_T49 l0_0 x4_3).f4)) := (blk_cell BK204.out 4).trans rfl; have hfz44_0 := blk_frozen BK204.out 0; have hfz44_1 := blk_frozen BK204.out 1; have hfz44_2 := blk_frozen BK204.out 2; have hfz44_3 := blk_frozen BK204.out 3; have hfz44_4 := blk_frozen BK204.out 4))
                go_ret
                exact ⟨by first | rfl | (simp [errW_none, errW_some] <;> rfl) | (simp only [← hji30]; first | rfl | (simp [errW_none, errW_some] <;> rfl)) | (simp [*, errW_none, errW_some] <;> rfl), by repeat (first | (with_reducible first | exact HB.out | apply below_alloc | apply pw_below_drewN | apply below_drew1 | refine below_set ?_ GE196.out | refine below_set ?_ GE204.out | refine below_set ?_ GE207.out) | exact HB.out)⟩
              rw [if_neg c33] at H
              have c33b0 : decide (((rd_T49 l0_0 x4_3).f1) < ((rd_T49 l0_0 (ji30)).f1)) = false := decide_eq_false c33
              clear c33
              by_cases c45 : ((rd_T49 l0_0 (ji30)).f1) = ((rd_T49 l0_0 x4_3).f1)
              rotate_left
              · rw [if_neg c45] at H
                have c45b0 : (((rd_T49 l0_0 (ji30)).f1) == ((rd_T49 l0_0 x4_3).f1)) = false := beq_eq_false_iff_ne.mpr c45
                have c45b1 : (((rd_T49 l0_0 (ji30)).f1) != ((rd_T49 l0_0 x4_3).f1)) = true := bne_iff_ne.mpr c45
                have H' := Aside0.mk H
                clear H
                have hcz129_0 : wr.cell? ⟨gb196, 0, none⟩ = some (.slice A0_0 l0_0.length c0_0) := (blk_cell BK196.out 0).trans rfl
                have hcz129_1 : wr.cell? ⟨gb196, 1, none⟩ = some (.slice A0_1 l0_1.length c0_1) := (blk_cell BK196.out 1).trans rfl
                have hcz129_2 : wr.cell? ⟨gb196, 2, none⟩ = some (.int .i64 a0_2) := (blk_cell BK196.out 2).trans rfl
                have hfz129_0 := blk_frozen BK196.out 0
                have hfz129_1 := blk_frozen BK196.out 1
                have hfz129_2 := blk_frozen BK196.out 2
                have p203 : 0 ≤ (x4_3 : Int) := of_decide_eq_true (by first | (with_reducible assumption) | assumption)
                have q203 : x4_3 < (l0_0.length : Int) := of_decide_eq_true (by first | (with_reducible assumption) | assumption)
                obtain ⟨ad203, e203, hx203_0, hx203_1, hx203_2, hx203_3, hx203_4⟩ := at_T49 HR0_0.out x4_3 p203 q203
                cases e203
                replace hx203_0 := (HB.out.cell (World.block_lt_of_cell? w _ hx203_0)).trans hx203_0
                replace hx203_1 := (HB.out.cell (World.block_lt_of_cell? w _ hx203_1)).trans hx203_1
                replace hx203_2 := (HB.out.cell (World.block_lt_of_cell? w _ hx203_2)).trans hx203_2
                replace hx203_3 := (HB.out.cell (World.block_lt_of_cell? w _ hx203_3)).trans hx203_3
                replace hx203_4 := (HB.out.cell (World.block_lt_of_cell? w _ hx203_4)).trans hx203_4
                replace p203 := eq_true p203
                replace q203 := eq_true q203
                go_wp2_with (first | ((with_reducible refine gate_dst (N := 5) rfl ?_); (try (refine gate_guard (by rfl) ?_; dsimp only)); refine box_event ?hg (N := 5) ?hd (cs := #[.int .i64 0, .int .i64 0, .string (⟨#[]⟩ : ByteArray), .string (⟨#[]⟩ : ByteArray), .int .i64 0]) (t := 49) ?hr ?_; (case hd => rfl); (case hg => rfl); (case hr => first | (go_simp; done) | (go_simp; rfl)); intro gb204 hg w130 hbox hb; have n0_ := Aside0.mk (blk_below (g := gb196) (o := .cells #[.slice (some ad203) l0_0.length c0_0, .slice A0_1 l0_1.length c0_1, .int .i64 a0_2] 25 (0, 0)) (by (with_reducible repeat (first | refine blk_drewN ?_ _ | refine blk_drew ?_ | refine blk_alloc ?_ _)); exact BK196.out) hb); have n1_ := Aside0.mk (below_step (by repeat (first | (with_reducible first | exact HB.out | apply below_alloc | apply pw_below_drewN | apply below_drew1 | refine below_set ?_ GE196.out) | exact HB.out)) hb); have n2_ := Aside0.mk (hbox); have n3_ := Aside0.mk ((by rw [hg]; exact (below_size (by repeat (first | (with_reducible first | exact HB.out | apply below_alloc | apply pw_below_drewN | apply below_drew1 | refine below_set ?_ GE196.out) | exact HB.out))) : w.heap.size ≤ gb204)); have n4_ := Aside0.mk ((by rw [hg]; exact (below_size (by repeat (first | (with_reducible first | exact HB.out | apply below_alloc | apply pw_below_drewN | apply below_drew1 | refine below_set ?_ GE196.out) | exact HB.out))) : w.heap.size ≤ gb204)); have n5_ := Aside0.mk ((by rw [hg]; exact Nat.ne_of_lt (blk_lt (g := gb196) (o := .cells #[.slice (some ad203) l0_0.length c0_0, .slice A0_1 l0_1.length c0_1, .int .i64 a0_2] 25 (0, 0)) (by (with_reducible repeat (first | refine blk_drewN ?_ _ | refine blk_drew ?_ | refine blk_alloc ?_ _)); exact BK196.out)) : gb196 ≠ gb204)); have n6_ := Aside0.mk ((by rw [hg]; exact Nat.ne_of_gt (blk_lt (g := gb196) (o := .cells #[.slice (some ad203) l0_0.length c0_0, .slice A0_1 l0_1.length c0_1, .int .i64 a0_2] 25 (0, 0)) (by (with_reducible repeat (first | refine blk_drewN ?_ _ | refine blk_drew ?_ | refine blk_alloc ?_ _)); exact BK196.out)) : gb204 ≠ gb196)); clear BK196; clear HB; have BK196 := n0_; have HB := n1_; have BK204 := n2_; have GW204 := n3_; have GE204 := n4_; have NB196_204 := n5_; have NB204_196 := n6_; clear n0_ n1_ n2_ n3_ n4_ n5_ n6_; clear hb hbox hg; have hnb131 := NB204_196.out; have hnc131 := NB196_204.out; have hcz132_0 : w130.cell? ⟨gb204, 0, none⟩ = some (.int .i64 0) := (blk_cell BK204.out 0).trans rfl; have hcz132_1 : w130.cell? ⟨gb204, 1, none⟩ = some (.int .i64 0) := (blk_cell BK204.out 1).trans rfl; have hcz132_2 : w130.cell? ⟨gb204, 2, none⟩ = some (.string (⟨#[]⟩ : ByteArray)) := (blk_cell BK204.out 2).trans rfl; have hcz132_3 : w130.cell? ⟨gb204, 3, none⟩ = some (.string (⟨#[]⟩ : ByteArray)) := (blk_cell BK204.out 3).trans rfl; have hcz132_4 : w130.cell? ⟨gb204, 4, none⟩ = some (.int .i64 0) := (blk_cell BK204.out 4).trans rfl; have hfz132_0 := blk_frozen BK204.out 0; have hfz132_1 := blk_frozen BK204.out 1; have hfz132_2 := blk_frozen BK204.out 2; have hfz132_3 := blk_frozen BK204.out 3; have hfz132_4 := blk_frozen BK204.out 4) | ((with_reducible refine gate_callee (f := 37) rfl ?_); refine goesL_ (some 62) rfl rfl Try.func37 (by kernel_rfl) rfl #[.agg #[.int .i64 ((rd_T49 l0_0 x4_3).f0), .int .i64 ((rd_T49 l0_0 x4_3).f1), .string ((rd_T49 l0_0 x4_3).f2), .string ((rd_T49 l0_0 x4_3).f3), .int .i64 ((rd_T49 l0_0 x4_3).f4)]] rfl (by (try simp only [List.map_toArray, List.map_cons, List.map_nil]); first | done | rfl | (simp only [List.length_drop, List.length_take]; rfl)) ?_; (with_reducible refine (palinoderef14_meta.calls ((rd_T49 l0_0 x4_3).f0) ((rd_T49 l0_0 x4_3).f1) ((rd_T49 l0_0 x4_3).f2) ((rd_T49 l0_0 x4_3).f3) ((rd_T49 l0_0 x4_3).f4) true _ A22.out).mono ?_); rintro e w133 ⟨rfl, hb⟩; refine ⟨_, rfl, ?_⟩; have n0_ := Aside0.mk (blk_below (g := gb196) (o := .cells #[.slice (some ad203) l0_0.length c0_0, .slice A0_1 l0_1.length c0_1, .int .i64 a0_2] 25 (0, 0)) (by (with_reducible repeat (first | refine blk_drewN ?_ _ | refine blk_drew ?_ | refine blk_alloc ?_ _)); refine blk_far ?_ NB196_204.out _; (with_reducible repeat (first | refine blk_drewN ?_ _ | refine blk_drew ?_ | refine blk_alloc ?_ _)); refine blk_far ?_ NB196_204.out _; (with_reducible repeat (first | refine blk_drewN ?_ _ | refine blk_drew ?_ | refine blk_alloc ?_ _)); refine blk_far ?_ NB196_204.out _; (with_reducible repeat (first | refine blk_drewN ?_ _ | refine blk_drew ?_ | refine blk_alloc ?_ _)); refine blk_far ?_ NB196_204.out _; (with_reducible repeat (first | refine blk_drewN ?_ _ | refine blk_drew ?_ | refine blk_alloc ?_ _)); refine blk_far ?_ NB196_204.out _; (with_reducible repeat (first | refine blk_drewN ?_ _ | refine blk_drew ?_ | refine blk_alloc ?_ _)); exact BK196.out) hb); have n1_ := Aside0.mk (blk_below (g := gb204) (o := .cells #[.int .i64 ((rd_T49 l0_0 x4_3).f0), .int .i64 ((rd_T49 l0_0 x4_3).f1), .string ((rd_T49 l0_0 x4_3).f2), .string ((rd_T49 l0_0 x4_3).f3), .int .i64 ((rd_T49 l0_0 x4_3).f4)] 49 (0, 0)) (by (with_reducible repeat (first | refine blk_drewN ?_ _ | refine blk_drew ?_ | refine blk_alloc ?_ _)); refine blk_put (cs := #[.int .i64 ((rd_T49 l0_0 x4_3).f0), .int .i64 ((rd_T49 l0_0 x4_3).f1), .string ((rd_T49 l0_0 x4_3).f2), .string ((rd_T49 l0_0 x4_3).f3), .int .i64 0]) ?_ 4 _ rfl; (with_reducible repeat (first | refine blk_drewN ?_ _ | refine blk_drew ?_ | refine blk_alloc ?_ _)); refine blk_put (cs := #[.int .i64 ((rd_T49 l0_0 x4_3).f0), .int .i64 ((rd_T49 l0_0 x4_3).f1), .string ((rd_T49 l0_0 x4_3).f2), .string (⟨#[]⟩ : ByteArray), .int .i64 0]) ?_ 3 _ rfl; (with_reducible repeat (first | refine blk_drewN ?_ _ | refine blk_drew ?_ | refine blk_alloc ?_ _)); refine blk_put (cs := #[.int .i64 ((rd_T49 l0_0 x4_3).f0), .int .i64 ((rd_T49 l0_0 x4_3).f1), .string (⟨#[]⟩ : ByteArray), .string (⟨#[]⟩ : ByteArray), .int .i64 0]) ?_ 2 _ rfl; (with_reducible repeat (first | refine blk_drewN ?_ _ | refine blk_drew ?_ | refine blk_alloc ?_ _)); refine blk_put (cs := #[.int .i64 ((rd_T49 l0_0 x4_3).f0), .int .i64 0, .string (⟨#[]⟩ : ByteArray), .string (⟨#[]⟩ : ByteArray), .int .i64 0]) ?_ 1 _ rfl; (with_reducible repeat (first | refine blk_drewN ?_ _ | refine blk_drew ?_ | refine blk_alloc ?_ _)); refine blk_put (cs := #[.int .i64 0, .int .i64 0, .string (⟨#[]⟩ : ByteArray), .string (⟨#[]⟩ : ByteArray), .int .i64 0]) ?_ 0 _ rfl; (with_reducible repeat (first | refine blk_drewN ?_ _ | refine blk_drew ?_ | refine blk_alloc ?_ _)); exact BK204.out) hb); have n2_ := Aside0.mk (below_step (by repeat (first | (with_reducible first | exact HB.out | apply below_alloc | apply pw_below_drewN | apply below_drew1 | refine below_set ?_ GE196.out | refine below_set ?_ GE204.out) | exact HB.out)) hb); clear BK196; clear BK204; clear HB; have BK196 := n0_; have BK204 := n1_; have HB := n2_; clear n0_ n1_ n2_; (try clear hb); (try clear hb2); (try clear hk); (try clear hi); have hcz134_0 : w133.cell? ⟨gb196, 0, none⟩ = some (.slice (some ad203) l0_0.length c0_0) := (blk_cell BK196.out 0).trans rfl; have hcz134_1 : w133.cell? ⟨gb196, 1, none⟩ = some (.slice A0_1 l0_1.length c0_1) := (blk_cell BK196.out 1).trans rfl; have hcz134_2 : w133.cell? ⟨gb196, 2, none⟩ = some (.int .i64 a0_2) := (blk_cell BK196.out 2).trans rfl; have hfz134_0 := blk_frozen BK196.out 0; have hfz134_1 := blk_frozen BK196.out 1; have hfz134_2 := blk_frozen BK196.out 2; have p206 : 0 ≤ ((ji30) : Int) := of_decide_eq_true (by first | (with_reducible assumption) | assumption); have q206 : (ji30) < (l0_0.length : Int) := of_decide_eq_true (by first | (with_reducible assumption) | assumption); obtain ⟨ad206, e206, hx206_0, hx206_1, hx206_2, hx206_3, hx206_4⟩ := at_T49 HR0_0.out (ji30) p206 q206; obtain rfl : ad203 = ad206 := (by injection e206); replace hx206_0 := (HB.out.cell (World.block_lt_of_cell? w _ hx206_0)).trans hx206_0; replace hx206_1 := (HB.out.cell (World.block_lt_of_cell? w _ hx206_1)).trans hx206_1; replace hx206_2 := (HB.out.cell (World.block_lt_of_cell? w _ hx206_2)).trans hx206_2; replace hx206_3 := (HB.out.cell (World.block_lt_of_cell? w _ hx206_3)).trans hx206_3; replace hx206_4 := (HB.out.cell (World.block_lt_of_cell? w _ hx206_4)).trans hx206_4; replace p206 := eq_true p206; replace q206 := eq_true q206) | ((with_reducible refine gate_dst (N := 7) rfl ?_); (try (refine gate_guard (by rfl) ?_; dsimp only)); refine box_event ?hg (N := 7) ?hd (cs := #[.int .i64 0, .int .i64 0, .string (⟨#[]⟩ : ByteArray), .string (⟨#[]⟩ : ByteArray), .int .i64 0]) (t := 49) ?hr ?_; (case hd => rfl); (case hg => rfl); (case hr => first | (go_simp; done) | (go_simp; rfl)); intro gb207 hg w135 hbox hb; have n0_ := Aside0.mk (blk_below (g := gb196) (o := .cells #[.slice (some ad203) l0_0.length c0_0, .slice A0_1 l0_1.length c0_1, .int .i64 a0_2] 25 (0, 0)) (by (with_reducible repeat (first | refine blk_drewN ?_ _ | refine blk_drew ?_ | refine blk_alloc ?_ _)); exact BK196.out) hb); have n1_ := Aside0.mk (blk_below (g := gb204) (o := .cells #[.int .i64 ((rd_T49 l0_0 x4_3).f0), .int .i64 ((rd_T49 l0_0 x4_3).f1), .string ((rd_T49 l0_0 x4_3).f2), .string ((rd_T49 l0_0 x4_3).f3), .int .i64 ((rd_T49 l0_0 x4_3).f4)] 49 (0, 0)) (by (with_reducible repeat (first | refine blk_drewN ?_ _ | refine blk_drew ?_ | refine blk_alloc ?_ _)); exact BK204.out) hb); have n2_ := Aside0.mk (below_step (by repeat (first | (with_reducible first | exact HB.out | apply below_alloc | apply pw_below_drewN | apply below_drew1 | refine below_set ?_ GE196.out | refine below_set ?_ GE204.out) | exact HB.out)) hb); have n3_ := Aside0.mk (hbox); have n4_ := Aside0.mk ((by rw [hg]; exact (below_size (by repeat (first | (with_reducible first | exact HB.out | apply below_alloc | apply pw_below_drewN | apply below_drew1 | refine below_set ?_ GE196.out | refine below_set ?_ GE204.out) | exact HB.out))) : w.heap.size ≤ gb207)); have n5_ := Aside0.mk ((by rw [hg]; exact (below_size (by repeat (first | (with_reducible first | exact HB.out | apply below_alloc | apply pw_below_drewN | apply below_drew1 | refine below_set ?_ GE196.out | refine below_set ?_ GE204.out) | exact HB.out))) : w.heap.size ≤ gb207)); have n6_ := Aside0.mk ((by rw [hg]; exact Nat.ne_of_lt (blk_lt (g := gb196) (o := .cells #[.slice (some ad203) l0_0.length c0_0, .slice A0_1 l0_1.length c0_1, .int .i64 a0_2] 25 (0, 0)) (by (with_reducible repeat (first | refine blk_drewN ?_ _ | refine blk_drew ?_ | refine blk_alloc ?_ _)); exact BK196.out)) : gb196 ≠ gb207)); have n7_ := Aside0.mk ((by rw [hg]; exact Nat.ne_of_gt (blk_lt (g := gb196) (o := .cells #[.slice (some ad203) l0_0.length c0_0, .slice A0_1 l0_1.length c0_1, .int .i64 a0_2] 25 (0, 0)) (by (with_reducible repeat (first | refine blk_drewN ?_ _ | refine blk_drew ?_ | refine blk_alloc ?_ _)); exact BK196.out)) : gb207 ≠ gb196)); have n8_ := Aside0.mk ((by rw [hg]; exact Nat.ne_of_lt (blk_lt (g := gb204) (o := .cells #[.int .i64 ((rd_T49 l0_0 x4_3).f0), .int .i64 ((rd_T49 l0_0 x4_3).f1), .string ((rd_T49 l0_0 x4_3).f2), .string ((rd_T49 l0_0 x4_3).f3), .int .i64 ((rd_T49 l0_0 x4_3).f4)] 49 (0, 0)) (by (with_reducible repeat (first | refine blk_drewN ?_ _ | refine blk_drew ?_ | refine blk_alloc ?_ _)); exact BK204.out)) : gb204 ≠ gb207)); have n9_ := Aside0.mk ((by rw [hg]; exact Nat.ne_of_gt (blk_lt (g := gb204) (o := .cells #[.int .i64 ((rd_T49 l0_0 x4_3).f0), .int .i64 ((rd_T49 l0_0 x4_3).f1), .string ((rd_T49 l0_0 x4_3).f2), .string ((rd_T49 l0_0 x4_3).f3), .int .i64 ((rd_T49 l0_0 x4_3).f4)] 49 (0, 0)) (by (with_reducible repeat (first | refine blk_drewN ?_ _ | refine blk_drew ?_ | refine blk_alloc ?_ _)); exact BK204.out)) : gb207 ≠ gb204)); clear BK196; clear BK204; clear HB; have BK196 := n0_; have BK204 := n1_; have HB := n2_; have BK207 := n3_; have GW207 := n4_; have GE207 := n5_; have NB196_207 := n6_; have NB207_196 := n7_; have NB204_207 := n8_; have NB207_204 := n9_; clear n0_ n1_ n2_ n3_ n4_ n5_ n6_ n7_ n8_ n9_; clear hb hbox hg; have hnb136 := NB207_196.out; have hnc136 := NB196_207.out; have hnb137 := NB207_204.out; have hnc137 := NB204_207.out; have hcz138_0 : w135.cell? ⟨gb207, 0, none⟩ = some (.int .i64 0) := (blk_cell BK207.out 0).trans rfl; have hcz138_1 : w135.cell? ⟨gb207, 1, none⟩ = some (.int .i64 0) := (blk_cell BK207.out 1).trans rfl; have hcz138_2 : w135.cell? ⟨gb207, 2, none⟩ = some (.string (⟨#[]⟩ : ByteArray)) := (blk_cell BK207.out 2).trans rfl; have hcz138_3 : w135.cell? ⟨gb207, 3, none⟩ = some (.string (⟨#[]⟩ : ByteArray)) := (blk_cell BK207.out 3).trans rfl; have hcz138_4 : w135.cell? ⟨gb207, 4, none⟩ = some (.int .i64 0) := (blk_cell BK207.out 4).trans rfl; have hfz138_0 := blk_frozen BK207.out 0; have hfz138_1 := blk_frozen BK207.out 1; have hfz138_2 := blk_frozen BK207.out 2; have hfz138_3 := blk_frozen BK207.out 3; have hfz138_4 := blk_frozen BK207.out 4; have hcz139_0 : w135.cell? ⟨gb204, 0, none⟩ = some (.int .i64 ((rd_T49 l0_0 x4_3).f0)) := (blk_cell BK204.out 0).trans rfl; have hcz139_1 : w135.cell? ⟨gb204, 1, none⟩ = some (.int .i64 ((rd_T49 l0_0 x4_3).f1)) := (blk_cell BK204.out 1).trans rfl; have hcz139_2 : w135.cell? ⟨gb204, 2, none⟩ = some (.string ((rd_T49 l0_0 x4_3).f2)) := (blk_cell BK204.out 2).trans rfl; have hcz139_3 : w135.cell? ⟨gb204, 3, none⟩ = some (.string ((rd_T49 l0_0 x4_3).f3)) := (blk_cell BK204.out 3).trans rfl; have hcz139_4 : w135.cell? ⟨gb204, 4, none⟩ = some (.int .i64 ((rd_T49 l0_0 x4_3).f4)) := (blk_cell BK204.out 4).trans rfl; have hfz139_0 := blk_frozen BK204.out 0; have hfz139_1 := blk_frozen BK204.out 1; have hfz139_2 := blk_frozen BK204.out 2; have hfz139_3 := blk_frozen BK204.out 3; have hfz139_4 := blk_frozen BK204.out 4))
                go_roundg k3
                case measure => have := HJ1.out; have := HK2.out; have := HK3.out; omega
                case rel => exact ⟨(wrap64 (x4_3 + 1)), (by first | rfl | (simp; done) | (simp [*]; done)), H', ⟨by have := HJ1.out; have := HK2.out; have := HK3.out; omega⟩, ⟨by (with_reducible repeat (first | refine blk_drewN ?_ _ | refine blk_drew ?_ | refine blk_alloc ?_ _)); refine blk_far ?_ NB196_207.out _; (with_reducible repeat (first | refine blk_drewN ?_ _ | refine blk_drew ?_ | refine blk_alloc ?_ _)); refine blk_far ?_ NB196_207.out _; (with_reducible repeat (first | refine blk_drewN ?_ _ | refine blk_drew ?_ | refine blk_alloc ?_ _)); refine blk_far ?_ NB196_207.out _; (with_reducible repeat (first | refine blk_drewN ?_ _ | refine blk_drew ?_ | refine blk_alloc ?_ _)); refine blk_far ?_ NB196_207.out _; (with_reducible repeat (first | refine blk_drewN ?_ _ | refine blk_drew ?_ | refine blk_alloc ?_ _)); refine blk_far ?_ NB196_207.out _; (with_reducible repeat (first | refine blk_drewN ?_ _ | refine blk_drew ?_ | refine blk_alloc ?_ _)); exact BK196.out⟩, ⟨by repeat (first | (with_reducible first | exact HB.out | apply below_alloc | apply pw_below_drewN | apply below_drew1 | refine below_set ?_ GE196.out | refine below_set ?_ GE204.out | refine below_set ?_ GE207.out) | exact HB.out)⟩⟩
              rw [if_pos c45] at H
              have c45b0 : (((rd_T49 l0_0 (ji30)).f1) == ((rd_T49 l0_0 x4_3).f1)) = true := beq_iff_eq.mpr c45
              have c45b1 : (((rd_T49 l0_0 (ji30)).f1) != ((rd_T49 l0_0 x4_3).f1)) = false := bne_eq_false_iff_eq.mpr c45
              clear c45
              by_cases c46 : ((rd_T49 l0_0 x4_3).f1) = 0
              rotate_left
              · rw [if_neg c46] at H
                have c46b0 : (((rd_T49 l0_0 x4_3).f1) == 0) = false := beq_eq_false_iff_ne.mpr c46
                have c46b1 : (((rd_T49 l0_0 x4_3).f1) != 0) = true := bne_iff_ne.mpr c46
                by_cases c94 : ((rd_T49 l0_0 x4_3).f1) > 0
                rotate_left
                · rw [if_neg c94] at H
                  have c94b0 : decide (0 < ((rd_T49 l0_0 x4_3).f1)) = false := decide_eq_false c94
                  clear c94
                  have H' := Aside0.mk H
                  clear H
                  have hcz118_0 : wr.cell? ⟨gb196, 0, none⟩ = some (.slice A0_0 l0_0.length c0_0) := (blk_cell BK196.out 0).trans rfl
                  have hcz118_1 : wr.cell? ⟨gb196, 1, none⟩ = some (.slice A0_1 l0_1.length c0_1) := (blk_cell BK196.out 1).trans rfl
                  have hcz118_2 : wr.cell? ⟨gb196, 2, none⟩ = some (.int .i64 a0_2) := (blk_cell BK196.out 2).trans rfl
                  have hfz118_0 := blk_frozen BK196.out 0
                  have hfz118_1 := blk_frozen BK196.out 1
                  have hfz118_2 := blk_frozen BK196.out 2
                  have p203 : 0 ≤ (x4_3 : Int) := of_decide_eq_true (by first | (with_reducible assumption) | assumption)
                  have q203 : x4_3 < (l0_0.length : Int) := of_decide_eq_true (by first | (with_reducible assumption) | assumption)
                  obtain ⟨ad203, e203, hx203_0, hx203_1, hx203_2, hx203_3, hx203_4⟩ := at_T49 HR0_0.out x4_3 p203 q203
                  cases e203
                  replace hx203_0 := (HB.out.cell (World.block_lt_of_cell? w _ hx203_0)).trans hx203_0
                  replace hx203_1 := (HB.out.cell (World.block_lt_of_cell? w _ hx203_1)).trans hx203_1
                  replace hx203_2 := (HB.out.cell (World.block_lt_of_cell? w _ hx203_2)).trans hx203_2
                  replace hx203_3 := (HB.out.cell (World.block_lt_of_cell? w _ hx203_3)).trans hx203_3
                  replace hx203_4 := (HB.out.cell (World.block_lt_of_cell? w _ hx203_4)).trans hx203_4
                  replace p203 := eq_true p203
                  replace q203 := eq_true q203
                  go_wp2_with (first | ((with_reducible refine gate_dst (N := 5) rfl ?_); (try (refine gate_guard (by rfl) ?_; dsimp only)); refine box_event ?hg (N := 5) ?hd (cs := #[.int .i64 0, .int .i64 0, .string (⟨#[]⟩ : ByteArray), .string (⟨#[]⟩ : ByteArray), .int .i64 0]) (t := 49) ?hr ?_; (case hd => rfl); (case hg => rfl); (case hr => first | (go_simp; done) | (go_simp; rfl)); intro gb204 hg w119 hbox hb; have n0_ := Aside0.mk (blk_below (g := gb196) (o := .cells #[.slice (some ad203) l0_0.length c0_0, .slice A0_1 l0_1.length c0_1, .int .i64 a0_2] 25 (0, 0)) (by (with_reducible repeat (first | refine blk_drewN ?_ _ | refine blk_drew ?_ | refine blk_alloc ?_ _)); exact BK196.out) hb); have n1_ := Aside0.mk (below_step (by repeat (first | (with_reducible first | exact HB.out | apply below_alloc | apply pw_below_drewN | apply below_drew1 | refine below_set ?_ GE196.out) | exact HB.out)) hb); have n2_ := Aside0.mk (hbox); have n3_ := Aside0.mk ((by rw [hg]; exact (below_size (by repeat (first | (with_reducible first | exact HB.out | apply below_alloc | apply pw_below_drewN | apply below_drew1 | refine below_set ?_ GE196.out) | exact HB.out))) : w.heap.size ≤ gb204)); have n4_ := Aside0.mk ((by rw [hg]; exact (below_size (by repeat (first | (with_reducible first | exact HB.out | apply below_alloc | apply pw_below_drewN | apply below_drew1 | refine below_set ?_ GE196.out) | exact HB.out))) : w.heap.size ≤ gb204)); have n5_ := Aside0.mk ((by rw [hg]; exact Nat.ne_of_lt (blk_lt (g := gb196) (o := .cells #[.slice (some ad203) l0_0.length c0_0, .slice A0_1 l0_1.length c0_1, .int .i64 a0_2] 25 (0, 0)) (by (with_reducible repeat (first | refine blk_drewN ?_ _ | refine blk_drew ?_ | refine blk_alloc ?_ _)); exact BK196.out)) : gb196 ≠ gb204)); have n6_ := Aside0.mk ((by rw [hg]; exact Nat.ne_of_gt (blk_lt (g := gb196) (o := .cells #[.slice (some ad203) l0_0.length c0_0, .slice A0_1 l0_1.length c0_1, .int .i64 a0_2] 25 (0, 0)) (by (with_reducible repeat (first | refine blk_drewN ?_ _ | refine blk_drew ?_ | refine blk_alloc ?_ _)); exact BK196.out)) : gb204 ≠ gb196)); clear BK196; clear HB; have BK196 := n0_; have HB := n1_; have BK204 := n2_; have GW204 := n3_; have GE204 := n4_; have NB196_204 := n5_; have NB204_196 := n6_; clear n0_ n1_ n2_ n3_ n4_ n5_ n6_; clear hb hbox hg; have hnb120 := NB204_196.out; have hnc120 := NB196_204.out; have hcz121_0 : w119.cell? ⟨gb204, 0, none⟩ = some (.int .i64 0) := (blk_cell BK204.out 0).trans rfl; have hcz121_1 : w119.cell? ⟨gb204, 1, none⟩ = some (.int .i64 0) := (blk_cell BK204.out 1).trans rfl; have hcz121_2 : w119.cell? ⟨gb204, 2, none⟩ = some (.string (⟨#[]⟩ : ByteArray)) := (blk_cell BK204.out 2).trans rfl; have hcz121_3 : w119.cell? ⟨gb204, 3, none⟩ = some (.string (⟨#[]⟩ : ByteArray)) := (blk_cell BK204.out 3).trans rfl; have hcz121_4 : w119.cell? ⟨gb204, 4, none⟩ = some (.int .i64 0) := (blk_cell BK204.out 4).trans rfl; have hfz121_0 := blk_frozen BK204.out 0; have hfz121_1 := blk_frozen BK204.out 1; have hfz121_2 := blk_frozen BK204.out 2; have hfz121_3 := blk_frozen BK204.out 3; have hfz121_4 := blk_frozen BK204.out 4) | ((with_reducible refine gate_callee (f := 37) rfl ?_); refine goesL_ (some 62) rfl rfl Try.func37 (by kernel_rfl) rfl #[.agg #[.int .i64 ((rd_T49 l0_0 x4_3).f0), .int .i64 ((rd_T49 l0_0 x4_3).f1), .string ((rd_T49 l0_0 x4_3).f2), .string ((rd_T49 l0_0 x4_3).f3), .int .i64 ((rd_T49 l0_0 x4_3).f4)]] rfl (by (try simp only [List.map_toArray, List.map_cons, List.map_nil]); first | done | rfl | (simp only [List.length_drop, List.length_take]; rfl)) ?_; (with_reducible refine (palinoderef14_meta.calls ((rd_T49 l0_0 x4_3).f0) ((rd_T49 l0_0 x4_3).f1) ((rd_T49 l0_0 x4_3).f2) ((rd_T49 l0_0 x4_3).f3) ((rd_T49 l0_0 x4_3).f4) true _ A22.out).mono ?_); rintro e w122 ⟨rfl, hb⟩; refine ⟨_, rfl, ?_⟩; have n0_ := Aside0.mk (blk_below (g := gb196) (o := .cells #[.slice (some ad203) l0_0.length c0_0, .slice A0_1 l0_1.length c0_1, .int .i64 a0_2] 25 (0, 0)) (by (with_reducible repeat (first | refine blk_drewN ?_ _ | refine blk_drew ?_ | refine blk_alloc ?_ _)); refine blk_far ?_ NB196_204.out _; (with_reducible repeat (first | refine blk_drewN ?_ _ | refine blk_drew ?_ | refine blk_alloc ?_ _)); refine blk_far ?_ NB196_204.out _; (with_reducible repeat (first | refine blk_drewN ?_ _ | refine blk_drew ?_ | refine blk_alloc ?_ _)); refine blk_far ?_ NB196_204.out _; (with_reducible repeat (first | refine blk_drewN ?_ _ | refine blk_drew ?_ | refine blk_alloc ?_ _)); refine blk_far ?_ NB196_204.out _; (with_reducible repeat (first | refine blk_drewN ?_ _ | refine blk_drew ?_ | refine blk_alloc ?_ _)); refine blk_far ?_ NB196_204.out _; (with_reducible repeat (first | refine blk_drewN ?_ _ | refine blk_drew ?_ | refine blk_alloc ?_ _)); exact BK196.out) hb); have n1_ := Aside0.mk (blk_below (g := gb204) (o := .cells #[.int .i64 ((rd_T49 l0_0 x4_3).f0), .int .i64 ((rd_T49 l0_0 x4_3).f1), .string ((rd_T49 l0_0 x4_3).f2), .string ((rd_T49 l0_0 x4_3).f3), .int .i64 ((rd_T49 l0_0 x4_3).f4)] 49 (0, 0)) (by (with_reducible repeat (first | refine blk_drewN ?_ _ | refine blk_drew ?_ | refine blk_alloc ?_ _)); refine blk_put (cs := #[.int .i64 ((rd_T49 l0_0 x4_3).f0), .int .i64 ((rd_T49 l0_0 x4_3).f1), .string ((rd_T49 l0_0 x4_3).f2), .string ((rd_T49 l0_0 x4_3).f3), .int .i64 0]) ?_ 4 _ rfl; (with_reducible repeat (first | refine blk_drewN ?_ _ | refine blk_drew ?_ | refine blk_alloc ?_ _)); refine blk_put (cs := #[.int .i64 ((rd_T49 l0_0 x4_3).f0), .int .i64 ((rd_T49 l0_0 x4_3).f1), .string ((rd_T49 l0_0 x4_3).f2), .string (⟨#[]⟩ : ByteArray), .int .i64 0]) ?_ 3 _ rfl; (with_reducible repeat (first | refine blk_drewN ?_ _ | refine blk_drew ?_ | refine blk_alloc ?_ _)); refine blk_put (cs := #[.int .i64 ((rd_T49 l0_0 x4_3).f0), .int .i64 ((rd_T49 l0_0 x4_3).f1), .string (⟨#[]⟩ : ByteArray), .string (⟨#[]⟩ : ByteArray), .int .i64 0]) ?_ 2 _ rfl; (with_reducible repeat (first | refine blk_drewN ?_ _ | refine blk_drew ?_ | refine blk_alloc ?_ _)); refine blk_put (cs := #[.int .i64 ((rd_T49 l0_0 x4_3).f0), .int .i64 0, .string (⟨#[]⟩ : ByteArray), .string (⟨#[]⟩ : ByteArray), .int .i64 0]) ?_ 1 _ rfl; (with_reducible repeat (first | refine blk_drewN ?_ _ | refine blk_drew ?_ | refine blk_alloc ?_ _)); refine blk_put (cs := #[.int .i64 0, .int .i64 0, .string (⟨#[]⟩ : ByteArray), .string (⟨#[]⟩ : ByteArray), .int .i64 0]) ?_ 0 _ rfl; (with_reducible repeat (first | refine blk_drewN ?_ _ | refine blk_drew ?_ | refine blk_alloc ?_ _)); exact BK204.out) hb); have n2_ := Aside0.mk (below_step (by repeat (first | (with_reducible first | exact HB.out | apply below_alloc | apply pw_below_drewN | apply below_drew1 | refine below_set ?_ GE196.out | refine below_set ?_ GE204.out) | exact HB.out)) hb); clear BK196; clear BK204; clear HB; have BK196 := n0_; have BK204 := n1_; have HB := n2_; clear n0_ n1_ n2_; (try clear hb); (try clear hb2); (try clear hk); (try clear hi); have hcz123_0 : w122.cell? ⟨gb196, 0, none⟩ = some (.slice (some ad203) l0_0.length c0_0) := (blk_cell BK196.out 0).trans rfl; have hcz123_1 : w122.cell? ⟨gb196, 1, none⟩ = some (.slice A0_1 l0_1.length c0_1) := (blk_cell BK196.out 1).trans rfl; have hcz123_2 : w122.cell? ⟨gb196, 2, none⟩ = some (.int .i64 a0_2) := (blk_cell BK196.out 2).trans rfl; have hfz123_0 := blk_frozen BK196.out 0; have hfz123_1 := blk_frozen BK196.out 1; have hfz123_2 := blk_frozen BK196.out 2; have p206 : 0 ≤ ((ji30) : Int) := of_decide_eq_true (by first | (with_reducible assumption) | assumption); have q206 : (ji30) < (l0_0.length : Int) := of_decide_eq_true (by first | (with_reducible assumption) | assumption); obtain ⟨ad206, e206, hx206_0, hx206_1, hx206_2, hx206_3, hx206_4⟩ := at_T49 HR0_0.out (ji30) p206 q206; obtain rfl : ad203 = ad206 := (by injection e206); replace hx206_0 := (HB.out.cell (World.block_lt_of_cell? w _ hx206_0)).trans hx206_0; replace hx206_1 := (HB.out.cell (World.block_lt_of_cell? w _ hx206_1)).trans hx206_1; replace hx206_2 := (HB.out.cell (World.block_lt_of_cell? w _ hx206_2)).trans hx206_2; replace hx206_3 := (HB.out.cell (World.block_lt_of_cell? w _ hx206_3)).trans hx206_3; replace hx206_4 := (HB.out.cell (World.block_lt_of_cell? w _ hx206_4)).trans hx206_4; replace p206 := eq_true p206; replace q206 := eq_true q206) | ((with_reducible refine gate_dst (N := 7) rfl ?_); (try (refine gate_guard (by rfl) ?_; dsimp only)); refine box_event ?hg (N := 7) ?hd (cs := #[.int .i64 0, .int .i64 0, .string (⟨#[]⟩ : ByteArray), .string (⟨#[]⟩ : ByteArray), .int .i64 0]) (t := 49) ?hr ?_; (case hd => rfl); (case hg => rfl); (case hr => first | (go_simp; done) | (go_simp; rfl)); intro gb207 hg w124 hbox hb; have n0_ := Aside0.mk (blk_below (g := gb196) (o := .cells #[.slice (some ad203) l0_0.length c0_0, .slice A0_1 l0_1.length c0_1, .int .i64 a0_2] 25 (0, 0)) (by (with_reducible repeat (first | refine blk_drewN ?_ _ | refine blk_drew ?_ | refine blk_alloc ?_ _)); exact BK196.out) hb); have n1_ := Aside0.mk (blk_below (g := gb204) (o := .cells #[.int .i64 ((rd_T49 l0_0 x4_3).f0), .int .i64 ((rd_T49 l0_0 x4_3).f1), .string ((rd_T49 l0_0 x4_3).f2), .string ((rd_T49 l0_0 x4_3).f3), .int .i64 ((rd_T49 l0_0 x4_3).f4)] 49 (0, 0)) (by (with_reducible repeat (first | refine blk_drewN ?_ _ | refine blk_drew ?_ | refine blk_alloc ?_ _)); exact BK204.out) hb); have n2_ := Aside0.mk (below_step (by repeat (first | (with_reducible first | exact HB.out | apply below_alloc | apply pw_below_drewN | apply below_drew1 | refine below_set ?_ GE196.out | refine below_set ?_ GE204.out) | exact HB.out)) hb); have n3_ := Aside0.mk (hbox); have n4_ := Aside0.mk ((by rw [hg]; exact (below_size (by repeat (first | (with_reducible first | exact HB.out | apply below_alloc | apply pw_below_drewN | apply below_drew1 | refine below_set ?_ GE196.out | refine below_set ?_ GE204.out) | exact HB.out))) : w.heap.size ≤ gb207)); have n5_ := Aside0.mk ((by rw [hg]; exact (below_size (by repeat (first | (with_reducible first | exact HB.out | apply below_alloc | apply pw_below_drewN | apply below_drew1 | refine below_set ?_ GE196.out | refine below_set ?_ GE204.out) | exact HB.out))) : w.heap.size ≤ gb207)); have n6_ := Aside0.mk ((by rw [hg]; exact Nat.ne_of_lt (blk_lt (g := gb196) (o := .cells #[.slice (some ad203) l0_0.length c0_0, .slice A0_1 l0_1.length c0_1, .int .i64 a0_2] 25 (0, 0)) (by (with_reducible repeat (first | refine blk_drewN ?_ _ | refine blk_drew ?_ | refine blk_alloc ?_ _)); exact BK196.out)) : gb196 ≠ gb207)); have n7_ := Aside0.mk ((by rw [hg]; exact Nat.ne_of_gt (blk_lt (g := gb196) (o := .cells #[.slice (some ad203) l0_0.length c0_0, .slice A0_1 l0_1.length c0_1, .int .i64 a0_2] 25 (0, 0)) (by (with_reducible repeat (first | refine blk_drewN ?_ _ | refine blk_drew ?_ | refine blk_alloc ?_ _)); exact BK196.out)) : gb207 ≠ gb196)); have n8_ := Aside0.mk ((by rw [hg]; exact Nat.ne_of_lt (blk_lt (g := gb204) (o := .cells #[.int .i64 ((rd_T49 l0_0 x4_3).f0), .int .i64 ((rd_T49 l0_0 x4_3).f1), .string ((rd_T49 l0_0 x4_3).f2), .string ((rd_T49 l0_0 x4_3).f3), .int .i64 ((rd_T49 l0_0 x4_3).f4)] 49 (0, 0)) (by (with_reducible repeat (first | refine blk_drewN ?_ _ | refine blk_drew ?_ | refine blk_alloc ?_ _)); exact BK204.out)) : gb204 ≠ gb207)); have n9_ := Aside0.mk ((by rw [hg]; exact Nat.ne_of_gt (blk_lt (g := gb204) (o := .cells #[.int .i64 ((rd_T49 l0_0 x4_3).f0), .int .i64 ((rd_T49 l0_0 x4_3).f1), .string ((rd_T49 l0_0 x4_3).f2), .string ((rd_T49 l0_0 x4_3).f3), .int .i64 ((rd_T49 l0_0 x4_3).f4)] 49 (0, 0)) (by (with_reducible repeat (first | refine blk_drewN ?_ _ | refine blk_drew ?_ | refine blk_alloc ?_ _)); exact BK204.out)) : gb207 ≠ gb204)); clear BK196; clear BK204; clear HB; have BK196 := n0_; have BK204 := n1_; have HB := n2_; have BK207 := n3_; have GW207 := n4_; have GE207 := n5_; have NB196_207 := n6_; have NB207_196 := n7_; have NB204_207 := n8_; have NB207_204 := n9_; clear n0_ n1_ n2_ n3_ n4_ n5_ n6_ n7_ n8_ n9_; clear hb hbox hg; have hnb125 := NB207_196.out; have hnc125 := NB196_207.out; have hnb126 := NB207_204.out; have hnc126 := NB204_207.out; have hcz127_0 : w124.cell? ⟨gb207, 0, none⟩ = some (.int .i64 0) := (blk_cell BK207.out 0).trans rfl; have hcz127_1 : w124.cell? ⟨gb207, 1, none⟩ = some (.int .i64 0) := (blk_cell BK207.out 1).trans rfl; have hcz127_2 : w124.cell? ⟨gb207, 2, none⟩ = some (.string (⟨#[]⟩ : ByteArray)) := (blk_cell BK207.out 2).trans rfl; have hcz127_3 : w124.cell? ⟨gb207, 3, none⟩ = some (.string (⟨#[]⟩ : ByteArray)) := (blk_cell BK207.out 3).trans rfl; have hcz127_4 : w124.cell? ⟨gb207, 4, none⟩ = some (.int .i64 0) := (blk_cell BK207.out 4).trans rfl; have hfz127_0 := blk_frozen BK207.out 0; have hfz127_1 := blk_frozen BK207.out 1; have hfz127_2 := blk_frozen BK207.out 2; have hfz127_3 := blk_frozen BK207.out 3; have hfz127_4 := blk_frozen BK207.out 4; have hcz128_0 : w124.cell? ⟨gb204, 0, none⟩ = some (.int .i64 ((rd_T49 l0_0 x4_3).f0)) := (blk_cell BK204.out 0).trans rfl; have hcz128_1 : w124.cell? ⟨gb204, 1, none⟩ = some (.int .i64 ((rd_T49 l0_0 x4_3).f1)) := (blk_cell BK204.out 1).trans rfl; have hcz128_2 : w124.cell? ⟨gb204, 2, none⟩ = some (.string ((rd_T49 l0_0 x4_3).f2)) := (blk_cell BK204.out 2).trans rfl; have hcz128_3 : w124.cell? ⟨gb204, 3, none⟩ = some (.string ((rd_T49 l0_0 x4_3).f3)) := (blk_cell BK204.out 3).trans rfl; have hcz128_4 : w124.cell? ⟨gb204, 4, none⟩ = some (.int .i64 ((rd_T49 l0_0 x4_3).f4)) := (blk_cell BK204.out 4).trans rfl; have hfz128_0 := blk_frozen BK204.out 0; have hfz128_1 := blk_frozen BK204.out 1; have hfz128_2 := blk_frozen BK204.out 2; have hfz128_3 := blk_frozen BK204.out 3; have hfz128_4 := blk_frozen BK204.out 4))
                  go_roundg k3
                  case measure => have := HJ1.out; have := HK2.out; have := HK3.out; omega
                  case rel => exact ⟨(wrap64 (x4_3 + 1)), (by first | rfl | (simp; done) | (simp [*]; done)), H', ⟨by have := HJ1.out; have := HK2.out; have := HK3.out; omega⟩, ⟨by (with_reducible repeat (first | refine blk_drewN ?_ _ | refine blk_drew ?_ | refine blk_alloc ?_ _)); refine blk_far ?_ NB196_207.out _; (with_reducible repeat (first | refine blk_drewN ?_ _ | refine blk_drew ?_ | refine blk_alloc ?_ _)); refine blk_far ?_ NB196_207.out _; (with_reducible repeat (first | refine blk_drewN ?_ _ | refine blk_drew ?_ | refine blk_alloc ?_ _)); refine blk_far ?_ NB196_207.out _; (with_reducible repeat (first | refine blk_drewN ?_ _ | refine blk_drew ?_ | refine blk_alloc ?_ _)); refine blk_far ?_ NB196_207.out _; (with_reducible repeat (first | refine blk_drewN ?_ _ | refine blk_drew ?_ | refine blk_alloc ?_ _)); refine blk_far ?_ NB196_207.out _; (with_reducible repeat (first | refine blk_drewN ?_ _ | refine blk_drew ?_ | refine blk_alloc ?_ _)); exact BK196.out⟩, ⟨by repeat (first | (with_reducible first | exact HB.out | apply below_alloc | apply pw_below_drewN | apply below_drew1 | refine below_set ?_ GE196.out | refine below_set ?_ GE204.out | refine below_set ?_ GE207.out) | exact HB.out)⟩⟩
                rw [if_pos c94] at H
                have c94b0 : decide (0 < ((rd_T49 l0_0 x4_3).f1)) = true := decide_eq_true c94
                clear c94
                by_cases c95 : ((Op.bytesLess (((rd_T49 l0_0 (ji30)).f3).toList) (((rd_T49 l0_0 x4_3).f2).toList)) = true)
                rotate_left
                · rw [if_neg c95] at H
                  have c95b0 : (Op.bytesLess (((rd_T49 l0_0 (ji30)).f3).toList) (((rd_T49 l0_0 x4_3).f2).toList)) = false := by simpa using c95
                  clear c95
                  obtain rfl := Option.some.inj H
                  have hcz107_0 : wr.cell? ⟨gb196, 0, none⟩ = some (.slice A0_0 l0_0.length c0_0) := (blk_cell BK196.out 0).trans rfl
                  have hcz107_1 : wr.cell? ⟨gb196, 1, none⟩ = some (.slice A0_1 l0_1.length c0_1) := (blk_cell BK196.out 1).trans rfl
                  have hcz107_2 : wr.cell? ⟨gb196, 2, none⟩ = some (.int .i64 a0_2) := (blk_cell BK196.out 2).trans rfl
                  have hfz107_0 := blk_frozen BK196.out 0
                  have hfz107_1 := blk_frozen BK196.out 1
                  have hfz107_2 := blk_frozen BK196.out 2
                  have p203 : 0 ≤ (x4_3 : Int) := of_decide_eq_true (by first | (with_reducible assumption) | assumption)
                  have q203 : x4_3 < (l0_0.length : Int) := of_decide_eq_true (by first | (with_reducible assumption) | assumption)
                  obtain ⟨ad203, e203, hx203_0, hx203_1, hx203_2, hx203_3, hx203_4⟩ := at_T49 HR0_0.out x4_3 p203 q203
                  cases e203
                  replace hx203_0 := (HB.out.cell (World.block_lt_of_cell? w _ hx203_0)).trans hx203_0
                  replace hx203_1 := (HB.out.cell (World.block_lt_of_cell? w _ hx203_1)).trans hx203_1
                  replace hx203_2 := (HB.out.cell (World.block_lt_of_cell? w _ hx203_2)).trans hx203_2
                  replace hx203_3 := (HB.out.cell (World.block_lt_of_cell? w _ hx203_3)).trans hx203_3
                  replace hx203_4 := (HB.out.cell (World.block_lt_of_cell? w _ hx203_4)).trans hx203_4
                  replace p203 := eq_true p203
                  replace q203 := eq_true q203
                  go_wp2_with (first | ((with_reducible refine gate_dst (N := 5) rfl ?_); (try (refine gate_guard (by rfl) ?_; dsimp only)); refine box_event ?hg (N := 5) ?hd (cs := #[.int .i64 0, .int .i64 0, .string (⟨#[]⟩ : ByteArray), .string (⟨#[]⟩ : ByteArray), .int .i64 0]) (t := 49) ?hr ?_; (case hd => rfl); (case hg => rfl); (case hr => first | (go_simp; done) | (go_simp; rfl)); intro gb204 hg w108 hbox hb; have n0_ := Aside0.mk (blk_below (g := gb196) (o := .cells #[.slice (some ad203) l0_0.length c0_0, .slice A0_1 l0_1.length c0_1, .int .i64 a0_2] 25 (0, 0)) (by (with_reducible repeat (first | refine blk_drewN ?_ _ | refine blk_drew ?_ | refine blk_alloc ?_ _)); exact BK196.out) hb); have n1_ := Aside0.mk (below_step (by repeat (first | (with_reducible first | exact HB.out | apply below_alloc | apply pw_below_drewN | apply below_drew1 | refine below_set ?_ GE196.out) | exact HB.out)) hb); have n2_ := Aside0.mk (hbox); have n3_ := Aside0.mk ((by rw [hg]; exact (below_size (by repeat (first | (with_reducible first | exact HB.out | apply below_alloc | apply pw_below_drewN | apply below_drew1 | refine below_set ?_ GE196.out) | exact HB.out))) : w.heap.size ≤ gb204)); have n4_ := Aside0.mk ((by rw [hg]; exact (below_size (by repeat (first | (with_reducible first | exact HB.out | apply below_alloc | apply pw_below_drewN | apply below_drew1 | refine below_set ?_ GE196.out) | exact HB.out))) : w.heap.size ≤ gb204)); have n5_ := Aside0.mk ((by rw [hg]; exact Nat.ne_of_lt (blk_lt (g := gb196) (o := .cells #[.slice (some ad203) l0_0.length c0_0, .slice A0_1 l0_1.length c0_1, .int .i64 a0_2] 25 (0, 0)) (by (with_reducible repeat (first | refine blk_drewN ?_ _ | refine blk_drew ?_ | refine blk_alloc ?_ _)); exact BK196.out)) : gb196 ≠ gb204)); have n6_ := Aside0.mk ((by rw [hg]; exact Nat.ne_of_gt (blk_lt (g := gb196) (o := .cells #[.slice (some ad203) l0_0.length c0_0, .slice A0_1 l0_1.length c0_1, .int .i64 a0_2] 25 (0, 0)) (by (with_reducible repeat (first | refine blk_drewN ?_ _ | refine blk_drew ?_ | refine blk_alloc ?_ _)); exact BK196.out)) : gb204 ≠ gb196)); clear BK196; clear HB; have BK196 := n0_; have HB := n1_; have BK204 := n2_; have GW204 := n3_; have GE204 := n4_; have NB196_204 := n5_; have NB204_196 := n6_; clear n0_ n1_ n2_ n3_ n4_ n5_ n6_; clear hb hbox hg; have hnb109 := NB204_196.out; have hnc109 := NB196_204.out; have hcz110_0 : w108.cell? ⟨gb204, 0, none⟩ = some (.int .i64 0) := (blk_cell BK204.out 0).trans rfl; have hcz110_1 : w108.cell? ⟨gb204, 1, none⟩ = some (.int .i64 0) := (blk_cell BK204.out 1).trans rfl; have hcz110_2 : w108.cell? ⟨gb204, 2, none⟩ = some (.string (⟨#[]⟩ : ByteArray)) := (blk_cell BK204.out 2).trans rfl; have hcz110_3 : w108.cell? ⟨gb204, 3, none⟩ = some (.string (⟨#[]⟩ : ByteArray)) := (blk_cell BK204.out 3).trans rfl; have hcz110_4 : w108.cell? ⟨gb204, 4, none⟩ = some (.int .i64 0) := (blk_cell BK204.out 4).trans rfl; have hfz110_0 := blk_frozen BK204.out 0; have hfz110_1 := blk_frozen BK204.out 1; have hfz110_2 := blk_frozen BK204.out 2; have hfz110_3 := blk_frozen BK204.out 3; have hfz110_4 := blk_frozen BK204.out 4) | ((with_reducible refine gate_callee (f := 37) rfl ?_); refine goesL_ (some 62) rfl rfl Try.func37 (by kernel_rfl) rfl #[.agg #[.int .i64 ((rd_T49 l0_0 x4_3).f0), .int .i64 ((rd_T49 l0_0 x4_3).f1), .string ((rd_T49 l0_0 x4_3).f2), .string ((rd_T49 l0_0 x4_3).f3), .int .i64 ((rd_T49 l0_0 x4_3).f4)]] rfl (by (try simp only [List.map_toArray, List.map_cons, List.map_nil]); first | done | rfl | (simp only [List.length_drop, List.length_take]; rfl)) ?_; (with_reducible refine (palinoderef14_meta.calls ((rd_T49 l0_0 x4_3).f0) ((rd_T49 l0_0 x4_3).f1) ((rd_T49 l0_0 x4_3).f2) ((rd_T49 l0_0 x4_3).f3) ((rd_T49 l0_0 x4_3).f4) true _ A22.out).mono ?_); rintro e w111 ⟨rfl, hb⟩; refine ⟨_, rfl, ?_⟩; have n0_ := Aside0.mk (blk_below (g := gb196) (o := .cells #[.slice (some ad203) l0_0.length c0_0, .slice A0_1 l0_1.length c0_1, .int .i64 a0_2] 25 (0, 0)) (by (with_reducible repeat (first | refine blk_drewN ?_ _ | refine blk_drew ?_ | refine blk_alloc ?_ _)); refine blk_far ?_ NB196_204.out _; (with_reducible repeat (first | refine blk_drewN ?_ _ | refine blk_drew ?_ | refine blk_alloc ?_ _)); refine blk_far ?_ NB196_204.out _; (with_reducible repeat (first | refine blk_drewN ?_ _ | refine blk_drew ?_ | refine blk_alloc ?_ _)); refine blk_far ?_ NB196_204.out _; (with_reducible repeat (first | refine blk_drewN ?_ _ | refine blk_drew ?_ | refine blk_alloc ?_ _)); refine blk_far ?_ NB196_204.out _; (with_reducible repeat (first | refine blk_drewN ?_ _ | refine blk_drew ?_ | refine blk_alloc ?_ _)); refine blk_far ?_ NB196_204.out _; (with_reducible repeat (first | refine blk_drewN ?_ _ | refine blk_drew ?_ | refine blk_alloc ?_ _)); exact BK196.out) hb); have n1_ := Aside0.mk (blk_below (g := gb204) (o := .cells #[.int .i64 ((rd_T49 l0_0 x4_3).f0), .int .i64 ((rd_T49 l0_0 x4_3).f1), .string ((rd_T49 l0_0 x4_3).f2), .string ((rd_T49 l0_0 x4_3).f3), .int .i64 ((rd_T49 l0_0 x4_3).f4)] 49 (0, 0)) (by (with_reducible repeat (first | refine blk_drewN ?_ _ | refine blk_drew ?_ | refine blk_alloc ?_ _)); refine blk_put (cs := #[.int .i64 ((rd_T49 l0_0 x4_3).f0), .int .i64 ((rd_T49 l0_0 x4_3).f1), .string ((rd_T49 l0_0 x4_3).f2), .string ((rd_T49 l0_0 x4_3).f3), .int .i64 0]) ?_ 4 _ rfl; (with_reducible repeat (first | refine blk_drewN ?_ _ | refine blk_drew ?_ | refine blk_alloc ?_ _)); refine blk_put (cs := #[.int .i64 ((rd_T49 l0_0 x4_3).f0), .int .i64 ((rd_T49 l0_0 x4_3).f1), .string ((rd_T49 l0_0 x4_3).f2), .string (⟨#[]⟩ : ByteArray), .int .i64 0]) ?_ 3 _ rfl; (with_reducible repeat (first | refine blk_drewN ?_ _ | refine blk_drew ?_ | refine blk_alloc ?_ _)); refine blk_put (cs := #[.int .i64 ((rd_T49 l0_0 x4_3).f0), .int .i64 ((rd_T49 l0_0 x4_3).f1), .string (⟨#[]⟩ : ByteArray), .string (⟨#[]⟩ : ByteArray), .int .i64 0]) ?_ 2 _ rfl; (with_reducible repeat (first | refine blk_drewN ?_ _ | refine blk_drew ?_ | refine blk_alloc ?_ _)); refine blk_put (cs := #[.int .i64 ((rd_T49 l0_0 x4_3).f0), .int .i64 0, .string (⟨#[]⟩ : ByteArray), .string (⟨#[]⟩ : ByteArray), .int .i64 0]) ?_ 1 _ rfl; (with_reducible repeat (first | refine blk_drewN ?_ _ | refine blk_drew ?_ | refine blk_alloc ?_ _)); refine blk_put (cs := #[.int .i64 0, .int .i64 0, .string (⟨#[]⟩ : ByteArray), .string (⟨#[]⟩ : ByteArray), .int .i64 0]) ?_ 0 _ rfl; (with_reducible repeat (first | refine blk_drewN ?_ _ | refine blk_drew ?_ | refine blk_alloc ?_ _)); exact BK204.out) hb); have n2_ := Aside0.mk (below_step (by repeat (first | (with_reducible first | exact HB.out | apply below_alloc | apply pw_below_drewN | apply below_drew1 | refine below_set ?_ GE196.out | refine below_set ?_ GE204.out) | exact HB.out)) hb); clear BK196; clear BK204; clear HB; have BK196 := n0_; have BK204 := n1_; have HB := n2_; clear n0_ n1_ n2_; (try clear hb); (try clear hb2); (try clear hk); (try clear hi); have hcz112_0 : w111.cell? ⟨gb196, 0, none⟩ = some (.slice (some ad203) l0_0.length c0_0) := (blk_cell BK196.out 0).trans rfl; have hcz112_1 : w111.cell? ⟨gb196, 1, none⟩ = some (.slice A0_1 l0_1.length c0_1) := (blk_cell BK196.out 1).trans rfl; have hcz112_2 : w111.cell? ⟨gb196, 2, none⟩ = some (.int .i64 a0_2) := (blk_cell BK196.out 2).trans rfl; have hfz112_0 := blk_frozen BK196.out 0; have hfz112_1 := blk_frozen BK196.out 1; have hfz112_2 := blk_frozen BK196.out 2; have p206 : 0 ≤ ((ji30) : Int) := of_decide_eq_true (by first | (with_reducible assumption) | assumption); have q206 : (ji30) < (l0_0.length : Int) := of_decide_eq_true (by first | (with_reducible assumption) | assumption); obtain ⟨ad206, e206, hx206_0, hx206_1, hx206_2, hx206_3, hx206_4⟩ := at_T49 HR0_0.out (ji30) p206 q206; obtain rfl : ad203 = ad206 := (by injection e206); replace hx206_0 := (HB.out.cell (World.block_lt_of_cell? w _ hx206_0)).trans hx206_0; replace hx206_1 := (HB.out.cell (World.block_lt_of_cell? w _ hx206_1)).trans hx206_1; replace hx206_2 := (HB.out.cell (World.block_lt_of_cell? w _ hx206_2)).trans hx206_2; replace hx206_3 := (HB.out.cell (World.block_lt_of_cell? w _ hx206_3)).trans hx206_3; replace hx206_4 := (HB.out.cell (World.block_lt_of_cell? w _ hx206_4)).trans hx206_4; replace p206 := eq_true p206; replace q206 := eq_true q206) | ((with_reducible refine gate_dst (N := 7) rfl ?_); (try (refine gate_guard (by rfl) ?_; dsimp only)); refine box_event ?hg (N := 7) ?hd (cs := #[.int .i64 0, .int .i64 0, .string (⟨#[]⟩ : ByteArray), .string (⟨#[]⟩ : ByteArray), .int .i64 0]) (t := 49) ?hr ?_; (case hd => rfl); (case hg => rfl); (case hr => first | (go_simp; done) | (go_simp; rfl)); intro gb207 hg w113 hbox hb; have n0_ := Aside0.mk (blk_below (g := gb196) (o := .cells #[.slice (some ad203) l0_0.length c0_0, .slice A0_1 l0_1.length c0_1, .int .i64 a0_2] 25 (0, 0)) (by (with_reducible repeat (first | refine blk_drewN ?_ _ | refine blk_drew ?_ | refine blk_alloc ?_ _)); exact BK196.out) hb); have n1_ := Aside0.mk (blk_below (g := gb204) (o := .cells #[.int .i64 ((rd_T49 l0_0 x4_3).f0), .int .i64 ((rd_T49 l0_0 x4_3).f1), .string ((rd_T49 l0_0 x4_3).f2), .string ((rd_T49 l0_0 x4_3).f3), .int .i64 ((rd_T49 l0_0 x4_3).f4)] 49 (0, 0)) (by (with_reducible repeat (first | refine blk_drewN ?_ _ | refine blk_drew ?_ | refine blk_alloc ?_ _)); exact BK204.out) hb); have n2_ := Aside0.mk (below_step (by repeat (first | (with_reducible first | exact HB.out | apply below_alloc | apply pw_below_drewN | apply below_drew1 | refine below_set ?_ GE196.out | refine below_set ?_ GE204.out) | exact HB.out)) hb); have n3_ := Aside0.mk (hbox); have n4_ := Aside0.mk ((by rw [hg]; exact (below_size (by repeat (first | (with_reducible first | exact HB.out | apply below_alloc | apply pw_below_drewN | apply below_drew1 | refine below_set ?_ GE196.out | refine below_set ?_ GE204.out) | exact HB.out))) : w.heap.size ≤ gb207)); have n5_ := Aside0.mk ((by rw [hg]; exact (below_size (by repeat (first | (with_reducible first | exact HB.out | apply below_alloc | apply pw_below_drewN | apply below_drew1 | refine below_set ?_ GE196.out | refine below_set ?_ GE204.out) | exact HB.out))) : w.heap.size ≤ gb207)); have n6_ := Aside0.mk ((by rw [hg]; exact Nat.ne_of_lt (blk_lt (g := gb196) (o := .cells #[.slice (some ad203) l0_0.length c0_0, .slice A0_1 l0_1.length c0_1, .int .i64 a0_2] 25 (0, 0)) (by (with_reducible repeat (first | refine blk_drewN ?_ _ | refine blk_drew ?_ | refine blk_alloc ?_ _)); exact BK196.out)) : gb196 ≠ gb207)); have n7_ := Aside0.mk ((by rw [hg]; exact Nat.ne_of_gt (blk_lt (g := gb196) (o := .cells #[.slice (some ad203) l0_0.length c0_0, .slice A0_1 l0_1.length c0_1, .int .i64 a0_2] 25 (0, 0)) (by (with_reducible repeat (first | refine blk_drewN ?_ _ | refine blk_drew ?_ | refine blk_alloc ?_ _)); exact BK196.out)) : gb207 ≠ gb196)); have n8_ := Aside0.mk ((by rw [hg]; exact Nat.ne_of_lt (blk_lt (g := gb204) (o := .cells #[.int .i64 ((rd_T49 l0_0 x4_3).f0), .int .i64 ((rd_T49 l0_0 x4_3).f1), .string ((rd_T49 l0_0 x4_3).f2), .string ((rd_T49 l0_0 x4_3).f3), .int .i64 ((rd_T49 l0_0 x4_3).f4)] 49 (0, 0)) (by (with_reducible repeat (first | refine blk_drewN ?_ _ | refine blk_drew ?_ | refine blk_alloc ?_ _)); exact BK204.out)) : gb204 ≠ gb207)); have n9_ := Aside0.mk ((by rw [hg]; exact Nat.ne_of_gt (blk_lt (g := gb204) (o := .cells #[.int .i64 ((rd_T49 l0_0 x4_3).f0), .int .i64 ((rd_T49 l0_0 x4_3).f1), .string ((rd_T49 l0_0 x4_3).f2), .string ((rd_T49 l0_0 x4_3).f3), .int .i64 ((rd_T49 l0_0 x4_3).f4)] 49 (0, 0)) (by (with_reducible repeat (first | refine blk_drewN ?_ _ | refine blk_drew ?_ | refine blk_alloc ?_ _)); exact BK204.out)) : gb207 ≠ gb204)); clear BK196; clear BK204; clear HB; have BK196 := n0_; have BK204 := n1_; have HB := n2_; have BK207 := n3_; have GW207 := n4_; have GE207 := n5_; have NB196_207 := n6_; have NB207_196 := n7_; have NB204_207 := n8_; have NB207_204 := n9_; clear n0_ n1_ n2_ n3_ n4_ n5_ n6_ n7_ n8_ n9_; clear hb hbox hg; have hnb114 := NB207_196.out; have hnc114 := NB196_207.out; have hnb115 := NB207_204.out; have hnc115 := NB204_207.out; have hcz116_0 : w113.cell? ⟨gb207, 0, none⟩ = some (.int .i64 0) := (blk_cell BK207.out 0).trans rfl; have hcz116_1 : w113.cell? ⟨gb207, 1, none⟩ = some (.int .i64 0) := (blk_cell BK207.out 1).trans rfl; have hcz116_2 : w113.cell? ⟨gb207, 2, none⟩ = some (.string (⟨#[]⟩ : ByteArray)) := (blk_cell BK207.out 2).trans rfl; have hcz116_3 : w113.cell? ⟨gb207, 3, none⟩ = some (.string (⟨#[]⟩ : ByteArray)) := (blk_cell BK207.out 3).trans rfl; have hcz116_4 : w113.cell? ⟨gb207, 4, none⟩ = some (.int .i64 0) := (blk_cell BK207.out 4).trans rfl; have hfz116_0 := blk_frozen BK207.out 0; have hfz116_1 := blk_frozen BK207.out 1; have hfz116_2 := blk_frozen BK207.out 2; have hfz116_3 := blk_frozen BK207.out 3; have hfz116_4 := blk_frozen BK207.out 4; have hcz117_0 : w113.cell? ⟨gb204, 0, none⟩ = some (.int .i64 ((rd_T49 l0_0 x4_3).f0)) := (blk_cell BK204.out 0).trans rfl; have hcz117_1 : w113.cell? ⟨gb204, 1, none⟩ = some (.int .i64 ((rd_T49 l0_0 x4_3).f1)) := (blk_cell BK204.out 1).trans rfl; have hcz117_2 : w113.cell? ⟨gb204, 2, none⟩ = some (.string ((rd_T49 l0_0 x4_3).f2)) := (blk_cell BK204.out 2).trans rfl; have hcz117_3 : w113.cell? ⟨gb204, 3, none⟩ = some (.string ((rd_T49 l0_0 x4_3).f3)) := (blk_cell BK204.out 3).trans rfl; have hcz117_4 : w113.cell? ⟨gb204, 4, none⟩ = some (.int .i64 ((rd_T49 l0_0 x4_3).f4)) := (blk_cell BK204.out 4).trans rfl; have hfz117_0 := blk_frozen BK204.out 0; have hfz117_1 := blk_frozen BK204.out 1; have hfz117_2 := blk_frozen BK204.out 2; have hfz117_3 := blk_frozen BK204.out 3; have hfz117_4 := blk_frozen BK204.out 4))
                  go_ret
                  exact ⟨by first | rfl | (simp [errW_none, errW_some] <;> rfl) | (simp only [← hji30]; first | rfl | (simp [errW_none, errW_some] <;> rfl)) | (simp [*, errW_none, errW_some] <;> rfl), by repeat (first | (with_reducible first | exact HB.out | apply below_alloc | apply pw_below_drewN | apply below_drew1 | refine below_set ?_ GE196.out | refine below_set ?_ GE204.out | refine below_set ?_ GE207.out) | exact HB.out)⟩
                rw [if_pos c95] at H
                have c95b0 : (Op.bytesLess (((rd_T49 l0_0 (ji30)).f3).toList) (((rd_T49 l0_0 x4_3).f2).toList)) = true := c95
                clear c95
                have H' := Aside0.mk H
                clear H
                have hcz96_0 : wr.cell? ⟨gb196, 0, none⟩ = some (.slice A0_0 l0_0.length c0_0) := (blk_cell BK196.out 0).trans rfl
                have hcz96_1 : wr.cell? ⟨gb196, 1, none⟩ = some (.slice A0_1 l0_1.length c0_1) := (blk_cell BK196.out 1).trans rfl
                have hcz96_2 : wr.cell? ⟨gb196, 2, none⟩ = some (.int .i64 a0_2) := (blk_cell BK196.out 2).trans rfl
                have hfz96_0 := blk_frozen BK196.out 0
                have hfz96_1 := blk_frozen BK196.out 1
                have hfz96_2 := blk_frozen BK196.out 2
                have p203 : 0 ≤ (x4_3 : Int) := of_decide_eq_true (by first | (with_reducible assumption) | assumption)
                have q203 : x4_3 < (l0_0.length : Int) := of_decide_eq_true (by first | (with_reducible assumption) | assumption)
                obtain ⟨ad203, e203, hx203_0, hx203_1, hx203_2, hx203_3, hx203_4⟩ := at_T49 HR0_0.out x4_3 p203 q203
                cases e203
                replace hx203_0 := (HB.out.cell (World.block_lt_of_cell? w _ hx203_0)).trans hx203_0
                replace hx203_1 := (HB.out.cell (World.block_lt_of_cell? w _ hx203_1)).trans hx203_1
                replace hx203_2 := (HB.out.cell (World.block_lt_of_cell? w _ hx203_2)).trans hx203_2
                replace hx203_3 := (HB.out.cell (World.block_lt_of_cell? w _ hx203_3)).trans hx203_3
                replace hx203_4 := (HB.out.cell (World.block_lt_of_cell? w _ hx203_4)).trans hx203_4
                replace p203 := eq_true p203
                replace q203 := eq_true q203
                go_wp2_with (first | ((with_reducible refine gate_dst (N := 5) rfl ?_); (try (refine gate_guard (by rfl) ?_; dsimp only)); refine box_event ?hg (N := 5) ?hd (cs := #[.int .i64 0, .int .i64 0, .string (⟨#[]⟩ : ByteArray), .string (⟨#[]⟩ : ByteArray), .int .i64 0]) (t := 49) ?hr ?_; (case hd => rfl); (case hg => rfl); (case hr => first | (go_simp; done) | (go_simp; rfl)); intro gb204 hg w97 hbox hb; have n0_ := Aside0.mk (blk_below (g := gb196) (o := .cells #[.slice (some ad203) l0_0.length c0_0, .slice A0_1 l0_1.length c0_1, .int .i64 a0_2] 25 (0, 0)) (by (with_reducible repeat (first | refine blk_drewN ?_ _ | refine blk_drew ?_ | refine blk_alloc ?_ _)); exact BK196.out) hb); have n1_ := Aside0.mk (below_step (by repeat (first | (with_reducible first | exact HB.out | apply below_alloc | apply pw_below_drewN | apply below_drew1 | refine below_set ?_ GE196.out) | exact HB.out)) hb); have n2_ := Aside0.mk (hbox); have n3_ := Aside0.mk ((by rw [hg]; exact (below_size (by repeat (first | (with_reducible first | exact HB.out | apply below_alloc | apply pw_below_drewN | apply below_drew1 | refine below_set ?_ GE196.out) | exact HB.out))) : w.heap.size ≤ gb204)); have n4_ := Aside0.mk ((by rw [hg]; exact (below_size (by repeat (first | (with_reducible first | exact HB.out | apply below_alloc | apply pw_below_drewN | apply below_drew1 | refine below_set ?_ GE196.out) | exact HB.out))) : w.heap.size ≤ gb204)); have n5_ := Aside0.mk ((by rw [hg]; exact Nat.ne_of_lt (blk_lt (g := gb196) (o := .cells #[.slice (some ad203) l0_0.length c0_0, .slice A0_1 l0_1.length c0_1, .int .i64 a0_2] 25 (0, 0)) (by (with_reducible repeat (first | refine blk_drewN ?_ _ | refine blk_drew ?_ | refine blk_alloc ?_ _)); exact BK196.out)) : gb196 ≠ gb204)); have n6_ := Aside0.mk ((by rw [hg]; exact Nat.ne_of_gt (blk_lt (g := gb196) (o := .cells #[.slice (some ad203) l0_0.length c0_0, .slice A0_1 l0_1.length c0_1, .int .i64 a0_2] 25 (0, 0)) (by (with_reducible repeat (first | refine blk_drewN ?_ _ | refine blk_drew ?_ | refine blk_alloc ?_ _)); exact BK196.out)) : gb204 ≠ gb196)); clear BK196; clear HB; have BK196 := n0_; have HB := n1_; have BK204 := n2_; have GW204 := n3_; have GE204 := n4_; have NB196_204 := n5_; have NB204_196 := n6_; clear n0_ n1_ n2_ n3_ n4_ n5_ n6_; clear hb hbox hg; have hnb98 := NB204_196.out; have hnc98 := NB196_204.out; have hcz99_0 : w97.cell? ⟨gb204, 0, none⟩ = some (.int .i64 0) := (blk_cell BK204.out 0).trans rfl; have hcz99_1 : w97.cell? ⟨gb204, 1, none⟩ = some (.int .i64 0) := (blk_cell BK204.out 1).trans rfl; have hcz99_2 : w97.cell? ⟨gb204, 2, none⟩ = some (.string (⟨#[]⟩ : ByteArray)) := (blk_cell BK204.out 2).trans rfl; have hcz99_3 : w97.cell? ⟨gb204, 3, none⟩ = some (.string (⟨#[]⟩ : ByteArray)) := (blk_cell BK204.out 3).trans rfl; have hcz99_4 : w97.cell? ⟨gb204, 4, none⟩ = some (.int .i64 0) := (blk_cell BK204.out 4).trans rfl; have hfz99_0 := blk_frozen BK204.out 0; have hfz99_1 := blk_frozen BK204.out 1; have hfz99_2 := blk_frozen BK204.out 2; have hfz99_3 := blk_frozen BK204.out 3; have hfz99_4 := blk_frozen BK204.out 4) | ((with_reducible refine gate_callee (f := 37) rfl ?_); refine goesL_ (some 62) rfl rfl Try.func37 (by kernel_rfl) rfl #[.agg #[.int .i64 ((rd_T49 l0_0 x4_3).f0), .int .i64 ((rd_T49 l0_0 x4_3).f1), .string ((rd_T49 l0_0 x4_3).f2), .string ((rd_T49 l0_0 x4_3).f3), .int .i64 ((rd_T49 l0_0 x4_3).f4)]] rfl (by (try simp only [List.map_toArray, List.map_cons, List.map_nil]); first | done | rfl | (simp only [List.length_drop, List.length_take]; rfl)) ?_; (with_reducible refine (palinoderef14_meta.calls ((rd_T49 l0_0 x4_3).f0) ((rd_T49 l0_0 x4_3).f1) ((rd_T49 l0_0 x4_3).f2) ((rd_T49 l0_0 x4_3).f3) ((rd_T49 l0_0 x4_3).f4) true _ A22.out).mono ?_); rintro e w100 ⟨rfl, hb⟩; refine ⟨_, rfl, ?_⟩; have n0_ := Aside0.mk (blk_below (g := gb196) (o := .cells #[.slice (some ad203) l0_0.length c0_0, .slice A0_1 l0_1.length c0_1, .int .i64 a0_2] 25 (0, 0)) (by (with_reducible repeat (first | refine blk_drewN ?_ _ | refine blk_drew ?_ | refine blk_alloc ?_ _)); refine blk_far ?_ NB196_204.out _; (with_reducible repeat (first | refine blk_drewN ?_ _ | refine blk_drew ?_ | refine blk_alloc ?_ _)); refine blk_far ?_ NB196_204.out _; (with_reducible repeat (first | refine blk_drewN ?_ _ | refine blk_drew ?_ | refine blk_alloc ?_ _)); refine blk_far ?_ NB196_204.out _; (with_reducible repeat (first | refine blk_drewN ?_ _ | refine blk_drew ?_ | refine blk_alloc ?_ _)); refine blk_far ?_ NB196_204.out _; (with_reducible repeat (first | refine blk_drewN ?_ _ | refine blk_drew ?_ | refine blk_alloc ?_ _)); refine blk_far ?_ NB196_204.out _; (with_reducible repeat (first | refine blk_drewN ?_ _ | refine blk_drew ?_ | refine blk_alloc ?_ _)); exact BK196.out) hb); have n1_ := Aside0.mk (blk_below (g := gb204) (o := .cells #[.int .i64 ((rd_T49 l0_0 x4_3).f0), .int .i64 ((rd_T49 l0_0 x4_3).f1), .string ((rd_T49 l0_0 x4_3).f2), .string ((rd_T49 l0_0 x4_3).f3), .int .i64 ((rd_T49 l0_0 x4_3).f4)] 49 (0, 0)) (by (with_reducible repeat (first | refine blk_drewN ?_ _ | refine blk_drew ?_ | refine blk_alloc ?_ _)); refine blk_put (cs := #[.int .i64 ((rd_T49 l0_0 x4_3).f0), .int .i64 ((rd_T49 l0_0 x4_3).f1), .string ((rd_T49 l0_0 x4_3).f2), .string ((rd_T49 l0_0 x4_3).f3), .int .i64 0]) ?_ 4 _ rfl; (with_reducible repeat (first | refine blk_drewN ?_ _ | refine blk_drew ?_ | refine blk_alloc ?_ _)); refine blk_put (cs := #[.int .i64 ((rd_T49 l0_0 x4_3).f0), .int .i64 ((rd_T49 l0_0 x4_3).f1), .string ((rd_T49 l0_0 x4_3).f2), .string (⟨#[]⟩ : ByteArray), .int .i64 0]) ?_ 3 _ rfl; (with_reducible repeat (first | refine blk_drewN ?_ _ | refine blk_drew ?_ | refine blk_alloc ?_ _)); refine blk_put (cs := #[.int .i64 ((rd_T49 l0_0 x4_3).f0), .int .i64 ((rd_T49 l0_0 x4_3).f1), .string (⟨#[]⟩ : ByteArray), .string (⟨#[]⟩ : ByteArray), .int .i64 0]) ?_ 2 _ rfl; (with_reducible repeat (first | refine blk_drewN ?_ _ | refine blk_drew ?_ | refine blk_alloc ?_ _)); refine blk_put (cs := #[.int .i64 ((rd_T49 l0_0 x4_3).f0), .int .i64 0, .string (⟨#[]⟩ : ByteArray), .string (⟨#[]⟩ : ByteArray), .int .i64 0]) ?_ 1 _ rfl; (with_reducible repeat (first | refine blk_drewN ?_ _ | refine blk_drew ?_ | refine blk_alloc ?_ _)); refine blk_put (cs := #[.int .i64 0, .int .i64 0, .string (⟨#[]⟩ : ByteArray), .string (⟨#[]⟩ : ByteArray), .int .i64 0]) ?_ 0 _ rfl; (with_reducible repeat (first | refine blk_drewN ?_ _ | refine blk_drew ?_ | refine blk_alloc ?_ _)); exact BK204.out) hb); have n2_ := Aside0.mk (below_step (by repeat (first | (with_reducible first | exact HB.out | apply below_alloc | apply pw_below_drewN | apply below_drew1 | refine below_set ?_ GE196.out | refine below_set ?_ GE204.out) | exact HB.out)) hb); clear BK196; clear BK204; clear HB; have BK196 := n0_; have BK204 := n1_; have HB := n2_; clear n0_ n1_ n2_; (try clear hb); (try clear hb2); (try clear hk); (try clear hi); have hcz101_0 : w100.cell? ⟨gb196, 0, none⟩ = some (.slice (some ad203) l0_0.length c0_0) := (blk_cell BK196.out 0).trans rfl; have hcz101_1 : w100.cell? ⟨gb196, 1, none⟩ = some (.slice A0_1 l0_1.length c0_1) := (blk_cell BK196.out 1).trans rfl; have hcz101_2 : w100.cell? ⟨gb196, 2, none⟩ = some (.int .i64 a0_2) := (blk_cell BK196.out 2).trans rfl; have hfz101_0 := blk_frozen BK196.out 0; have hfz101_1 := blk_frozen BK196.out 1; have hfz101_2 := blk_frozen BK196.out 2; have p206 : 0 ≤ ((ji30) : Int) := of_decide_eq_true (by first | (with_reducible assumption) | assumption); have q206 : (ji30) < (l0_0.length : Int) := of_decide_eq_true (by first | (with_reducible assumption) | assumption); obtain ⟨ad206, e206, hx206_0, hx206_1, hx206_2, hx206_3, hx206_4⟩ := at_T49 HR0_0.out (ji30) p206 q206; obtain rfl : ad203 = ad206 := (by injection e206); replace hx206_0 := (HB.out.cell (World.block_lt_of_cell? w _ hx206_0)).trans hx206_0; replace hx206_1 := (HB.out.cell (World.block_lt_of_cell? w _ hx206_1)).trans hx206_1; replace hx206_2 := (HB.out.cell (World.block_lt_of_cell? w _ hx206_2)).trans hx206_2; replace hx206_3 := (HB.out.cell (World.block_lt_of_cell? w _ hx206_3)).trans hx206_3; replace hx206_4 := (HB.out.cell (World.block_lt_of_cell? w _ hx206_4)).trans hx206_4; replace p206 := eq_true p206; replace q206 := eq_true q206) | ((with_reducible refine gate_dst (N := 7) rfl ?_); (try (refine gate_guard (by rfl) ?_; dsimp only)); refine box_event ?hg (N := 7) ?hd (cs := #[.int .i64 0, .int .i64 0, .string (⟨#[]⟩ : ByteArray), .string (⟨#[]⟩ : ByteArray), .int .i64 0]) (t := 49) ?hr ?_; (case hd => rfl); (case hg => rfl); (case hr => first | (go_simp; done) | (go_simp; rfl)); intro gb207 hg w102 hbox hb; have n0_ := Aside0.mk (blk_below (g := gb196) (o := .cells #[.slice (some ad203) l0_0.length c0_0, .slice A0_1 l0_1.length c0_1, .int .i64 a0_2] 25 (0, 0)) (by (with_reducible repeat (first | refine blk_drewN ?_ _ | refine blk_drew ?_ | refine blk_alloc ?_ _)); exact BK196.out) hb); have n1_ := Aside0.mk (blk_below (g := gb204) (o := .cells #[.int .i64 ((rd_T49 l0_0 x4_3).f0), .int .i64 ((rd_T49 l0_0 x4_3).f1), .string ((rd_T49 l0_0 x4_3).f2), .string ((rd_T49 l0_0 x4_3).f3), .int .i64 ((rd_T49 l0_0 x4_3).f4)] 49 (0, 0)) (by (with_reducible repeat (first | refine blk_drewN ?_ _ | refine blk_drew ?_ | refine blk_alloc ?_ _)); exact BK204.out) hb); have n2_ := Aside0.mk (below_step (by repeat (first | (with_reducible first | exact HB.out | apply below_alloc | apply pw_below_drewN | apply below_drew1 | refine below_set ?_ GE196.out | refine below_set ?_ GE204.out) | exact HB.out)) hb); have n3_ := Aside0.mk (hbox); have n4_ := Aside0.mk ((by rw [hg]; exact (below_size (by repeat (first | (with_reducible first | exact HB.out | apply below_alloc | apply pw_below_drewN | apply below_drew1 | refine below_set ?_ GE196.out | refine below_set ?_ GE204.out) | exact HB.out))) : w.heap.size ≤ gb207)); have n5_ := Aside0.mk ((by rw [hg]; exact (below_size (by repeat (first | (with_reducible first | exact HB.out | apply below_alloc | apply pw_below_drewN | apply below_drew1 | refine below_set ?_ GE196.out | refine below_set ?_ GE204.out) | exact HB.out))) : w.heap.size ≤ gb207)); have n6_ := Aside0.mk ((by rw [hg]; exact Nat.ne_of_lt (blk_lt (g := gb196) (o := .cells #[.slice (some ad203) l0_0.length c0_0, .slice A0_1 l0_1.length c0_1, .int .i64 a0_2] 25 (0, 0)) (by (with_reducible repeat (first | refine blk_drewN ?_ _ | refine blk_drew ?_ | refine blk_alloc ?_ _)); exact BK196.out)) : gb196 ≠ gb207)); have n7_ := Aside0.mk ((by rw [hg]; exact Nat.ne_of_gt (blk_lt (g := gb196) (o := .cells #[.slice (some ad203) l0_0.length c0_0, .slice A0_1 l0_1.length c0_1, .int .i64 a0_2] 25 (0, 0)) (by (with_reducible repeat (first | refine blk_drewN ?_ _ | refine blk_drew ?_ | refine blk_alloc ?_ _)); exact BK196.out)) : gb207 ≠ gb196)); have n8_ := Aside0.mk ((by rw [hg]; exact Nat.ne_of_lt (blk_lt (g := gb204) (o := .cells #[.int .i64 ((rd_T49 l0_0 x4_3).f0), .int .i64 ((rd_T49 l0_0 x4_3).f1), .string ((rd_T49 l0_0 x4_3).f2), .string ((rd_T49 l0_0 x4_3).f3), .int .i64 ((rd_T49 l0_0 x4_3).f4)] 49 (0, 0)) (by (with_reducible repeat (first | refine blk_drewN ?_ _ | refine blk_drew ?_ | refine blk_alloc ?_ _)); exact BK204.out)) : gb204 ≠ gb207)); have n9_ := Aside0.mk ((by rw [hg]; exact Nat.ne_of_gt (blk_lt (g := gb204) (o := .cells #[.int .i64 ((rd_T49 l0_0 x4_3).f0), .int .i64 ((rd_T49 l0_0 x4_3).f1), .string ((rd_T49 l0_0 x4_3).f2), .string ((rd_T49 l0_0 x4_3).f3), .int .i64 ((rd_T49 l0_0 x4_3).f4)] 49 (0, 0)) (by (with_reducible repeat (first | refine blk_drewN ?_ _ | refine blk_drew ?_ | refine blk_alloc ?_ _)); exact BK204.out)) : gb207 ≠ gb204)); clear BK196; clear BK204; clear HB; have BK196 := n0_; have BK204 := n1_; have HB := n2_; have BK207 := n3_; have GW207 := n4_; have GE207 := n5_; have NB196_207 := n6_; have NB207_196 := n7_; have NB204_207 := n8_; have NB207_204 := n9_; clear n0_ n1_ n2_ n3_ n4_ n5_ n6_ n7_ n8_ n9_; clear hb hbox hg; have hnb103 := NB207_196.out; have hnc103 := NB196_207.out; have hnb104 := NB207_204.out; have hnc104 := NB204_207.out; have hcz105_0 : w102.cell? ⟨gb207, 0, none⟩ = some (.int .i64 0) := (blk_cell BK207.out 0).trans rfl; have hcz105_1 : w102.cell? ⟨gb207, 1, none⟩ = some (.int .i64 0) := (blk_cell BK207.out 1).trans rfl; have hcz105_2 : w102.cell? ⟨gb207, 2, none⟩ = some (.string (⟨#[]⟩ : ByteArray)) := (blk_cell BK207.out 2).trans rfl; have hcz105_3 : w102.cell? ⟨gb207, 3, none⟩ = some (.string (⟨#[]⟩ : ByteArray)) := (blk_cell BK207.out 3).trans rfl; have hcz105_4 : w102.cell? ⟨gb207, 4, none⟩ = some (.int .i64 0) := (blk_cell BK207.out 4).trans rfl; have hfz105_0 := blk_frozen BK207.out 0; have hfz105_1 := blk_frozen BK207.out 1; have hfz105_2 := blk_frozen BK207.out 2; have hfz105_3 := blk_frozen BK207.out 3; have hfz105_4 := blk_frozen BK207.out 4; have hcz106_0 : w102.cell? ⟨gb204, 0, none⟩ = some (.int .i64 ((rd_T49 l0_0 x4_3).f0)) := (blk_cell BK204.out 0).trans rfl; have hcz106_1 : w102.cell? ⟨gb204, 1, none⟩ = some (.int .i64 ((rd_T49 l0_0 x4_3).f1)) := (blk_cell BK204.out 1).trans rfl; have hcz106_2 : w102.cell? ⟨gb204, 2, none⟩ = some (.string ((rd_T49 l0_0 x4_3).f2)) := (blk_cell BK204.out 2).trans rfl; have hcz106_3 : w102.cell? ⟨gb204, 3, none⟩ = some (.string ((rd_T49 l0_0 x4_3).f3)) := (blk_cell BK204.out 3).trans rfl; have hcz106_4 : w102.cell? ⟨gb204, 4, none⟩ = some (.int .i64 ((rd_T49 l0_0 x4_3).f4)) := (blk_cell BK204.out 4).trans rfl; have hfz106_0 := blk_frozen BK204.out 0; have hfz106_1 := blk_frozen BK204.out 1; have hfz106_2 := blk_frozen BK204.out 2; have hfz106_3 := blk_frozen BK204.out 3; have hfz106_4 := blk_frozen BK204.out 4))
                go_roundg k3
                case measure => have := HJ1.out; have := HK2.out; have := HK3.out; omega
                case rel => exact ⟨(wrap64 (x4_3 + 1)), (by first | rfl | (simp; done) | (simp [*]; done)), H', ⟨by have := HJ1.out; have := HK2.out; have := HK3.out; omega⟩, ⟨by (with_reducible repeat (first | refine blk_drewN ?_ _ | refine blk_drew ?_ | refine blk_alloc ?_ _)); refine blk_far ?_ NB196_207.out _; (with_reducible repeat (first | refine blk_drewN ?_ _ | refine blk_drew ?_ | refine blk_alloc ?_ _)); refine blk_far ?_ NB196_207.out _; (with_reducible repeat (first | refine blk_drewN ?_ _ | refine blk_drew ?_ | refine blk_alloc ?_ _)); refine blk_far ?_ NB196_207.out _; (with_reducible repeat (first | refine blk_drewN ?_ _ | refine blk_drew ?_ | refine blk_alloc ?_ _)); refine blk_far ?_ NB196_207.out _; (with_reducible repeat (first | refine blk_drewN ?_ _ | refine blk_drew ?_ | refine blk_alloc ?_ _)); refine blk_far ?_ NB196_207.out _; (with_reducible repeat (first | refine blk_drewN ?_ _ | refine blk_drew ?_ | refine blk_alloc ?_ _)); exact BK196.out⟩, ⟨by repeat (first | (with_reducible first | exact HB.out | apply below_alloc | apply pw_below_drewN | apply below_drew1 | refine below_set ?_ GE196.out | refine below_set ?_ GE204.out | refine below_set ?_ GE207.out) | exact HB.out)⟩⟩
              rw [if_pos c46] at H
              have c46b0 : (((rd_T49 l0_0 x4_3).f1) == 0) = true := beq_iff_eq.mpr c46
              have c46b1 : (((rd_T49 l0_0 x4_3).f1) != 0) = false := bne_eq_false_iff_eq.mpr c46
              clear c46
              by_cases c47 : ((rd_T49 l0_0 (ji30)).f0) ≥ ((rd_T49 l0_0 x4_3).f0)
              · rw [if_pos c47] at H
                have c47b0 : decide (((rd_T49 l0_0 x4_3).f0) ≤ ((rd_T49 l0_0 (ji30)).f0)) = true := decide_eq_true c47
                clear c47
                obtain rfl := Option.some.inj H
                have hcz48_0 : wr.cell? ⟨gb196, 0, none⟩ = some (.slice A0_0 l0_0.length c0_0) := (blk_cell BK196.out 0).trans rfl
                have hcz48_1 : wr.cell? ⟨gb196, 1, none⟩ = some (.slice A0_1 l0_1.length c0_1) := (blk_cell BK196.out 1).trans rfl
                have hcz48_2 : wr.cell? ⟨gb196, 2, none⟩ = some (.int .i64 a0_2) := (blk_cell BK196.out 2).trans rfl
                have hfz48_0 := blk_frozen BK196.out 0
                have hfz48_1 := blk_frozen BK196.out 1
                have hfz48_2 := blk_frozen BK196.out 2
                have p203 : 0 ≤ (x4_3 : Int) := of_decide_eq_true (by first | (with_reducible assumption) | assumption)
                have q203 : x4_3 < (l0_0.length : Int) := of_decide_eq_true (by first | (with_reducible assumption) | assumption)
                obtain ⟨ad203, e203, hx203_0, hx203_1, hx203_2, hx203_3, hx203_4⟩ := at_T49 HR0_0.out x4_3 p203 q203
                cases e203
                replace hx203_0 := (HB.out.cell (World.block_lt_of_cell? w _ hx203_0)).trans hx203_0
                replace hx203_1 := (HB.out.cell (World.block_lt_of_cell? w _ hx203_1)).trans hx203_1
                replace hx203_2 := (HB.out.cell (World.block_lt_of_cell? w _ hx203_2)).trans hx203_2
                replace hx203_3 := (HB.out.cell (World.block_lt_of_cell? w _ hx203_3)).trans hx203_3
                replace hx203_4 := (HB.out.cell (World.block_lt_of_cell? w _ hx203_4)).trans hx203_4
                replace p203 := eq_true p203
                replace q203 := eq_true q203
                go_wp2_with (first | ((with_reducible refine gate_dst (N := 5) rfl ?_); (try (refine gate_guard (by rfl) ?_; dsimp only)); refine box_event ?hg (N := 5) ?hd (cs := #[.int .i64 0, .int .i64 0, .string (⟨#[]⟩ : ByteArray), .string (⟨#[]⟩ : ByteArray), .int .i64 0]) (t := 49) ?hr ?_; (case hd => rfl); (case hg => rfl); (case hr => first | (go_simp; done) | (go_simp; rfl)); intro gb204 hg w49 hbox hb; have n0_ := Aside0.mk (blk_below (g := gb196) (o := .cells #[.slice (some ad203) l0_0.length c0_0, .slice A0_1 l0_1.length c0_1, .int .i64 a0_2] 25 (0, 0)) (by (with_reducible repeat (first | refine blk_drewN ?_ _ | refine blk_drew ?_ | refine blk_alloc ?_ _)); exact BK196.out) hb); have n1_ := Aside0.mk (below_step (by repeat (first | (with_reducible first | exact HB.out | apply below_alloc | apply pw_below_drewN | apply below_drew1 | refine below_set ?_ GE196.out) | exact HB.out)) hb); have n2_ := Aside0.mk (hbox); have n3_ := Aside0.mk ((by rw [hg]; exact (below_size (by repeat (first | (with_reducible first | exact HB.out | apply below_alloc | apply pw_below_drewN | apply below_drew1 | refine below_set ?_ GE196.out) | exact HB.out))) : w.heap.size ≤ gb204)); have n4_ := Aside0.mk ((by rw [hg]; exact (below_size (by repeat (first | (with_reducible first | exact HB.out | apply below_alloc | apply pw_below_drewN | apply below_drew1 | refine below_set ?_ GE196.out) | exact HB.out))) : w.heap.size ≤ gb204)); have n5_ := Aside0.mk ((by rw [hg]; exact Nat.ne_of_lt (blk_lt (g := gb196) (o := .cells #[.slice (some ad203) l0_0.length c0_0, .slice A0_1 l0_1.length c0_1, .int .i64 a0_2] 25 (0, 0)) (by (with_reducible repeat (first | refine blk_drewN ?_ _ | refine blk_drew ?_ | refine blk_alloc ?_ _)); exact BK196.out)) : gb196 ≠ gb204)); have n6_ := Aside0.mk ((by rw [hg]; exact Nat.ne_of_gt (blk_lt (g := gb196) (o := .cells #[.slice (some ad203) l0_0.length c0_0, .slice A0_1 l0_1.length c0_1, .int .i64 a0_2] 25 (0, 0)) (by (with_reducible repeat (first | refine blk_drewN ?_ _ | refine blk_drew ?_ | refine blk_alloc ?_ _)); exact BK196.out)) : gb204 ≠ gb196)); clear BK196; clear HB; have BK196 := n0_; have HB := n1_; have BK204 := n2_; have GW204 := n3_; have GE204 := n4_; have NB196_204 := n5_; have NB204_196 := n6_; clear n0_ n1_ n2_ n3_ n4_ n5_ n6_; clear hb hbox hg; have hnb50 := NB204_196.out; have hnc50 := NB196_204.out; have hcz51_0 : w49.cell? ⟨gb204, 0, none⟩ = some (.int .i64 0) := (blk_cell BK204.out 0).trans rfl; have hcz51_1 : w49.cell? ⟨gb204, 1, none⟩ = some (.int .i64 0) := (blk_cell BK204.out 1).trans rfl; have hcz51_2 : w49.cell? ⟨gb204, 2, none⟩ = some (.string (⟨#[]⟩ : ByteArray)) := (blk_cell BK204.out 2).trans rfl; have hcz51_3 : w49.cell? ⟨gb204, 3, none⟩ = some (.string (⟨#[]⟩ : ByteArray)) := (blk_cell BK204.out 3).trans rfl; have hcz51_4 : w49.cell? ⟨gb204, 4, none⟩ = some (.int .i64 0) := (blk_cell BK204.out 4).trans rfl; have hfz51_0 := blk_frozen BK204.out 0; have hfz51_1 := blk_frozen BK204.out 1; have hfz51_2 := blk_frozen BK204.out 2; have hfz51_3 := blk_frozen BK204.out 3; have hfz51_4 := blk_frozen BK204.out 4) | ((with_reducible refine gate_callee (f := 37) rfl ?_); refine goesL_ (some 62) rfl rfl Try.func37 (by kernel_rfl) rfl #[.agg #[.int .i64 ((rd_T49 l0_0 x4_3).f0), .int .i64 ((rd_T49 l0_0 x4_3).f1), .string ((rd_T49 l0_0 x4_3).f2), .string ((rd_T49 l0_0 x4_3).f3), .int .i64 ((rd_T49 l0_0 x4_3).f4)]] rfl (by (try simp only [List.map_toArray, List.map_cons, List.map_nil]); first | done | rfl | (simp only [List.length_drop, List.length_take]; rfl)) ?_; (with_reducible refine (palinoderef14_meta.calls ((rd_T49 l0_0 x4_3).f0) ((rd_T49 l0_0 x4_3).f1) ((rd_T49 l0_0 x4_3).f2) ((rd_T49 l0_0 x4_3).f3) ((rd_T49 l0_0 x4_3).f4) true _ A22.out).mono ?_); rintro e w52 ⟨rfl, hb⟩; refine ⟨_, rfl, ?_⟩; have n0_ := Aside0.mk (blk_below (g := gb196) (o := .cells #[.slice (some ad203) l0_0.length c0_0, .slice A0_1 l0_1.length c0_1, .int .i64 a0_2] 25 (0, 0)) (by (with_reducible repeat (first | refine blk_drewN ?_ _ | refine blk_drew ?_ | refine blk_alloc ?_ _)); refine blk_far ?_ NB196_204.out _; (with_reducible repeat (first | refine blk_drewN ?_ _ | refine blk_drew ?_ | refine blk_alloc ?_ _)); refine blk_far ?_ NB196_204.out _; (with_reducible repeat (first | refine blk_drewN ?_ _ | refine blk_drew ?_ | refine blk_alloc ?_ _)); refine blk_far ?_ NB196_204.out _; (with_reducible repeat (first | refine blk_drewN ?_ _ | refine blk_drew ?_ | refine blk_alloc ?_ _)); refine blk_far ?_ NB196_204.out _; (with_reducible repeat (first | refine blk_drewN ?_ _ | refine blk_drew ?_ | refine blk_alloc ?_ _)); refine blk_far ?_ NB196_204.out _; (with_reducible repeat (first | refine blk_drewN ?_ _ | refine blk_drew ?_ | refine blk_alloc ?_ _)); exact BK196.out) hb); have n1_ := Aside0.mk (blk_below (g := gb204) (o := .cells #[.int .i64 ((rd_T49 l0_0 x4_3).f0), .int .i64 ((rd_T49 l0_0 x4_3).f1), .string ((rd_T49 l0_0 x4_3).f2), .string ((rd_T49 l0_0 x4_3).f3), .int .i64 ((rd_T49 l0_0 x4_3).f4)] 49 (0, 0)) (by (with_reducible repeat (first | refine blk_drewN ?_ _ | refine blk_drew ?_ | refine blk_alloc ?_ _)); refine blk_put (cs := #[.int .i64 ((rd_T49 l0_0 x4_3).f0), .int .i64 ((rd_T49 l0_0 x4_3).f1), .string ((rd_T49 l0_0 x4_3).f2), .string ((rd_T49 l0_0 x4_3).f3), .int .i64 0]) ?_ 4 _ rfl; (with_reducible repeat (first | refine blk_drewN ?_ _ | refine blk_drew ?_ | refine blk_alloc ?_ _)); refine blk_put (cs := #[.int .i64 ((rd_T49 l0_0 x4_3).f0), .int .i64 ((rd_T49 l0_0 x4_3).f1), .string ((rd_T49 l0_0 x4_3).f2), .string (⟨#[]⟩ : ByteArray), .int .i64 0]) ?_ 3 _ rfl; (with_reducible repeat (first | refine blk_drewN ?_ _ | refine blk_drew ?_ | refine blk_alloc ?_ _)); refine blk_put (cs := #[.int .i64 ((rd_T49 l0_0 x4_3).f0), .int .i64 ((rd_T49 l0_0 x4_3).f1), .string (⟨#[]⟩ : ByteArray), .string (⟨#[]⟩ : ByteArray), .int .i64 0]) ?_ 2 _ rfl; (with_reducible repeat (first | refine blk_drewN ?_ _ | refine blk_drew ?_ | refine blk_alloc ?_ _)); refine blk_put (cs := #[.int .i64 ((rd_T49 l0_0 x4_3).f0), .int .i64 0, .string (⟨#[]⟩ : ByteArray), .string (⟨#[]⟩ : ByteArray), .int .i64 0]) ?_ 1 _ rfl; (with_reducible repeat (first | refine blk_drewN ?_ _ | refine blk_drew ?_ | refine blk_alloc ?_ _)); refine blk_put (cs := #[.int .i64 0, .int .i64 0, .string (⟨#[]⟩ : ByteArray), .string (⟨#[]⟩ : ByteArray), .int .i64 0]) ?_ 0 _ rfl; (with_reducible repeat (first | refine blk_drewN ?_ _ | refine blk_drew ?_ | refine blk_alloc ?_ _)); exact BK204.out) hb); have n2_ := Aside0.mk (below_step (by repeat (first | (with_reducible first | exact HB.out | apply below_alloc | apply pw_below_drewN | apply below_drew1 | refine below_set ?_ GE196.out | refine below_set ?_ GE204.out) | exact HB.out)) hb); clear BK196; clear BK204; clear HB; have BK196 := n0_; have BK204 := n1_; have HB := n2_; clear n0_ n1_ n2_; (try clear hb); (try clear hb2); (try clear hk); (try clear hi); have hcz53_0 : w52.cell? ⟨gb196, 0, none⟩ = some (.slice (some ad203) l0_0.length c0_0) := (blk_cell BK196.out 0).trans rfl; have hcz53_1 : w52.cell? ⟨gb196, 1, none⟩ = some (.slice A0_1 l0_1.length c0_1) := (blk_cell BK196.out 1).trans rfl; have hcz53_2 : w52.cell? ⟨gb196, 2, none⟩ = some (.int .i64 a0_2) := (blk_cell BK196.out 2).trans rfl; have hfz53_0 := blk_frozen BK196.out 0; have hfz53_1 := blk_frozen BK196.out 1; have hfz53_2 := blk_frozen BK196.out 2; have p206 : 0 ≤ ((ji30) : Int) := of_decide_eq_true (by first | (with_reducible assumption) | assumption); have q206 : (ji30) < (l0_0.length : Int) := of_decide_eq_true (by first | (with_reducible assumption) | assumption); obtain ⟨ad206, e206, hx206_0, hx206_1, hx206_2, hx206_3, hx206_4⟩ := at_T49 HR0_0.out (ji30) p206 q206; obtain rfl : ad203 = ad206 := (by injection e206); replace hx206_0 := (HB.out.cell (World.block_lt_of_cell? w _ hx206_0)).trans hx206_0; replace hx206_1 := (HB.out.cell (World.block_lt_of_cell? w _ hx206_1)).trans hx206_1; replace hx206_2 := (HB.out.cell (World.block_lt_of_cell? w _ hx206_2)).trans hx206_2; replace hx206_3 := (HB.out.cell (World.block_lt_of_cell? w _ hx206_3)).trans hx206_3; replace hx206_4 := (HB.out.cell (World.block_lt_of_cell? w _ hx206_4)).trans hx206_4; replace p206 := eq_true p206; replace q206 := eq_true q206) | ((with_reducible refine gate_dst (N := 7) rfl ?_); (try (refine gate_guard (by rfl) ?_; dsimp only)); refine box_event ?hg (N := 7) ?hd (cs := #[.int .i64 0, .int .i64 0, .string (⟨#[]⟩ : ByteArray), .string (⟨#[]⟩ : ByteArray), .int .i64 0]) (t := 49) ?hr ?_; (case hd => rfl); (case hg => rfl); (case hr => first | (go_simp; done) | (go_simp; rfl)); intro gb207 hg w54 hbox hb; have n0_ := Aside0.mk (blk_below (g := gb196) (o := .cells #[.slice (some ad203) l0_0.length c0_0, .slice A0_1 l0_1.length c0_1, .int .i64 a0_2] 25 (0, 0)) (by (with_reducible repeat (first | refine blk_drewN ?_ _ | refine blk_drew ?_ | refine blk_alloc ?_ _)); exact BK196.out) hb); have n1_ := Aside0.mk (blk_below (g := gb204) (o := .cells #[.int .i64 ((rd_T49 l0_0 x4_3).f0), .int .i64 ((rd_T49 l0_0 x4_3).f1), .string ((rd_T49 l0_0 x4_3).f2), .string ((rd_T49 l0_0 x4_3).f3), .int .i64 ((rd_T49 l0_0 x4_3).f4)] 49 (0, 0)) (by (with_reducible repeat (first | refine blk_drewN ?_ _ | refine blk_drew ?_ | refine blk_alloc ?_ _)); exact BK204.out) hb); have n2_ := Aside0.mk (below_step (by repeat (first | (with_reducible first | exact HB.out | apply below_alloc | apply pw_below_drewN | apply below_drew1 | refine below_set ?_ GE196.out | refine below_set ?_ GE204.out) | exact HB.out)) hb); have n3_ := Aside0.mk (hbox); have n4_ := Aside0.mk ((by rw [hg]; exact (below_size (by repeat (first | (with_reducible first | exact HB.out | apply below_alloc | apply pw_below_drewN | apply below_drew1 | refine below_set ?_ GE196.out | refine below_set ?_ GE204.out) | exact HB.out))) : w.heap.size ≤ gb207)); have n5_ := Aside0.mk ((by rw [hg]; exact (below_size (by repeat (first | (with_reducible first | exact HB.out | apply below_alloc | apply pw_below_drewN | apply below_drew1 | refine below_set ?_ GE196.out | refine below_set ?_ GE204.out) | exact HB.out))) : w.heap.size ≤ gb207)); have n6_ := Aside0.mk ((by rw [hg]; exact Nat.ne_of_lt (blk_lt (g := gb196) (o := .cells #[.slice (some ad203) l0_0.length c0_0, .slice A0_1 l0_1.length c0_1, .int .i64 a0_2] 25 (0, 0)) (by (with_reducible repeat (first | refine blk_drewN ?_ _ | refine blk_drew ?_ | refine blk_alloc ?_ _)); exact BK196.out)) : gb196 ≠ gb207)); have n7_ := Aside0.mk ((by rw [hg]; exact Nat.ne_of_gt (blk_lt (g := gb196) (o := .cells #[.slice (some ad203) l0_0.length c0_0, .slice A0_1 l0_1.length c0_1, .int .i64 a0_2] 25 (0, 0)) (by (with_reducible repeat (first | refine blk_drewN ?_ _ | refine blk_drew ?_ | refine blk_alloc ?_ _)); exact BK196.out)) : gb207 ≠ gb196)); have n8_ := Aside0.mk ((by rw [hg]; exact Nat.ne_of_lt (blk_lt (g := gb204) (o := .cells #[.int .i64 ((rd_T49 l0_0 x4_3).f0), .int .i64 ((rd_T49 l0_0 x4_3).f1), .string ((rd_T49 l0_0 x4_3).f2), .string ((rd_T49 l0_0 x4_3).f3), .int .i64 ((rd_T49 l0_0 x4_3).f4)] 49 (0, 0)) (by (with_reducible repeat (first | refine blk_drewN ?_ _ | refine blk_drew ?_ | refine blk_alloc ?_ _)); exact BK204.out)) : gb204 ≠ gb207)); have n9_ := Aside0.mk ((by rw [hg]; exact Nat.ne_of_gt (blk_lt (g := gb204) (o := .cells #[.int .i64 ((rd_T49 l0_0 x4_3).f0), .int .i64 ((rd_T49 l0_0 x4_3).f1), .string ((rd_T49 l0_0 x4_3).f2), .string ((rd_T49 l0_0 x4_3).f3), .int .i64 ((rd_T49 l0_0 x4_3).f4)] 49 (0, 0)) (by (with_reducible repeat (first | refine blk_drewN ?_ _ | refine blk_drew ?_ | refine blk_alloc ?_ _)); exact BK204.out)) : gb207 ≠ gb204)); clear BK196; clear BK204; clear HB; have BK196 := n0_; have BK204 := n1_; have HB := n2_; have BK207 := n3_; have GW207 := n4_; have GE207 := n5_; have NB196_207 := n6_; have NB207_196 := n7_; have NB204_207 := n8_; have NB207_204 := n9_; clear n0_ n1_ n2_ n3_ n4_ n5_ n6_ n7_ n8_ n9_; clear hb hbox hg; have hnb55 := NB207_196.out; have hnc55 := NB196_207.out; have hnb56 := NB207_204.out; have hnc56 := NB204_207.out; have hcz57_0 : w54.cell? ⟨gb207, 0, none⟩ = some (.int .i64 0) := (blk_cell BK207.out 0).trans rfl; have hcz57_1 : w54.cell? ⟨gb207, 1, none⟩ = some (.int .i64 0) := (blk_cell BK207.out 1).trans rfl; have hcz57_2 : w54.cell? ⟨gb207, 2, none⟩ = some (.string (⟨#[]⟩ : ByteArray)) := (blk_cell BK207.out 2).trans rfl; have hcz57_3 : w54.cell? ⟨gb207, 3, none⟩ = some (.string (⟨#[]⟩ : ByteArray)) := (blk_cell BK207.out 3).trans rfl; have hcz57_4 : w54.cell? ⟨gb207, 4, none⟩ = some (.int .i64 0) := (blk_cell BK207.out 4).trans rfl; have hfz57_0 := blk_frozen BK207.out 0; have hfz57_1 := blk_frozen BK207.out 1; have hfz57_2 := blk_frozen BK207.out 2; have hfz57_3 := blk_frozen BK207.out 3; have hfz57_4 := blk_frozen BK207.out 4; have hcz58_0 : w54.cell? ⟨gb204, 0, none⟩ = some (.int .i64 ((rd_T49 l0_0 x4_3).f0)) := (blk_cell BK204.out 0).trans rfl; have hcz58_1 : w54.cell? ⟨gb204, 1, none⟩ = some (.int .i64 ((rd_T49 l0_0 x4_3).f1)) := (blk_cell BK204.out 1).trans rfl; have hcz58_2 : w54.cell? ⟨gb204, 2, none⟩ = some (.string ((rd_T49 l0_0 x4_3).f2)) := (blk_cell BK204.out 2).trans rfl; have hcz58_3 : w54.cell? ⟨gb204, 3, none⟩ = some (.string ((rd_T49 l0_0 x4_3).f3)) := (blk_cell BK204.out 3).trans rfl; have hcz58_4 : w54.cell? ⟨gb204, 4, none⟩ = some (.int .i64 ((rd_T49 l0_0 x4_3).f4)) := (blk_cell BK204.out 4).trans rfl; have hfz58_0 := blk_frozen BK204.out 0; have hfz58_1 := blk_frozen BK204.out 1; have hfz58_2 := blk_frozen BK204.out 2; have hfz58_3 := blk_frozen BK204.out 3; have hfz58_4 := blk_frozen BK204.out 4))
                go_ret
                exact ⟨by first | rfl | (simp [errW_none, errW_some] <;> rfl) | (simp only [← hji30]; first | rfl | (simp [errW_none, errW_some] <;> rfl)) | (simp [*, errW_none, errW_some] <;> rfl), by repeat (first | (with_reducible first | exact HB.out | apply below_alloc | apply pw_below_drewN | apply below_drew1 | refine below_set ?_ GE196.out | refine below_set ?_ GE204.out | refine below_set ?_ GE207.out) | exact HB.out)⟩
              rw [if_neg c47] at H
              have c47b0 : decide (((rd_T49 l0_0 x4_3).f0) ≤ ((rd_T49 l0_0 (ji30)).f0)) = false := decide_eq_false c47
              clear c47
              by_cases c59 : ((rd_T49 l0_0 x4_3).f1) > 0
              rotate_left
              · rw [if_neg c59] at H
                have c59b0 : decide (0 < ((rd_T49 l0_0 x4_3).f1)) = false := decide_eq_false c59
                clear c59
                have H' := Aside0.mk H
                clear H
                have hcz83_0 : wr.cell? ⟨gb196, 0, none⟩ = some (.slice A0_0 l0_0.length c0_0) := (blk_cell BK196.out 0).trans rfl
                have hcz83_1 : wr.cell? ⟨gb196, 1, none⟩ = some (.slice A0_1 l0_1.length c0_1) := (blk_cell BK196.out 1).trans rfl
                have hcz83_2 : wr.cell? ⟨gb196, 2, none⟩ = some (.int .i64 a0_2) := (blk_cell BK196.out 2).trans rfl
                have hfz83_0 := blk_frozen BK196.out 0
                have hfz83_1 := blk_frozen BK196.out 1
                have hfz83_2 := blk_frozen BK196.out 2
                have p203 : 0 ≤ (x4_3 : Int) := of_decide_eq_true (by first | (with_reducible assumption) | assumption)
                have q203 : x4_3 < (l0_0.length : Int) := of_decide_eq_true (by first | (with_reducible assumption) | assumption)
                obtain ⟨ad203, e203, hx203_0, hx203_1, hx203_2, hx203_3, hx203_4⟩ := at_T49 HR0_0.out x4_3 p203 q203
                cases e203
                replace hx203_0 := (HB.out.cell (World.block_lt_of_cell? w _ hx203_0)).trans hx203_0
                replace hx203_1 := (HB.out.cell (World.block_lt_of_cell? w _ hx203_1)).trans hx203_1
                replace hx203_2 := (HB.out.cell (World.block_lt_of_cell? w _ hx203_2)).trans hx203_2
                replace hx203_3 := (HB.out.cell (World.block_lt_of_cell? w _ hx203_3)).trans hx203_3
                replace hx203_4 := (HB.out.cell (World.block_lt_of_cell? w _ hx203_4)).trans hx203_4
                replace p203 := eq_true p203
                replace q203 := eq_true q203
                go_wp2_with (first | ((with_reducible refine gate_dst (N := 5) rfl ?_); (try (refine gate_guard (by rfl) ?_; dsimp only)); refine box_event ?hg (N := 5) ?hd (cs := #[.int .i64 0, .int .i64 0, .string (⟨#[]⟩ : ByteArray), .string (⟨#[]⟩ : ByteArray), .int .i64 0]) (t := 49) ?hr ?_; (case hd => rfl); (case hg => rfl); (case hr => first | (go_simp; done) | (go_simp; rfl)); intro gb204 hg w84 hbox hb; have n0_ := Aside0.mk (blk_below (g := gb196) (o := .cells #[.slice (some ad203) l0_0.length c0_0, .slice A0_1 l0_1.length c0_1, .int .i64 a0_2] 25 (0, 0)) (by (with_reducible repeat (first | refine blk_drewN ?_ _ | refine blk_drew ?_ | refine blk_alloc ?_ _)); exact BK196.out) hb); have n1_ := Aside0.mk (below_step (by repeat (first | (with_reducible first | exact HB.out | apply below_alloc | apply pw_below_drewN | apply below_drew1 | refine below_set ?_ GE196.out) | exact HB.out)) hb); have n2_ := Aside0.mk (hbox); have n3_ := Aside0.mk ((by rw [hg]; exact (below_size (by repeat (first | (with_reducible first | exact HB.out | apply below_alloc | apply pw_below_drewN | apply below_drew1 | refine below_set ?_ GE196.out) | exact HB.out))) : w.heap.size ≤ gb204)); have n4_ := Aside0.mk ((by rw [hg]; exact (below_size (by repeat (first | (with_reducible first | exact HB.out | apply below_alloc | apply pw_below_drewN | apply below_drew1 | refine below_set ?_ GE196.out) | exact HB.out))) : w.heap.size ≤ gb204)); have n5_ := Aside0.mk ((by rw [hg]; exact Nat.ne_of_lt (blk_lt (g := gb196) (o := .cells #[.slice (some ad203) l0_0.length c0_0, .slice A0_1 l0_1.length c0_1, .int .i64 a0_2] 25 (0, 0)) (by (with_reducible repeat (first | refine blk_drewN ?_ _ | refine blk_drew ?_ | refine blk_alloc ?_ _)); exact BK196.out)) : gb196 ≠ gb204)); have n6_ := Aside0.mk ((by rw [hg]; exact Nat.ne_of_gt (blk_lt (g := gb196) (o := .cells #[.slice (some ad203) l0_0.length c0_0, .slice A0_1 l0_1.length c0_1, .int .i64 a0_2] 25 (0, 0)) (by (with_reducible repeat (first | refine blk_drewN ?_ _ | refine blk_drew ?_ | refine blk_alloc ?_ _)); exact BK196.out)) : gb204 ≠ gb196)); clear BK196; clear HB; have BK196 := n0_; have HB := n1_; have BK204 := n2_; have GW204 := n3_; have GE204 := n4_; have NB196_204 := n5_; have NB204_196 := n6_; clear n0_ n1_ n2_ n3_ n4_ n5_ n6_; clear hb hbox hg; have hnb85 := NB204_196.out; have hnc85 := NB196_204.out; have hcz86_0 : w84.cell? ⟨gb204, 0, none⟩ = some (.int .i64 0) := (blk_cell BK204.out 0).trans rfl; have hcz86_1 : w84.cell? ⟨gb204, 1, none⟩ = some (.int .i64 0) := (blk_cell BK204.out 1).trans rfl; have hcz86_2 : w84.cell? ⟨gb204, 2, none⟩ = some (.string (⟨#[]⟩ : ByteArray)) := (blk_cell BK204.out 2).trans rfl; have hcz86_3 : w84.cell? ⟨gb204, 3, none⟩ = some (.string (⟨#[]⟩ : ByteArray)) := (blk_cell BK204.out 3).trans rfl; have hcz86_4 : w84.cell? ⟨gb204, 4, none⟩ = some (.int .i64 0) := (blk_cell BK204.out 4).trans rfl; have hfz86_0 := blk_frozen BK204.out 0; have hfz86_1 := blk_frozen BK204.out 1; have hfz86_2 := blk_frozen BK204.out 2; have hfz86_3 := blk_frozen BK204.out 3; have hfz86_4 := blk_frozen BK204.out 4) | ((with_reducible refine gate_callee (f := 37) rfl ?_); refine goesL_ (some 62) rfl rfl Try.func37 (by kernel_rfl) rfl #[.agg #[.int .i64 ((rd_T49 l0_0 x4_3).f0), .int .i64 ((rd_T49 l0_0 x4_3).f1), .string ((rd_T49 l0_0 x4_3).f2), .string ((rd_T49 l0_0 x4_3).f3), .int .i64 ((rd_T49 l0_0 x4_3).f4)]] rfl (by (try simp only [List.map_toArray, List.map_cons, List.map_nil]); first | done | rfl | (simp only [List.length_drop, List.length_take]; rfl)) ?_; (with_reducible refine (palinoderef14_meta.calls ((rd_T49 l0_0 x4_3).f0) ((rd_T49 l0_0 x4_3).f1) ((rd_T49 l0_0 x4_3).f2) ((rd_T49 l0_0 x4_3).f3) ((rd_T49 l0_0 x4_3).f4) true _ A22.out).mono ?_); rintro e w87 ⟨rfl, hb⟩; refine ⟨_, rfl, ?_⟩; have n0_ := Aside0.mk (blk_below (g := gb196) (o := .cells #[.slice (some ad203) l0_0.length c0_0, .slice A0_1 l0_1.length c0_1, .int .i64 a0_2] 25 (0, 0)) (by (with_reducible repeat (first | refine blk_drewN ?_ _ | refine blk_drew ?_ | refine blk_alloc ?_ _)); refine blk_far ?_ NB196_204.out _; (with_reducible repeat (first | refine blk_drewN ?_ _ | refine blk_drew ?_ | refine blk_alloc ?_ _)); refine blk_far ?_ NB196_204.out _; (with_reducible repeat (first | refine blk_drewN ?_ _ | refine blk_drew ?_ | refine blk_alloc ?_ _)); refine blk_far ?_ NB196_204.out _; (with_reducible repeat (first | refine blk_drewN ?_ _ | refine blk_drew ?_ | refine blk_alloc ?_ _)); refine blk_far ?_ NB196_204.out _; (with_reducible repeat (first | refine blk_drewN ?_ _ | refine blk_drew ?_ | refine blk_alloc ?_ _)); refine blk_far ?_ NB196_204.out _; (with_reducible repeat (first | refine blk_drewN ?_ _ | refine blk_drew ?_ | refine blk_alloc ?_ _)); exact BK196.out) hb); have n1_ := Aside0.mk (blk_below (g := gb204) (o := .cells #[.int .i64 ((rd_T49 l0_0 x4_3).f0), .int .i64 ((rd_T49 l0_0 x4_3).f1), .string ((rd_T49 l0_0 x4_3).f2), .string ((rd_T49 l0_0 x4_3).f3), .int .i64 ((rd_T49 l0_0 x4_3).f4)] 49 (0, 0)) (by (with_reducible repeat (first | refine blk_drewN ?_ _ | refine blk_drew ?_ | refine blk_alloc ?_ _)); refine blk_put (cs := #[.int .i64 ((rd_T49 l0_0 x4_3).f0), .int .i64 ((rd_T49 l0_0 x4_3).f1), .string ((rd_T49 l0_0 x4_3).f2), .string ((rd_T49 l0_0 x4_3).f3), .int .i64 0]) ?_ 4 _ rfl; (with_reducible repeat (first | refine blk_drewN ?_ _ | refine blk_drew ?_ | refine blk_alloc ?_ _)); refine blk_put (cs := #[.int .i64 ((rd_T49 l0_0 x4_3).f0), .int .i64 ((rd_T49 l0_0 x4_3).f1), .string ((rd_T49 l0_0 x4_3).f2), .string (⟨#[]⟩ : ByteArray), .int .i64 0]) ?_ 3 _ rfl; (with_reducible repeat (first | refine blk_drewN ?_ _ | refine blk_drew ?_ | refine blk_alloc ?_ _)); refine blk_put (cs := #[.int .i64 ((rd_T49 l0_0 x4_3).f0), .int .i64 ((rd_T49 l0_0 x4_3).f1), .string (⟨#[]⟩ : ByteArray), .string (⟨#[]⟩ : ByteArray), .int .i64 0]) ?_ 2 _ rfl; (with_reducible repeat (first | refine blk_drewN ?_ _ | refine blk_drew ?_ | refine blk_alloc ?_ _)); refine blk_put (cs := #[.int .i64 ((rd_T49 l0_0 x4_3).f0), .int .i64 0, .string (⟨#[]⟩ : ByteArray), .string (⟨#[]⟩ : ByteArray), .int .i64 0]) ?_ 1 _ rfl; (with_reducible repeat (first | refine blk_drewN ?_ _ | refine blk_drew ?_ | refine blk_alloc ?_ _)); refine blk_put (cs := #[.int .i64 0, .int .i64 0, .string (⟨#[]⟩ : ByteArray), .string (⟨#[]⟩ : ByteArray), .int .i64 0]) ?_ 0 _ rfl; (with_reducible repeat (first | refine blk_drewN ?_ _ | refine blk_drew ?_ | refine blk_alloc ?_ _)); exact BK204.out) hb); have n2_ := Aside0.mk (below_step (by repeat (first | (with_reducible first | exact HB.out | apply below_alloc | apply pw_below_drewN | apply below_drew1 | refine below_set ?_ GE196.out | refine below_set ?_ GE204.out) | exact HB.out)) hb); clear BK196; clear BK204; clear HB; have BK196 := n0_; have BK204 := n1_; have HB := n2_; clear n0_ n1_ n2_; (try clear hb); (try clear hb2); (try clear hk); (try clear hi); have hcz88_0 : w87.cell? ⟨gb196, 0, none⟩ = some (.slice (some ad203) l0_0.length c0_0) := (blk_cell BK196.out 0).trans rfl; have hcz88_1 : w87.cell? ⟨gb196, 1, none⟩ = some (.slice A0_1 l0_1.length c0_1) := (blk_cell BK196.out 1).trans rfl; have hcz88_2 : w87.cell? ⟨gb196, 2, none⟩ = some (.int .i64 a0_2) := (blk_cell BK196.out 2).trans rfl; have hfz88_0 := blk_frozen BK196.out 0; have hfz88_1 := blk_frozen BK196.out 1; have hfz88_2 := blk_frozen BK196.out 2; have p206 : 0 ≤ ((ji30) : Int) := of_decide_eq_true (by first | (with_reducible assumption) | assumption); have q206 : (ji30) < (l0_0.length : Int) := of_decide_eq_true (by first | (with_reducible assumption) | assumption); obtain ⟨ad206, e206, hx206_0, hx206_1, hx206_2, hx206_3, hx206_4⟩ := at_T49 HR0_0.out (ji30) p206 q206; obtain rfl : ad203 = ad206 := (by injection e206); replace hx206_0 := (HB.out.cell (World.block_lt_of_cell? w _ hx206_0)).trans hx206_0; replace hx206_1 := (HB.out.cell (World.block_lt_of_cell? w _ hx206_1)).trans hx206_1; replace hx206_2 := (HB.out.cell (World.block_lt_of_cell? w _ hx206_2)).trans hx206_2; replace hx206_3 := (HB.out.cell (World.block_lt_of_cell? w _ hx206_3)).trans hx206_3; replace hx206_4 := (HB.out.cell (World.block_lt_of_cell? w _ hx206_4)).trans hx206_4; replace p206 := eq_true p206; replace q206 := eq_true q206) | ((with_reducible refine gate_dst (N := 7) rfl ?_); (try (refine gate_guard (by rfl) ?_; dsimp only)); refine box_event ?hg (N := 7) ?hd (cs := #[.int .i64 0, .int .i64 0, .string (⟨#[]⟩ : ByteArray), .string (⟨#[]⟩ : ByteArray), .int .i64 0]) (t := 49) ?hr ?_; (case hd => rfl); (case hg => rfl); (case hr => first | (go_simp; done) | (go_simp; rfl)); intro gb207 hg w89 hbox hb; have n0_ := Aside0.mk (blk_below (g := gb196) (o := .cells #[.slice (some ad203) l0_0.length c0_0, .slice A0_1 l0_1.length c0_1, .int .i64 a0_2] 25 (0, 0)) (by (with_reducible repeat (first | refine blk_drewN ?_ _ | refine blk_drew ?_ | refine blk_alloc ?_ _)); exact BK196.out) hb); have n1_ := Aside0.mk (blk_below (g := gb204) (o := .cells #[.int .i64 ((rd_T49 l0_0 x4_3).f0), .int .i64 ((rd_T49 l0_0 x4_3).f1), .string ((rd_T49 l0_0 x4_3).f2), .string ((rd_T49 l0_0 x4_3).f3), .int .i64 ((rd_T49 l0_0 x4_3).f4)] 49 (0, 0)) (by (with_reducible repeat (first | refine blk_drewN ?_ _ | refine blk_drew ?_ | refine blk_alloc ?_ _)); exact BK204.out) hb); have n2_ := Aside0.mk (below_step (by repeat (first | (with_reducible first | exact HB.out | apply below_alloc | apply pw_below_drewN | apply below_drew1 | refine below_set ?_ GE196.out | refine below_set ?_ GE204.out) | exact HB.out)) hb); have n3_ := Aside0.mk (hbox); have n4_ := Aside0.mk ((by rw [hg]; exact (below_size (by repeat (first | (with_reducible first | exact HB.out | apply below_alloc | apply pw_below_drewN | apply below_drew1 | refine below_set ?_ GE196.out | refine below_set ?_ GE204.out) | exact HB.out))) : w.heap.size ≤ gb207)); have n5_ := Aside0.mk ((by rw [hg]; exact (below_size (by repeat (first | (with_reducible first | exact HB.out | apply below_alloc | apply pw_below_drewN | apply below_drew1 | refine below_set ?_ GE196.out | refine below_set ?_ GE204.out) | exact HB.out))) : w.heap.size ≤ gb207)); have n6_ := Aside0.mk ((by rw [hg]; exact Nat.ne_of_lt (blk_lt (g := gb196) (o := .cells #[.slice (some ad203) l0_0.length c0_0, .slice A0_1 l0_1.length c0_1, .int .i64 a0_2] 25 (0, 0)) (by (with_reducible repeat (first | refine blk_drewN ?_ _ | refine blk_drew ?_ | refine blk_alloc ?_ _)); exact BK196.out)) : gb196 ≠ gb207)); have n7_ := Aside0.mk ((by rw [hg]; exact Nat.ne_of_gt (blk_lt (g := gb196) (o := .cells #[.slice (some ad203) l0_0.length c0_0, .slice A0_1 l0_1.length c0_1, .int .i64 a0_2] 25 (0, 0)) (by (with_reducible repeat (first | refine blk_drewN ?_ _ | refine blk_drew ?_ | refine blk_alloc ?_ _)); exact BK196.out)) : gb207 ≠ gb196)); have n8_ := Aside0.mk ((by rw [hg]; exact Nat.ne_of_lt (blk_lt (g := gb204) (o := .cells #[.int .i64 ((rd_T49 l0_0 x4_3).f0), .int .i64 ((rd_T49 l0_0 x4_3).f1), .string ((rd_T49 l0_0 x4_3).f2), .string ((rd_T49 l0_0 x4_3).f3), .int .i64 ((rd_T49 l0_0 x4_3).f4)] 49 (0, 0)) (by (with_reducible repeat (first | refine blk_drewN ?_ _ | refine blk_drew ?_ | refine blk_alloc ?_ _)); exact BK204.out)) : gb204 ≠ gb207)); have n9_ := Aside0.mk ((by rw [hg]; exact Nat.ne_of_gt (blk_lt (g := gb204) (o := .cells #[.int .i64 ((rd_T49 l0_0 x4_3).f0), .int .i64 ((rd_T49 l0_0 x4_3).f1), .string ((rd_T49 l0_0 x4_3).f2), .string ((rd_T49 l0_0 x4_3).f3), .int .i64 ((rd_T49 l0_0 x4_3).f4)] 49 (0, 0)) (by (with_reducible repeat (first | refine blk_drewN ?_ _ | refine blk_drew ?_ | refine blk_alloc ?_ _)); exact BK204.out)) : gb207 ≠ gb204)); clear BK196; clear BK204; clear HB; have BK196 := n0_; have BK204 := n1_; have HB := n2_; have BK207 := n3_; have GW207 := n4_; have GE207 := n5_; have NB196_207 := n6_; have NB207_196 := n7_; have NB204_207 := n8_; have NB207_204 := n9_; clear n0_ n1_ n2_ n3_ n4_ n5_ n6_ n7_ n8_ n9_; clear hb hbox hg; have hnb90 := NB207_196.out; have hnc90 := NB196_207.out; have hnb91 := NB207_204.out; have hnc91 := NB204_207.out; have hcz92_0 : w89.cell? ⟨gb207, 0, none⟩ = some (.int .i64 0) := (blk_cell BK207.out 0).trans rfl; have hcz92_1 : w89.cell? ⟨gb207, 1, none⟩ = some (.int .i64 0) := (blk_cell BK207.out 1).trans rfl; have hcz92_2 : w89.cell? ⟨gb207, 2, none⟩ = some (.string (⟨#[]⟩ : ByteArray)) := (blk_cell BK207.out 2).trans rfl; have hcz92_3 : w89.cell? ⟨gb207, 3, none⟩ = some (.string (⟨#[]⟩ : ByteArray)) := (blk_cell BK207.out 3).trans rfl; have hcz92_4 : w89.cell? ⟨gb207, 4, none⟩ = some (.int .i64 0) := (blk_cell BK207.out 4).trans rfl; have hfz92_0 := blk_frozen BK207.out 0; have hfz92_1 := blk_frozen BK207.out 1; have hfz92_2 := blk_frozen BK207.out 2; have hfz92_3 := blk_frozen BK207.out 3; have hfz92_4 := blk_frozen BK207.out 4; have hcz93_0 : w89.cell? ⟨gb204, 0, none⟩ = some (.int .i64 ((rd_T49 l0_0 x4_3).f0)) := (blk_cell BK204.out 0).trans rfl; have hcz93_1 : w89.cell? ⟨gb204, 1, none⟩ = some (.int .i64 ((rd_T49 l0_0 x4_3).f1)) := (blk_cell BK204.out 1).trans rfl; have hcz93_2 : w89.cell? ⟨gb204, 2, none⟩ = some (.string ((rd_T49 l0_0 x4_3).f2)) := (blk_cell BK204.out 2).trans rfl; have hcz93_3 : w89.cell? ⟨gb204, 3, none⟩ = some (.string ((rd_T49 l0_0 x4_3).f3)) := (blk_cell BK204.out 3).trans rfl; have hcz93_4 : w89.cell? ⟨gb204, 4, none⟩ = some (.int .i64 ((rd_T49 l0_0 x4_3).f4)) := (blk_cell BK204.out 4).trans rfl; have hfz93_0 := blk_frozen BK204.out 0; have hfz93_1 := blk_frozen BK204.out 1; have hfz93_2 := blk_frozen BK204.out 2; have hfz93_3 := blk_frozen BK204.out 3; have hfz93_4 := blk_frozen BK204.out 4))
                go_roundg k3
                case measure => have := HJ1.out; have := HK2.out; have := HK3.out; omega
                case rel => exact ⟨(wrap64 (x4_3 + 1)), (by first | rfl | (simp; done) | (simp [*]; done)), H', ⟨by have := HJ1.out; have := HK2.out; have := HK3.out; omega⟩, ⟨by (with_reducible repeat (first | refine blk_drewN ?_ _ | refine blk_drew ?_ | refine blk_alloc ?_ _)); refine blk_far ?_ NB196_207.out _; (with_reducible repeat (first | refine blk_drewN ?_ _ | refine blk_drew ?_ | refine blk_alloc ?_ _)); refine blk_far ?_ NB196_207.out _; (with_reducible repeat (first | refine blk_drewN ?_ _ | refine blk_drew ?_ | refine blk_alloc ?_ _)); refine blk_far ?_ NB196_207.out _; (with_reducible repeat (first | refine blk_drewN ?_ _ | refine blk_drew ?_ | refine blk_alloc ?_ _)); refine blk_far ?_ NB196_207.out _; (with_reducible repeat (first | refine blk_drewN ?_ _ | refine blk_drew ?_ | refine blk_alloc ?_ _)); refine blk_far ?_ NB196_207.out _; (with_reducible repeat (first | refine blk_drewN ?_ _ | refine blk_drew ?_ | refine blk_alloc ?_ _)); exact BK196.out⟩, ⟨by repeat (first | (with_reducible first | exact HB.out | apply below_alloc | apply pw_below_drewN | apply below_drew1 | refine below_set ?_ GE196.out | refine below_set ?_ GE204.out | refine below_set ?_ GE207.out) | exact HB.out)⟩⟩
              rw [if_pos c59] at H
              have c59b0 : decide (0 < ((rd_T49 l0_0 x4_3).f1)) = true := decide_eq_true c59
              clear c59
              by_cases c60 : ((Op.bytesLess (((rd_T49 l0_0 (ji30)).f3).toList) (((rd_T49 l0_0 x4_3).f2).toList)) = true)
              rotate_left
              · rw [if_neg c60] at H
                have c60b0 : (Op.bytesLess (((rd_T49 l0_0 (ji30)).f3).toList) (((rd_T49 l0_0 x4_3).f2).toList)) = false := by simpa using c60
                clear c60
                obtain rfl := Option.some.inj H
                have hcz72_0 : wr.cell? ⟨gb196, 0, none⟩ = some (.slice A0_0 l0_0.length c0_0) := (blk_cell BK196.out 0).trans rfl
                have hcz72_1 : wr.cell? ⟨gb196, 1, none⟩ = some (.slice A0_1 l0_1.length c0_1) := (blk_cell BK196.out 1).trans rfl
                have hcz72_2 : wr.cell? ⟨gb196, 2, none⟩ = some (.int .i64 a0_2) := (blk_cell BK196.out 2).trans rfl
                have hfz72_0 := blk_frozen BK196.out 0
                have hfz72_1 := blk_frozen BK196.out 1
                have hfz72_2 := blk_frozen BK196.out 2
                have p203 : 0 ≤ (x4_3 : Int) := of_decide_eq_true (by first | (with_reducible assumption) | assumption)
                have q203 : x4_3 < (l0_0.length : Int) := of_decide_eq_true (by first | (with_reducible assumption) | assumption)
                obtain ⟨ad203, e203, hx203_0, hx203_1, hx203_2, hx203_3, hx203_4⟩ := at_T49 HR0_0.out x4_3 p203 q203
                cases e203
                replace hx203_0 := (HB.out.cell (World.block_lt_of_cell? w _ hx203_0)).trans hx203_0
                replace hx203_1 := (HB.out.cell (World.block_lt_of_cell? w _ hx203_1)).trans hx203_1
                replace hx203_2 := (HB.out.cell (World.block_lt_of_cell? w _ hx203_2)).trans hx203_2
                replace hx203_3 := (HB.out.cell (World.block_lt_of_cell? w _ hx203_3)).trans hx203_3
                replace hx203_4 := (HB.out.cell (World.block_lt_of_cell? w _ hx203_4)).trans hx203_4
                replace p203 := eq_true p203
                replace q203 := eq_true q203
                go_wp2_with (first | ((with_reducible refine gate_dst (N := 5) rfl ?_); (try (refine gate_guard (by rfl) ?_; dsimp only)); refine box_event ?hg (N := 5) ?hd (cs := #[.int .i64 0, .int .i64 0, .string (⟨#[]⟩ : ByteArray), .string (⟨#[]⟩ : ByteArray), .int .i64 0]) (t := 49) ?hr ?_; (case hd => rfl); (case hg => rfl); (case hr => first | (go_simp; done) | (go_simp; rfl)); intro gb204 hg w73 hbox hb; have n0_ := Aside0.mk (blk_below (g := gb196) (o := .cells #[.slice (some ad203) l0_0.length c0_0, .slice A0_1 l0_1.length c0_1, .int .i64 a0_2] 25 (0, 0)) (by (with_reducible repeat (first | refine blk_drewN ?_ _ | refine blk_drew ?_ | refine blk_alloc ?_ _)); exact BK196.out) hb); have n1_ := Aside0.mk (below_step (by repeat (first | (with_reducible first | exact HB.out | apply below_alloc | apply pw_below_drewN | apply below_drew1 | refine below_set ?_ GE196.out) | exact HB.out)) hb); have n2_ := Aside0.mk (hbox); have n3_ := Aside0.mk ((by rw [hg]; exact (below_size (by repeat (first | (with_reducible first | exact HB.out | apply below_alloc | apply pw_below_drewN | apply below_drew1 | refine below_set ?_ GE196.out) | exact HB.out))) : w.heap.size ≤ gb204)); have n4_ := Aside0.mk ((by rw [hg]; exact (below_size (by repeat (first | (with_reducible first | exact HB.out | apply below_alloc | apply pw_below_drewN | apply below_drew1 | refine below_set ?_ GE196.out) | exact HB.out))) : w.heap.size ≤ gb204)); have n5_ := Aside0.mk ((by rw [hg]; exact Nat.ne_of_lt (blk_lt (g := gb196) (o := .cells #[.slice (some ad203) l0_0.length c0_0, .slice A0_1 l0_1.length c0_1, .int .i64 a0_2] 25 (0, 0)) (by (with_reducible repeat (first | refine blk_drewN ?_ _ | refine blk_drew ?_ | refine blk_alloc ?_ _)); exact BK196.out)) : gb196 ≠ gb204)); have n6_ := Aside0.mk ((by rw [hg]; exact Nat.ne_of_gt (blk_lt (g := gb196) (o := .cells #[.slice (some ad203) l0_0.length c0_0, .slice A0_1 l0_1.length c0_1, .int .i64 a0_2] 25 (0, 0)) (by (with_reducible repeat (first | refine blk_drewN ?_ _ | refine blk_drew ?_ | refine blk_alloc ?_ _)); exact BK196.out)) : gb204 ≠ gb196)); clear BK196; clear HB; have BK196 := n0_; have HB := n1_; have BK204 := n2_; have GW204 := n3_; have GE204 := n4_; have NB196_204 := n5_; have NB204_196 := n6_; clear n0_ n1_ n2_ n3_ n4_ n5_ n6_; clear hb hbox hg; have hnb74 := NB204_196.out; have hnc74 := NB196_204.out; have hcz75_0 : w73.cell? ⟨gb204, 0, none⟩ = some (.int .i64 0) := (blk_cell BK204.out 0).trans rfl; have hcz75_1 : w73.cell? ⟨gb204, 1, none⟩ = some (.int .i64 0) := (blk_cell BK204.out 1).trans rfl; have hcz75_2 : w73.cell? ⟨gb204, 2, none⟩ = some (.string (⟨#[]⟩ : ByteArray)) := (blk_cell BK204.out 2).trans rfl; have hcz75_3 : w73.cell? ⟨gb204, 3, none⟩ = some (.string (⟨#[]⟩ : ByteArray)) := (blk_cell BK204.out 3).trans rfl; have hcz75_4 : w73.cell? ⟨gb204, 4, none⟩ = some (.int .i64 0) := (blk_cell BK204.out 4).trans rfl; have hfz75_0 := blk_frozen BK204.out 0; have hfz75_1 := blk_frozen BK204.out 1; have hfz75_2 := blk_frozen BK204.out 2; have hfz75_3 := blk_frozen BK204.out 3; have hfz75_4 := blk_frozen BK204.out 4) | ((with_reducible refine gate_callee (f := 37) rfl ?_); refine goesL_ (some 62) rfl rfl Try.func37 (by kernel_rfl) rfl #[.agg #[.int .i64 ((rd_T49 l0_0 x4_3).f0), .int .i64 ((rd_T49 l0_0 x4_3).f1), .string ((rd_T49 l0_0 x4_3).f2), .string ((rd_T49 l0_0 x4_3).f3), .int .i64 ((rd_T49 l0_0 x4_3).f4)]] rfl (by (try simp only [List.map_toArray, List.map_cons, List.map_nil]); first | done | rfl | (simp only [List.length_drop, List.length_take]; rfl)) ?_; (with_reducible refine (palinoderef14_meta.calls ((rd_T49 l0_0 x4_3).f0) ((rd_T49 l0_0 x4_3).f1) ((rd_T49 l0_0 x4_3).f2) ((rd_T49 l0_0 x4_3).f3) ((rd_T49 l0_0 x4_3).f4) true _ A22.out).mono ?_); rintro e w76 ⟨rfl, hb⟩; refine ⟨_, rfl, ?_⟩; have n0_ := Aside0.mk (blk_below (g := gb196) (o := .cells #[.slice (some ad203) l0_0.length c0_0, .slice A0_1 l0_1.length c0_1, .int .i64 a0_2] 25 (0, 0)) (by (with_reducible repeat (first | refine blk_drewN ?_ _ | refine blk_drew ?_ | refine blk_alloc ?_ _)); refine blk_far ?_ NB196_204.out _; (with_reducible repeat (first | refine blk_drewN ?_ _ | refine blk_drew ?_ | refine blk_alloc ?_ _)); refine blk_far ?_ NB196_204.out _; (with_reducible repeat (first | refine blk_drewN ?_ _ | refine blk_drew ?_ | refine blk_alloc ?_ _)); refine blk_far ?_ NB196_204.out _; (with_reducible repeat (first | refine blk_drewN ?_ _ | refine blk_drew ?_ | refine blk_alloc ?_ _)); refine blk_far ?_ NB196_204.out _; (with_reducible repeat (first | refine blk_drewN ?_ _ | refine blk_drew ?_ | refine blk_alloc ?_ _)); refine blk_far ?_ NB196_204.out _; (with_reducible repeat (first | refine blk_drewN ?_ _ | refine blk_drew ?_ | refine blk_alloc ?_ _)); exact BK196.out) hb); have n1_ := Aside0.mk (blk_below (g := gb204) (o := .cells #[.int .i64 ((rd_T49 l0_0 x4_3).f0), .int .i64 ((rd_T49 l0_0 x4_3).f1), .string ((rd_T49 l0_0 x4_3).f2), .string ((rd_T49 l0_0 x4_3).f3), .int .i64 ((rd_T49 l0_0 x4_3).f4)] 49 (0, 0)) (by (with_reducible repeat (first | refine blk_drewN ?_ _ | refine blk_drew ?_ | refine blk_alloc ?_ _)); refine blk_put (cs := #[.int .i64 ((rd_T49 l0_0 x4_3).f0), .int .i64 ((rd_T49 l0_0 x4_3).f1), .string ((rd_T49 l0_0 x4_3).f2), .string ((rd_T49 l0_0 x4_3).f3), .int .i64 0]) ?_ 4 _ rfl; (with_reducible repeat (first | refine blk_drewN ?_ _ | refine blk_drew ?_ | refine blk_alloc ?_ _)); refine blk_put (cs := #[.int .i64 ((rd_T49 l0_0 x4_3).f0), .int .i64 ((rd_T49 l0_0 x4_3).f1), .string ((rd_T49 l0_0 x4_3).f2), .string (⟨#[]⟩ : ByteArray), .int .i64 0]) ?_ 3 _ rfl; (with_reducible repeat (first | refine blk_drewN ?_ _ | refine blk_drew ?_ | refine blk_alloc ?_ _)); refine blk_put (cs := #[.int .i64 ((rd_T49 l0_0 x4_3).f0), .int .i64 ((rd_T49 l0_0 x4_3).f1), .string (⟨#[]⟩ : ByteArray), .string (⟨#[]⟩ : ByteArray), .int .i64 0]) ?_ 2 _ rfl; (with_reducible repeat (first | refine blk_drewN ?_ _ | refine blk_drew ?_ | refine blk_alloc ?_ _)); refine blk_put (cs := #[.int .i64 ((rd_T49 l0_0 x4_3).f0), .int .i64 0, .string (⟨#[]⟩ : ByteArray), .string (⟨#[]⟩ : ByteArray), .int .i64 0]) ?_ 1 _ rfl; (with_reducible repeat (first | refine blk_drewN ?_ _ | refine blk_drew ?_ | refine blk_alloc ?_ _)); refine blk_put (cs := #[.int .i64 0, .int .i64 0, .string (⟨#[]⟩ : ByteArray), .string (⟨#[]⟩ : ByteArray), .int .i64 0]) ?_ 0 _ rfl; (with_reducible repeat (first | refine blk_drewN ?_ _ | refine blk_drew ?_ | refine blk_alloc ?_ _)); exact BK204.out) hb); have n2_ := Aside0.mk (below_step (by repeat (first | (with_reducible first | exact HB.out | apply below_alloc | apply pw_below_drewN | apply below_drew1 | refine below_set ?_ GE196.out | refine below_set ?_ GE204.out) | exact HB.out)) hb); clear BK196; clear BK204; clear HB; have BK196 := n0_; have BK204 := n1_; have HB := n2_; clear n0_ n1_ n2_; (try clear hb); (try clear hb2); (try clear hk); (try clear hi); have hcz77_0 : w76.cell? ⟨gb196, 0, none⟩ = some (.slice (some ad203) l0_0.length c0_0) := (blk_cell BK196.out 0).trans rfl; have hcz77_1 : w76.cell? ⟨gb196, 1, none⟩ = some (.slice A0_1 l0_1.length c0_1) := (blk_cell BK196.out 1).trans rfl; have hcz77_2 : w76.cell? ⟨gb196, 2, none⟩ = some (.int .i64 a0_2) := (blk_cell BK196.out 2).trans rfl; have hfz77_0 := blk_frozen BK196.out 0; have hfz77_1 := blk_frozen BK196.out 1; have hfz77_2 := blk_frozen BK196.out 2; have p206 : 0 ≤ ((ji30) : Int) := of_decide_eq_true (by first | (with_reducible assumption) | assumption); have q206 : (ji30) < (l0_0.length : Int) := of_decide_eq_true (by first | (with_reducible assumption) | assumption); obtain ⟨ad206, e206, hx206_0, hx206_1, hx206_2, hx206_3, hx206_4⟩ := at_T49 HR0_0.out (ji30) p206 q206; obtain rfl : ad203 = ad206 := (by injection e206); replace hx206_0 := (HB.out.cell (World.block_lt_of_cell? w _ hx206_0)).trans hx206_0; replace hx206_1 := (HB.out.cell (World.block_lt_of_cell? w _ hx206_1)).trans hx206_1; replace hx206_2 := (HB.out.cell (World.block_lt_of_cell? w _ hx206_2)).trans hx206_2; replace hx206_3 := (HB.out.cell (World.block_lt_of_cell? w _ hx206_3)).trans hx206_3; replace hx206_4 := (HB.out.cell (World.block_lt_of_cell? w _ hx206_4)).trans hx206_4; replace p206 := eq_true p206; replace q206 := eq_true q206) | ((with_reducible refine gate_dst (N := 7) rfl ?_); (try (refine gate_guard (by rfl) ?_; dsimp only)); refine box_event ?hg (N := 7) ?hd (cs := #[.int .i64 0, .int .i64 0, .string (⟨#[]⟩ : ByteArray), .string (⟨#[]⟩ : ByteArray), .int .i64 0]) (t := 49) ?hr ?_; (case hd => rfl); (case hg => rfl); (case hr => first | (go_simp; done) | (go_simp; rfl)); intro gb207 hg w78 hbox hb; have n0_ := Aside0.mk (blk_below (g := gb196) (o := .cells #[.slice (some ad203) l0_0.length c0_0, .slice A0_1 l0_1.length c0_1, .int .i64 a0_2] 25 (0, 0)) (by (with_reducible repeat (first | refine blk_drewN ?_ _ | refine blk_drew ?_ | refine blk_alloc ?_ _)); exact BK196.out) hb); have n1_ := Aside0.mk (blk_below (g := gb204) (o := .cells #[.int .i64 ((rd_T49 l0_0 x4_3).f0), .int .i64 ((rd_T49 l0_0 x4_3).f1), .string ((rd_T49 l0_0 x4_3).f2), .string ((rd_T49 l0_0 x4_3).f3), .int .i64 ((rd_T49 l0_0 x4_3).f4)] 49 (0, 0)) (by (with_reducible repeat (first | refine blk_drewN ?_ _ | refine blk_drew ?_ | refine blk_alloc ?_ _)); exact BK204.out) hb); have n2_ := Aside0.mk (below_step (by repeat (first | (with_reducible first | exact HB.out | apply below_alloc | apply pw_below_drewN | apply below_drew1 | refine below_set ?_ GE196.out | refine below_set ?_ GE204.out) | exact HB.out)) hb); have n3_ := Aside0.mk (hbox); have n4_ := Aside0.mk ((by rw [hg]; exact (below_size (by repeat (first | (with_reducible first | exact HB.out | apply below_alloc | apply pw_below_drewN | apply below_drew1 | refine below_set ?_ GE196.out | refine below_set ?_ GE204.out) | exact HB.out))) : w.heap.size ≤ gb207)); have n5_ := Aside0.mk ((by rw [hg]; exact (below_size (by repeat (first | (with_reducible first | exact HB.out | apply below_alloc | apply pw_below_drewN | apply below_drew1 | refine below_set ?_ GE196.out | refine below_set ?_ GE204.out) | exact HB.out))) : w.heap.size ≤ gb207)); have n6_ := Aside0.mk ((by rw [hg]; exact Nat.ne_of_lt (blk_lt (g := gb196) (o := .cells #[.slice (some ad203) l0_0.length c0_0, .slice A0_1 l0_1.length c0_1, .int .i64 a0_2] 25 (0, 0)) (by (with_reducible repeat (first | refine blk_drewN ?_ _ | refine blk_drew ?_ | refine blk_alloc ?_ _)); exact BK196.out)) : gb196 ≠ gb207)); have n7_ := Aside0.mk ((by rw [hg]; exact Nat.ne_of_gt (blk_lt (g := gb196) (o := .cells #[.slice (some ad203) l0_0.length c0_0, .slice A0_1 l0_1.length c0_1, .int .i64 a0_2] 25 (0, 0)) (by (with_reducible repeat (first | refine blk_drewN ?_ _ | refine blk_drew ?_ | refine blk_alloc ?_ _)); exact BK196.out)) : gb207 ≠ gb196)); have n8_ := Aside0.mk ((by rw [hg]; exact Nat.ne_of_lt (blk_lt (g := gb204) (o := .cells #[.int .i64 ((rd_T49 l0_0 x4_3).f0), .int .i64 ((rd_T49 l0_0 x4_3).f1), .string ((rd_T49 l0_0 x4_3).f2), .string ((rd_T49 l0_0 x4_3).f3), .int .i64 ((rd_T49 l0_0 x4_3).f4)] 49 (0, 0)) (by (with_reducible repeat (first | refine blk_drewN ?_ _ | refine blk_drew ?_ | refine blk_alloc ?_ _)); exact BK204.out)) : gb204 ≠ gb207)); have n9_ := Aside0.mk ((by rw [hg]; exact Nat.ne_of_gt (blk_lt (g := gb204) (o := .cells #[.int .i64 ((rd_T49 l0_0 x4_3).f0), .int .i64 ((rd_T49 l0_0 x4_3).f1), .string ((rd_T49 l0_0 x4_3).f2), .string ((rd_T49 l0_0 x4_3).f3), .int .i64 ((rd_T49 l0_0 x4_3).f4)] 49 (0, 0)) (by (with_reducible repeat (first | refine blk_drewN ?_ _ | refine blk_drew ?_ | refine blk_alloc ?_ _)); exact BK204.out)) : gb207 ≠ gb204)); clear BK196; clear BK204; clear HB; have BK196 := n0_; have BK204 := n1_; have HB := n2_; have BK207 := n3_; have GW207 := n4_; have GE207 := n5_; have NB196_207 := n6_; have NB207_196 := n7_; have NB204_207 := n8_; have NB207_204 := n9_; clear n0_ n1_ n2_ n3_ n4_ n5_ n6_ n7_ n8_ n9_; clear hb hbox hg; have hnb79 := NB207_196.out; have hnc79 := NB196_207.out; have hnb80 := NB207_204.out; have hnc80 := NB204_207.out; have hcz81_0 : w78.cell? ⟨gb207, 0, none⟩ = some (.int .i64 0) := (blk_cell BK207.out 0).trans rfl; have hcz81_1 : w78.cell? ⟨gb207, 1, none⟩ = some (.int .i64 0) := (blk_cell BK207.out 1).trans rfl; have hcz81_2 : w78.cell? ⟨gb207, 2, none⟩ = some (.string (⟨#[]⟩ : ByteArray)) := (blk_cell BK207.out 2).trans rfl; have hcz81_3 : w78.cell? ⟨gb207, 3, none⟩ = some (.string (⟨#[]⟩ : ByteArray)) := (blk_cell BK207.out 3).trans rfl; have hcz81_4 : w78.cell? ⟨gb207, 4, none⟩ = some (.int .i64 0) := (blk_cell BK207.out 4).trans rfl; have hfz81_0 := blk_frozen BK207.out 0; have hfz81_1 := blk_frozen BK207.out 1; have hfz81_2 := blk_frozen BK207.out 2; have hfz81_3 := blk_frozen BK207.out 3; have hfz81_4 := blk_frozen BK207.out 4; have hcz82_0 : w78.cell? ⟨gb204, 0, none⟩ = some (.int .i64 ((rd_T49 l0_0 x4_3).f0)) := (blk_cell BK204.out 0).trans rfl; have hcz82_1 : w78.cell? ⟨gb204, 1, none⟩ = some (.int .i64 ((rd_T49 l0_0 x4_3).f1)) := (blk_cell BK204.out 1).trans rfl; have hcz82_2 : w78.cell? ⟨gb204, 2, none⟩ = some (.string ((rd_T49 l0_0 x4_3).f2)) := (blk_cell BK204.out 2).trans rfl; have hcz82_3 : w78.cell? ⟨gb204, 3, none⟩ = some (.string ((rd_T49 l0_0 x4_3).f3)) := (blk_cell BK204.out 3).trans rfl; have hcz82_4 : w78.cell? ⟨gb204, 4, none⟩ = some (.int .i64 ((rd_T49 l0_0 x4_3).f4)) := (blk_cell BK204.out 4).trans rfl; have hfz82_0 := blk_frozen BK204.out 0; have hfz82_1 := blk_frozen BK204.out 1; have hfz82_2 := blk_frozen BK204.out 2; have hfz82_3 := blk_frozen BK204.out 3; have hfz82_4 := blk_frozen BK204.out 4))
                go_ret
                exact ⟨by first | rfl | (simp [errW_none, errW_some] <;> rfl) | (simp only [← hji30]; first | rfl | (simp [errW_none, errW_some] <;> rfl)) | (simp [*, errW_none, errW_some] <;> rfl), by repeat (first | (with_reducible first | exact HB.out | apply below_alloc | apply pw_below_drewN | apply below_drew1 | refine below_set ?_ GE196.out | refine below_set ?_ GE204.out | refine below_set ?_ GE207.out) | exact HB.out)⟩
              rw [if_pos c60] at H
              have c60b0 : (Op.bytesLess (((rd_T49 l0_0 (ji30)).f3).toList) (((rd_T49 l0_0 x4_3).f2).toList)) = true := c60
              clear c60
              have H' := Aside0.mk H
              clear H
              have hcz61_0 : wr.cell? ⟨gb196, 0, none⟩ = some (.slice A0_0 l0_0.length c0_0) := (blk_cell BK196.out 0).trans rfl
              have hcz61_1 : wr.cell? ⟨gb196, 1, none⟩ = some (.slice A0_1 l0_1.length c0_1) := (blk_cell BK196.out 1).trans rfl
              have hcz61_2 : wr.cell? ⟨gb196, 2, none⟩ = some (.int .i64 a0_2) := (blk_cell BK196.out 2).trans rfl
              have hfz61_0 := blk_frozen BK196.out 0
              have hfz61_1 := blk_frozen BK196.out 1
              have hfz61_2 := blk_frozen BK196.out 2
              have p203 : 0 ≤ (x4_3 : Int) := of_decide_eq_true (by first | (with_reducible assumption) | assumption)
              have q203 : x4_3 < (l0_0.length : Int) := of_decide_eq_true (by first | (with_reducible assumption) | assumption)
              obtain ⟨ad203, e203, hx203_0, hx203_1, hx203_2, hx203_3, hx203_4⟩ := at_T49 HR0_0.out x4_3 p203 q203
              cases e203
              replace hx203_0 := (HB.out.cell (World.block_lt_of_cell? w _ hx203_0)).trans hx203_0
              replace hx203_1 := (HB.out.cell (World.block_lt_of_cell? w _ hx203_1)).trans hx203_1
              replace hx203_2 := (HB.out.cell (World.block_lt_of_cell? w _ hx203_2)).trans hx203_2
              replace hx203_3 := (HB.out.cell (World.block_lt_of_cell? w _ hx203_3)).trans hx203_3
              replace hx203_4 := (HB.out.cell (World.block_lt_of_cell? w _ hx203_4)).trans hx203_4
              replace p203 := eq_true p203
              replace q203 := eq_true q203
              go_wp2_with (first | ((with_reducible refine gate_dst (N := 5) rfl ?_); (try (refine gate_guard (by rfl) ?_; dsimp only)); refine box_event ?hg (N := 5) ?hd (cs := #[.int .i64 0, .int .i64 0, .string (⟨#[]⟩ : ByteArray), .string (⟨#[]⟩ : ByteArray), .int .i64 0]) (t := 49) ?hr ?_; (case hd => rfl); (case hg => rfl); (case hr => first | (go_simp; done) | (go_simp; rfl)); intro gb204 hg w62 hbox hb; have n0_ := Aside0.mk (blk_below (g := gb196) (o := .cells #[.slice (some ad203) l0_0.length c0_0, .slice A0_1 l0_1.length c0_1, .int .i64 a0_2] 25 (0, 0)) (by (with_reducible repeat (first | refine blk_drewN ?_ _ | refine blk_drew ?_ | refine blk_alloc ?_ _)); exact BK196.out) hb); have n1_ := Aside0.mk (below_step (by repeat (first | (with_reducible first | exact HB.out | apply below_alloc | apply pw_below_drewN | apply below_drew1 | refine below_set ?_ GE196.out) | exact HB.out)) hb); have n2_ := Aside0.mk (hbox); have n3_ := Aside0.mk ((by rw [hg]; exact (below_size (by repeat (first | (with_reducible first | exact HB.out | apply below_alloc | apply pw_below_drewN | apply below_drew1 | refine below_set ?_ GE196.out) | exact HB.out))) : w.heap.size ≤ gb204)); have n4_ := Aside0.mk ((by rw [hg]; exact (below_size (by repeat (first | (with_reducible first | exact HB.out | apply below_alloc | apply pw_below_drewN | apply below_drew1 | refine below_set ?_ GE196.out) | exact HB.out))) : w.heap.size ≤ gb204)); have n5_ := Aside0.mk ((by rw [hg]; exact Nat.ne_of_lt (blk_lt (g := gb196) (o := .cells #[.slice (some ad203) l0_0.length c0_0, .slice A0_1 l0_1.length c0_1, .int .i64 a0_2] 25 (0, 0)) (by (with_reducible repeat (first | refine blk_drewN ?_ _ | refine blk_drew ?_ | refine blk_alloc ?_ _)); exact BK196.out)) : gb196 ≠ gb204)); have n6_ := Aside0.mk ((by rw [hg]; exact Nat.ne_of_gt (blk_lt (g := gb196) (o := .cells #[.slice (some ad203) l0_0.length c0_0, .slice A0_1 l0_1.length c0_1, .int .i64 a0_2] 25 (0, 0)) (by (with_reducible repeat (first | refine blk_drewN ?_ _ | refine blk_drew ?_ | refine blk_alloc ?_ _)); exact BK196.out)) : gb204 ≠ gb196)); clear BK196; clear HB; have BK196 := n0_; have HB := n1_; have BK204 := n2_; have GW204 := n3_; have GE204 := n4_; have NB196_204 := n5_; have NB204_196 := n6_; clear n0_ n1_ n2_ n3_ n4_ n5_ n6_; clear hb hbox hg; have hnb63 := NB204_196.out; have hnc63 := NB196_204.out; have hcz64_0 : w62.cell? ⟨gb204, 0, none⟩ = some (.int .i64 0) := (blk_cell BK204.out 0).trans rfl; have hcz64_1 : w62.cell? ⟨gb204, 1, none⟩ = some (.int .i64 0) := (blk_cell BK204.out 1).trans rfl; have hcz64_2 : w62.cell? ⟨gb204, 2, none⟩ = some (.string (⟨#[]⟩ : ByteArray)) := (blk_cell BK204.out 2).trans rfl; have hcz64_3 : w62.cell? ⟨gb204, 3, none⟩ = some (.string (⟨#[]⟩ : ByteArray)) := (blk_cell BK204.out 3).trans rfl; have hcz64_4 : w62.cell? ⟨gb204, 4, none⟩ = some (.int .i64 0) := (blk_cell BK204.out 4).trans rfl; have hfz64_0 := blk_frozen BK204.out 0; have hfz64_1 := blk_frozen BK204.out 1; have hfz64_2 := blk_frozen BK204.out 2; have hfz64_3 := blk_frozen BK204.out 3; have hfz64_4 := blk_frozen BK204.out 4) | ((with_reducible refine gate_callee (f := 37) rfl ?_); refine goesL_ (some 62) rfl rfl Try.func37 (by kernel_rfl) rfl #[.agg #[.int .i64 ((rd_T49 l0_0 x4_3).f0), .int .i64 ((rd_T49 l0_0 x4_3).f1), .string ((rd_T49 l0_0 x4_3).f2), .string ((rd_T49 l0_0 x4_3).f3), .int .i64 ((rd_T49 l0_0 x4_3).f4)]] rfl (by (try simp only [List.map_toArray, List.map_cons, List.map_nil]); first | done | rfl | (simp only [List.length_drop, List.length_take]; rfl)) ?_; (with_reducible refine (palinoderef14_meta.calls ((rd_T49 l0_0 x4_3).f0) ((rd_T49 l0_0 x4_3).f1) ((rd_T49 l0_0 x4_3).f2) ((rd_T49 l0_0 x4_3).f3) ((rd_T49 l0_0 x4_3).f4) true _ A22.out).mono ?_); rintro e w65 ⟨rfl, hb⟩; refine ⟨_, rfl, ?_⟩; have n0_ := Aside0.mk (blk_below (g := gb196) (o := .cells #[.slice (some ad203) l0_0.length c0_0, .slice A0_1 l0_1.length c0_1, .int .i64 a0_2] 25 (0, 0)) (by (with_reducible repeat (first | refine blk_drewN ?_ _ | refine blk_drew ?_ | refine blk_alloc ?_ _)); refine blk_far ?_ NB196_204.out _; (with_reducible repeat (first | refine blk_drewN ?_ _ | refine blk_drew ?_ | refine blk_alloc ?_ _)); refine blk_far ?_ NB196_204.out _; (with_reducible repeat (first | refine blk_drewN ?_ _ | refine blk_drew ?_ | refine blk_alloc ?_ _)); refine blk_far ?_ NB196_204.out _; (with_reducible repeat (first | refine blk_drewN ?_ _ | refine blk_drew ?_ | refine blk_alloc ?_ _)); refine blk_far ?_ NB196_204.out _; (with_reducible repeat (first | refine blk_drewN ?_ _ | refine blk_drew ?_ | refine blk_alloc ?_ _)); refine blk_far ?_ NB196_204.out _; (with_reducible repeat (first | refine blk_drewN ?_ _ | refine blk_drew ?_ | refine blk_alloc ?_ _)); exact BK196.out) hb); have n1_ := Aside0.mk (blk_below (g := gb204) (o := .cells #[.int .i64 ((rd_T49 l0_0 x4_3).f0), .int .i64 ((rd_T49 l0_0 x4_3).f1), .string ((rd_T49 l0_0 x4_3).f2), .string ((rd_T49 l0_0 x4_3).f3), .int .i64 ((rd_T49 l0_0 x4_3).f4)] 49 (0, 0)) (by (with_reducible repeat (first | refine blk_drewN ?_ _ | refine blk_drew ?_ | refine blk_alloc ?_ _)); refine blk_put (cs := #[.int .i64 ((rd_T49 l0_0 x4_3).f0), .int .i64 ((rd_T49 l0_0 x4_3).f1), .string ((rd_T49 l0_0 x4_3).f2), .string ((rd_T49 l0_0 x4_3).f3), .int .i64 0]) ?_ 4 _ rfl; (with_reducible repeat (first | refine blk_drewN ?_ _ | refine blk_drew ?_ | refine blk_alloc ?_ _)); refine blk_put (cs := #[.int .i64 ((rd_T49 l0_0 x4_3).f0), .int .i64 ((rd_T49 l0_0 x4_3).f1), .string ((rd_T49 l0_0 x4_3).f2), .string (⟨#[]⟩ : ByteArray), .int .i64 0]) ?_ 3 _ rfl; (with_reducible repeat (first | refine blk_drewN ?_ _ | refine blk_drew ?_ | refine blk_alloc ?_ _)); refine blk_put (cs := #[.int .i64 ((rd_T49 l0_0 x4_3).f0), .int .i64 ((rd_T49 l0_0 x4_3).f1), .string (⟨#[]⟩ : ByteArray), .string (⟨#[]⟩ : ByteArray), .int .i64 0]) ?_ 2 _ rfl; (with_reducible repeat (first | refine blk_drewN ?_ _ | refine blk_drew ?_ | refine blk_alloc ?_ _)); refine blk_put (cs := #[.int .i64 ((rd_T49 l0_0 x4_3).f0), .int .i64 0, .string (⟨#[]⟩ : ByteArray), .string (⟨#[]⟩ : ByteArray), .int .i64 0]) ?_ 1 _ rfl; (with_reducible repeat (first | refine blk_drewN ?_ _ | refine blk_drew ?_ | refine blk_alloc ?_ _)); refine blk_put (cs := #[.int .i64 0, .int .i64 0, .string (⟨#[]⟩ : ByteArray), .string (⟨#[]⟩ : ByteArray), .int .i64 0]) ?_ 0 _ rfl; (with_reducible repeat (first | refine blk_drewN ?_ _ | refine blk_drew ?_ | refine blk_alloc ?_ _)); exact BK204.out) hb); have n2_ := Aside0.mk (below_step (by repeat (first | (with_reducible first | exact HB.out | apply below_alloc | apply pw_below_drewN | apply below_drew1 | refine below_set ?_ GE196.out | refine below_set ?_ GE204.out) | exact HB.out)) hb); clear BK196; clear BK204; clear HB; have BK196 := n0_; have BK204 := n1_; have HB := n2_; clear n0_ n1_ n2_; (try clear hb); (try clear hb2); (try clear hk); (try clear hi); have hcz66_0 : w65.cell? ⟨gb196, 0, none⟩ = some (.slice (some ad203) l0_0.length c0_0) := (blk_cell BK196.out 0).trans rfl; have hcz66_1 : w65.cell? ⟨gb196, 1, none⟩ = some (.slice A0_1 l0_1.length c0_1) := (blk_cell BK196.out 1).trans rfl; have hcz66_2 : w65.cell? ⟨gb196, 2, none⟩ = some (.int .i64 a0_2) := (blk_cell BK196.out 2).trans rfl; have hfz66_0 := blk_frozen BK196.out 0; have hfz66_1 := blk_frozen BK196.out 1; have hfz66_2 := blk_frozen BK196.out 2; have p206 : 0 ≤ ((ji30) : Int) := of_decide_eq_true (by first | (with_reducible assumption) | assumption); have q206 : (ji30) < (l0_0.length : Int) := of_decide_eq_true (by first | (with_reducible assumption) | assumption); obtain ⟨ad206, e206, hx206_0, hx206_1, hx206_2, hx206_3, hx206_4⟩ := at_T49 HR0_0.out (ji30) p206 q206; obtain rfl : ad203 = ad206 := (by injection e206); replace hx206_0 := (HB.out.cell (World.block_lt_of_cell? w _ hx206_0)).trans hx206_0; replace hx206_1 := (HB.out.cell (World.block_lt_of_cell? w _ hx206_1)).trans hx206_1; replace hx206_2 := (HB.out.cell (World.block_lt_of_cell? w _ hx206_2)).trans hx206_2; replace hx206_3 := (HB.out.cell (World.block_lt_of_cell? w _ hx206_3)).trans hx206_3; replace hx206_4 := (HB.out.cell (World.block_lt_of_cell? w _ hx206_4)).trans hx206_4; replace p206 := eq_true p206; replace q206 := eq_true q206) | ((with_reducible refine gate_dst (N := 7) rfl ?_); (try (refine gate_guard (by rfl) ?_; dsimp only)); refine box_event ?hg (N := 7) ?hd (cs := #[.int .i64 0, .int .i64 0, .string (⟨#[]⟩ : ByteArray), .string (⟨#[]⟩ : ByteArray), .int .i64 0]) (t := 49) ?hr ?_; (case hd => rfl); (case hg => rfl); (case hr => first | (go_simp; done) | (go_simp; rfl)); intro gb207 hg w67 hbox hb; have n0_ := Aside0.mk (blk_below (g := gb196) (o := .cells #[.slice (some ad203) l0_0.length c0_0, .slice A0_1 l0_1.length c0_1, .int .i64 a0_2] 25 (0, 0)) (by (with_reducible repeat (first | refine blk_drewN ?_ _ | refine blk_drew ?_ | refine blk_alloc ?_ _)); exact BK196.out) hb); have n1_ := Aside0.mk (blk_below (g := gb204) (o := .cells #[.int .i64 ((rd_T49 l0_0 x4_3).f0), .int .i64 ((rd_T49 l0_0 x4_3).f1), .string ((rd_T49 l0_0 x4_3).f2), .string ((rd_T49 l0_0 x4_3).f3), .int .i64 ((rd_T49 l0_0 x4_3).f4)] 49 (0, 0)) (by (with_reducible repeat (first | refine blk_drewN ?_ _ | refine blk_drew ?_ | refine blk_alloc ?_ _)); exact BK204.out) hb); have n2_ := Aside0.mk (below_step (by repeat (first | (with_reducible first | exact HB.out | apply below_alloc | apply pw_below_drewN | apply below_drew1 | refine below_set ?_ GE196.out | refine below_set ?_ GE204.out) | exact HB.out)) hb); have n3_ := Aside0.mk (hbox); have n4_ := Aside0.mk ((by rw [hg]; exact (below_size (by repeat (first | (with_reducible first | exact HB.out | apply below_alloc | apply pw_below_drewN | apply below_drew1 | refine below_set ?_ GE196.out | refine below_set ?_ GE204.out) | exact HB.out))) : w.heap.size ≤ gb207)); have n5_ := Aside0.mk ((by rw [hg]; exact (below_size (by repeat (first | (with_reducible first | exact HB.out | apply below_alloc | apply pw_below_drewN | apply below_drew1 | refine below_set ?_ GE196.out | refine below_set ?_ GE204.out) | exact HB.out))) : w.heap.size ≤ gb207)); have n6_ := Aside0.mk ((by rw [hg]; exact Nat.ne_of_lt (blk_lt (g := gb196) (o := .cells #[.slice (some ad203) l0_0.length c0_0, .slice A0_1 l0_1.length c0_1, .int .i64 a0_2] 25 (0, 0)) (by (with_reducible repeat (first | refine blk_drewN ?_ _ | refine blk_drew ?_ | refine blk_alloc ?_ _)); exact BK196.out)) : gb196 ≠ gb207)); have n7_ := Aside0.mk ((by rw [hg]; exact Nat.ne_of_gt (blk_lt (g := gb196) (o := .cells #[.slice (some ad203) l0_0.length c0_0, .slice A0_1 l0_1.length c0_1, .int .i64 a0_2] 25 (0, 0)) (by (with_reducible repeat (first | refine blk_drewN ?_ _ | refine blk_drew ?_ | refine blk_alloc ?_ _)); exact BK196.out)) : gb207 ≠ gb196)); have n8_ := Aside0.mk ((by rw [hg]; exact Nat.ne_of_lt (blk_lt (g := gb204) (o := .cells #[.int .i64 ((rd_T49 l0_0 x4_3).f0), .int .i64 ((rd_T49 l0_0 x4_3).f1), .string ((rd_T49 l0_0 x4_3).f2), .string ((rd_T49 l0_0 x4_3).f3), .int .i64 ((rd_T49 l0_0 x4_3).f4)] 49 (0, 0)) (by (with_reducible repeat (first | refine blk_drewN ?_ _ | refine blk_drew ?_ | refine blk_alloc ?_ _)); exact BK204.out)) : gb204 ≠ gb207)); have n9_ := Aside0.mk ((by rw [hg]; exact Nat.ne_of_gt (blk_lt (g := gb204) (o := .cells #[.int .i64 ((rd_T49 l0_0 x4_3).f0), .int .i64 ((rd_T49 l0_0 x4_3).f1), .string ((rd_T49 l0_0 x4_3).f2), .string ((rd_T49 l0_0 x4_3).f3), .int .i64 ((rd_T49 l0_0 x4_3).f4)] 49 (0, 0)) (by (with_reducible repeat (first | refine blk_drewN ?_ _ | refine blk_drew ?_ | refine blk_alloc ?_ _)); exact BK204.out)) : gb207 ≠ gb204)); clear BK196; clear BK204; clear HB; have BK196 := n0_; have BK204 := n1_; have HB := n2_; have BK207 := n3_; have GW207 := n4_; have GE207 := n5_; have NB196_207 := n6_; have NB207_196 := n7_; have NB204_207 := n8_; have NB207_204 := n9_; clear n0_ n1_ n2_ n3_ n4_ n5_ n6_ n7_ n8_ n9_; clear hb hbox hg; have hnb68 := NB207_196.out; have hnc68 := NB196_207.out; have hnb69 := NB207_204.out; have hnc69 := NB204_207.out; have hcz70_0 : w67.cell? ⟨gb207, 0, none⟩ = some (.int .i64 0) := (blk_cell BK207.out 0).trans rfl; have hcz70_1 : w67.cell? ⟨gb207, 1, none⟩ = some (.int .i64 0) := (blk_cell BK207.out 1).trans rfl; have hcz70_2 : w67.cell? ⟨gb207, 2, none⟩ = some (.string (⟨#[]⟩ : ByteArray)) := (blk_cell BK207.out 2).trans rfl; have hcz70_3 : w67.cell? ⟨gb207, 3, none⟩ = some (.string (⟨#[]⟩ : ByteArray)) := (blk_cell BK207.out 3).trans rfl; have hcz70_4 : w67.cell? ⟨gb207, 4, none⟩ = some (.int .i64 0) := (blk_cell BK207.out 4).trans rfl; have hfz70_0 := blk_frozen BK207.out 0; have hfz70_1 := blk_frozen BK207.out 1; have hfz70_2 := blk_frozen BK207.out 2; have hfz70_3 := blk_frozen BK207.out 3; have hfz70_4 := blk_frozen BK207.out 4; have hcz71_0 : w67.cell? ⟨gb204, 0, none⟩ = some (.int .i64 ((rd_T49 l0_0 x4_3).f0)) := (blk_cell BK204.out 0).trans rfl; have hcz71_1 : w67.cell? ⟨gb204, 1, none⟩ = some (.int .i64 ((rd_T49 l0_0 x4_3).f1)) := (blk_cell BK204.out 1).trans rfl; have hcz71_2 : w67.cell? ⟨gb204, 2, none⟩ = some (.string ((rd_T49 l0_0 x4_3).f2)) := (blk_cell BK204.out 2).trans rfl; have hcz71_3 : w67.cell? ⟨gb204, 3, none⟩ = some (.string ((rd_T49 l0_0 x4_3).f3)) := (blk_cell BK204.out 3).trans rfl; have hcz71_4 : w67.cell? ⟨gb204, 4, none⟩ = some (.int .i64 ((rd_T49 l0_0 x4_3).f4)) := (blk_cell BK204.out 4).trans rfl; have hfz71_0 := blk_frozen BK204.out 0; have hfz71_1 := blk_frozen BK204.out 1; have hfz71_2 := blk_frozen BK204.out 2; have hfz71_3 := blk_frozen BK204.out 3; have hfz71_4 := blk_frozen BK204.out 4))
              go_roundg k3
              case measure => have := HJ1.out; have := HK2.out; have := HK3.out; omega
              case rel => exact ⟨(wrap64 (x4_3 + 1)), (by first | rfl | (simp; done) | (simp [*]; done)), H', ⟨by have := HJ1.out; have := HK2.out; have := HK3.out; omega⟩, ⟨by (with_reducible repeat (first | refine blk_drewN ?_ _ | refine blk_drew ?_ | refine blk_alloc ?_ _)); refine blk_far ?_ NB196_207.out _; (with_reducible repeat (first | refine blk_drewN ?_ _ | refine blk_drew ?_ | refine blk_alloc ?_ _)); refine blk_far ?_ NB196_207.out _; (with_reducible repeat (first | refine blk_drewN ?_ _ | refine blk_drew ?_ | refine blk_alloc ?_ _)); refine blk_far ?_ NB196_207.out _; (with_reducible repeat (first | refine blk_drewN ?_ _ | refine blk_drew ?_ | refine blk_alloc ?_ _)); refine blk_far ?_ NB196_207.out _; (with_reducible repeat (first | refine blk_drewN ?_ _ | refine blk_drew ?_ | refine blk_alloc ?_ _)); refine blk_far ?_ NB196_207.out _; (with_reducible repeat (first | refine blk_drewN ?_ _ | refine blk_drew ?_ | refine blk_alloc ?_ _)); exact BK196.out⟩, ⟨by repeat (first | (with_reducible first | exact HB.out | apply below_alloc | apply pw_below_drewN | apply below_drew1 | refine below_set ?_ GE196.out | refine below_set ?_ GE204.out | refine below_set ?_ GE207.out) | exact HB.out)⟩⟩

end Go.Proofs.Ytepgnefkpjnmlaa.PD
