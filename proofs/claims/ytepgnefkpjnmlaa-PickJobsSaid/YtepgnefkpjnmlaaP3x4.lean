-- printed by gprint.py (own tool) over the kit's print
import Derived.Test.YtepgnefkpjnmlaaP3x0
import Derived.Test.YtepgnefkpjnmlaaP3x2
import Derived.Test.YtepgnefkpjnmlaaP3x3
namespace Go.Proofs.Ytepgnefkpjnmlaa.P3
open Go.RowKit Go.Proofs.Ytepgnefkpjnmlaa Go.Proofs.YtepgnefkpjnmlaaW.PrintWords Go.Proofs.YtepgnefkpjnmlaaW.PrintLast Go.Proofs.YtepgnefkpjnmlaaW.PrintMore
attribute [local go_sem] max2_int min2_int max_two min_two max_three min_three max_four min_four   -- for this text's walks alone
attribute [local go_sem] min2_str max2_str leq_str gtr_str geq_str
set_option linter.unusedVariables false
set_option linter.unusedSimpArgs false

/-! ### pick_Cut: function 15 -/
def pick_Cut.ext (l : List S45) : Nat → Nat → Nat
  | 0, n => n
  | d + 1, n => if n < l.length ∧ (l.getD n z45).f0.toList = (l.getD (n - 1) z45).f0.toList then pick_Cut.ext l d (n + 1) else n
def pick_Cut.at_ (many : Nat) (l : List S45) : Nat := pick_Cut.ext l (l.length - min many l.length) (min many l.length)
def pick_Cut.pieces (many : Nat) : Nat → List S45 → List (List S45)
  | 0, _ => []
  | d + 1, l => if l = [] then [] else l.take (pick_Cut.at_ many l) :: pick_Cut.pieces many d (l.drop (pick_Cut.at_ many l))
theorem pick_Cut.ext_le (l : List S45) : ∀ (d n : Nat), n ≤ l.length → n ≤ pick_Cut.ext l d n ∧ pick_Cut.ext l d n ≤ l.length
  | 0, n, h => ⟨Nat.le_refl _, h⟩
  | d + 1, n, h => by
    unfold pick_Cut.ext
    split
    · rename_i hc
      have := pick_Cut.ext_le l d (n + 1) hc.1
      omega
    · exact ⟨Nat.le_refl _, h⟩
theorem pick_Cut.at_le (many : Nat) (l : List S45) : min many l.length ≤ pick_Cut.at_ many l ∧ pick_Cut.at_ many l ≤ l.length := pick_Cut.ext_le l _ _ (Nat.min_le_right _ _)
theorem pick_Cut.pieces_len (many : Nat) : ∀ (d : Nat) (l p : List S45), p ∈ pick_Cut.pieces many d l → p.length ≤ l.length
  | 0, l, p, h => by simp [pick_Cut.pieces] at h
  | d + 1, l, p, h => by
    unfold pick_Cut.pieces at h
    split at h
    · simp at h
    · rcases List.mem_cons.1 h with rfl | h
      · rw [List.length_take]; omega
      · have := pick_Cut.pieces_len many d _ p h
        rw [List.length_drop] at this
        omega
theorem pick_Cut.pieces_nil (many d : Nat) : pick_Cut.pieces many d [] = [] := by cases d <;> simp [pick_Cut.pieces]
def pick_Cut.f (l0 : List S45) (a1 : Int) : Option (List (List S45) × Option Int) := if a1 < 1 then some ([], some 1) else if l0.length < 1000000 then some (pick_Cut.pieces a1.toNat l0.length l0, none) else none
/-- The row of pieces, the first k of which are copies. -/
def pick_Cut.Half (wr w : World) (base g : Nat) (cur : Array Value) (P : List (List S45)) (k : Nat) (lo : Nat → Nat) : Prop :=
  (∀ j, j < k → ∃ u, cur[j]? = some u ∧ Kd.R k45 45 wr base (fun b => lo j ≤ b ∧ b < lo (j + 1)) u (P.getD j [])) ∧
  (∀ j, k ≤ j → j < P.length → ∃ A c, cur[j]? = some (.slice A (P.getD j []).length c) ∧ (P.getD j []).length ≤ c ∧ Kd.C k45 w A (P.getD j []).length (P.getD j [])) ∧
  (∀ i j, i ≤ j → lo i ≤ lo j) ∧ lo k ≤ wr.heap.size ∧ g < lo 0 ∧ wr.heap[g]? = some (.cells cur 34 (0, 0))
theorem pick_Cut.Half.start {wr w : World} {base g : Nat} {cur : Array Value} {P : List (List S45)} {inner : List Value} (hgc : wr.heap[g]? = some (.cells cur 34 (0, 0))) (hin : cur.toList.take (P.length * (Kd.fixed (Kd.slice 45 k45) w).sz) = inner) {B : Nat} {ok : Nat → Prop}
    (hr : Reps ((Kd.fixed (Kd.slice 45 k45) w).M wr B ok) (Kd.fixed (Kd.slice 45 k45) w).sz P inner) : pick_Cut.Half wr w base g cur P 0 (fun _ => wr.heap.size) := by
  have hg : g < wr.heap.size := (Array.getElem?_eq_some_iff.1 hgc).1
  refine ⟨fun j hj => absurd hj (Nat.not_lt_zero _), fun j _ hj => ?_, fun _ _ _ => Nat.le_refl _, Nat.le_refl _, hg, hgc⟩
  have hx : P[j]? = some (P.getD j []) := by simp [List.getD, hj]
  obtain ⟨A, c, hc, hlc, hC⟩ := hr.2 j _ hx
  subst hin
  rw [show (Kd.fixed (Kd.slice 45 k45) w).sz = 1 from rfl, Nat.mul_one, Nat.mul_one] at hc
  refine ⟨A, c, ?_, hlc, hC⟩
  have h0 := congrArg (fun l : List Value => l[0]?) hc
  simp only [List.getElem?_take, List.getElem?_drop, Nat.add_zero, List.getElem?_cons_zero] at h0
  rw [if_pos (by omega), if_pos hj] at h0
  simpa using h0
theorem pick_Cut.Half.step {wr w2 w3 w : World} {base g : Nat} {cur : Array Value} {P : List (List S45)} {k : Nat} {lo : Nat → Nat} {u : Value} (h : pick_Cut.Half wr w base g cur P k lo) (hk : k < P.length) (hc : k < cur.size) (hb : Below wr.heap.size wr w2) (hbase : base ≤ wr.heap.size)
    (hu : Kd.R k45 45 w2 wr.heap.size (fun _ => True) u (P.getD k [])) (hg : w2.grownBy w3 (some g)) (h3 : w3.heap[g]? = some (.cells (cur.setIfInBounds k u) 34 (0, 0))) :
    pick_Cut.Half w3 w base g (cur.setIfInBounds k u) P (k + 1) (fun j => if j ≤ k then lo j else w2.heap.size) := by
  obtain ⟨h1, h2, hm, hz, hg0, hgc⟩ := h
  have hmk : ∀ j, j ≤ k → lo j ≤ w2.heap.size := fun j hj => Nat.le_trans (Nat.le_trans (hm j k hj) hz) hb.size
  refine ⟨fun j hj => ?_, fun j hj hjl => ?_, fun i j hij => ?_, ?_, ?_, h3⟩
  · by_cases e : j = k
    · subst e
      refine ⟨u, by simp [Array.getElem?_setIfInBounds, hc], ?_⟩
      have hr := Kd.R_mono (Kd.R_lower (Kd.R_bound hu) hbase) (ok' := fun b => (if j ≤ j then lo j else w2.heap.size) ≤ b ∧ b < (if j + 1 ≤ j then lo (j + 1) else w2.heap.size)) (fun b hb' => by
        rw [if_pos (Nat.le_refl _), if_neg (by omega)]
        exact ⟨Nat.le_trans hz hb'.2.1, hb'.2.2.1⟩)
      exact Kd.R_grown hr hg (fun b hb' e => by
        injection e with e
        dsimp only at hb'
        rw [if_pos (Nat.le_refl _)] at hb'
        have := hm 0 j (Nat.zero_le _)
        omega)
    · obtain ⟨v, hv, hr⟩ := h1 j (by omega)
      refine ⟨v, by rw [Array.getElem?_setIfInBounds, if_neg (by omega)]; exact hv, ?_⟩
      have hr2 := Kd.R_mono (Kd.R_below hr hb) (ok' := fun b => (if j ≤ k then lo j else w2.heap.size) ≤ b ∧ b < (if j + 1 ≤ k then lo (j + 1) else w2.heap.size)) (fun b hb' => by
        rw [if_pos (by omega), if_pos (by omega)]
        exact hb')
      exact Kd.R_grown hr2 hg (fun b hb' e => by
        injection e with e
        dsimp only at hb'
        rw [if_pos (by omega)] at hb'
        have := hm 0 j (Nat.zero_le _)
        omega)
  · obtain ⟨A, c, hv, hl, hr⟩ := h2 j (by omega) hjl
    exact ⟨A, c, by rw [Array.getElem?_setIfInBounds, if_neg (by omega)]; exact hv, hl, hr⟩
  · dsimp only
    split
    · split
      · exact hm i j hij
      · exact hmk i (by omega)
    · rw [if_neg (by omega)]; exact Nat.le_refl _
  · dsimp only
    rw [if_neg (by omega)]
    exact hg.size
  · dsimp only
    rw [if_pos (Nat.zero_le _)]
    exact hg0
theorem pick_Cut.Half.all {wr w : World} {base g cap : Nat} {cur : Array Value} {P : List (List S45)} {lo : Nat → Nat} (h : pick_Cut.Half wr w base g cur P P.length lo) (hg : base ≤ g) (hn : P.length ≤ cap) (hcap : cap ≤ maxLen) (hcs : cur.size = cap) :
    Kd.S (Kd.slice 45 k45) 34 wr base (fun _ => True) (.slice (some ⟨g, 0, none⟩) P.length cap) P := by
  obtain ⟨h1, -, hm, hz, hg0, hgc⟩ := h
  have hlen : (cur.toList.take P.length).length = P.length := by rw [List.length_take]; simp; omega
  obtain ⟨f, hf⟩ := Kd.reps_tag (d := Kd.slice 45 k45) (w := wr) (base := base) (ok := fun k => True ∧ some k ≠ (Value.slice (some ⟨g, 0, none⟩) P.length cap).ownBlock) (xs := P) (inner := cur.toList.take P.length)
    (fun j b => lo j ≤ b ∧ b < lo (j + 1)) (fun i j b hi hj => by
      rcases Nat.lt_trichotomy i j with q | q | q
      · have := hm (i + 1) j q; omega
      · exact q
      · have := hm (j + 1) i q; omega)
    (fun j b hb => ⟨trivial, by
      simp [Value.ownBlock]
      have := hm 0 j (Nat.zero_le _)
      omega⟩) (by rw [hlen]; simp [Kd.slice]) (fun j x hx => by
      have hj : j < P.length := (List.getElem?_eq_some_iff.1 hx).1
      obtain ⟨u, hu, hr⟩ := h1 j hj
      have hu' : cur.toList[j]? = some u := by simpa using hu
      have e1 : ((cur.toList.take P.length).drop (j * (Kd.slice 45 k45).sz)).take (Kd.slice 45 k45).sz = [u] := by
        show ((cur.toList.take P.length).drop (j * 1)).take 1 = [u]
        have hj2 : j < (cur.toList.take P.length).length := by omega
        rw [Nat.mul_one, List.drop_eq_getElem_cons hj2, List.take_succ_cons, List.take_zero, List.getElem_take]
        exact congrArg (fun x => [x]) (List.getElem?_eq_some_iff.1 hu').2
      rw [e1]
      have e2 : P.getD j [] = x := by simp [List.getD, hx]
      rw [e2] at hr
      exact Kd.M_row hr)
  refine ⟨f, fun _ _ => trivial, cur.toList.take P.length, ?_, hf⟩
  rw [List.length_zipIdx]
  refine ⟨by rw [hlen]; exact (Nat.mul_one _).symm, .inr ⟨g, cap, cur, rfl, hg, hgc, hn, hcap, by rw [hcs]; exact (Nat.mul_one _).symm, by rw [show P.length * (Kd.tag f (Kd.slice 45 k45)).sz = P.length from Nat.mul_one _]⟩⟩
theorem pick_Cut.cut3 {w : World} {A : Option Addr} {R0 : List S45} (_h : Kd.C k45 w A R0.length R0) (i0 : TypeInfo) (hi : Try.prog.info? 45 = some i0) (_hs : i0.size = k45.sz) (c n : Nat) (hn : n ≤ R0.length) (hc : R0.length ≤ c) :
    ∀ W : World, (Instr.slice 34 (.slice A R0.length c) none (some (.int .i64 (n : Int))) (some (.int .i64 (n : Int)))).run Try.prog W = .ok (.slice A n n) W := by
  intro W
  have hel : Try.prog.elem 34 = 45 := by simp [Program.elem, Try.underlying34]
  have hu : Try.prog.underlying 34 = some (.slice (Try.prog.elem 34)) := by rw [hel]; exact Try.underlying34
  have ha : (A.map fun x => x.add 0) = A := by cases A <;> simp [Addr.add]
  rw [run_slice_hm W 34 A R0.length c hu .i64 .i64 n n (by omega) (by omega) (by omega), hel]
  simp [sizeOf, typeInfo, hi, sliced, Result.andThen, ha]
theorem pick_Cut.cut_ {w : World} {A : Option Addr} {R0 : List S45} (h : Kd.C k45 w A R0.length R0) (i0 : TypeInfo) (hi : Try.prog.info? 45 = some i0) (hs : i0.size = k45.sz) (c n : Nat) (hn : n ≤ R0.length) (hc : R0.length ≤ c) :
    ∃ A' : Option Addr, (∀ W : World, (Instr.slice 34 (.slice A R0.length c) (some (.int .i64 (n : Int))) none none).run Try.prog W = .ok (.slice A' (R0.drop n).length (c - n)) W) ∧ Kd.C k45 w A' (R0.drop n).length (R0.drop n) := by
  refine ⟨if c = n then A else A.map (·.add (n * k45.sz)), fun W => ?_, Kd.C_drop h hn hc⟩
  have := cut_from (P := Try.prog) 34 45 .i64 Try.underlying34 hi k45.sz hs A R0.length c (n : Int) (by omega) (by omega) W
  rw [Int.toNat_natCast] at this
  rw [List.length_drop]
  exact this
set_option maxHeartbeats 8000000 in
set_option maxRecDepth 100000 in
theorem pick_Cut.calls (A0 : Option Addr) (c0 : Nat) (l0 : List (S45)) (a1 : Int) (r1 : List (List (S45))) (r2 : Option Int) (w : World) (hr0 : Kd.C k45 w A0 l0.length l0) (hc0 : l0.length ≤ c0) (h : pick_Cut.f l0 a1 = some (r1, r2)) :
    Calls Try.prog 15 #[.slice A0 l0.length c0, .int .i64 a1] w fun e w' => ∃ v0_ : Value, e = .returned (.tuple #[v0_, errW r2]) ∧ Kd.S (Kd.slice 45 k45) 34 w' w.heap.size (fun _ => True) v0_ r1 ∧ Below w.heap.size w w' := by
  unfold pick_Cut.f at h
  by_cases hneg : a1 < 1
  · rw [if_pos hneg] at h
    obtain ⟨rfl, rfl⟩ := Prod.mk.inj (Option.some.inj h)
    clear h hr0 hc0
    go_enter Try.func15, Try.ntmps15
    go_wp2
    go_ret2
    exact ⟨_, rfl, Kd.S_nil _ _ _ _ _, Below.refl _ _⟩
  · rw [if_neg hneg] at h
    by_cases hlen : l0.length < 1000000
    · rw [if_pos hlen] at h
      obtain ⟨h1, h2⟩ := Prod.mk.inj (Option.some.inj h)
      subst h2
      have HP := Aside0.mk h1
      have HR := Aside0.mk hr0
      have HC := Aside0.mk hc0
      obtain ⟨many, rfl⟩ : ∃ many : Nat, a1 = many := ⟨a1.toNat, by omega⟩
      rw [Int.toNat_natCast] at HP
      have hmany : 1 ≤ many := by omega
      have hmany' : (1 : Int) ≤ many := by omega
      have HLN : Aside0 (∀ k, k < r1.length → (r1.getD k []).length < 1000000) := ⟨fun k hk => by
        rw [← h1]
        exact Nat.lt_of_le_of_lt (pick_Cut.pieces_len _ _ _ _ (by
          rw [h1, List.getD_eq_getElem?_getD, List.getElem?_eq_getElem hk]
          exact List.getElem_mem hk)) hlen⟩
      clear h hr0 h1 hneg
      have HB0 := Aside0.mk (Below.refl w.heap.size w)
      go_enter Try.func15, Try.ntmps15
      go_wp2_with fail
      go_loopw [0, 6] (fun s u wr => ∃ (d : Nat) (R0 : List S45) (P : List (List S45)) (A : Option Addr) (c : Nat), s = .slice A R0.length c ∧ R0.length ≤ c ∧ R0.length < 1000000 ∧ Aside0 (Kd.C k45 w A R0.length R0) ∧ Aside0 (P ++ pick_Cut.pieces many d R0 = r1) ∧ Aside0 (R0.length ≤ d) ∧ Aside0 (P.length + R0.length < 1000000) ∧ Aside0 (Kd.R (Kd.fixed (Kd.slice 45 k45) w) 34 wr w.heap.size (fun _ => True) u P) ∧ Aside0 (Below w.heap.size w wr)) (fun s _ _ => match s with | .slice _ n _ => n | _ => 0)
      case atStart => exact ⟨l0.length, l0, [], A0, c0, rfl, hc0, hlen, HR, HP, ⟨Nat.le_refl _⟩, ⟨by simpa using hlen⟩, ⟨Kd.R_nil _ _ _ _ _⟩, HB0⟩
      case round =>
        clear HB0 HR HP hc0 HC hlen
        obtain ⟨d, R0, P, A, c, rfl, hRc, hRl, HR, HP, HD, HPL, HU, HB⟩ := hrel
        by_cases hz : R0.length = 0
        · have hn : R0 = [] := List.eq_nil_of_length_eq_zero hz
          subst hn
          have hP := HP.out
          rw [pick_Cut.pieces_nil, List.append_nil] at hP
          subst hP
          clear HP HD HPL HR hRl hRc hz
          obtain ⟨-, inner, ⟨hil, hown⟩, hreps⟩ := HU.out
          rcases hown with hnil | ⟨g, cap, cells, rfl, hgb, hgc, hn, hcap, hsz, hin⟩
          · obtain ⟨rfl, hP0⟩ := hnil
            have hPn : P = [] := List.eq_nil_of_length_eq_zero hP0
            clear hreps hil HU
            go_wp2_with fail
            go_loopw [51] (fun i wz => i = .int .i64 0 ∧ wz = wr) (fun _ _ => 0)
            case atStart => exact ⟨rfl, rfl⟩
            case round =>
              obtain ⟨rfl, rfl⟩ := hrel
              go_wp2_with fail
              go_ret2
              subst hPn
              exact ⟨_, rfl, Kd.S_nil _ _ _ _ _, HB.out⟩
          · have HH : Aside0 (pick_Cut.Half wr w w.heap.size g cells P 0 (fun _ => wr.heap.size)) := ⟨pick_Cut.Half.start hgc hin hreps⟩
            have HG := Aside0.mk (And.intro hgb (And.intro hn (And.intro hcap hsz)))
            have HPB : Aside0 (P.length ≤ 9223372036854775807) := ⟨Nat.le_trans hn hcap⟩
            clear hgb hgc hn hcap hsz hin hil hreps HU
            go_wp2_with fail
            go_loopw [51] (fun i wz => ∃ (k : Nat) (cur : Array Value) (lo : Nat → Nat), i = .int .i64 k ∧ k ≤ P.length ∧ cur.size = cap ∧ Aside0 (pick_Cut.Half wz w w.heap.size g cur P k lo) ∧ Aside0 (Below w.heap.size w wz)) (fun i _ => P.length - (intOf i).toNat)
            case atStart => exact ⟨0, cells, _, rfl, Nat.zero_le _, HG.out.2.2.2.trans (Nat.mul_one _), HH, HB⟩
            case round =>
              obtain ⟨k, cur, lo, rfl, hk, hcs, HH2, HB2⟩ := hrel
              clear HH HB
              by_cases hlt : k < P.length
              · have hlt' : (k : Int) < P.length := by omega
                obtain ⟨A', c', hcell, hlc, hC⟩ := HH2.out.2.1 k (Nat.le_refl _) hlt
                obtain ⟨X, hX⟩ : ∃ X, X = P.getD k [] := ⟨_, rfl⟩
                rw [← hX] at hcell hlc hC
                have hcl : wr.cell? ⟨g, k, none⟩ = some (.slice A' X.length c') := by
                  have := HH2.out.2.2.2.2.2
                  simp [World.cell?, this, hcell]
                have HX := Aside0.mk hX
                have HC := Aside0.mk hC
                have HXL : Aside0 (X.length < 1000000) := ⟨by rw [hX]; exact HLN.out k hlt⟩
                clear hX hC hcell
                go_wp2_with fail
                refine (api_Entry.calls A' c' X X wr (Kd.C_below HC.out HB2.out) hlc (by unfold api_Entry.f; rw [if_pos (by have := HXL.out; omega)])).mono ?_
                rintro e w2 ⟨u, rfl, hu, hb⟩
                obtain ⟨Au, cu, rfl⟩ := Kd.R_slice hu
                have hstep := fun (w3 : World) (hgr : w2.grownBy w3 (some g)) (h3 : w3.heap[g]? = some (.cells (cur.setIfInBounds k (.slice Au X.length cu)) 34 (0, 0))) => pick_Cut.Half.step (g := g) (u := .slice Au X.length cu) HH2.out hlt (by rw [hcs]; have := HG.out.2.1; omega) hb (HB2.out.size) (by rw [← HX.out]; exact hu) hgr h3
                have hg2 : w2.heap[g]? = some (.cells cur 34 (0, 0)) := (hb.block g (Array.getElem?_eq_some_iff.1 HH2.out.2.2.2.2.2).1).trans HH2.out.2.2.2.2.2
                have HB3 := Aside0.mk (below_step HB2.out hb)
                have HS := Aside0.mk hstep
                have HG2 := Aside0.mk hg2
                clear hu hb hg2 hcl HH2 HB2 hstep
                have hkc : k < cur.size := by rw [hcs]; have := HG.out.2.1; omega
                obtain ⟨hc2, hf2⟩ : w2.cell? ⟨g, k, none⟩ = some cur[k] ∧ w2.frozen? ⟨g, k, none⟩ = false := by
                  refine ⟨(blk_cell HG2.out k).trans ?_, blk_frozen HG2.out k⟩
                  exact Array.getElem?_eq_getElem hkc
                dsimp only
                go_wp2_with fail
                have hgr : w2.grownBy (w2.setCell ⟨g, k, none⟩ (.slice Au X.length cu)) (some g) := ⟨rfl, rfl, rfl, by simp, fun j hj hn => Below.heap_setCell w2 ⟨g, k, none⟩ _ j (fun q => hn (by rw [q]))⟩
                have HH3 := Aside0.mk (HS.out _ hgr (blk_set HG2.out k _))
                have HB4 := Aside0.mk (pw_below_grown HB3.out (some g) HB3.out.size hgr (fun k_ e_ => by injection e_ with e_; have := HG.out.1; omega))
                have hpb := HPB.out
                have hw : wrap64 ((k : Int) + 1) = ((k + 1 : Nat) : Int) := by unfold wrap64; omega
                refine ⟨⟨k + 1, cur.setIfInBounds k (.slice Au X.length cu), _, congrArg _ hw, hlt, by rw [Array.size_setIfInBounds]; exact hcs, HH3, HB4⟩, ?_⟩
                have h2 : P.length - (intOf (.int .i64 (wrap64 ((k : Int) + 1)))).toNat < P.length - (intOf (.int .i64 (k : Int))).toNat := by rw [hw]; simp only [intOf, Int.toNat_natCast]; omega
                exact h2
              · have hlt' : ¬ (k : Int) < P.length := by omega
                have hke : k = P.length := by omega
                subst hke
                go_wp2_with fail
                go_ret2
                exact ⟨_, rfl, pick_Cut.Half.all HH2.out HG.out.1 HG.out.2.1 HG.out.2.2.1 hcs, HB2.out⟩
        · have hpos : 0 < R0.length := by omega
          obtain ⟨n0, hn0⟩ : ∃ n0 : Nat, n0 = min many R0.length := ⟨_, rfl⟩
          have hmin : (if (R0.length : Int) < (many : Int) then (R0.length : Int) else (many : Int)) = (n0 : Int) := by split <;> omega
          have hmin' : (if R0.length < many then (R0.length : Int) else (many : Int)) = (n0 : Int) := by split <;> omega
          have hn1 : 1 ≤ n0 := by omega
          have hn2 : n0 ≤ R0.length := by omega
          have hz0 : (0 : Int) < R0.length := by omega
          have HN0 := Aside0.mk hn0
          have HE : Aside0 (pick_Cut.ext R0 (R0.length - n0) n0 = pick_Cut.at_ many R0) := ⟨by rw [hn0]; rfl⟩
          clear hn0 hz hpos
          go_wp2_with fail
          clear hmin hmin'
          go_loopw [7] (fun i wr => ∃ n : Nat, 1 ≤ n ∧ n ≤ R0.length ∧ i = .int .i64 n ∧ Aside0 (pick_Cut.ext R0 (R0.length - n) n = pick_Cut.at_ many R0) ∧ Aside0 (Kd.R (Kd.fixed (Kd.slice 45 k45) w) 34 wr w.heap.size (fun _ => True) u6 P) ∧ Aside0 (Below w.heap.size w wr)) (fun i _ => R0.length - (intOf i).toNat)
          case atStart => exact ⟨n0, hn1, hn2, rfl, HE, HU, HB⟩
          case round =>
            clear HE HU HB hn1 hn2 HN0
            obtain ⟨n, hn1, hn2, rfl, HE, HU, HB⟩ := hrel
            have hn1' : (1 : Int) ≤ n := by omega
            have hn2' : (n : Int) ≤ R0.length := by omega
            by_cases hlt : n < R0.length
            · obtain ⟨ad, hA, x0, -, -, -⟩ := at_T45 (Kd.C_below HR.out HB.out) (n : Int) (by omega) (by omega)
              obtain ⟨ad', hA', y0, -, -, -⟩ := at_T45 (Kd.C_below HR.out HB.out) ((n : Int) - 1) (by omega) (by omega)
              subst hA
              injection hA' with hA'
              subst hA'
              obtain ⟨x, hx⟩ : ∃ x : S45, x = rd_T45 R0 (n : Int) := ⟨_, rfl⟩
              obtain ⟨y, hy⟩ : ∃ y : S45, y = rd_T45 R0 ((n : Int) - 1) := ⟨_, rfl⟩
              rw [← hx, Int.toNat_natCast] at x0
              rw [← hy, show ((n : Int) - 1).toNat = n - 1 by omega] at y0
              have hxg : x = R0.getD n z45 := by rw [hx, rd_T45, Int.toNat_natCast]
              have hyg : y = R0.getD (n - 1) z45 := by rw [hy, rd_T45, show ((n : Int) - 1).toNat = n - 1 by omega]
              have hext : pick_Cut.ext R0 (R0.length - n) n = if x.f0.toList = y.f0.toList then pick_Cut.ext R0 (R0.length - (n + 1)) (n + 1) else n := by
                conv => lhs; rw [show R0.length - n = (R0.length - (n + 1)) + 1 by omega]; unfold pick_Cut.ext
                rw [hxg, hyg]
                by_cases q : (R0.getD n z45).f0.toList = (R0.getD (n - 1) z45).f0.toList
                · rw [if_pos ⟨hlt, q⟩, if_pos q]
                · rw [if_neg (fun h => q h.2), if_neg q]
              have HX := Aside0.mk hext
              clear hx hy hxg hyg hext
              have hltb : decide ((n : Int) < R0.length) = true := decide_eq_true (by omega)
              by_cases q : x.f0.toList = y.f0.toList
              · have qb : (x.f0.toList == y.f0.toList) = true := beq_iff_eq.2 q
                have HE2 : Aside0 (pick_Cut.ext R0 (R0.length - (n + 1)) (n + 1) = pick_Cut.at_ many R0) := ⟨by rw [← HE.out, HX.out, if_pos q]⟩
                clear q HE HX
                go_wp2_with fail
                go_quiet (fail)
                go_wp2_with fail
                refine ⟨⟨n + 1, by omega, by omega, by go_num, HE2, ⟨Kd.R_drewN HU.out _⟩, ⟨pw_below_drewN HB.out _⟩⟩, by simp [intOf]; omega⟩
              · have qb : (x.f0.toList == y.f0.toList) = false := beq_eq_false_iff_ne.2 q
                have HE2 : Aside0 (n = pick_Cut.at_ many R0) := ⟨by rw [← HE.out, HX.out, if_neg q]⟩
                clear q HE HX
                go_wp2_with fail
                go_quiet (fail)
                have HU2 := Aside0.mk (Kd.R_drewN HU.out nq)
                have HB2 := Aside0.mk (pw_below_drewN HB.out nq)
                generalize wr.drewN nq = wr2 at HU2 HB2 ⊢
                clear HU HB x0 y0
                obtain ⟨i0, hi, hzz⟩ := Option.map_eq_some_iff.1 info45
                simp only [Prod.mk.injEq] at hzz
                obtain ⟨X, hX⟩ : ∃ X, X = R0.take n := ⟨_, rfl⟩
                have hXl : X.length = n := by rw [hX, List.length_take]; omega
                have hXC := Kd.C_take HR.out hn2
                rw [← hX, hXl] at hXC
                have HXC := Aside0.mk hXC
                have HXL := Aside0.mk hXl
                have hcut2 := pick_Cut.cut3 HR.out i0 hi hzz.2.1 c n hn2 hRc
                obtain ⟨A', hcut, hRC⟩ := pick_Cut.cut_ HR.out i0 hi hzz.2.1 c n hn2 hRc
                obtain ⟨R1, hR1⟩ : ∃ R1, R1 = R0.drop n := ⟨_, rfl⟩
                have hR1l : R1.length = R0.length - n := by rw [hR1, List.length_drop]
                rw [← hR1] at hcut hRC
                have HRC := Aside0.mk hRC
                obtain ⟨d', rfl⟩ : ∃ d', d = d' + 1 := ⟨d - 1, by have := HD.out; omega⟩
                have hP2 := HP.out
                rw [pick_Cut.pieces, if_neg (by intro q; rw [q] at hn2; simp at hn2; omega), ← HE2.out, ← hX, ← hR1] at hP2
                have HP2 : Aside0 ((P ++ [X]) ++ pick_Cut.pieces many d' R1 = r1) := ⟨by rw [List.append_assoc]; exact hP2⟩
                have HD2 : Aside0 (R1.length ≤ d') := ⟨by have := HD.out; omega⟩
                have HPL2 : Aside0 ((P ++ [X]).length + R1.length < 1000000) := ⟨by have := HPL.out; rw [List.length_append, List.length_singleton]; omega⟩
                have hR1c : R1.length ≤ c - n := by omega
                have hR1m : R1.length < 1000000 := by omega
                have HML : Aside0 (R1.length < R0.length) := ⟨by omega⟩
                have HPS : Aside0 (P.length < 1000000) := ⟨by have := HPL.out; omega⟩
                clear hi hzz hXC hXl hRC hR1l hP2 hX hR1 HP HD HPL HE2
                go_wp2_with ((with_reducible refine gate_builtin (b := .append) (xs := #[.tmp 39, .tmp 44]) rfl ?_); refine Kd.R_append (Kd.fixed (Kd.slice 45 k45) w) (w0 := w) w.heap.size rfl (.tmp 39) (.tmp 44) 35 34 (.slice none 0 0) 24 rfl Try.underlying35 info34 rfl Nat.zero_lt_one (by omega) _ P X [.slice _ n n] (fun _ => True) (fun _ => False) rfl (by first | (go_simp; done) | (go_simp; rfl)) ?aP (fun _ hk => hk.elim) ?aF ?aO ?aB ?aS ?aL ?_; (case aP => exact ⟨_, n, by rw [HXL.out], by rw [HXL.out]; exact Nat.le_refl _, by rw [HXL.out]; exact HXC.out⟩); (case aF => exact fun _ _ => trivial); (case aO => exact HU2.out); (case aB => exact HB2.out); (case aS => exact HB2.out.size); (case aL => have := HPS.out; omega); intro v3 w3 ho hb hg hat; have HU3 := Aside0.mk ho; have HB3 := Aside0.mk hb; clear ho hb hg hat)
                refine ⟨⟨d', R1, P ++ [X], A', c - n, rfl, hR1c, hR1m, HRC, HP2, HD2, HPL2, HU3, HB3⟩, HML.out⟩
            · have hE := HE.out
              rw [show R0.length - n = 0 by omega] at hE
              have HE2 : Aside0 (n = pick_Cut.at_ many R0) := ⟨hE⟩
              have hltb : decide ((n : Int) < R0.length) = false := decide_eq_false (by omega)
              clear hE HE
              go_wp2_with fail
              go_quiet (fail)
              have HU2 := Aside0.mk (Kd.R_drewN HU.out nq)
              have HB2 := Aside0.mk (pw_below_drewN HB.out nq)
              generalize wr.drewN nq = wr2 at HU2 HB2 ⊢
              clear HU HB
              obtain ⟨i0, hi, hzz⟩ := Option.map_eq_some_iff.1 info45
              simp only [Prod.mk.injEq] at hzz
              obtain ⟨X, hX⟩ : ∃ X, X = R0.take n := ⟨_, rfl⟩
              have hXl : X.length = n := by rw [hX, List.length_take]; omega
              have hXC := Kd.C_take HR.out hn2
              rw [← hX, hXl] at hXC
              have HXC := Aside0.mk hXC
              have HXL := Aside0.mk hXl
              have hcut2 := pick_Cut.cut3 HR.out i0 hi hzz.2.1 c n hn2 hRc
              obtain ⟨A', hcut, hRC⟩ := pick_Cut.cut_ HR.out i0 hi hzz.2.1 c n hn2 hRc
              obtain ⟨R1, hR1⟩ : ∃ R1, R1 = R0.drop n := ⟨_, rfl⟩
              have hR1l : R1.length = R0.length - n := by rw [hR1, List.length_drop]
              rw [← hR1] at hcut hRC
              have HRC := Aside0.mk hRC
              obtain ⟨d', rfl⟩ : ∃ d', d = d' + 1 := ⟨d - 1, by have := HD.out; omega⟩
              have hP2 := HP.out
              rw [pick_Cut.pieces, if_neg (by intro q; rw [q] at hn2; simp at hn2; omega), ← HE2.out, ← hX, ← hR1] at hP2
              have HP2 : Aside0 ((P ++ [X]) ++ pick_Cut.pieces many d' R1 = r1) := ⟨by rw [List.append_assoc]; exact hP2⟩
              have HD2 : Aside0 (R1.length ≤ d') := ⟨by have := HD.out; omega⟩
              have HPL2 : Aside0 ((P ++ [X]).length + R1.length < 1000000) := ⟨by have := HPL.out; rw [List.length_append, List.length_singleton]; omega⟩
              have hR1c : R1.length ≤ c - n := by omega
              have hR1m : R1.length < 1000000 := by omega
              have HML : Aside0 (R1.length < R0.length) := ⟨by omega⟩
              have HPS : Aside0 (P.length < 1000000) := ⟨by have := HPL.out; omega⟩
              clear hi hzz hXC hXl hRC hR1l hP2 hX hR1 HP HD HPL HE2
              go_wp2_with ((with_reducible refine gate_builtin (b := .append) (xs := #[.tmp 39, .tmp 44]) rfl ?_); refine Kd.R_append (Kd.fixed (Kd.slice 45 k45) w) (w0 := w) w.heap.size rfl (.tmp 39) (.tmp 44) 35 34 (.slice none 0 0) 24 rfl Try.underlying35 info34 rfl Nat.zero_lt_one (by omega) _ P X [.slice _ n n] (fun _ => True) (fun _ => False) rfl (by first | (go_simp; done) | (go_simp; rfl)) ?aP (fun _ hk => hk.elim) ?aF ?aO ?aB ?aS ?aL ?_; (case aP => exact ⟨_, n, by rw [HXL.out], by rw [HXL.out]; exact Nat.le_refl _, by rw [HXL.out]; exact HXC.out⟩); (case aF => exact fun _ _ => trivial); (case aO => exact HU2.out); (case aB => exact HB2.out); (case aS => exact HB2.out.size); (case aL => have := HPS.out; omega); intro v3 w3 ho hb hg hat; have HU3 := Aside0.mk ho; have HB3 := Aside0.mk hb; clear ho hb hg hat)
              refine ⟨⟨d', R1, P ++ [X], A', c - n, rfl, hR1c, hR1m, HRC, HP2, HD2, HPL2, HU3, HB3⟩, HML.out⟩
    · rw [if_neg hlen] at h
      cases h


/-! ### palinodelaw16_examples: function 8 -/
def palinodelaw16_examples.f  : Option (Bool) := (pick_Cut.f (([(⟨(⟨#[97]⟩ : ByteArray), 2, false, (⟨#[]⟩ : ByteArray)⟩ : S45), (⟨(⟨#[97]⟩ : ByteArray), 1, false, (⟨#[]⟩ : ByteArray)⟩ : S45), (⟨(⟨#[98]⟩ : ByteArray), 3, false, (⟨#[]⟩ : ByteArray)⟩ : S45), (⟨(⟨#[99]⟩ : ByteArray), 4, false, (⟨#[]⟩ : ByteArray)⟩ : S45)] : List (S45))) 1).bind fun bt153 => ((pick_Pick.f ([] : List (S49)) ([] : List Int) 0).bind fun bt157 => ((pick_Pick.f (([(⟨1, 0, (⟨#[97]⟩ : ByteArray), (⟨#[99]⟩ : ByteArray), 1⟩ : S49), (⟨2, 0, (⟨#[97]⟩ : ByteArray), (⟨#[99]⟩ : ByteArray), 1⟩ : S49), (⟨3, 0, (⟨#[98]⟩ : ByteArray), (⟨#[100]⟩ : ByteArray), 1⟩ : S49), (⟨4, 1, (⟨#[100]⟩ : ByteArray), (⟨#[101]⟩ : ByteArray), 1⟩ : S49)] : List (S49))) ([] : List Int) 0).bind fun bt171 => (if (bt153.1.length : Int) = 3 then (if 0 < (bt153.1.length : Int) then (if ((rd_L6 bt153.1 0).length : Int) = 2 then (if bt153.2.isNone = true then (if bt157.2.2.2.2 = true then (some false) else (if bt171.2.2.2.2 = true then (if (bt171.2.1.length : Int) = 3 then (if (bt171.2.2.1.length : Int) = 1 then (if bt171.2.2.2.1 = true then ((pick_Limit.f 1).bind fun t183 => (if t183 = 4000 then ((pick_Limit.f 2).bind fun t184 => (some (t184 == 16000))) else (some false))) else (some false)) else (some false)) else (some false)) else (some false))) else (some false)) else (some false)) else (none)) else (some false))))
theorem palinodelaw16_examples.sure : palinodelaw16_examples.f = some true := by kernel_rfl
set_option maxHeartbeats 8000000 in
set_option maxRecDepth 100000 in
theorem palinodelaw16_examples.calls_sure (w : World) (h : palinodelaw16_examples.f = some true) :
    Calls Try.prog 8 #[] w fun e w' => e = .returned (.bool true) ∧ Below w.heap.size w w' := by
  have hu45 := Try.underlying45
  have hu25 := Try.underlying25
  have hu28 := Try.underlying28
  have hu49 := Try.underlying49
  have hu39 := Try.underlying39
  have hu58 := Try.underlying58
  have HB := Aside0.mk (Below.refl w.heap.size w)
  have H : ((pick_Cut.f (([(⟨(⟨#[97]⟩ : ByteArray), 2, false, (⟨#[]⟩ : ByteArray)⟩ : S45), (⟨(⟨#[97]⟩ : ByteArray), 1, false, (⟨#[]⟩ : ByteArray)⟩ : S45), (⟨(⟨#[98]⟩ : ByteArray), 3, false, (⟨#[]⟩ : ByteArray)⟩ : S45), (⟨(⟨#[99]⟩ : ByteArray), 4, false, (⟨#[]⟩ : ByteArray)⟩ : S45)] : List (S45))) 1).bind fun bt153 => ((pick_Pick.f ([] : List (S49)) ([] : List Int) 0).bind fun bt157 => ((pick_Pick.f (([(⟨1, 0, (⟨#[97]⟩ : ByteArray), (⟨#[99]⟩ : ByteArray), 1⟩ : S49), (⟨2, 0, (⟨#[97]⟩ : ByteArray), (⟨#[99]⟩ : ByteArray), 1⟩ : S49), (⟨3, 0, (⟨#[98]⟩ : ByteArray), (⟨#[100]⟩ : ByteArray), 1⟩ : S49), (⟨4, 1, (⟨#[100]⟩ : ByteArray), (⟨#[101]⟩ : ByteArray), 1⟩ : S49)] : List (S49))) ([] : List Int) 0).bind fun bt171 => (if (bt153.1.length : Int) = 3 then (if 0 < (bt153.1.length : Int) then (if ((rd_L6 bt153.1 0).length : Int) = 2 then (if bt153.2.isNone = true then (if bt157.2.2.2.2 = true then (some false) else (if bt171.2.2.2.2 = true then (if (bt171.2.1.length : Int) = 3 then (if (bt171.2.2.1.length : Int) = 1 then (if bt171.2.2.2.1 = true then ((pick_Limit.f 1).bind fun t183 => (if t183 = 4000 then ((pick_Limit.f 2).bind fun t184 => (some (t184 == 16000))) else (some false))) else (some false)) else (some false)) else (some false)) else (some false))) else (some false)) else (some false)) else (none)) else (some false))))) = some true := h
  clear h
  obtain ⟨y150, hy150⟩ : ∃ y_ : List (S45), y_ = (([(⟨(⟨#[97]⟩ : ByteArray), 2, false, (⟨#[]⟩ : ByteArray)⟩ : S45), (⟨(⟨#[97]⟩ : ByteArray), 1, false, (⟨#[]⟩ : ByteArray)⟩ : S45), (⟨(⟨#[98]⟩ : ByteArray), 3, false, (⟨#[]⟩ : ByteArray)⟩ : S45), (⟨(⟨#[99]⟩ : ByteArray), 4, false, (⟨#[]⟩ : ByteArray)⟩ : S45)] : List (S45))) := ⟨_, rfl⟩
  replace H : ((pick_Cut.f y150 1).bind fun bt153 => ((pick_Pick.f ([] : List (S49)) ([] : List Int) 0).bind fun bt157 => ((pick_Pick.f (([(⟨1, 0, (⟨#[97]⟩ : ByteArray), (⟨#[99]⟩ : ByteArray), 1⟩ : S49), (⟨2, 0, (⟨#[97]⟩ : ByteArray), (⟨#[99]⟩ : ByteArray), 1⟩ : S49), (⟨3, 0, (⟨#[98]⟩ : ByteArray), (⟨#[100]⟩ : ByteArray), 1⟩ : S49), (⟨4, 1, (⟨#[100]⟩ : ByteArray), (⟨#[101]⟩ : ByteArray), 1⟩ : S49)] : List (S49))) ([] : List Int) 0).bind fun bt171 => (if (bt153.1.length : Int) = 3 then (if 0 < (bt153.1.length : Int) then (if ((rd_L6 bt153.1 0).length : Int) = 2 then (if bt153.2.isNone = true then (if bt157.2.2.2.2 = true then (some false) else (if bt171.2.2.2.2 = true then (if (bt171.2.1.length : Int) = 3 then (if (bt171.2.2.1.length : Int) = 1 then (if bt171.2.2.2.1 = true then ((pick_Limit.f 1).bind fun t183 => (if t183 = 4000 then ((pick_Limit.f 2).bind fun t184 => (some (t184 == 16000))) else (some false))) else (some false)) else (some false)) else (some false)) else (some false))) else (some false)) else (some false)) else (none)) else (some false))))) = some true := by first | (rw [hy150]; with_reducible exact H) | (have H2_ := (Option.bind_some _ _).symm.trans H; rw [hy150]; with_reducible exact H2_) | (have H2_ := (Option.bind_some _ _).symm.trans H; with_reducible exact H2_) | with_reducible exact H | (rw [hy150]; exact H) | exact H
  have Ny150 := Aside0.mk hy150
  clear hy150
  replace H := Option.bind_eq_some_iff.mp H
  obtain ⟨⟨t153, t154⟩, A10, H⟩ := H
  replace H : ((pick_Pick.f ([] : List (S49)) ([] : List Int) 0).bind fun bt157 => ((pick_Pick.f (([(⟨1, 0, (⟨#[97]⟩ : ByteArray), (⟨#[99]⟩ : ByteArray), 1⟩ : S49), (⟨2, 0, (⟨#[97]⟩ : ByteArray), (⟨#[99]⟩ : ByteArray), 1⟩ : S49), (⟨3, 0, (⟨#[98]⟩ : ByteArray), (⟨#[100]⟩ : ByteArray), 1⟩ : S49), (⟨4, 1, (⟨#[100]⟩ : ByteArray), (⟨#[101]⟩ : ByteArray), 1⟩ : S49)] : List (S49))) ([] : List Int) 0).bind fun bt171 => (if (t153.length : Int) = 3 then (if 0 < (t153.length : Int) then (if ((rd_L6 t153 0).length : Int) = 2 then (if t154.isNone = true then (if bt157.2.2.2.2 = true then (some false) else (if bt171.2.2.2.2 = true then (if (bt171.2.1.length : Int) = 3 then (if (bt171.2.2.1.length : Int) = 1 then (if bt171.2.2.2.1 = true then ((pick_Limit.f 1).bind fun t183 => (if t183 = 4000 then ((pick_Limit.f 2).bind fun t184 => (some (t184 == 16000))) else (some false))) else (some false)) else (some false)) else (some false)) else (some false))) else (some false)) else (some false)) else (none)) else (some false)))) = some true := H
  have A1 := Aside0.mk A10
  clear A10
  replace H := Option.bind_eq_some_iff.mp H
  obtain ⟨⟨t157, t158, t161, t164, t165⟩, A20, H⟩ := H
  replace H : ((pick_Pick.f (([(⟨1, 0, (⟨#[97]⟩ : ByteArray), (⟨#[99]⟩ : ByteArray), 1⟩ : S49), (⟨2, 0, (⟨#[97]⟩ : ByteArray), (⟨#[99]⟩ : ByteArray), 1⟩ : S49), (⟨3, 0, (⟨#[98]⟩ : ByteArray), (⟨#[100]⟩ : ByteArray), 1⟩ : S49), (⟨4, 1, (⟨#[100]⟩ : ByteArray), (⟨#[101]⟩ : ByteArray), 1⟩ : S49)] : List (S49))) ([] : List Int) 0).bind fun bt171 => (if (t153.length : Int) = 3 then (if 0 < (t153.length : Int) then (if ((rd_L6 t153 0).length : Int) = 2 then (if t154.isNone = true then (if t165 = true then (some false) else (if bt171.2.2.2.2 = true then (if (bt171.2.1.length : Int) = 3 then (if (bt171.2.2.1.length : Int) = 1 then (if bt171.2.2.2.1 = true then ((pick_Limit.f 1).bind fun t183 => (if t183 = 4000 then ((pick_Limit.f 2).bind fun t184 => (some (t184 == 16000))) else (some false))) else (some false)) else (some false)) else (some false)) else (some false))) else (some false)) else (some false)) else (none)) else (some false))) = some true := H
  have A2 := Aside0.mk A20
  clear A20
  obtain ⟨y167, hy167⟩ : ∃ y_ : List (S49), y_ = (([(⟨1, 0, (⟨#[97]⟩ : ByteArray), (⟨#[99]⟩ : ByteArray), 1⟩ : S49), (⟨2, 0, (⟨#[97]⟩ : ByteArray), (⟨#[99]⟩ : ByteArray), 1⟩ : S49), (⟨3, 0, (⟨#[98]⟩ : ByteArray), (⟨#[100]⟩ : ByteArray), 1⟩ : S49), (⟨4, 1, (⟨#[100]⟩ : ByteArray), (⟨#[101]⟩ : ByteArray), 1⟩ : S49)] : List (S49))) := ⟨_, rfl⟩
  replace H : ((pick_Pick.f y167 ([] : List Int) 0).bind fun bt171 => (if (t153.length : Int) = 3 then (if 0 < (t153.length : Int) then (if ((rd_L6 t153 0).length : Int) = 2 then (if t154.isNone = true then (if t165 = true then (some false) else (if bt171.2.2.2.2 = true then (if (bt171.2.1.length : Int) = 3 then (if (bt171.2.2.1.length : Int) = 1 then (if bt171.2.2.2.1 = true then ((pick_Limit.f 1).bind fun t183 => (if t183 = 4000 then ((pick_Limit.f 2).bind fun t184 => (some (t184 == 16000))) else (some false))) else (some false)) else (some false)) else (some false)) else (some false))) else (some false)) else (some false)) else (none)) else (some false))) = some true := by first | (rw [hy167]; with_reducible exact H) | (have H2_ := (Option.bind_some _ _).symm.trans H; rw [hy167]; with_reducible exact H2_) | (have H2_ := (Option.bind_some _ _).symm.trans H; with_reducible exact H2_) | with_reducible exact H | (rw [hy167]; exact H) | exact H
  have Ny167 := Aside0.mk hy167
  clear hy167
  replace H := Option.bind_eq_some_iff.mp H
  obtain ⟨⟨t171, t172, t175, t178, t179⟩, A30, H⟩ := H
  replace H : (if (t153.length : Int) = 3 then (if 0 < (t153.length : Int) then (if ((rd_L6 t153 0).length : Int) = 2 then (if t154.isNone = true then (if t165 = true then (some false) else (if t179 = true then (if (t172.length : Int) = 3 then (if (t175.length : Int) = 1 then (if t178 = true then ((pick_Limit.f 1).bind fun t183 => (if t183 = 4000 then ((pick_Limit.f 2).bind fun t184 => (some (t184 == 16000))) else (some false))) else (some false)) else (some false)) else (some false)) else (some false))) else (some false)) else (some false)) else (none)) else (some false)) = some true := H
  have A3 := Aside0.mk A30
  clear A30
  by_cases c4 : (t153.length : Int) = 3
  rotate_left
  · rw [if_neg c4] at H
    have c4b0 : ((t153.length : Int) == 3) = false := beq_eq_false_iff_ne.mpr c4
    have c4b1 : ((t153.length : Int) != 3) = true := bne_iff_ne.mpr c4
    exact absurd H (by simp)
  rw [if_pos c4] at H
  have c4b0 : ((t153.length : Int) == 3) = true := beq_iff_eq.mpr c4
  have c4b1 : ((t153.length : Int) != 3) = false := bne_eq_false_iff_eq.mpr c4
  clear c4
  by_cases c5 : 0 < (t153.length : Int)
  rotate_left
  · rw [if_neg c5] at H
    exact absurd H (by simp)
  rw [if_pos c5] at H
  have c5b0 : decide (0 < (t153.length : Int)) = true := decide_eq_true c5
  have c5b1 : decide (0 < t153.length) = true := decide_eq_true (by omega)
  clear c5
  by_cases c6 : ((rd_L6 t153 0).length : Int) = 2
  rotate_left
  · rw [if_neg c6] at H
    have c6b0 : (((rd_L6 t153 0).length : Int) == 2) = false := beq_eq_false_iff_ne.mpr c6
    have c6b1 : (((rd_L6 t153 0).length : Int) != 2) = true := bne_iff_ne.mpr c6
    exact absurd H (by simp)
  rw [if_pos c6] at H
  have c6b0 : (((rd_L6 t153 0).length : Int) == 2) = true := beq_iff_eq.mpr c6
  have c6b1 : (((rd_L6 t153 0).length : Int) != 2) = false := bne_eq_false_iff_eq.mpr c6
  clear c6
  rcases t154 with _ | q182
  · have H1 : (if t165 = true then (some false) else (if t179 = true then (if (t172.length : Int) = 3 then (if (t175.length : Int) = 1 then (if t178 = true then ((pick_Limit.f 1).bind fun t183 => (if t183 = 4000 then ((pick_Limit.f 2).bind fun t184 => (some (t184 == 16000))) else (some false))) else (some false)) else (some false)) else (some false)) else (some false))) = some true := by rw [if_pos (show (none : Option Int).isNone = true by rfl)] at H; exact H
    clear H
    have H := H1
    clear H1
    try simp only [errW_none, errW_some]
    by_cases c7 : t165 = true
    · subst c7
      have H1 : (some false) = some true := by rw [if_pos rfl] at H; exact H
      clear H
      have H := H1
      clear H1
      exact absurd H (by simp)
    replace c7 := Bool.eq_false_iff.mpr c7
    subst c7
    have H1 : (if t179 = true then (if (t172.length : Int) = 3 then (if (t175.length : Int) = 1 then (if t178 = true then ((pick_Limit.f 1).bind fun t183 => (if t183 = 4000 then ((pick_Limit.f 2).bind fun t184 => (some (t184 == 16000))) else (some false))) else (some false)) else (some false)) else (some false)) else (some false)) = some true := by rw [if_neg (show ¬ (false = true) by decide)] at H; exact H
    clear H
    have H := H1
    clear H1
    by_cases c32 : t179 = true
    rotate_left
    · replace c32 := Bool.eq_false_iff.mpr c32
      subst c32
      have H1 : (some false) = some true := by rw [if_neg (show ¬ (false = true) by decide)] at H; exact H
      clear H
      have H := H1
      clear H1
      exact absurd H (by simp)
    subst c32
    have H1 : (if (t172.length : Int) = 3 then (if (t175.length : Int) = 1 then (if t178 = true then ((pick_Limit.f 1).bind fun t183 => (if t183 = 4000 then ((pick_Limit.f 2).bind fun t184 => (some (t184 == 16000))) else (some false))) else (some false)) else (some false)) else (some false)) = some true := by rw [if_pos rfl] at H; exact H
    clear H
    have H := H1
    clear H1
    by_cases c33 : (t172.length : Int) = 3
    rotate_left
    · rw [if_neg c33] at H
      have c33b0 : ((t172.length : Int) == 3) = false := beq_eq_false_iff_ne.mpr c33
      have c33b1 : ((t172.length : Int) != 3) = true := bne_iff_ne.mpr c33
      exact absurd H (by simp)
    rw [if_pos c33] at H
    have c33b0 : ((t172.length : Int) == 3) = true := beq_iff_eq.mpr c33
    have c33b1 : ((t172.length : Int) != 3) = false := bne_eq_false_iff_eq.mpr c33
    clear c33
    by_cases c34 : (t175.length : Int) = 1
    rotate_left
    · rw [if_neg c34] at H
      have c34b0 : ((t175.length : Int) == 1) = false := beq_eq_false_iff_ne.mpr c34
      have c34b1 : ((t175.length : Int) != 1) = true := bne_iff_ne.mpr c34
      exact absurd H (by simp)
    rw [if_pos c34] at H
    have c34b0 : ((t175.length : Int) == 1) = true := beq_iff_eq.mpr c34
    have c34b1 : ((t175.length : Int) != 1) = false := bne_eq_false_iff_eq.mpr c34
    clear c34
    by_cases c35 : t178 = true
    rotate_left
    · replace c35 := Bool.eq_false_iff.mpr c35
      subst c35
      have H1 : (some false) = some true := by rw [if_neg (show ¬ (false = true) by decide)] at H; exact H
      clear H
      have H := H1
      clear H1
      exact absurd H (by simp)
    subst c35
    have H1 : ((pick_Limit.f 1).bind fun t183 => (if t183 = 4000 then ((pick_Limit.f 2).bind fun t184 => (some (t184 == 16000))) else (some false))) = some true := by rw [if_pos rfl] at H; exact H
    clear H
    have H := H1
    clear H1
    replace H := Option.bind_eq_some_iff.mp H
    obtain ⟨t183, A360, H⟩ := H
    replace H : (if t183 = 4000 then ((pick_Limit.f 2).bind fun t184 => (some (t184 == 16000))) else (some false)) = some true := H
    have A36 := Aside0.mk A360
    clear A360
    by_cases c37 : t183 = 4000
    rotate_left
    · rw [if_neg c37] at H
      have c37b0 : (t183 == 4000) = false := beq_eq_false_iff_ne.mpr c37
      have c37b1 : (t183 != 4000) = true := bne_iff_ne.mpr c37
      exact absurd H (by simp)
    rw [if_pos c37] at H
    have c37b0 : (t183 == 4000) = true := beq_iff_eq.mpr c37
    have c37b1 : (t183 != 4000) = false := bne_eq_false_iff_eq.mpr c37
    clear c37
    replace H := Option.bind_eq_some_iff.mp H
    obtain ⟨t184, A380, H⟩ := H
    replace H : (some (t184 == 16000)) = some true := H
    have A38 := Aside0.mk A380
    clear A380
    have er_ := Aside0.mk (Option.some.inj H)
    clear H
    go_enter Try.func8, Try.ntmps8
    go_wp2_with (first | ((with_reducible refine gate_dst (N := 13) rfl ?_); (try (refine gate_guard (by rfl) ?_; dsimp only)); refine Kd.R_lit k45 _ 45 ?hg (N := 13) ?hd (xs := ([(⟨(⟨#[97]⟩ : ByteArray), 2, false, (⟨#[]⟩ : ByteArray)⟩ : S45), (⟨(⟨#[97]⟩ : ByteArray), 1, false, (⟨#[]⟩ : ByteArray)⟩ : S45), (⟨(⟨#[98]⟩ : ByteArray), 3, false, (⟨#[]⟩ : ByteArray)⟩ : S45), (⟨(⟨#[99]⟩ : ByteArray), 4, false, (⟨#[]⟩ : ByteArray)⟩ : S45)] : List (S45))) (inner := [.string (⟨#[97]⟩ : ByteArray), .int .i64 2, .bool false, .string (⟨#[]⟩ : ByteArray), .string (⟨#[97]⟩ : ByteArray), .int .i64 1, .bool false, .string (⟨#[]⟩ : ByteArray), .string (⟨#[98]⟩ : ByteArray), .int .i64 3, .bool false, .string (⟨#[]⟩ : ByteArray), .string (⟨#[99]⟩ : ByteArray), .int .i64 4, .bool false, .string (⟨#[]⟩ : ByteArray)]) (ok := fun _ => True) (okp := fun _ => True) ?hr ?hp (fun _ hk => hk) trivial (Below.refl _ _) (Nat.le_refl _) (by simp) ?_; (case hd => rfl); (case hg => rfl); (case hr => first | (go_simp; done) | (go_simp; rfl)); (case hp => exact (Reps.c4 (show Kd.M k45 _ _ _ (⟨(⟨#[97]⟩ : ByteArray), 2, false, (⟨#[]⟩ : ByteArray)⟩ : S45) [.string (⟨#[97]⟩ : ByteArray), .int .i64 2, .bool false, .string (⟨#[]⟩ : ByteArray)] from (k45_mkM _ _ _ (⟨(⟨#[97]⟩ : ByteArray), 2, false, (⟨#[]⟩ : ByteArray)⟩ : S45) )) (Reps.c4 (show Kd.M k45 _ _ _ (⟨(⟨#[97]⟩ : ByteArray), 1, false, (⟨#[]⟩ : ByteArray)⟩ : S45) [.string (⟨#[97]⟩ : ByteArray), .int .i64 1, .bool false, .string (⟨#[]⟩ : ByteArray)] from (k45_mkM _ _ _ (⟨(⟨#[97]⟩ : ByteArray), 1, false, (⟨#[]⟩ : ByteArray)⟩ : S45) )) (Reps.c4 (show Kd.M k45 _ _ _ (⟨(⟨#[98]⟩ : ByteArray), 3, false, (⟨#[]⟩ : ByteArray)⟩ : S45) [.string (⟨#[98]⟩ : ByteArray), .int .i64 3, .bool false, .string (⟨#[]⟩ : ByteArray)] from (k45_mkM _ _ _ (⟨(⟨#[98]⟩ : ByteArray), 3, false, (⟨#[]⟩ : ByteArray)⟩ : S45) )) (Reps.c4 (show Kd.M k45 _ _ _ (⟨(⟨#[99]⟩ : ByteArray), 4, false, (⟨#[]⟩ : ByteArray)⟩ : S45) [.string (⟨#[99]⟩ : ByteArray), .int .i64 4, .bool false, .string (⟨#[]⟩ : ByteArray)] from (k45_mkM _ _ _ (⟨(⟨#[99]⟩ : ByteArray), 4, false, (⟨#[]⟩ : ByteArray)⟩ : S45) )) (Reps.none _ _)))))); intro v151 w39 ho40 hb hg_ hnew_; clear hg_ hnew_; (first | rw [← Ny150.out] at ho40 | (simp only [Int.reduceToNat] at ho40; rw [← Ny150.out] at ho40)); have n0_ := Aside0.mk (Kd.R_lower ho40 (below_size (by repeat (first | (with_reducible first | exact HB.out | apply below_alloc | apply pw_below_drewN | apply below_drew1) | exact HB.out)))); have n1_ := Aside0.mk (below_step (by repeat (first | (with_reducible first | exact HB.out | apply below_alloc | apply pw_below_drewN | apply below_drew1) | exact HB.out)) hb); clear HB; have HO152 := n0_; have HB := n1_; clear n0_ n1_; clear hb ho40; obtain ⟨Ao41, co41, eo41⟩ := Kd.R_slice HO152.out; subst eo41) | ((with_reducible refine gate_callee (f := 15) rfl ?_); refine goesL_ (some 14) rfl rfl Try.func15 (by kernel_rfl) rfl #[.slice Ao41 y150.length co41, .int .i64 1] rfl (by (try simp only [List.map_toArray, List.map_cons, List.map_nil]); first | done | rfl | (simp only [List.length_drop, List.length_take]; rfl)) ?_; (with_reducible refine (pick_Cut.calls _ _ y150 1 t153 none _ ?side1 ?side2 A1.out).mono ?_); (case side1 => repeat (first | exact (Kd.R_reads' HO152.out).2.2 | (with_reducible refine Kd.C_alloc ?_ _) | (with_reducible refine Kd.C_drewN ?_ _) | (with_reducible refine Kd.C_drew ?_))); (case side2 => exact (Kd.R_reads' HO152.out).2.1); rintro e w42 ⟨v155, rfl, ho0, hb⟩; refine ⟨_, rfl, ?_⟩; have n0_ := Aside0.mk (Kd.R_below (by (with_reducible repeat (first | apply Kd.R_alloc | apply Kd.R_drewN | apply Kd.R_drew)); exact HO152.out) hb); have n1_ := Aside0.mk (Kd.S_lower (Kd.S_new' ho0 (Kd.R_lt (by (with_reducible repeat (first | apply Kd.R_alloc | apply Kd.R_drewN | apply Kd.R_drew)); exact HO152.out))) (below_size (by repeat (first | (with_reducible first | exact HB.out | apply below_alloc | apply pw_below_drewN | apply below_drew1) | exact HB.out)))); have n2_ := Aside0.mk (below_step (by repeat (first | (with_reducible first | exact HB.out | apply below_alloc | apply pw_below_drewN | apply below_drew1) | exact HB.out)) hb); clear HO152; clear HB; have HO152 := n0_; have HO156 := n1_; have HB := n2_; clear n0_ n1_ n2_; (try clear hb); (try clear hb2); (try clear hk); (try clear hi); (try clear ho0); (try simp only [errW_none, errW_some])) | ((with_reducible refine gate_callee (f := 9) rfl ?_); refine goesL_ (some 19) rfl rfl Try.func9 (by kernel_rfl) rfl #[.agg #[.slice none 0 0, .slice none 0 0, .int .i64 0]] rfl (by (try simp only [List.map_toArray, List.map_cons, List.map_nil]); first | done | rfl | (simp only [List.length_drop, List.length_take]; rfl)) ?_; (refine (pick_Pick.calls _ _ ([] : List (S49)) _ _ ([] : List Int) 0 t157 t158 t161 t164 false _ ?side1 ?side2 ?side3 ?side4 A2.out).mono ?_); (case side1 => exact Kd.C_nil _ _); (case side2 => exact Nat.le_refl _); (case side3 => exact Kd.C_nil _ _); (case side4 => exact Nat.le_refl _); rintro e w43 ⟨v159, v162, rfl, ho0, ho1, hb⟩; refine ⟨_, rfl, ?_⟩; have n0_ := Aside0.mk (Kd.R_below (by (with_reducible repeat (first | apply Kd.R_alloc | apply Kd.R_drewN | apply Kd.R_drew)); exact HO152.out) hb); have n1_ := Aside0.mk (Kd.S_below (by (with_reducible repeat (first | apply Kd.S_alloc | apply Kd.S_drewN | apply Kd.S_drew)); exact HO156.out) hb); have n2_ := Aside0.mk (Kd.R_lower ho0 (below_size (by repeat (first | (with_reducible first | exact HB.out | apply below_alloc | apply pw_below_drewN | apply below_drew1) | exact HB.out)))); have n3_ := Aside0.mk (Kd.R_lower ho1 (below_size (by repeat (first | (with_reducible first | exact HB.out | apply below_alloc | apply pw_below_drewN | apply below_drew1) | exact HB.out)))); have n4_ := Aside0.mk (below_step (by repeat (first | (with_reducible first | exact HB.out | apply below_alloc | apply pw_below_drewN | apply below_drew1) | exact HB.out)) hb); clear HO152; clear HO156; clear HB; have HO152 := n0_; have HO156 := n1_; have HO160 := n2_; have HO163 := n3_; have HB := n4_; clear n0_ n1_ n2_ n3_ n4_; (try clear hb); (try clear hb2); (try clear hk); (try clear hi); (try clear ho0); (try clear ho1)) | ((with_reducible refine gate_dst (N := 3) rfl ?_); (try (refine gate_guard (by rfl) ?_; dsimp only)); refine box_event ?hg (N := 3) ?hd (cs := #[.int .i64 0, .slice none 0 0, .slice none 0 0, .bool false]) (t := 28) ?hr ?_; (case hd => rfl); (case hg => rfl); (case hr => first | (go_simp; done) | (go_simp; rfl)); intro gb166 hg w44 hbox hb; have n0_ := Aside0.mk (Kd.R_below (by (with_reducible repeat (first | apply Kd.R_alloc | apply Kd.R_drewN | apply Kd.R_drew)); exact HO152.out) hb); have n1_ := Aside0.mk (Kd.S_below (by (with_reducible repeat (first | apply Kd.S_alloc | apply Kd.S_drewN | apply Kd.S_drew)); exact HO156.out) hb); have n2_ := Aside0.mk (Kd.R_below (by (with_reducible repeat (first | apply Kd.R_alloc | apply Kd.R_drewN | apply Kd.R_drew)); exact HO160.out) hb); have n3_ := Aside0.mk (Kd.R_below (by (with_reducible repeat (first | apply Kd.R_alloc | apply Kd.R_drewN | apply Kd.R_drew)); exact HO163.out) hb); have n4_ := Aside0.mk (below_step (by repeat (first | (with_reducible first | exact HB.out | apply below_alloc | apply pw_below_drewN | apply below_drew1) | exact HB.out)) hb); have n5_ := Aside0.mk (hbox); have n6_ := Aside0.mk ((by rw [hg]; exact (below_size (by repeat (first | (with_reducible first | exact HB.out | apply below_alloc | apply pw_below_drewN | apply below_drew1) | exact HB.out))) : w.heap.size ≤ gb166)); have n7_ := Aside0.mk ((by rw [hg]; exact (below_size (by repeat (first | (with_reducible first | exact HB.out | apply below_alloc | apply pw_below_drewN | apply below_drew1) | exact HB.out))) : w.heap.size ≤ gb166)); clear HO152; clear HO156; clear HO160; clear HO163; clear HB; have HO152 := n0_; have HO156 := n1_; have HO160 := n2_; have HO163 := n3_; have HB := n4_; have BK166 := n5_; have GW166 := n6_; have GE166 := n7_; clear n0_ n1_ n2_ n3_ n4_ n5_ n6_ n7_; clear hb hbox hg; have hcz45_0 : w44.cell? ⟨gb166, 0, none⟩ = some (.int .i64 0) := (blk_cell BK166.out 0).trans rfl; have hcz45_1 : w44.cell? ⟨gb166, 1, none⟩ = some (.slice none 0 0) := (blk_cell BK166.out 1).trans rfl; have hcz45_2 : w44.cell? ⟨gb166, 2, none⟩ = some (.slice none 0 0) := (blk_cell BK166.out 2).trans rfl; have hcz45_3 : w44.cell? ⟨gb166, 3, none⟩ = some (.bool false) := (blk_cell BK166.out 3).trans rfl; have hfz45_0 := blk_frozen BK166.out 0; have hfz45_1 := blk_frozen BK166.out 1; have hfz45_2 := blk_frozen BK166.out 2; have hfz45_3 := blk_frozen BK166.out 3; obtain ⟨Ao46, co46, eo46⟩ := Kd.R_slice HO160.out; subst eo46; obtain ⟨Ao47, co47, eo47⟩ := Kd.R_slice HO163.out; subst eo47) | ((with_reducible refine gate_dst (N := 26) rfl ?_); (try (refine gate_guard (by rfl) ?_; dsimp only)); refine Kd.R_lit k49 _ 49 ?hg (N := 26) ?hd (xs := ([(⟨1, 0, (⟨#[97]⟩ : ByteArray), (⟨#[99]⟩ : ByteArray), 1⟩ : S49), (⟨2, 0, (⟨#[97]⟩ : ByteArray), (⟨#[99]⟩ : ByteArray), 1⟩ : S49), (⟨3, 0, (⟨#[98]⟩ : ByteArray), (⟨#[100]⟩ : ByteArray), 1⟩ : S49), (⟨4, 1, (⟨#[100]⟩ : ByteArray), (⟨#[101]⟩ : ByteArray), 1⟩ : S49)] : List (S49))) (inner := [.int .i64 1, .int .i64 0, .string (⟨#[97]⟩ : ByteArray), .string (⟨#[99]⟩ : ByteArray), .int .i64 1, .int .i64 2, .int .i64 0, .string (⟨#[97]⟩ : ByteArray), .string (⟨#[99]⟩ : ByteArray), .int .i64 1, .int .i64 3, .int .i64 0, .string (⟨#[98]⟩ : ByteArray), .string (⟨#[100]⟩ : ByteArray), .int .i64 1, .int .i64 4, .int .i64 1, .string (⟨#[100]⟩ : ByteArray), .string (⟨#[101]⟩ : ByteArray), .int .i64 1]) (ok := fun _ => True) (okp := fun _ => True) ?hr ?hp (fun _ hk => hk) trivial (Below.refl _ _) (Nat.le_refl _) (by simp) ?_; (case hd => rfl); (case hg => rfl); (case hr => first | (go_simp; done) | (go_simp; rfl)); (case hp => exact (Reps.c5 (show Kd.M k49 _ _ _ (⟨1, 0, (⟨#[97]⟩ : ByteArray), (⟨#[99]⟩ : ByteArray), 1⟩ : S49) [.int .i64 1, .int .i64 0, .string (⟨#[97]⟩ : ByteArray), .string (⟨#[99]⟩ : ByteArray), .int .i64 1] from (k49_mkM _ _ _ (⟨1, 0, (⟨#[97]⟩ : ByteArray), (⟨#[99]⟩ : ByteArray), 1⟩ : S49) )) (Reps.c5 (show Kd.M k49 _ _ _ (⟨2, 0, (⟨#[97]⟩ : ByteArray), (⟨#[99]⟩ : ByteArray), 1⟩ : S49) [.int .i64 2, .int .i64 0, .string (⟨#[97]⟩ : ByteArray), .string (⟨#[99]⟩ : ByteArray), .int .i64 1] from (k49_mkM _ _ _ (⟨2, 0, (⟨#[97]⟩ : ByteArray), (⟨#[99]⟩ : ByteArray), 1⟩ : S49) )) (Reps.c5 (show Kd.M k49 _ _ _ (⟨3, 0, (⟨#[98]⟩ : ByteArray), (⟨#[100]⟩ : ByteArray), 1⟩ : S49) [.int .i64 3, .int .i64 0, .string (⟨#[98]⟩ : ByteArray), .string (⟨#[100]⟩ : ByteArray), .int .i64 1] from (k49_mkM _ _ _ (⟨3, 0, (⟨#[98]⟩ : ByteArray), (⟨#[100]⟩ : ByteArray), 1⟩ : S49) )) (Reps.c5 (show Kd.M k49 _ _ _ (⟨4, 1, (⟨#[100]⟩ : ByteArray), (⟨#[101]⟩ : ByteArray), 1⟩ : S49) [.int .i64 4, .int .i64 1, .string (⟨#[100]⟩ : ByteArray), .string (⟨#[101]⟩ : ByteArray), .int .i64 1] from (k49_mkM _ _ _ (⟨4, 1, (⟨#[100]⟩ : ByteArray), (⟨#[101]⟩ : ByteArray), 1⟩ : S49) )) (Reps.none _ _)))))); intro v168 w48 ho49 hb hg_ hnew_; clear hg_ hnew_; (first | rw [← Ny167.out] at ho49 | (simp only [Int.reduceToNat] at ho49; rw [← Ny167.out] at ho49)); have n0_ := Aside0.mk (Kd.R_below (by (with_reducible repeat (first | apply Kd.R_alloc | apply Kd.R_drewN | apply Kd.R_drew)); exact (Kd.R_mono (Kd.R_far (p := ⟨gb166, 3, none⟩) (Kd.R_far (p := ⟨gb166, 2, none⟩) (Kd.R_far (p := ⟨gb166, 1, none⟩) (Kd.R_far (p := ⟨gb166, 0, none⟩) (Kd.R_types HO152.out BK166.out (by decide)) (fun _ hk => hk.2) (.int .i64 t157)) (fun _ hk => hk.2) (.slice Ao46 t158.length co46)) (fun _ hk => hk.2) (.slice Ao47 t161.length co47)) (fun _ hk => hk.2) (.bool t164)) (fun _ h_ => h_.1))) hb); have n1_ := Aside0.mk (Kd.S_below (by (with_reducible repeat (first | apply Kd.S_alloc | apply Kd.S_drewN | apply Kd.S_drew)); exact (Kd.S_mono (Kd.S_far (p := ⟨gb166, 3, none⟩) (Kd.S_far (p := ⟨gb166, 2, none⟩) (Kd.S_far (p := ⟨gb166, 1, none⟩) (Kd.S_far (p := ⟨gb166, 0, none⟩) (Kd.S_types HO156.out BK166.out (by decide)) (fun _ hk => hk.2) (.int .i64 t157)) (fun _ hk => hk.2) (.slice Ao46 t158.length co46)) (fun _ hk => hk.2) (.slice Ao47 t161.length co47)) (fun _ hk => hk.2) (.bool t164)) (fun _ h_ => h_.1))) hb); have n2_ := Aside0.mk (Kd.R_below (by (with_reducible repeat (first | apply Kd.R_alloc | apply Kd.R_drewN | apply Kd.R_drew)); exact (Kd.R_mono (Kd.R_far (p := ⟨gb166, 3, none⟩) (Kd.R_far (p := ⟨gb166, 2, none⟩) (Kd.R_far (p := ⟨gb166, 1, none⟩) (Kd.R_far (p := ⟨gb166, 0, none⟩) (Kd.R_types HO160.out BK166.out (by decide)) (fun _ hk => hk.2) (.int .i64 t157)) (fun _ hk => hk.2) (.slice Ao46 t158.length co46)) (fun _ hk => hk.2) (.slice Ao47 t161.length co47)) (fun _ hk => hk.2) (.bool t164)) (fun _ h_ => h_.1))) hb); have n3_ := Aside0.mk (Kd.R_below (by (with_reducible repeat (first | apply Kd.R_alloc | apply Kd.R_drewN | apply Kd.R_drew)); exact (Kd.R_mono (Kd.R_far (p := ⟨gb166, 3, none⟩) (Kd.R_far (p := ⟨gb166, 2, none⟩) (Kd.R_far (p := ⟨gb166, 1, none⟩) (Kd.R_far (p := ⟨gb166, 0, none⟩) (Kd.R_types HO163.out BK166.out (by decide)) (fun _ hk => hk.2) (.int .i64 t157)) (fun _ hk => hk.2) (.slice Ao46 t158.length co46)) (fun _ hk => hk.2) (.slice Ao47 t161.length co47)) (fun _ hk => hk.2) (.bool t164)) (fun _ h_ => h_.1))) hb); have n4_ := Aside0.mk (Kd.R_lower ho49 (below_size (by repeat (first | (with_reducible first | exact HB.out | apply below_alloc | apply pw_below_drewN | apply below_drew1 | refine below_set ?_ GE166.out) | exact HB.out)))); have n5_ := Aside0.mk (blk_below (g := gb166) (o := .cells #[.int .i64 t157, .slice Ao46 t158.length co46, .slice Ao47 t161.length co47, .bool t164] 28 (0, 0)) (by (with_reducible repeat (first | refine blk_drewN ?_ _ | refine blk_drew ?_ | refine blk_alloc ?_ _)); refine blk_put (cs := #[.int .i64 t157, .slice Ao46 t158.length co46, .slice Ao47 t161.length co47, .bool false]) ?_ 3 _ rfl; (with_reducible repeat (first | refine blk_drewN ?_ _ | refine blk_drew ?_ | refine blk_alloc ?_ _)); refine blk_put (cs := #[.int .i64 t157, .slice Ao46 t158.length co46, .slice none 0 0, .bool false]) ?_ 2 _ rfl; (with_reducible repeat (first | refine blk_drewN ?_ _ | refine blk_drew ?_ | refine blk_alloc ?_ _)); refine blk_put (cs := #[.int .i64 t157, .slice none 0 0, .slice none 0 0, .bool false]) ?_ 1 _ rfl; (with_reducible repeat (first | refine blk_drewN ?_ _ | refine blk_drew ?_ | refine blk_alloc ?_ _)); refine blk_put (cs := #[.int .i64 0, .slice none 0 0, .slice none 0 0, .bool false]) ?_ 0 _ rfl; (with_reducible repeat (first | refine blk_drewN ?_ _ | refine blk_drew ?_ | refine blk_alloc ?_ _)); exact BK166.out) hb); have n6_ := Aside0.mk (below_step (by repeat (first | (with_reducible first | exact HB.out | apply below_alloc | apply pw_below_drewN | apply below_drew1 | refine below_set ?_ GE166.out) | exact HB.out)) hb); clear HO152; clear HO156; clear HO160; clear HO163; clear BK166; clear HB; have HO152 := n0_; have HO156 := n1_; have HO160 := n2_; have HO163 := n3_; have HO169 := n4_; have BK166 := n5_; have HB := n6_; clear n0_ n1_ n2_ n3_ n4_ n5_ n6_; clear hb ho49; obtain ⟨Ao50, co50, eo50⟩ := Kd.R_slice HO169.out; subst eo50) | ((with_reducible refine gate_dst (N := 5) rfl ?_); (try (refine gate_guard (by rfl) ?_; dsimp only)); refine box_event ?hg (N := 5) ?hd (cs := #[.slice none 0 0, .slice none 0 0, .int .i64 0]) (t := 25) ?hr ?_; (case hd => rfl); (case hg => rfl); (case hr => first | (go_simp; done) | (go_simp; rfl)); intro gb170 hg w51 hbox hb; have n0_ := Aside0.mk (Kd.R_below (by (with_reducible repeat (first | apply Kd.R_alloc | apply Kd.R_drewN | apply Kd.R_drew)); exact HO152.out) hb); have n1_ := Aside0.mk (Kd.S_below (by (with_reducible repeat (first | apply Kd.S_alloc | apply Kd.S_drewN | apply Kd.S_drew)); exact HO156.out) hb); have n2_ := Aside0.mk (Kd.R_below (by (with_reducible repeat (first | apply Kd.R_alloc | apply Kd.R_drewN | apply Kd.R_drew)); exact HO160.out) hb); have n3_ := Aside0.mk (Kd.R_below (by (with_reducible repeat (first | apply Kd.R_alloc | apply Kd.R_drewN | apply Kd.R_drew)); exact HO163.out) hb); have n4_ := Aside0.mk (Kd.R_below (by (with_reducible repeat (first | apply Kd.R_alloc | apply Kd.R_drewN | apply Kd.R_drew)); exact HO169.out) hb); have n5_ := Aside0.mk (blk_below (g := gb166) (o := .cells #[.int .i64 t157, .slice Ao46 t158.length co46, .slice Ao47 t161.length co47, .bool t164] 28 (0, 0)) (by (with_reducible repeat (first | refine blk_drewN ?_ _ | refine blk_drew ?_ | refine blk_alloc ?_ _)); exact BK166.out) hb); have n6_ := Aside0.mk (below_step (by repeat (first | (with_reducible first | exact HB.out | apply below_alloc | apply pw_below_drewN | apply below_drew1 | refine below_set ?_ GE166.out) | exact HB.out)) hb); have n7_ := Aside0.mk (hbox); have n8_ := Aside0.mk ((by rw [hg]; exact (below_size (by repeat (first | (with_reducible first | exact HB.out | apply below_alloc | apply pw_below_drewN | apply below_drew1 | refine below_set ?_ GE166.out) | exact HB.out))) : w.heap.size ≤ gb170)); have n9_ := Aside0.mk ((by rw [hg]; exact (below_size (by repeat (first | (with_reducible first | exact HB.out | apply below_alloc | apply pw_below_drewN | apply below_drew1 | refine below_set ?_ GE166.out) | exact HB.out))) : w.heap.size ≤ gb170)); have n10_ := Aside0.mk ((by rw [hg]; exact Nat.ne_of_lt (blk_lt (g := gb166) (o := .cells #[.int .i64 t157, .slice Ao46 t158.length co46, .slice Ao47 t161.length co47, .bool t164] 28 (0, 0)) (by (with_reducible repeat (first | refine blk_drewN ?_ _ | refine blk_drew ?_ | refine blk_alloc ?_ _)); exact BK166.out)) : gb166 ≠ gb170)); have n11_ := Aside0.mk ((by rw [hg]; exact Nat.ne_of_gt (blk_lt (g := gb166) (o := .cells #[.int .i64 t157, .slice Ao46 t158.length co46, .slice Ao47 t161.length co47, .bool t164] 28 (0, 0)) (by (with_reducible repeat (first | refine blk_drewN ?_ _ | refine blk_drew ?_ | refine blk_alloc ?_ _)); exact BK166.out)) : gb170 ≠ gb166)); clear HO152; clear HO156; clear HO160; clear HO163; clear HO169; clear BK166; clear HB; have HO152 := n0_; have HO156 := n1_; have HO160 := n2_; have HO163 := n3_; have HO169 := n4_; have BK166 := n5_; have HB := n6_; have BK170 := n7_; have GW170 := n8_; have GE170 := n9_; have NB166_170 := n10_; have NB170_166 := n11_; clear n0_ n1_ n2_ n3_ n4_ n5_ n6_ n7_ n8_ n9_ n10_ n11_; clear hb hbox hg; have hnb52 := NB170_166.out; have hnc52 := NB166_170.out; have hcz53_0 : w51.cell? ⟨gb170, 0, none⟩ = some (.slice none 0 0) := (blk_cell BK170.out 0).trans rfl; have hcz53_1 : w51.cell? ⟨gb170, 1, none⟩ = some (.slice none 0 0) := (blk_cell BK170.out 1).trans rfl; have hcz53_2 : w51.cell? ⟨gb170, 2, none⟩ = some (.int .i64 0) := (blk_cell BK170.out 2).trans rfl; have hfz53_0 := blk_frozen BK170.out 0; have hfz53_1 := blk_frozen BK170.out 1; have hfz53_2 := blk_frozen BK170.out 2) | ((with_reducible refine gate_callee (f := 9) rfl ?_); refine goesL_ (some 30) rfl rfl Try.func9 (by kernel_rfl) rfl #[.agg #[.slice Ao50 y167.length co50, .slice none 0 0, .int .i64 0]] rfl (by (try simp only [List.map_toArray, List.map_cons, List.map_nil]); first | done | rfl | (simp only [List.length_drop, List.length_take]; rfl)) ?_; (refine (pick_Pick.calls _ _ y167 _ _ ([] : List Int) 0 t171 t172 t175 true true _ ?side1 ?side2 ?side3 ?side4 A3.out).mono ?_); (case side1 => refine (Kd.R_reads' (e := 49) (base := w.heap.size) (ok := fun k_ => True) (n := y167.length) (c := co50) ?_).2.2; exact (by (with_reducible repeat (first | apply Kd.R_alloc | apply Kd.R_drewN | apply Kd.R_drew)); exact (Kd.R_mono (Kd.R_far (p := ⟨gb170, 2, none⟩) (Kd.R_far (p := ⟨gb170, 1, none⟩) (Kd.R_far (p := ⟨gb170, 0, none⟩) (Kd.R_types HO169.out BK170.out (by decide)) (fun _ hk => hk.2) (.slice Ao50 y167.length co50)) (fun _ hk => hk.2) (.slice none 0 0)) (fun _ hk => hk.2) (.int .i64 0)) (fun _ h_ => h_.1)))); (case side2 => exact (Kd.R_reads' HO169.out).2.1); (case side3 => exact Kd.C_nil _ _); (case side4 => exact Nat.le_refl _); rintro e w54 ⟨v173, v176, rfl, ho0, ho1, hb⟩; refine ⟨_, rfl, ?_⟩; have n0_ := Aside0.mk (Kd.R_below (by (with_reducible repeat (first | apply Kd.R_alloc | apply Kd.R_drewN | apply Kd.R_drew)); exact (Kd.R_mono (Kd.R_far (p := ⟨gb170, 2, none⟩) (Kd.R_far (p := ⟨gb170, 1, none⟩) (Kd.R_far (p := ⟨gb170, 0, none⟩) (Kd.R_types HO152.out BK170.out (by decide)) (fun _ hk => hk.2) (.slice Ao50 y167.length co50)) (fun _ hk => hk.2) (.slice none 0 0)) (fun _ hk => hk.2) (.int .i64 0)) (fun _ h_ => h_.1))) hb); have n1_ := Aside0.mk (Kd.S_below (by (with_reducible repeat (first | apply Kd.S_alloc | apply Kd.S_drewN | apply Kd.S_drew)); exact (Kd.S_mono (Kd.S_far (p := ⟨gb170, 2, none⟩) (Kd.S_far (p := ⟨gb170, 1, none⟩) (Kd.S_far (p := ⟨gb170, 0, none⟩) (Kd.S_types HO156.out BK170.out (by decide)) (fun _ hk => hk.2) (.slice Ao50 y167.length co50)) (fun _ hk => hk.2) (.slice none 0 0)) (fun _ hk => hk.2) (.int .i64 0)) (fun _ h_ => h_.1))) hb); have n2_ := Aside0.mk (Kd.R_mono (Kd.R_told (Kd.R_told (Kd.R_old (by (with_reducible repeat (first | apply Kd.R_alloc | apply Kd.R_drewN | apply Kd.R_drew)); exact (Kd.R_mono (Kd.R_far (p := ⟨gb170, 2, none⟩) (Kd.R_far (p := ⟨gb170, 1, none⟩) (Kd.R_far (p := ⟨gb170, 0, none⟩) (Kd.R_types HO160.out BK170.out (by decide)) (fun _ hk => hk.2) (.slice Ao50 y167.length co50)) (fun _ hk => hk.2) (.slice none 0 0)) (fun _ hk => hk.2) (.int .i64 0)) (fun _ h_ => h_.1))) hb) (Kd.R_base ho0)) (Kd.R_base ho1)) (fun _ h_ => h_.1)); have n3_ := Aside0.mk (Kd.R_mono (Kd.R_told (Kd.R_told (Kd.R_old (by (with_reducible repeat (first | apply Kd.R_alloc | apply Kd.R_drewN | apply Kd.R_drew)); exact (Kd.R_mono (Kd.R_far (p := ⟨gb170, 2, none⟩) (Kd.R_far (p := ⟨gb170, 1, none⟩) (Kd.R_far (p := ⟨gb170, 0, none⟩) (Kd.R_types HO163.out BK170.out (by decide)) (fun _ hk => hk.2) (.slice Ao50 y167.length co50)) (fun _ hk => hk.2) (.slice none 0 0)) (fun _ hk => hk.2) (.int .i64 0)) (fun _ h_ => h_.1))) hb) (Kd.R_base ho0)) (Kd.R_base ho1)) (fun _ h_ => h_.1)); have n4_ := Aside0.mk (Kd.R_below (by (with_reducible repeat (first | apply Kd.R_alloc | apply Kd.R_drewN | apply Kd.R_drew)); exact (Kd.R_mono (Kd.R_far (p := ⟨gb170, 2, none⟩) (Kd.R_far (p := ⟨gb170, 1, none⟩) (Kd.R_far (p := ⟨gb170, 0, none⟩) (Kd.R_types HO169.out BK170.out (by decide)) (fun _ hk => hk.2) (.slice Ao50 y167.length co50)) (fun _ hk => hk.2) (.slice none 0 0)) (fun _ hk => hk.2) (.int .i64 0)) (fun _ h_ => h_.1))) hb); have n5_ := Aside0.mk (Kd.R_lower (Kd.R_new' (Kd.R_new' ho0 (Kd.R_lt (by (with_reducible repeat (first | apply Kd.R_alloc | apply Kd.R_drewN | apply Kd.R_drew)); exact (Kd.R_mono (Kd.R_far (p := ⟨gb170, 2, none⟩) (Kd.R_far (p := ⟨gb170, 1, none⟩) (Kd.R_far (p := ⟨gb170, 0, none⟩) (Kd.R_types HO160.out BK170.out (by decide)) (fun _ hk => hk.2) (.slice Ao50 y167.length co50)) (fun _ hk => hk.2) (.slice none 0 0)) (fun _ hk => hk.2) (.int .i64 0)) (fun _ h_ => h_.1))))) (Kd.R_lt (by (with_reducible repeat (first | apply Kd.R_alloc | apply Kd.R_drewN | apply Kd.R_drew)); exact (Kd.R_mono (Kd.R_far (p := ⟨gb170, 2, none⟩) (Kd.R_far (p := ⟨gb170, 1, none⟩) (Kd.R_far (p := ⟨gb170, 0, none⟩) (Kd.R_types HO163.out BK170.out (by decide)) (fun _ hk => hk.2) (.slice Ao50 y167.length co50)) (fun _ hk => hk.2) (.slice none 0 0)) (fun _ hk => hk.2) (.int .i64 0)) (fun _ h_ => h_.1))))) (below_size (by repeat (first | (with_reducible first | exact HB.out | apply below_alloc | apply pw_below_drewN | apply below_drew1 | refine below_set ?_ GE166.out | refine below_set ?_ GE170.out) | exact HB.out)))); have n6_ := Aside0.mk (Kd.R_lower (Kd.R_new' (Kd.R_new' ho1 (Kd.R_lt (by (with_reducible repeat (first | apply Kd.R_alloc | apply Kd.R_drewN | apply Kd.R_drew)); exact (Kd.R_mono (Kd.R_far (p := ⟨gb170, 2, none⟩) (Kd.R_far (p := ⟨gb170, 1, none⟩) (Kd.R_far (p := ⟨gb170, 0, none⟩) (Kd.R_types HO160.out BK170.out (by decide)) (fun _ hk => hk.2) (.slice Ao50 y167.length co50)) (fun _ hk => hk.2) (.slice none 0 0)) (fun _ hk => hk.2) (.int .i64 0)) (fun _ h_ => h_.1))))) (Kd.R_lt (by (with_reducible repeat (first | apply Kd.R_alloc | apply Kd.R_drewN | apply Kd.R_drew)); exact (Kd.R_mono (Kd.R_far (p := ⟨gb170, 2, none⟩) (Kd.R_far (p := ⟨gb170, 1, none⟩) (Kd.R_far (p := ⟨gb170, 0, none⟩) (Kd.R_types HO163.out BK170.out (by decide)) (fun _ hk => hk.2) (.slice Ao50 y167.length co50)) (fun _ hk => hk.2) (.slice none 0 0)) (fun _ hk => hk.2) (.int .i64 0)) (fun _ h_ => h_.1))))) (below_size (by repeat (first | (with_reducible first | exact HB.out | apply below_alloc | apply pw_below_drewN | apply below_drew1 | refine below_set ?_ GE166.out | refine below_set ?_ GE170.out) | exact HB.out)))); have n7_ := Aside0.mk (blk_below (g := gb166) (o := .cells #[.int .i64 t157, .slice Ao46 t158.length co46, .slice Ao47 t161.length co47, .bool t164] 28 (0, 0)) (by (with_reducible repeat (first | refine blk_drewN ?_ _ | refine blk_drew ?_ | refine blk_alloc ?_ _)); refine blk_far ?_ NB166_170.out _; (with_reducible repeat (first | refine blk_drewN ?_ _ | refine blk_drew ?_ | refine blk_alloc ?_ _)); refine blk_far ?_ NB166_170.out _; (with_reducible repeat (first | refine blk_drewN ?_ _ | refine blk_drew ?_ | refine blk_alloc ?_ _)); refine blk_far ?_ NB166_170.out _; (with_reducible repeat (first | refine blk_drewN ?_ _ | refine blk_drew ?_ | refine blk_alloc ?_ _)); exact BK166.out) hb); have n8_ := Aside0.mk (blk_below (g := gb170) (o := .cells #[.slice Ao50 y167.length co50, .slice none 0 0, .int .i64 0] 25 (0, 0)) (by (with_reducible repeat (first | refine blk_drewN ?_ _ | refine blk_drew ?_ | refine blk_alloc ?_ _)); refine blk_put (cs := #[.slice Ao50 y167.length co50, .slice none 0 0, .int .i64 0]) ?_ 2 _ rfl; (with_reducible repeat (first | refine blk_drewN ?_ _ | refine blk_drew ?_ | refine blk_alloc ?_ _)); refine blk_put (cs := #[.slice Ao50 y167.length co50, .slice none 0 0, .int .i64 0]) ?_ 1 _ rfl; (with_reducible repeat (first | refine blk_drewN ?_ _ | refine blk_drew ?_ | refine blk_alloc ?_ _)); refine blk_put (cs := #[.slice none 0 0, .slice none 0 0, .int .i64 0]) ?_ 0 _ rfl; (with_reducible repeat (first | refine blk_drewN ?_ _ | refine blk_drew ?_ | refine blk_alloc ?_ _)); exact BK170.out) hb); have n9_ := Aside0.mk (below_step (by repeat (first | (with_reducible first | exact HB.out | apply below_alloc | apply pw_below_drewN | apply below_drew1 | refine below_set ?_ GE166.out | refine below_set ?_ GE170.out) | exact HB.out)) hb); clear HO152; clear HO156; clear HO160; clear HO163; clear HO169; clear BK166; clear BK170; clear HB; have HO152 := n0_; have HO156 := n1_; have HO160 := n2_; have HO163 := n3_; have HO169 := n4_; have HO174 := n5_; have HO177 := n6_; have BK166 := n7_; have BK170 := n8_; have HB := n9_; clear n0_ n1_ n2_ n3_ n4_ n5_ n6_ n7_ n8_ n9_; (try clear hb); (try clear hb2); (try clear hk); (try clear hi); (try clear ho0); (try clear ho1)) | ((with_reducible refine gate_dst (N := 6) rfl ?_); (try (refine gate_guard (by rfl) ?_; dsimp only)); refine box_event ?hg (N := 6) ?hd (cs := #[.int .i64 0, .slice none 0 0, .slice none 0 0, .bool false]) (t := 28) ?hr ?_; (case hd => rfl); (case hg => rfl); (case hr => first | (go_simp; done) | (go_simp; rfl)); intro gb180 hg w55 hbox hb; have n0_ := Aside0.mk (Kd.R_below (by (with_reducible repeat (first | apply Kd.R_alloc | apply Kd.R_drewN | apply Kd.R_drew)); exact HO152.out) hb); have n1_ := Aside0.mk (Kd.S_below (by (with_reducible repeat (first | apply Kd.S_alloc | apply Kd.S_drewN | apply Kd.S_drew)); exact HO156.out) hb); have n2_ := Aside0.mk (Kd.R_below (by (with_reducible repeat (first | apply Kd.R_alloc | apply Kd.R_drewN | apply Kd.R_drew)); exact HO160.out) hb); have n3_ := Aside0.mk (Kd.R_below (by (with_reducible repeat (first | apply Kd.R_alloc | apply Kd.R_drewN | apply Kd.R_drew)); exact HO163.out) hb); have n4_ := Aside0.mk (Kd.R_below (by (with_reducible repeat (first | apply Kd.R_alloc | apply Kd.R_drewN | apply Kd.R_drew)); exact HO169.out) hb); have n5_ := Aside0.mk (Kd.R_below (by (with_reducible repeat (first | apply Kd.R_alloc | apply Kd.R_drewN | apply Kd.R_drew)); exact HO174.out) hb); have n6_ := Aside0.mk (Kd.R_below (by (with_reducible repeat (first | apply Kd.R_alloc | apply Kd.R_drewN | apply Kd.R_drew)); exact HO177.out) hb); have n7_ := Aside0.mk (blk_below (g := gb166) (o := .cells #[.int .i64 t157, .slice Ao46 t158.length co46, .slice Ao47 t161.length co47, .bool t164] 28 (0, 0)) (by (with_reducible repeat (first | refine blk_drewN ?_ _ | refine blk_drew ?_ | refine blk_alloc ?_ _)); exact BK166.out) hb); have n8_ := Aside0.mk (blk_below (g := gb170) (o := .cells #[.slice Ao50 y167.length co50, .slice none 0 0, .int .i64 0] 25 (0, 0)) (by (with_reducible repeat (first | refine blk_drewN ?_ _ | refine blk_drew ?_ | refine blk_alloc ?_ _)); exact BK170.out) hb); have n9_ := Aside0.mk (below_step (by repeat (first | (with_reducible first | exact HB.out | apply below_alloc | apply pw_below_drewN | apply below_drew1 | refine below_set ?_ GE166.out | refine below_set ?_ GE170.out) | exact HB.out)) hb); have n10_ := Aside0.mk (hbox); have n11_ := Aside0.mk ((by rw [hg]; exact (below_size (by repeat (first | (with_reducible first | exact HB.out | apply below_alloc | apply pw_below_drewN | apply below_drew1 | refine below_set ?_ GE166.out | refine below_set ?_ GE170.out) | exact HB.out))) : w.heap.size ≤ gb180)); have n12_ := Aside0.mk ((by rw [hg]; exact (below_size (by repeat (first | (with_reducible first | exact HB.out | apply below_alloc | apply pw_below_drewN | apply below_drew1 | refine below_set ?_ GE166.out | refine below_set ?_ GE170.out) | exact HB.out))) : w.heap.size ≤ gb180)); have n13_ := Aside0.mk ((by rw [hg]; exact Nat.ne_of_lt (blk_lt (g := gb166) (o := .cells #[.int .i64 t157, .slice Ao46 t158.length co46, .slice Ao47 t161.length co47, .bool t164] 28 (0, 0)) (by (with_reducible repeat (first | refine blk_drewN ?_ _ | refine blk_drew ?_ | refine blk_alloc ?_ _)); exact BK166.out)) : gb166 ≠ gb180)); have n14_ := Aside0.mk ((by rw [hg]; exact Nat.ne_of_gt (blk_lt (g := gb166) (o := .cells #[.int .i64 t157, .slice Ao46 t158.length co46, .slice Ao47 t161.length co47, .bool t164] 28 (0, 0)) (by (with_reducible repeat (first | refine blk_drewN ?_ _ | refine blk_drew ?_ | refine blk_alloc ?_ _)); exact BK166.out)) : gb180 ≠ gb166)); have n15_ := Aside0.mk ((by rw [hg]; exact Nat.ne_of_lt (blk_lt (g := gb170) (o := .cells #[.slice Ao50 y167.length co50, .slice none 0 0, .int .i64 0] 25 (0, 0)) (by (with_reducible repeat (first | refine blk_drewN ?_ _ | refine blk_drew ?_ | refine blk_alloc ?_ _)); exact BK170.out)) : gb170 ≠ gb180)); have n16_ := Aside0.mk ((by rw [hg]; exact Nat.ne_of_gt (blk_lt (g := gb170) (o := .cells #[.slice Ao50 y167.length co50, .slice none 0 0, .int .i64 0] 25 (0, 0)) (by (with_reducible repeat (first | refine blk_drewN ?_ _ | refine blk_drew ?_ | refine blk_alloc ?_ _)); exact BK170.out)) : gb180 ≠ gb170)); clear HO152; clear HO156; clear HO160; clear HO163; clear HO169; clear HO174; clear HO177; clear BK166; clear BK170; clear HB; have HO152 := n0_; have HO156 := n1_; have HO160 := n2_; have HO163 := n3_; have HO169 := n4_; have HO174 := n5_; have HO177 := n6_; have BK166 := n7_; have BK170 := n8_; have HB := n9_; have BK180 := n10_; have GW180 := n11_; have GE180 := n12_; have NB166_180 := n13_; have NB180_166 := n14_; have NB170_180 := n15_; have NB180_170 := n16_; clear n0_ n1_ n2_ n3_ n4_ n5_ n6_ n7_ n8_ n9_ n10_ n11_ n12_ n13_ n14_ n15_ n16_; clear hb hbox hg; have hnb56 := NB180_166.out; have hnc56 := NB166_180.out; have hnb57 := NB180_170.out; have hnc57 := NB170_180.out; have hcz58_0 : w55.cell? ⟨gb180, 0, none⟩ = some (.int .i64 0) := (blk_cell BK180.out 0).trans rfl; have hcz58_1 : w55.cell? ⟨gb180, 1, none⟩ = some (.slice none 0 0) := (blk_cell BK180.out 1).trans rfl; have hcz58_2 : w55.cell? ⟨gb180, 2, none⟩ = some (.slice none 0 0) := (blk_cell BK180.out 2).trans rfl; have hcz58_3 : w55.cell? ⟨gb180, 3, none⟩ = some (.bool false) := (blk_cell BK180.out 3).trans rfl; have hfz58_0 := blk_frozen BK180.out 0; have hfz58_1 := blk_frozen BK180.out 1; have hfz58_2 := blk_frozen BK180.out 2; have hfz58_3 := blk_frozen BK180.out 3; obtain ⟨Ao59, co59, eo59⟩ := Kd.R_slice HO174.out; subst eo59; obtain ⟨Ao60, co60, eo60⟩ := Kd.R_slice HO177.out; subst eo60) | ((with_reducible refine gate_store (t := 28) (p := 6) rfl ?_); refine store_event (t := 28) (p := 6) (v := ?vo_w61) (w1 := ((((w55.setCell ⟨gb180, 0, none⟩ (.int .i64 t171)).setCell ⟨gb180, 1, none⟩ (.slice Ao59 t172.length co59)).setCell ⟨gb180, 2, none⟩ (.slice Ao60 t175.length co60)).setCell ⟨gb180, 3, none⟩ (.bool true))) ?hg ?ho ?hn ?hr ?_; (case ho => rfl); (case hg => rfl); (case hn => rfl); (case hr => first | (go_simp; done) | (go_simp; rfl)); intro w61 hw; have n0_ : Aside0 (Kd.R k45 45 w61 w.heap.size (fun _ => True) (.slice Ao41 y150.length co41) y150) := ⟨(by rw [hw]; exact (by (with_reducible repeat (first | apply Kd.R_alloc | apply Kd.R_drewN | apply Kd.R_drew)); exact Kd.R_mono (Kd.R_far (p := ⟨gb180, 3, none⟩) (Kd.R_far (p := ⟨gb180, 2, none⟩) (Kd.R_far (p := ⟨gb180, 1, none⟩) (Kd.R_far (p := ⟨gb180, 0, none⟩) (Kd.R_types HO152.out BK180.out (by decide)) (fun _ hk => hk.2) (.int .i64 t171)) (fun _ hk => hk.2) (.slice Ao59 t172.length co59)) (fun _ hk => hk.2) (.slice Ao60 t175.length co60)) (fun _ hk => hk.2) (.bool true)) (fun _ hk => trivial)))⟩; have n1_ : Aside0 (Kd.S (Kd.slice 45 k45) 34 w61 w.heap.size (fun k_ => some k_ ≠ (.slice Ao41 y150.length co41 : Value).ownBlock) v155 t153) := ⟨(by rw [hw]; exact (by (with_reducible repeat (first | apply Kd.S_alloc | apply Kd.S_drewN | apply Kd.S_drew)); exact Kd.S_mono (Kd.S_far (p := ⟨gb180, 3, none⟩) (Kd.S_far (p := ⟨gb180, 2, none⟩) (Kd.S_far (p := ⟨gb180, 1, none⟩) (Kd.S_far (p := ⟨gb180, 0, none⟩) (Kd.S_types HO156.out BK180.out (by decide)) (fun _ hk => hk.2) (.int .i64 t171)) (fun _ hk => hk.2) (.slice Ao59 t172.length co59)) (fun _ hk => hk.2) (.slice Ao60 t175.length co60)) (fun _ hk => hk.2) (.bool true)) (fun _ hk => hk.1.2)))⟩; have n2_ : Aside0 (Kd.R (Kd.int .i64) 3 w61 w.heap.size (fun k_ => some k_ ≠ (.slice Ao47 t161.length co47 : Value).ownBlock ∧ some k_ ≠ (.slice Ao59 t172.length co59 : Value).ownBlock ∧ some k_ ≠ (.slice Ao60 t175.length co60 : Value).ownBlock) (.slice Ao46 t158.length co46) t158) := ⟨(by rw [hw]; exact (by (with_reducible repeat (first | apply Kd.R_alloc | apply Kd.R_drewN | apply Kd.R_drew)); exact Kd.R_mono (Kd.R_far (p := ⟨gb180, 3, none⟩) (Kd.R_far (p := ⟨gb180, 2, none⟩) (Kd.R_far (p := ⟨gb180, 1, none⟩) (Kd.R_far (p := ⟨gb180, 0, none⟩) (Kd.R_types HO160.out BK180.out (by decide)) (fun _ hk => hk.2) (.int .i64 t171)) (fun _ hk => hk.2) (.slice Ao59 t172.length co59)) (fun _ hk => hk.2) (.slice Ao60 t175.length co60)) (fun _ hk => hk.2) (.bool true)) (fun _ hk => ⟨hk.1.1.1, ⟨hk.1.1.2, hk.1.2⟩⟩)))⟩; have n3_ : Aside0 (Kd.R (Kd.int .i64) 3 w61 w.heap.size (fun k_ => some k_ ≠ (.slice Ao46 t158.length co46 : Value).ownBlock ∧ some k_ ≠ (.slice Ao59 t172.length co59 : Value).ownBlock ∧ some k_ ≠ (.slice Ao60 t175.length co60 : Value).ownBlock) (.slice Ao47 t161.length co47) t161) := ⟨(by rw [hw]; exact (by (with_reducible repeat (first | apply Kd.R_alloc | apply Kd.R_drewN | apply Kd.R_drew)); exact Kd.R_mono (Kd.R_far (p := ⟨gb180, 3, none⟩) (Kd.R_far (p := ⟨gb180, 2, none⟩) (Kd.R_far (p := ⟨gb180, 1, none⟩) (Kd.R_far (p := ⟨gb180, 0, none⟩) (Kd.R_types HO163.out BK180.out (by decide)) (fun _ hk => hk.2) (.int .i64 t171)) (fun _ hk => hk.2) (.slice Ao59 t172.length co59)) (fun _ hk => hk.2) (.slice Ao60 t175.length co60)) (fun _ hk => hk.2) (.bool true)) (fun _ hk => ⟨hk.1.1.1, ⟨hk.1.1.2, hk.1.2⟩⟩)))⟩; have n4_ : Aside0 (Kd.R k49 49 w61 w.heap.size (fun _ => True) (.slice Ao50 y167.length co50) y167) := ⟨(by rw [hw]; exact (by (with_reducible repeat (first | apply Kd.R_alloc | apply Kd.R_drewN | apply Kd.R_drew)); exact Kd.R_mono (Kd.R_far (p := ⟨gb180, 3, none⟩) (Kd.R_far (p := ⟨gb180, 2, none⟩) (Kd.R_far (p := ⟨gb180, 1, none⟩) (Kd.R_far (p := ⟨gb180, 0, none⟩) (Kd.R_types HO169.out BK180.out (by decide)) (fun _ hk => hk.2) (.int .i64 t171)) (fun _ hk => hk.2) (.slice Ao59 t172.length co59)) (fun _ hk => hk.2) (.slice Ao60 t175.length co60)) (fun _ hk => hk.2) (.bool true)) (fun _ hk => trivial)))⟩; have n5_ : Aside0 (Kd.R (Kd.int .i64) 3 w61 w.heap.size (fun k_ => some k_ ≠ (.slice Ao46 t158.length co46 : Value).ownBlock ∧ some k_ ≠ (.slice Ao47 t161.length co47 : Value).ownBlock ∧ some k_ ≠ (.slice Ao60 t175.length co60 : Value).ownBlock) (.slice Ao59 t172.length co59) t172) := ⟨(by rw [hw]; exact (by (with_reducible repeat (first | apply Kd.R_alloc | apply Kd.R_drewN | apply Kd.R_drew)); exact Kd.R_mono (Kd.R_far (p := ⟨gb180, 3, none⟩) (Kd.R_far (p := ⟨gb180, 2, none⟩) (Kd.R_far (p := ⟨gb180, 1, none⟩) (Kd.R_far (p := ⟨gb180, 0, none⟩) (Kd.R_types HO174.out BK180.out (by decide)) (fun _ hk => hk.2) (.int .i64 t171)) (fun _ hk => hk.2) (.slice Ao59 t172.length co59)) (fun _ hk => hk.2) (.slice Ao60 t175.length co60)) (fun _ hk => hk.2) (.bool true)) (fun _ hk => ⟨hk.1.1.2, ⟨hk.1.2, hk.1.1.1⟩⟩)))⟩; have n6_ : Aside0 (Kd.R (Kd.int .i64) 3 w61 w.heap.size (fun k_ => some k_ ≠ (.slice Ao46 t158.length co46 : Value).ownBlock ∧ some k_ ≠ (.slice Ao47 t161.length co47 : Value).ownBlock ∧ some k_ ≠ (.slice Ao59 t172.length co59 : Value).ownBlock) (.slice Ao60 t175.length co60) t175) := ⟨(by rw [hw]; exact (by (with_reducible repeat (first | apply Kd.R_alloc | apply Kd.R_drewN | apply Kd.R_drew)); exact Kd.R_mono (Kd.R_far (p := ⟨gb180, 3, none⟩) (Kd.R_far (p := ⟨gb180, 2, none⟩) (Kd.R_far (p := ⟨gb180, 1, none⟩) (Kd.R_far (p := ⟨gb180, 0, none⟩) (Kd.R_types HO177.out BK180.out (by decide)) (fun _ hk => hk.2) (.int .i64 t171)) (fun _ hk => hk.2) (.slice Ao59 t172.length co59)) (fun _ hk => hk.2) (.slice Ao60 t175.length co60)) (fun _ hk => hk.2) (.bool true)) (fun _ hk => ⟨hk.1.1.2, ⟨hk.1.2, hk.1.1.1⟩⟩)))⟩; have n7_ : Aside0 (w61.heap[gb166]? = some (.cells #[.int .i64 t157, .slice Ao46 t158.length co46, .slice Ao47 t161.length co47, .bool t164] 28 (0, 0))) := ⟨(by rw [hw]; exact (by (with_reducible repeat (first | refine blk_drewN ?_ _ | refine blk_drew ?_ | refine blk_alloc ?_ _)); refine blk_far ?_ NB166_180.out _; (with_reducible repeat (first | refine blk_drewN ?_ _ | refine blk_drew ?_ | refine blk_alloc ?_ _)); refine blk_far ?_ NB166_180.out _; (with_reducible repeat (first | refine blk_drewN ?_ _ | refine blk_drew ?_ | refine blk_alloc ?_ _)); refine blk_far ?_ NB166_180.out _; (with_reducible repeat (first | refine blk_drewN ?_ _ | refine blk_drew ?_ | refine blk_alloc ?_ _)); refine blk_far ?_ NB166_180.out _; (with_reducible repeat (first | refine blk_drewN ?_ _ | refine blk_drew ?_ | refine blk_alloc ?_ _)); exact BK166.out))⟩; have n8_ : Aside0 (w61.heap[gb170]? = some (.cells #[.slice Ao50 y167.length co50, .slice none 0 0, .int .i64 0] 25 (0, 0))) := ⟨(by rw [hw]; exact (by (with_reducible repeat (first | refine blk_drewN ?_ _ | refine blk_drew ?_ | refine blk_alloc ?_ _)); refine blk_far ?_ NB170_180.out _; (with_reducible repeat (first | refine blk_drewN ?_ _ | refine blk_drew ?_ | refine blk_alloc ?_ _)); refine blk_far ?_ NB170_180.out _; (with_reducible repeat (first | refine blk_drewN ?_ _ | refine blk_drew ?_ | refine blk_alloc ?_ _)); refine blk_far ?_ NB170_180.out _; (with_reducible repeat (first | refine blk_drewN ?_ _ | refine blk_drew ?_ | refine blk_alloc ?_ _)); refine blk_far ?_ NB170_180.out _; (with_reducible repeat (first | refine blk_drewN ?_ _ | refine blk_drew ?_ | refine blk_alloc ?_ _)); exact BK170.out))⟩; have n9_ : Aside0 (w61.heap[gb180]? = some (.cells #[.int .i64 t171, .slice Ao59 t172.length co59, .slice Ao60 t175.length co60, .bool true] 28 (0, 0))) := ⟨(by rw [hw]; exact (by (with_reducible repeat (first | refine blk_drewN ?_ _ | refine blk_drew ?_ | refine blk_alloc ?_ _)); refine blk_put (cs := #[.int .i64 t171, .slice Ao59 t172.length co59, .slice Ao60 t175.length co60, .bool false]) ?_ 3 _ rfl; (with_reducible repeat (first | refine blk_drewN ?_ _ | refine blk_drew ?_ | refine blk_alloc ?_ _)); refine blk_put (cs := #[.int .i64 t171, .slice Ao59 t172.length co59, .slice none 0 0, .bool false]) ?_ 2 _ rfl; (with_reducible repeat (first | refine blk_drewN ?_ _ | refine blk_drew ?_ | refine blk_alloc ?_ _)); refine blk_put (cs := #[.int .i64 t171, .slice none 0 0, .slice none 0 0, .bool false]) ?_ 1 _ rfl; (with_reducible repeat (first | refine blk_drewN ?_ _ | refine blk_drew ?_ | refine blk_alloc ?_ _)); refine blk_put (cs := #[.int .i64 0, .slice none 0 0, .slice none 0 0, .bool false]) ?_ 0 _ rfl; (with_reducible repeat (first | refine blk_drewN ?_ _ | refine blk_drew ?_ | refine blk_alloc ?_ _)); exact BK180.out))⟩; have n10_ : Aside0 (Below w.heap.size w w61) := ⟨(by rw [hw]; exact (by repeat (first | (with_reducible first | exact HB.out | apply below_alloc | apply pw_below_drewN | apply below_drew1 | refine below_set ?_ GE166.out | refine below_set ?_ GE170.out | refine below_set ?_ GE180.out) | exact HB.out)))⟩; clear hw; clear HO152; clear HO156; clear HO160; clear HO163; clear HO169; clear HO174; clear HO177; clear BK166; clear BK170; clear BK180; clear HB; have HO152 := n0_; have HO156 := n1_; have HO160 := n2_; have HO163 := n3_; have HO169 := n4_; have HO174 := n5_; have HO177 := n6_; have BK166 := n7_; have BK170 := n8_; have BK180 := n9_; have HB := n10_; clear n0_ n1_ n2_ n3_ n4_ n5_ n6_ n7_ n8_ n9_ n10_; obtain ⟨Ao62, co62, eo62⟩ := Kd.S_slice HO156.out; subst eo62; have p181 : 0 ≤ (0 : Int) := (by omega); have q181 : 0 < (t153.length : Int) := of_decide_eq_true (by first | (with_reducible assumption) | assumption); obtain ⟨ad181, A181_0, c181_0, e181, hx181_0, hl181_0, hi181_0⟩ := at_L6 (Kd.S_reads' HO156.out).2.2 0 p181 q181; cases e181; obtain ⟨ce181, hce181, hMe181, hcc181⟩ := Kd.S_get HO156.out [] 0 p181 (by first | exact q181 | exact of_decide_eq_true (by first | (with_reducible assumption) | assumption) | (have e_ := (Kd.S_reads' HO156.out).1; omega)); obtain ⟨ve181_0, rfl, ge181_0⟩ := hMe181; have hv181_0 := hcc181 0 _ rfl; rw [Nat.add_zero, show ((Kd.slice 45 k45)).sz = 1 from rfl, Nat.mul_one] at hv181_0; replace hv181_0 := Option.some.inj (hv181_0.symm.trans hx181_0); rw [hv181_0] at ge181_0; have HL181_0 := Aside0.mk (show Kd.R k45 45 _ _ _ _ (rd_L6 t153 0) from ge181_0); clear hv181_0 ge181_0; clear hcc181 hce181; have qi181 : (0 < t153.length) = True := eq_true (by omega); (try rw [show ((0 : Int)).toNat = 0 from rfl] at hx181_0); (try rw [Addr.add_zero'] at hx181_0); have HR181_0 := Aside0.mk hi181_0; have HC181_0 := Aside0.mk hl181_0; clear hi181_0 hl181_0; replace p181 := eq_true p181; replace q181 := eq_true q181; have hcz63_0 : w61.cell? ⟨gb180, 0, none⟩ = some (.int .i64 t171) := (blk_cell BK180.out 0).trans rfl; have hcz63_1 : w61.cell? ⟨gb180, 1, none⟩ = some (.slice Ao59 t172.length co59) := (blk_cell BK180.out 1).trans rfl; have hcz63_2 : w61.cell? ⟨gb180, 2, none⟩ = some (.slice Ao60 t175.length co60) := (blk_cell BK180.out 2).trans rfl; have hcz63_3 : w61.cell? ⟨gb180, 3, none⟩ = some (.bool true) := (blk_cell BK180.out 3).trans rfl; have hfz63_0 := blk_frozen BK180.out 0; have hfz63_1 := blk_frozen BK180.out 1; have hfz63_2 := blk_frozen BK180.out 2; have hfz63_3 := blk_frozen BK180.out 3) | (go_at_call 12; (with_reducible refine (pick_Limit.calls 1 t183 _ A36.out).mono ?_); rintro e w' ⟨rfl, ⟨nd, rfl⟩⟩) | (go_at_call 12; (with_reducible refine (pick_Limit.calls 2 t184 _ A38.out).mono ?_); rintro e w' ⟨rfl, ⟨nd, rfl⟩⟩))
    go_ret
    exact ⟨by first | (rw [er_.out]; done) | (rw [← er_.out]; done) | (simp [er_.out]; done) | rfl | (simp [errW_none, errW_some] <;> rfl) | (simp [*, errW_none, errW_some] <;> rfl), by repeat (first | (with_reducible first | exact HB.out | apply below_alloc | apply pw_below_drewN | apply below_drew1 | refine below_set ?_ GE166.out | refine below_set ?_ GE170.out | refine below_set ?_ GE180.out) | exact HB.out)⟩
  · have H1 : (some false) = some true := by rw [if_neg (show ¬ (some q182).isNone = true by simp)] at H; exact H
    clear H
    have H := H1
    clear H1
    try simp only [errW_none, errW_some]
    exact absurd H (by simp)
theorem palinodelaw16_examples.calls (r : Bool) (w : World) (h : palinodelaw16_examples.f = some r) :
    Calls Try.prog 8 #[] w fun e w' => e = .returned (.bool r) ∧ Below w.heap.size w w' := by
  obtain rfl : true = r := Option.some.inj ((palinodelaw16_examples.sure).symm.trans h)
  exact palinodelaw16_examples.calls_sure w palinodelaw16_examples.sure

/-! ### palinodelaw16_within: function 19 -/
def palinodelaw16_within.l0 : Nat → List Int → Int → Int → Option (Bool)
  | 0, _, _, _ => none
  | k + 1, x0, x1, x5 => if x5 < (x0.length : Int) then (if 0 ≤ x5 then (if (rd x0 x5) = x1 then (some true) else (palinodelaw16_within.l0 k x0 x1 (wrap64 (x5 + 1)))) else (none)) else (some false)
def palinodelaw16_within.f (k : Nat) (l0 : List Int) (a1 : Int) : Option (Bool) := palinodelaw16_within.l0 k l0 a1 0
theorem palinodelaw16_within.mono_l : ∀ k, (∀ y0 y1 y2, LeO (palinodelaw16_within.l0 k y0 y1 y2) (palinodelaw16_within.l0 (k + 1) y0 y1 y2))
  | 0 => fun _ _ _ r h => by simp [palinodelaw16_within.l0] at h
  | k + 1 => by
    have ih0 := palinodelaw16_within.mono_l k
    · intro y0 y1 y2
      unfold palinodelaw16_within.l0
      repeat' first
      | (with_reducible exact ih0 _ _ _)
      | (with_reducible exact LeO.refl _)
      | (with_reducible exact LeO.none _)
      | (with_reducible refine LeO.ite ?_ ?_)
      | (with_reducible refine LeO.bind ?_ (fun _ => ?_))
      | exact ih0 _ _ _
      | exact LeO.none _
      | refine LeO.ite ?_ ?_
      | refine LeO.bind ?_ (fun _ => ?_)
theorem palinodelaw16_within.mono : ∀ a0 a1 k, LeO (palinodelaw16_within.f k a0 a1) (palinodelaw16_within.f (k + 1) a0 a1) := by
  intro a0 a1 k
  have ih0 := palinodelaw16_within.mono_l k
  unfold palinodelaw16_within.f
  repeat' first
      | (with_reducible exact ih0 _ _ _)
      | (with_reducible exact LeO.refl _)
      | (with_reducible exact LeO.none _)
      | (with_reducible refine LeO.ite ?_ ?_)
      | (with_reducible refine LeO.bind ?_ (fun _ => ?_))
      | exact ih0 _ _ _
      | exact LeO.none _
      | refine LeO.ite ?_ ?_
      | refine LeO.bind ?_ (fun _ => ?_)
set_option maxHeartbeats 8000000 in
set_option maxRecDepth 100000 in
theorem palinodelaw16_within.calls (k : Nat) (A0 : Option Addr) (c0 : Nat) (l0 : List Int) (a1 : Int) (r : Bool) (w : World) (hr0 : Kd.C (Kd.int .i64) w A0 l0.length l0) (hc0 : l0.length ≤ c0) (h : palinodelaw16_within.f k l0 a1 = some r) :
    Calls Try.prog 19 #[.slice A0 l0.length c0, .int .i64 a1] w fun e w' => e = .returned (.bool r) ∧ Drawn0 w w' := by
  have HR0 := Aside0.mk hr0
  have HC0 := Aside0.mk hc0
  clear hr0 hc0
  have H : (palinodelaw16_within.l0 k l0 a1 0) = some r := h
  clear h
  have H' := Aside0.mk H
  clear H
  go_enter Try.func19, Try.ntmps19
  go_wp2
  go_loopg [5] k (fun kq v5 w' => ∃ (x5_1 : Int), v5 = .int .i64 x5_1 ∧ Aside0 (palinodelaw16_within.l0 kq l0 a1 x5_1 = some r) ∧ Aside0 (kq ≤ k) ∧ Drawn0 w w')
  case atStart => exact ⟨(0), (by first | rfl | (simp; done) | (simp [*]; done)), H', ⟨Nat.le_refl _⟩, by repeat (first | exact Drawn0.refl _ | apply Drawn0.step)⟩
  case round =>
    clear H'
    try clear c1
    try clear p2
    obtain ⟨x5_1, rfl, HA, HK1, ⟨m1, rfl⟩⟩ := hrel
    cases gk with
    | zero => exact absurd HA.out (by simp [palinodelaw16_within.l0])
    | succ k1 =>
      have H := HA.out
      clear HA
      simp only [palinodelaw16_within.l0] at H
      by_cases c3 : x5_1 < (l0.length : Int)
      · rw [if_pos c3] at H
        have c3b0 : decide (x5_1 < (l0.length : Int)) = true := decide_eq_true c3
        clear c3
        by_cases c4 : 0 ≤ x5_1
        · rw [if_pos c4] at H
          have c4b0 : decide (0 ≤ x5_1) = true := decide_eq_true c4
          clear c4
          by_cases c5 : (rd l0 x5_1) = a1
          · rw [if_pos c5] at H
            have c5b0 : ((rd l0 x5_1) == a1) = true := beq_iff_eq.mpr c5
            have c5b1 : ((rd l0 x5_1) != a1) = false := bne_eq_false_iff_eq.mpr c5
            clear c5
            obtain rfl := Option.some.inj H
            have p185 : 0 ≤ (x5_1 : Int) := of_decide_eq_true (by first | (with_reducible assumption) | assumption)
            have q185 : x5_1 < (l0.length : Int) := of_decide_eq_true (by first | (with_reducible assumption) | assumption)
            obtain ⟨ad185, e185, hx185_0⟩ := Kd.at_int HR0.out x5_1 p185 q185
            cases e185
            replace p185 := eq_true p185
            replace q185 := eq_true q185
            go_wp2
            go_ret
            exact ⟨by first | rfl | (simp; done) | (simp [*]; done), by repeat (first | exact Drawn0.refl _ | apply Drawn0.step)⟩
          · rw [if_neg c5] at H
            have c5b0 : ((rd l0 x5_1) == a1) = false := beq_eq_false_iff_ne.mpr c5
            have c5b1 : ((rd l0 x5_1) != a1) = true := bne_iff_ne.mpr c5
            have H' := Aside0.mk H
            clear H
            have p185 : 0 ≤ (x5_1 : Int) := of_decide_eq_true (by first | (with_reducible assumption) | assumption)
            have q185 : x5_1 < (l0.length : Int) := of_decide_eq_true (by first | (with_reducible assumption) | assumption)
            obtain ⟨ad185, e185, hx185_0⟩ := Kd.at_int HR0.out x5_1 p185 q185
            cases e185
            replace p185 := eq_true p185
            replace q185 := eq_true q185
            go_wp2
            go_roundg k1
            case measure => have := HK1.out; omega
            case rel => exact ⟨(wrap64 (x5_1 + 1)), (by first | rfl | (simp; done) | (simp [*]; done)), H', ⟨by have := HK1.out; omega⟩, by repeat (first | exact Drawn0.refl _ | apply Drawn0.step)⟩
        · rw [if_neg c4] at H
          exact absurd H (by simp)
      · rw [if_neg c3] at H
        have c3b0 : decide (x5_1 < (l0.length : Int)) = false := decide_eq_false c3
        clear c3
        obtain rfl := Option.some.inj H
        go_wp2
        go_ret
        exact ⟨by first | rfl | (simp; done) | (simp [*]; done), by repeat (first | exact Drawn0.refl _ | apply Drawn0.step)⟩

end Go.Proofs.Ytepgnefkpjnmlaa.P3
