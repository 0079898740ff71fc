/-
  The disk's Crash, walked.
-/
import Derived.Test.YtfhfnnpadfibkaaDisk2
set_option linter.unusedVariables false
set_option linter.unusedSimpArgs false
namespace Go.Proofs.Ytfhfnnpadfibkaa
open Go.RowKit

attribute [local go_sem ↓] loadA_sec loadA_wr storeA_sec storeA_wr copyA_any

theorem and_one_i64 (x : Int) : bits .and .i64 x 1 = x % 2 := by
  have h : (BitVec.ofInt 64 x &&& BitVec.ofInt 64 1).toNat = (x % 18446744073709551616).toNat % 2 := by
    rw [BitVec.toNat_and, BitVec.toNat_ofInt, BitVec.toNat_ofInt]
    have : ((1 : Int) % ((2 ^ 64 : Nat) : Int)).toNat = 1 := by decide
    rw [this, Nat.and_one_is_mod]
    rfl
  show IntKind.i64.wrap (((BitVec.ofInt 64 x &&& BitVec.ofInt 64 1).toNat : Nat) : Int) = x % 2
  rw [h, IntKind.wrap_i64]
  omega

/-- Whole numbers that are read, nil too; none of the blocks of F. -/
def IntsAt (w : World) (A : Option Addr) (n : Nat) (xs : List Int) (F : Nat → Prop) : Prop :=
  xs.length = n ∧ n ≤ 9223372036854775807 ∧ (0 < n → ∃ ad, A = some ad ∧ (∀ j, j < n → w.cell? (ad.add j) = some (.int .i64 (xs.getD j 0))) ∧ ¬ F ad.block)
theorem add_block (a : Addr) (j : Nat) : (a.add j).block = a.block := by unfold Addr.add; split <;> rfl
theorem IntsAt.keep {w w' : World} {S : Nat → Prop} {A : Option Addr} {n : Nat} {xs : List Int} {F : Nat → Prop} (h : IntsAt w A n xs F) (hfr : Fr S w w') (hs : ∀ k, S k → F k) : IntsAt w' A n xs F :=
  ⟨h.1, h.2.1, fun hn => by
    obtain ⟨ad, e, hc, hb⟩ := h.2.2 hn
    exact ⟨ad, e, fun j hj => hfr.cell (hc j hj) (fun q => hb (hs _ (by rwa [add_block] at q))), hb⟩⟩

/-- How many bytes of a write lying in the cache are kept. -/
def crashN (keeps : List Int) (torn bytes : Int) (i : Nat) : Nat :=
  if (i : Int) = torn then (min (max bytes 0) 64).toNat else if i < keeps.length ∧ keeps.getD i 0 % 2 = 1 then 64 else 0
theorem crashN_le (keeps : List Int) (torn bytes : Int) (i : Nat) : crashN keeps torn bytes i ≤ 64 := by
  unfold crashN; split
  · omega
  · split <;> omega
def lay (f : Nat → Nat) (L : List (List UInt8)) (x : (Nat × List UInt8) × Nat) : List (List UInt8) := L.set x.1.1 (x.1.2.take (f x.2) ++ (L.getD x.1.1 []).drop (f x.2))
def crashAll (f : Nat → Nat) (L : List (List UInt8)) (l : List (Nat × List UInt8)) : List (List UInt8) := l.zipIdx.foldl (lay f) L
theorem crashAll_snoc (f : Nat → Nat) (L : List (List UInt8)) (l : List (Nat × List UInt8)) (p : Nat × List UInt8) : crashAll f L (l ++ [p]) = lay f (crashAll f L l) (p, l.length) := by
  simp [crashAll, List.zipIdx_append]
theorem crash_ok (f : Nat → Nat) (hf : ∀ i, f i ≤ 64) (L : List (List UInt8)) (hL : ∀ s ∈ L, s.length = 64) (l : List (Nat × List UInt8)) (hl : ∀ p ∈ l, p.1 < L.length ∧ p.2.length = 64) (k : Nat) :
    ((l.zipIdx k).foldl (lay f) L).length = L.length ∧ ∀ s ∈ (l.zipIdx k).foldl (lay f) L, s.length = 64 := by
  induction l generalizing L k with
  | nil => exact ⟨rfl, hL⟩
  | cons p l ih =>
    simp only [List.zipIdx_cons, List.foldl_cons]
    have hp := hl p (by simp)
    have h1 : (lay f L (p, k)).length = L.length := by simp [lay]
    have h2 : ∀ s ∈ lay f L (p, k), s.length = 64 := by
      intro s hs
      rcases List.mem_or_eq_of_mem_set hs with h | h
      · exact hL s h
      · rw [h]
        have := hL _ (List.getElem_mem hp.1)
        have e : L.getD p.1 [] = L[p.1] := by simp [List.getD, hp.1]
        have := hf k
        simp only [List.length_append, List.length_take, List.length_drop, e, hp.2]
        omega
    have := ih (lay f L (p, k)) h2 (fun q hq => by rw [h1]; exact hl q (by simp [hq])) (k + 1)
    rw [h1] at this
    exact this

theorem sec_part (l : List (List UInt8)) (hl : ∀ s ∈ l, s.length = 64) (a : Nat) (ha : a < l.length) (xs : List UInt8) (hx : xs.length ≤ 64) :
    splice (l.map secV).flatten (a * 64) (secV xs) = ((l.set a (xs ++ (l.getD a []).drop xs.length)).map secV).flatten := by
  have hs : (l.getD a []).length = 64 := by
    have e : l.getD a [] = l[a] := by simp [List.getD, ha]
    rw [e]; exact hl _ (List.getElem_mem ha)
  have key := flat_set secV 64 l (fun x hx => by rw [secV_length]; exact hl x hx) a ha (xs ++ (l.getD a []).drop xs.length) (by rw [secV_length, List.length_append, List.length_drop, hs]; omega)
  rw [← key]
  have hat : ∀ j v, (secV (l.getD a []))[j]? = some v → (l.map secV).flatten[a * 64 + j]? = some v := fun j v hv =>
    flat_get secV 64 l (fun x hx => by rw [secV_length]; exact hl x hx) a (l.getD a []) (by simp [List.getD, ha]) j v hv
  have hlen := flat_length secV 64 l (fun x hx => by rw [secV_length]; exact hl x hx)
  have hfit : a * 64 + 64 ≤ (l.map secV).flatten.length := by rw [hlen]; omega
  apply List.ext_getElem?
  intro i
  simp only [splice, List.getElem?_append, List.length_take, secV_length, List.length_append, List.length_drop, hs, List.getElem?_take, List.getElem?_drop]
  have e1 : min (a * 64) (l.map secV).flatten.length = a * 64 := by omega
  rw [e1]
  have e2 : xs.length + (64 - xs.length) = 64 := by omega
  rw [e2]
  by_cases h1 : i < a * 64
  · simp [h1]
  · rw [if_neg h1, if_neg h1]
    by_cases h2 : i - a * 64 < xs.length
    · rw [if_pos h2, if_pos (by omega)]
      simp only [secV, List.map_append, List.getElem?_append, List.length_map]
      rw [if_pos h2]
    · rw [if_neg h2]
      by_cases h3 : i - a * 64 < 64
      · rw [if_pos h3]
        have e3 : (secV (xs ++ (l.getD a []).drop xs.length))[i - a * 64]? = (secV (l.getD a []))[i - a * 64]? := by
          simp only [secV, List.map_append, List.getElem?_append, List.length_map, List.map_drop, List.getElem?_drop]
          rw [if_neg h2]
          congr 1
          omega
        rw [e3]
        have hv : (secV (l.getD a []))[i - a * 64]? = some ((secV (l.getD a []))[i - a * 64]'(by rw [secV_length]; omega)) := List.getElem?_eq_getElem _
        rw [hv]
        have := hat (i - a * 64) _ hv
        rw [← this]
        congr 1
        omega
      · rw [if_neg h3]
        congr 1
        omega

theorem flat_lookup (L : List (List UInt8)) (a : Nat) (h : a < L.length) : (L.getD a []) = L[a] := by simp [List.getD, h]

set_option maxHeartbeats 4000000 in
theorem crash_any (F : Nat → Prop) (b : Nat) (d : DSt) (ka : Option Addr) (kl kc : Nat) (keeps : List Int) (torn bytes : Int) (w : World) (h : DiskAt w F b d) (hk : IntsAt w ka kl keeps F) (hmost : d.cache.length < 1000000000) :
    Calls Try.prog 12 #[.pointer (some ⟨b, 0, none⟩), .slice ka kl kc, .int .i64 torn, .int .i64 bytes] w fun e w' => e = .returned (.tuple #[]) ∧
      DiskAt w' (gro F w w') b { d with lasts := crashAll (crashN keeps torn bytes) d.lasts d.cache, cache := [], fuse := -1, down := false } ∧ Fr F w w' := by
  obtain ⟨bl, cv, g0, h1, h2, h3, h4, h5, h6⟩ := h
  have hcb := own_ne h2 g0 (by decide)
  have hcl := own_ne h2 h1 (by decide)
  obtain ⟨A, cap, rfl, hA⟩ := own_form h2
  have hmx := h3.most
  have hne : bl ≠ b := by rintro rfl; rw [g0] at h1; simp at h1
  have c0 := (cells5 g0).1.1
  have c1 := (cells5 g0).1.2.1
  have hkl := hk.1
  have hkm := hk.2.1
  have HK := Lib.hid hk
  have G0 := Lib.hid g0
  have H1 := Lib.hid h1
  have H2 := Lib.hid h2
  have H3 := Lib.hid h3
  have HA := Lib.hid hA
  have HCL := Lib.hid hcl; have HCB := Lib.hid hcb; have HNE := Lib.hid hne; have HKL := Lib.hid hkl
  clear g0 h1 h2 h3 h6 hA hcl hcb hne hk hkl
  go_enter Try.func12, Try.ntmps12
  go_wp2
  go_loopw [16] (fun i wr => ∃ k : Nat, k ≤ d.cache.length ∧ i = .int .i64 k ∧ wr.heap[bl]? = some (.cells ((crashAll (crashN keeps torn bytes) d.lasts (d.cache.take k)).map secV).flatten.toArray 63 (0, 0)) ∧ Fr (only bl) w wr) (fun i _ => d.cache.length - (intOf i).toNat)
  case atStart => exact ⟨0, Nat.zero_le _, rfl, H1.out, Fr.refl _ _⟩
  case round =>
    obtain ⟨k, hk, rfl, hrow, hfr⟩ := hrel
    have gb := hfr.at_only G0.out (Ne.symm HNE.out)
    by_cases hlt : k < d.cache.length
    · obtain ⟨g, rfl, cur, hcur, hcells⟩ := HA.out (by omega)
      obtain ⟨p, hp⟩ : ∃ p, d.cache[k]? = some p := ⟨_, List.getElem?_eq_getElem hlt⟩
      have hpw := H3.out.wrs p (List.mem_of_getElem? hp)
      have hcur' := hfr.at_only hcur (HCL.out g rfl)
      obtain ⟨at_, ps⟩ := p
      have hat : at_ < d.lasts.length := hpw.1
      have hps : ps.length = 64 := hpw.2
      obtain ⟨S, hS⟩ : ∃ S, S = secV ps := ⟨_, rfl⟩
      have lS : S.length = 64 := by rw [hS, secV_length]; exact hpw.2
      have oS : ∀ x ∈ S, x.oneCell' = true := by rw [hS]; exact secV_one _
      have r1 : (LoadA 65 (.pointer (some ⟨g, k * 65, none⟩))).run Try.prog wr = .ok (.agg (Value.int .i64 (at_ : Int) :: S).toArray) wr :=
        run_loadA hcur' Try.underlying65 rfl (by rw [List.length_cons, lS]; exact Try.sizeWr) (fun j v hv => hcells _ _ (cache_get d H3.out k _ hp j v (by rw [hS] at hv; exact hv)))
      obtain ⟨Z1, hZ1⟩ : ∃ Z : List Value, Z = wr0 0 := ⟨_, rfl⟩
      have r4 : ∀ w, (zeroValue 65).run Try.prog w = .ok (.agg Z1.toArray) w := by rw [hZ1]; exact zeroWr
      have r5 : (StoreA 65 (.pointer (some ⟨wr.heap.size, 0, none⟩)) (.agg (Value.int .i64 (at_ : Int) :: S).toArray)).run Try.prog (wr.alloc (.cells Z1.toArray 65)) = .ok () (wr.alloc (.cells (Value.int .i64 (at_ : Int) :: S).toArray 65)) :=
        run_storeAt_new wr _ _ _ (by simpa [lS] using Try.sizeWr) (by simp [hZ1, wr0, lS]) (all_oneCell_toArray (by intro x hx; rcases List.mem_cons.1 hx with rfl | hx; rfl; exact oS x hx))
      have hlw : bl < wr.heap.size := lt_heap hrow
      -- the world in which the write stands in a variable of its own
      have hLS : Hid ((crashAll (crashN keeps torn bytes) d.lasts (d.cache.take k)).length = d.lasts.length ∧ ∀ s ∈ crashAll (crashN keeps torn bytes) d.lasts (d.cache.take k), s.length = 64) :=
        crash_ok (crashN keeps torn bytes) (crashN_le _ _ _) d.lasts H3.out.secs (d.cache.take k) (fun p hp => H3.out.wrs p (List.mem_of_mem_take hp)) 0
      have hnk := crashN_le keeps torn bytes k
      obtain ⟨LY, hLY⟩ : ∃ LY : Nat → List Value, LY = fun nn => (((crashAll (crashN keeps torn bytes) d.lasts (d.cache.take k)).set at_ (ps.take nn ++ ((crashAll (crashN keeps torn bytes) d.lasts (d.cache.take k)).getD at_ []).drop nn)).map secV).flatten := ⟨_, rfl⟩
      have H8 : Hid (∀ W : World, W.heap[wr.heap.size]? = some (.cells (Value.int .i64 (at_ : Int) :: S).toArray 65 (0, 0)) → W.heap[bl]? = wr.heap[bl]? → ∀ nn, nn ≤ 64 →
          (CopyA #[66, 66] 3 #[.slice (some ⟨bl, at_ * 64, none⟩) nn 64, .slice (some ⟨wr.heap.size, 1, none⟩) nn 64]).run Try.prog W = .ok (goInt nn) (W.setRow bl (LY nn).toArray)) := by
        intro W hW1 hW2 nn hnn
        have e1 : (S.take nn).length = nn := by simp [lS]; omega
        have e2 : S.take nn = secV (ps.take nn) := by rw [hS]; simp [secV, List.map_take]
        have := run_copyA (P := Try.prog) (W := W) (dT := 66) (sT := 66) (ty := 3) (elem := 5) (g := bl) (off := at_ * 64) (dLen := nn) (dCap := 64) (g2 := wr.heap.size) (off2 := 1) (sLen := nn) (sCap := 64) (xs := S.take nn) (cs2 := Value.int .i64 (at_ : Int) :: S)
          Try.underlying66 Try.size5 (hW2.trans hrow) (by rw [e1]; exact (Nat.min_self nn).symm) hW1 (fun j v hv => by
            rw [Nat.add_comm, List.getElem?_cons_succ]
            rw [List.getElem?_take] at hv
            split at hv
            · exact hv
            · cases hv) (by rw [flat_length secV 64 _ (fun x hx => by rw [secV_length]; exact hLS.out.2 x hx), e1]; have := hLS.out.1; omega) (fun v hv => oS v (List.mem_of_mem_take hv))
        rw [e1] at this
        rw [this, e2, sec_part _ hLS.out.2 at_ (by have := hLS.out.1; omega) _ (by rw [List.length_take]; omega)]
        simp only [List.length_take, show min nn ps.length = nn by omega]
        rw [hLY]
      have HLY := Lib.hid hLY; clear hLY
      have c0a : ∀ o, (wr.alloc o).cell? ⟨b, 0, none⟩ = some (Value.slice (some ⟨bl, 0, none⟩) d.lasts.length d.lasts.length) := fun o => (World.cell?_alloc_lt _ _ _ (lt_heap gb)).trans (cells5 gb).1.1
      have HKr := HK.out.keep (hfr.mono (T := F) fun k q => by cases q; exact h5) (fun _ q => q)
      obtain ⟨q, hq⟩ : ∃ q, keeps.getD k 0 = q := ⟨_, rfl⟩
      have hkc : k < kl → ∃ ad, ka = some ad ∧ ∀ o, (wr.alloc o).cell? (ad.add k) = some (.int .i64 q) := fun hkk => by
        obtain ⟨ad, e, hc, _⟩ := HKr.2.2 (by omega)
        rw [← hq]
        exact ⟨ad, e, fun o => (World.cell?_alloc_lt _ _ _ (World.block_lt_of_cell? _ _ (hc k hkk))).trans (hc k hkk)⟩
      have HR := Lib.hid hrow; have HFR := Lib.hid hfr; have HS := Lib.hid hS
      have hkc' := Lib.hid hkc
      have HQ := Lib.hid hq
      clear hrow hfr hcur hcur' hcells hpw hZ1 hS hkc hq
      have htk := Lib.hid (take_snoc' _ _ _ hp)
      have hlk : Hid ((d.cache.take k).length = k) := Lib.hid (by simp; omega)
      -- what the round comes to, whatever its way
      have HEND : Hid (∀ W : World, W.heap[bl]? = wr.heap[bl]? → Fr (only bl) w W → ∀ nn, crashN keeps torn bytes k = nn →
          (∃ k' : Nat, k' ≤ d.cache.length ∧ Value.int .i64 ((k : Int) + 1) = .int .i64 (k' : Int) ∧
            (W.setRow bl (LY nn).toArray).heap[bl]? = some (.cells ((crashAll (crashN keeps torn bytes) d.lasts (d.cache.take k')).map secV).flatten.toArray 63 (0, 0)) ∧
            Fr (only bl) w (W.setRow bl (LY nn).toArray))) := by
        intro W hW hF nn hnn
        refine ⟨k + 1, by omega, by go_num, ?_, hF.setRow (Or.inl rfl) _⟩
        rw [setRow_heap _ _ _ _ _ _ (hW.trans HR.out), HLY.out, htk.out, crashAll_snoc, hlk.out, lay, hnn]
      clear hps
      have hC : (k < kl ∧ q % 2 = 1) ∨ (k < kl ∧ q % 2 = 0) ∨ kl ≤ k := by omega
      have hT : torn ≠ (k : Int) ∨ (torn = k ∧ bytes < 0) ∨ (torn = k ∧ 0 ≤ bytes ∧ bytes ≤ 64) ∨ (torn = k ∧ 64 < bytes) := by omega
      have hand := and_one_i64 q
      rcases hC with ⟨hkk, hodd⟩ | ⟨hkk, hodd⟩ | hkk
      · obtain ⟨ad, rfl, hkr⟩ := hkc'.out hkk
        rw [hodd] at hand
        rcases hT with hT | ⟨rfl, hb⟩ | ⟨rfl, hb0, hb1⟩ | ⟨rfl, hb⟩
        · have hN : Hid (crashN keeps torn bytes k = 64) := by
            refine Lib.hid ?_
            unfold crashN
            rw [if_neg (Ne.symm hT)]
            rw [if_pos ⟨by rw [HKL.out]; exact hkk, by rw [HQ.out]; exact hodd⟩]
          have hTB : ((k : Int) == torn) = false := by rw [beq_eq_false_iff_ne]; omega
          clear hT hodd hkm
          go_wp2
          generalize hW : wr.alloc (.cells (Value.int .i64 (at_ : Int) :: S).toArray 65) = W at *
          have hWs : W.heap[wr.heap.size]? = some (.cells (Value.int .i64 (at_ : Int) :: S).toArray 65 (0, 0)) := by rw [← hW]; exact heap_alloc_new wr _
          have hWl : W.heap[bl]? = wr.heap[bl]? := by rw [← hW]; exact Below.heap_alloc _ _ _ hlw
          have hWf : Fr (only bl) w W := by rw [← hW]; exact HFR.out.alloc _
          have d0 : W.cell? ⟨b, 0, none⟩ = some (Value.slice (some ⟨bl, 0, none⟩) d.lasts.length d.lasts.length) := by rw [← hW]; exact c0a _
          have d1 : W.cell? ⟨wr.heap.size, 0, none⟩ = some (.int .i64 (at_ : Int)) := by rw [cell_of_row _ _ 0 _ _ _ hWs]; rfl
          have r9 := H8.out W.drew hWs hWl 64 (by decide)
          have HWL := Lib.hid hWl; have HWF := Lib.hid hWf
          clear hW r1 r4 r5 c0a hWs hWl hWf oS lS
          refine region_tail 12 (by kernel_rfl) (by kernel_rfl) ?_
          simp only [List.take_succ_cons, List.take_zero, List.drop_succ_cons, List.drop_zero]
          repeat still_step
          refine wpStill_nil ?_
          go_wp2
          go_roundw
          case rel => exact HEND.out W.drew HWL.out HWF.out.drew 64 hN.out
          case measure => simp [intOf]; omega
        · have hN : Hid (crashN keeps k bytes k = 0) := by
            refine Lib.hid ?_
            unfold crashN
            rw [if_pos rfl]; omega
          clear hodd hkm
          go_wp2
          generalize hW : wr.alloc (.cells (Value.int .i64 (at_ : Int) :: S).toArray 65) = W at *
          have hWs : W.heap[wr.heap.size]? = some (.cells (Value.int .i64 (at_ : Int) :: S).toArray 65 (0, 0)) := by rw [← hW]; exact heap_alloc_new wr _
          have hWl : W.heap[bl]? = wr.heap[bl]? := by rw [← hW]; exact Below.heap_alloc _ _ _ hlw
          have hWf : Fr (only bl) w W := by rw [← hW]; exact HFR.out.alloc _
          have d0 : W.cell? ⟨b, 0, none⟩ = some (Value.slice (some ⟨bl, 0, none⟩) d.lasts.length d.lasts.length) := by rw [← hW]; exact c0a _
          have d1 : W.cell? ⟨wr.heap.size, 0, none⟩ = some (.int .i64 (at_ : Int)) := by rw [cell_of_row _ _ 0 _ _ _ hWs]; rfl
          have r9 := H8.out W.drew hWs hWl 0 (by decide)
          have HWL := Lib.hid hWl; have HWF := Lib.hid hWf
          clear hW r1 r4 r5 c0a hWs hWl hWf oS lS
          refine region_tail 12 (by kernel_rfl) (by kernel_rfl) ?_
          simp only [List.take_succ_cons, List.take_zero, List.drop_succ_cons, List.drop_zero]
          repeat still_step
          refine wpStill_nil ?_
          go_wp2
          go_roundw
          case rel => exact HEND.out W.drew HWL.out HWF.out.drew 0 hN.out
          case measure => simp [intOf]; omega
        · obtain ⟨m, rfl⟩ : ∃ m : Nat, bytes = m := ⟨bytes.toNat, by omega⟩
          have hN : Hid (crashN keeps k m k = m) := by
            refine Lib.hid ?_
            unfold crashN
            rw [if_pos rfl]; omega
          have hm64 : m ≤ 64 := by omega
          clear hodd hkm
          go_wp2
          generalize hW : wr.alloc (.cells (Value.int .i64 (at_ : Int) :: S).toArray 65) = W at *
          have hWs : W.heap[wr.heap.size]? = some (.cells (Value.int .i64 (at_ : Int) :: S).toArray 65 (0, 0)) := by rw [← hW]; exact heap_alloc_new wr _
          have hWl : W.heap[bl]? = wr.heap[bl]? := by rw [← hW]; exact Below.heap_alloc _ _ _ hlw
          have hWf : Fr (only bl) w W := by rw [← hW]; exact HFR.out.alloc _
          have d0 : W.cell? ⟨b, 0, none⟩ = some (Value.slice (some ⟨bl, 0, none⟩) d.lasts.length d.lasts.length) := by rw [← hW]; exact c0a _
          have d1 : W.cell? ⟨wr.heap.size, 0, none⟩ = some (.int .i64 (at_ : Int)) := by rw [cell_of_row _ _ 0 _ _ _ hWs]; rfl
          have r9 := H8.out W.drew hWs hWl m hm64
          have HWL := Lib.hid hWl; have HWF := Lib.hid hWf
          clear hW r1 r4 r5 c0a hWs hWl hWf oS lS
          refine region_tail 12 (by kernel_rfl) (by kernel_rfl) ?_
          simp only [List.take_succ_cons, List.take_zero, List.drop_succ_cons, List.drop_zero]
          repeat still_step
          refine wpStill_nil ?_
          go_wp2
          go_roundw
          case rel => exact HEND.out W.drew HWL.out HWF.out.drew m hN.out
          case measure => simp [intOf]; omega
        · have hN : Hid (crashN keeps k bytes k = 64) := by
            refine Lib.hid ?_
            unfold crashN
            rw [if_pos rfl]; omega
          clear hodd hkm
          go_wp2
          generalize hW : wr.alloc (.cells (Value.int .i64 (at_ : Int) :: S).toArray 65) = W at *
          have hWs : W.heap[wr.heap.size]? = some (.cells (Value.int .i64 (at_ : Int) :: S).toArray 65 (0, 0)) := by rw [← hW]; exact heap_alloc_new wr _
          have hWl : W.heap[bl]? = wr.heap[bl]? := by rw [← hW]; exact Below.heap_alloc _ _ _ hlw
          have hWf : Fr (only bl) w W := by rw [← hW]; exact HFR.out.alloc _
          have d0 : W.cell? ⟨b, 0, none⟩ = some (Value.slice (some ⟨bl, 0, none⟩) d.lasts.length d.lasts.length) := by rw [← hW]; exact c0a _
          have d1 : W.cell? ⟨wr.heap.size, 0, none⟩ = some (.int .i64 (at_ : Int)) := by rw [cell_of_row _ _ 0 _ _ _ hWs]; rfl
          have r9 := H8.out W.drew hWs hWl 64 (by decide)
          have HWL := Lib.hid hWl; have HWF := Lib.hid hWf
          clear hW r1 r4 r5 c0a hWs hWl hWf oS lS
          refine region_tail 12 (by kernel_rfl) (by kernel_rfl) ?_
          simp only [List.take_succ_cons, List.take_zero, List.drop_succ_cons, List.drop_zero]
          repeat still_step
          refine wpStill_nil ?_
          go_wp2
          go_roundw
          case rel => exact HEND.out W.drew HWL.out HWF.out.drew 64 hN.out
          case measure => simp [intOf]; omega
      · obtain ⟨ad, rfl, hkr⟩ := hkc'.out hkk
        rw [hodd] at hand
        rcases hT with hT | ⟨rfl, hb⟩ | ⟨rfl, hb0, hb1⟩ | ⟨rfl, hb⟩
        · have hN : Hid (crashN keeps torn bytes k = 0) := by
            refine Lib.hid ?_
            unfold crashN
            rw [if_neg (Ne.symm hT)]
            rw [if_neg (by rw [HQ.out]; omega)]
          have hTB : ((k : Int) == torn) = false := by rw [beq_eq_false_iff_ne]; omega
          clear hT hodd hkm
          go_wp2
          generalize hW : wr.alloc (.cells (Value.int .i64 (at_ : Int) :: S).toArray 65) = W at *
          have hWs : W.heap[wr.heap.size]? = some (.cells (Value.int .i64 (at_ : Int) :: S).toArray 65 (0, 0)) := by rw [← hW]; exact heap_alloc_new wr _
          have hWl : W.heap[bl]? = wr.heap[bl]? := by rw [← hW]; exact Below.heap_alloc _ _ _ hlw
          have hWf : Fr (only bl) w W := by rw [← hW]; exact HFR.out.alloc _
          have d0 : W.cell? ⟨b, 0, none⟩ = some (Value.slice (some ⟨bl, 0, none⟩) d.lasts.length d.lasts.length) := by rw [← hW]; exact c0a _
          have d1 : W.cell? ⟨wr.heap.size, 0, none⟩ = some (.int .i64 (at_ : Int)) := by rw [cell_of_row _ _ 0 _ _ _ hWs]; rfl
          have r9 := H8.out W.drew hWs hWl 0 (by decide)
          have HWL := Lib.hid hWl; have HWF := Lib.hid hWf
          clear hW r1 r4 r5 c0a hWs hWl hWf oS lS
          refine region_tail 12 (by kernel_rfl) (by kernel_rfl) ?_
          simp only [List.take_succ_cons, List.take_zero, List.drop_succ_cons, List.drop_zero]
          repeat still_step
          refine wpStill_nil ?_
          go_wp2
          go_roundw
          case rel => exact HEND.out W.drew HWL.out HWF.out.drew 0 hN.out
          case measure => simp [intOf]; omega
        · have hN : Hid (crashN keeps k bytes k = 0) := by
            refine Lib.hid ?_
            unfold crashN
            rw [if_pos rfl]; omega
          clear hodd hkm
          go_wp2
          generalize hW : wr.alloc (.cells (Value.int .i64 (at_ : Int) :: S).toArray 65) = W at *
          have hWs : W.heap[wr.heap.size]? = some (.cells (Value.int .i64 (at_ : Int) :: S).toArray 65 (0, 0)) := by rw [← hW]; exact heap_alloc_new wr _
          have hWl : W.heap[bl]? = wr.heap[bl]? := by rw [← hW]; exact Below.heap_alloc _ _ _ hlw
          have hWf : Fr (only bl) w W := by rw [← hW]; exact HFR.out.alloc _
          have d0 : W.cell? ⟨b, 0, none⟩ = some (Value.slice (some ⟨bl, 0, none⟩) d.lasts.length d.lasts.length) := by rw [← hW]; exact c0a _
          have d1 : W.cell? ⟨wr.heap.size, 0, none⟩ = some (.int .i64 (at_ : Int)) := by rw [cell_of_row _ _ 0 _ _ _ hWs]; rfl
          have r9 := H8.out W.drew hWs hWl 0 (by decide)
          have HWL := Lib.hid hWl; have HWF := Lib.hid hWf
          clear hW r1 r4 r5 c0a hWs hWl hWf oS lS
          refine region_tail 12 (by kernel_rfl) (by kernel_rfl) ?_
          simp only [List.take_succ_cons, List.take_zero, List.drop_succ_cons, List.drop_zero]
          repeat still_step
          refine wpStill_nil ?_
          go_wp2
          go_roundw
          case rel => exact HEND.out W.drew HWL.out HWF.out.drew 0 hN.out
          case measure => simp [intOf]; omega
        · obtain ⟨m, rfl⟩ : ∃ m : Nat, bytes = m := ⟨bytes.toNat, by omega⟩
          have hN : Hid (crashN keeps k m k = m) := by
            refine Lib.hid ?_
            unfold crashN
            rw [if_pos rfl]; omega
          have hm64 : m ≤ 64 := by omega
          clear hodd hkm
          go_wp2
          generalize hW : wr.alloc (.cells (Value.int .i64 (at_ : Int) :: S).toArray 65) = W at *
          have hWs : W.heap[wr.heap.size]? = some (.cells (Value.int .i64 (at_ : Int) :: S).toArray 65 (0, 0)) := by rw [← hW]; exact heap_alloc_new wr _
          have hWl : W.heap[bl]? = wr.heap[bl]? := by rw [← hW]; exact Below.heap_alloc _ _ _ hlw
          have hWf : Fr (only bl) w W := by rw [← hW]; exact HFR.out.alloc _
          have d0 : W.cell? ⟨b, 0, none⟩ = some (Value.slice (some ⟨bl, 0, none⟩) d.lasts.length d.lasts.length) := by rw [← hW]; exact c0a _
          have d1 : W.cell? ⟨wr.heap.size, 0, none⟩ = some (.int .i64 (at_ : Int)) := by rw [cell_of_row _ _ 0 _ _ _ hWs]; rfl
          have r9 := H8.out W.drew hWs hWl m hm64
          have HWL := Lib.hid hWl; have HWF := Lib.hid hWf
          clear hW r1 r4 r5 c0a hWs hWl hWf oS lS
          refine region_tail 12 (by kernel_rfl) (by kernel_rfl) ?_
          simp only [List.take_succ_cons, List.take_zero, List.drop_succ_cons, List.drop_zero]
          repeat still_step
          refine wpStill_nil ?_
          go_wp2
          go_roundw
          case rel => exact HEND.out W.drew HWL.out HWF.out.drew m hN.out
          case measure => simp [intOf]; omega
        · have hN : Hid (crashN keeps k bytes k = 64) := by
            refine Lib.hid ?_
            unfold crashN
            rw [if_pos rfl]; omega
          clear hodd hkm
          go_wp2
          generalize hW : wr.alloc (.cells (Value.int .i64 (at_ : Int) :: S).toArray 65) = W at *
          have hWs : W.heap[wr.heap.size]? = some (.cells (Value.int .i64 (at_ : Int) :: S).toArray 65 (0, 0)) := by rw [← hW]; exact heap_alloc_new wr _
          have hWl : W.heap[bl]? = wr.heap[bl]? := by rw [← hW]; exact Below.heap_alloc _ _ _ hlw
          have hWf : Fr (only bl) w W := by rw [← hW]; exact HFR.out.alloc _
          have d0 : W.cell? ⟨b, 0, none⟩ = some (Value.slice (some ⟨bl, 0, none⟩) d.lasts.length d.lasts.length) := by rw [← hW]; exact c0a _
          have d1 : W.cell? ⟨wr.heap.size, 0, none⟩ = some (.int .i64 (at_ : Int)) := by rw [cell_of_row _ _ 0 _ _ _ hWs]; rfl
          have r9 := H8.out W.drew hWs hWl 64 (by decide)
          have HWL := Lib.hid hWl; have HWF := Lib.hid hWf
          clear hW r1 r4 r5 c0a hWs hWl hWf oS lS
          refine region_tail 12 (by kernel_rfl) (by kernel_rfl) ?_
          simp only [List.take_succ_cons, List.take_zero, List.drop_succ_cons, List.drop_zero]
          repeat still_step
          refine wpStill_nil ?_
          go_wp2
          go_roundw
          case rel => exact HEND.out W.drew HWL.out HWF.out.drew 64 hN.out
          case measure => simp [intOf]; omega
      · have hodd := hkk
        clear hand
        rcases hT with hT | ⟨rfl, hb⟩ | ⟨rfl, hb0, hb1⟩ | ⟨rfl, hb⟩
        · have hN : Hid (crashN keeps torn bytes k = 0) := by
            refine Lib.hid ?_
            unfold crashN
            rw [if_neg (Ne.symm hT)]
            rw [if_neg (by rw [HKL.out]; omega)]
          have hTB : ((k : Int) == torn) = false := by rw [beq_eq_false_iff_ne]; omega
          clear hT hodd hkm
          go_wp2
          generalize hW : wr.alloc (.cells (Value.int .i64 (at_ : Int) :: S).toArray 65) = W at *
          have hWs : W.heap[wr.heap.size]? = some (.cells (Value.int .i64 (at_ : Int) :: S).toArray 65 (0, 0)) := by rw [← hW]; exact heap_alloc_new wr _
          have hWl : W.heap[bl]? = wr.heap[bl]? := by rw [← hW]; exact Below.heap_alloc _ _ _ hlw
          have hWf : Fr (only bl) w W := by rw [← hW]; exact HFR.out.alloc _
          have d0 : W.cell? ⟨b, 0, none⟩ = some (Value.slice (some ⟨bl, 0, none⟩) d.lasts.length d.lasts.length) := by rw [← hW]; exact c0a _
          have d1 : W.cell? ⟨wr.heap.size, 0, none⟩ = some (.int .i64 (at_ : Int)) := by rw [cell_of_row _ _ 0 _ _ _ hWs]; rfl
          have r9 := H8.out W.drew hWs hWl 0 (by decide)
          have HWL := Lib.hid hWl; have HWF := Lib.hid hWf
          clear hW r1 r4 r5 c0a hWs hWl hWf oS lS
          refine region_tail 12 (by kernel_rfl) (by kernel_rfl) ?_
          simp only [List.take_succ_cons, List.take_zero, List.drop_succ_cons, List.drop_zero]
          repeat still_step
          refine wpStill_nil ?_
          go_wp2
          go_roundw
          case rel => exact HEND.out W.drew HWL.out HWF.out.drew 0 hN.out
          case measure => simp [intOf]; omega
        · have hN : Hid (crashN keeps k bytes k = 0) := by
            refine Lib.hid ?_
            unfold crashN
            rw [if_pos rfl]; omega
          clear hodd hkm
          go_wp2
          generalize hW : wr.alloc (.cells (Value.int .i64 (at_ : Int) :: S).toArray 65) = W at *
          have hWs : W.heap[wr.heap.size]? = some (.cells (Value.int .i64 (at_ : Int) :: S).toArray 65 (0, 0)) := by rw [← hW]; exact heap_alloc_new wr _
          have hWl : W.heap[bl]? = wr.heap[bl]? := by rw [← hW]; exact Below.heap_alloc _ _ _ hlw
          have hWf : Fr (only bl) w W := by rw [← hW]; exact HFR.out.alloc _
          have d0 : W.cell? ⟨b, 0, none⟩ = some (Value.slice (some ⟨bl, 0, none⟩) d.lasts.length d.lasts.length) := by rw [← hW]; exact c0a _
          have d1 : W.cell? ⟨wr.heap.size, 0, none⟩ = some (.int .i64 (at_ : Int)) := by rw [cell_of_row _ _ 0 _ _ _ hWs]; rfl
          have r9 := H8.out W.drew hWs hWl 0 (by decide)
          have HWL := Lib.hid hWl; have HWF := Lib.hid hWf
          clear hW r1 r4 r5 c0a hWs hWl hWf oS lS
          refine region_tail 12 (by kernel_rfl) (by kernel_rfl) ?_
          simp only [List.take_succ_cons, List.take_zero, List.drop_succ_cons, List.drop_zero]
          repeat still_step
          refine wpStill_nil ?_
          go_wp2
          go_roundw
          case rel => exact HEND.out W.drew HWL.out HWF.out.drew 0 hN.out
          case measure => simp [intOf]; omega
        · obtain ⟨m, rfl⟩ : ∃ m : Nat, bytes = m := ⟨bytes.toNat, by omega⟩
          have hN : Hid (crashN keeps k m k = m) := by
            refine Lib.hid ?_
            unfold crashN
            rw [if_pos rfl]; omega
          have hm64 : m ≤ 64 := by omega
          clear hodd hkm
          go_wp2
          generalize hW : wr.alloc (.cells (Value.int .i64 (at_ : Int) :: S).toArray 65) = W at *
          have hWs : W.heap[wr.heap.size]? = some (.cells (Value.int .i64 (at_ : Int) :: S).toArray 65 (0, 0)) := by rw [← hW]; exact heap_alloc_new wr _
          have hWl : W.heap[bl]? = wr.heap[bl]? := by rw [← hW]; exact Below.heap_alloc _ _ _ hlw
          have hWf : Fr (only bl) w W := by rw [← hW]; exact HFR.out.alloc _
          have d0 : W.cell? ⟨b, 0, none⟩ = some (Value.slice (some ⟨bl, 0, none⟩) d.lasts.length d.lasts.length) := by rw [← hW]; exact c0a _
          have d1 : W.cell? ⟨wr.heap.size, 0, none⟩ = some (.int .i64 (at_ : Int)) := by rw [cell_of_row _ _ 0 _ _ _ hWs]; rfl
          have r9 := H8.out W.drew hWs hWl m hm64
          have HWL := Lib.hid hWl; have HWF := Lib.hid hWf
          clear hW r1 r4 r5 c0a hWs hWl hWf oS lS
          refine region_tail 12 (by kernel_rfl) (by kernel_rfl) ?_
          simp only [List.take_succ_cons, List.take_zero, List.drop_succ_cons, List.drop_zero]
          repeat still_step
          refine wpStill_nil ?_
          go_wp2
          go_roundw
          case rel => exact HEND.out W.drew HWL.out HWF.out.drew m hN.out
          case measure => simp [intOf]; omega
        · have hN : Hid (crashN keeps k bytes k = 64) := by
            refine Lib.hid ?_
            unfold crashN
            rw [if_pos rfl]; omega
          clear hodd hkm
          go_wp2
          generalize hW : wr.alloc (.cells (Value.int .i64 (at_ : Int) :: S).toArray 65) = W at *
          have hWs : W.heap[wr.heap.size]? = some (.cells (Value.int .i64 (at_ : Int) :: S).toArray 65 (0, 0)) := by rw [← hW]; exact heap_alloc_new wr _
          have hWl : W.heap[bl]? = wr.heap[bl]? := by rw [← hW]; exact Below.heap_alloc _ _ _ hlw
          have hWf : Fr (only bl) w W := by rw [← hW]; exact HFR.out.alloc _
          have d0 : W.cell? ⟨b, 0, none⟩ = some (Value.slice (some ⟨bl, 0, none⟩) d.lasts.length d.lasts.length) := by rw [← hW]; exact c0a _
          have d1 : W.cell? ⟨wr.heap.size, 0, none⟩ = some (.int .i64 (at_ : Int)) := by rw [cell_of_row _ _ 0 _ _ _ hWs]; rfl
          have r9 := H8.out W.drew hWs hWl 64 (by decide)
          have HWL := Lib.hid hWl; have HWF := Lib.hid hWf
          clear hW r1 r4 r5 c0a hWs hWl hWf oS lS
          refine region_tail 12 (by kernel_rfl) (by kernel_rfl) ?_
          simp only [List.take_succ_cons, List.take_zero, List.drop_succ_cons, List.drop_zero]
          repeat still_step
          refine wpStill_nil ?_
          go_wp2
          go_roundw
          case rel => exact HEND.out W.drew HWL.out HWF.out.drew 64 hN.out
          case measure => simp [intOf]; omega
    · obtain rfl : k = d.cache.length := by omega
      rw [List.take_length] at hrow
      have kf := (cells5 gb).2
      have k1 := (cells5 gb).1.2.1
      have k2 := (cells5 gb).1.2.2.1
      have k3 := (cells5 gb).1.2.2.2.1
      have GB := Lib.hid gb
      have HR := Lib.hid hrow; have HFR := Lib.hid hfr
      clear gb hrow hfr
      go_wp2
      go_end0
      refine ⟨rfl, ?_⟩
      have hfw : Fr (only b) wr (((wr.setCell ⟨b, 1, none⟩ (.slice none 0 0)).setCell ⟨b, 2, none⟩ (.int .i64 (-1))).setCell ⟨b, 3, none⟩ (.bool false)) :=
        ((Fr.setCell_only wr ⟨b, 1, none⟩ _).setCell (p := ⟨b, 2, none⟩) (Or.inl rfl) _).setCell (p := ⟨b, 3, none⟩) (Or.inl rfl) _
      have hok := crash_ok (crashN keeps torn bytes) (crashN_le _ _ _) d.lasts H3.out.secs d.cache (fun p hp => H3.out.wrs p hp) 0
      refine ⟨⟨bl, .slice none 0 0, ?_, hfw.at_only ?_ HNE.out, World.ownsRow_nil _ _ _ _, ⟨?_, ?_, ?_, by simp⟩, Or.inl h4, Or.inl h5, fun k hk => by simp [Value.ownBlock] at hk⟩, (HFR.out.mono fun k q => by cases q; exact h5).trans' (hfw.mono fun k q => by cases q; exact h4)⟩
      · have e1 := heap_setCell_same wr b 1 _ _ (.slice none 0 0) GB.out
        have e2 := heap_setCell_same _ b 2 _ _ (.int .i64 (-1)) e1
        rw [heap_setCell_same _ b 3 _ _ (.bool false) e2]
        simp [crashAll, hok.1]
      · exact HR.out
      · simp only [crashAll, hok.1]; exact H3.out.one
      · simp only [crashAll, hok.1]; exact H3.out.most
      · exact hok.2

end Go.Proofs.Ytfhfnnpadfibkaa
