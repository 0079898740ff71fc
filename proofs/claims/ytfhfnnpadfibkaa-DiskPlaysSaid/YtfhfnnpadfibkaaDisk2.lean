/-
  The disk's Read, Sync, Crash, walked.
-/
import Derived.Test.YtfhfnnpadfibkaaDisk
set_option linter.unusedVariables false
set_option linter.unusedSimpArgs false
namespace Go.Proofs.Ytfhfnnpadfibkaa
open Go.RowKit

attribute [local go_sem ↓] loadA_sec loadA_wr storeA_sec storeA_wr copyA_any

/-- What lies at a place above what lasts: the last write of it. -/
def topOf (k : Nat) (s : List UInt8) (l : List (Nat × List UInt8)) : List UInt8 := l.foldl (fun s p => if p.1 = k then p.2 else s) s
def DSt.top (d : DSt) (k : Nat) : List UInt8 := topOf k (d.lasts.getD k []) d.cache

theorem topOf_snoc (k : Nat) (s : List UInt8) (l : List (Nat × List UInt8)) (p : Nat × List UInt8) : topOf k s (l ++ [p]) = if p.1 = k then p.2 else topOf k s l := by simp [topOf]
theorem topOf_length (k : Nat) (s : List UInt8) (hs : s.length = 64) (l : List (Nat × List UInt8)) (hl : ∀ p ∈ l, p.2.length = 64) : (topOf k s l).length = 64 := by
  induction l generalizing s with
  | nil => exact hs
  | cons p l ih =>
    refine ih _ ?_ (fun q hq => hl q (by simp [hq]))
    show (if p.1 = k then p.2 else s).length = 64
    split
    · exact hl p (by simp)
    · exact hs
theorem take_snoc' {α : Type} (l : List α) (k : Nat) (x : α) (h : l[k]? = some x) : l.take (k + 1) = l.take k ++ [x] := by
  obtain ⟨hk, hx⟩ := List.getElem?_eq_some_iff.1 h
  rw [List.take_succ_eq_append_getElem hk, hx]

/-- An owned row, as a slice value: its block. -/
theorem own_form {w : World} {e : TypeId} {size n : Nat} {v : Value} {xs : List Value} (h : w.ownsRow 0 e size v n xs) :
    ∃ A cap, v = .slice A n cap ∧ (0 < n → ∃ g, A = some ⟨g, 0, none⟩ ∧ ∃ cur : List Value, w.heap[g]? = some (.cells cur.toArray e (0, 0)) ∧ ∀ (j : Nat) (u : Value), xs[j]? = some u → cur[j]? = some u) := by
  rcases h.2 with ⟨rfl, rfl⟩ | ⟨g, cap, cur, rfl, _, hg, _, _, _, hx⟩
  · exact ⟨none, 0, rfl, fun h => absurd h (by omega)⟩
  · refine ⟨_, cap, rfl, fun _ => ⟨g, rfl, cur.toList, by simpa using hg, fun j u hu => ?_⟩⟩
    rw [← hx] at hu
    rw [List.getElem?_take] at hu
    split at hu
    · exact hu
    · cases hu

theorem secV_get (s : List UInt8) : secV s = s.map byteV := rfl
theorem secV_one (s : List UInt8) : ∀ x ∈ secV s, x.oneCell' = true := by
  intro x hx
  simp only [secV, List.mem_map] at hx
  obtain ⟨_, _, rfl⟩ := hx
  rfl
theorem Try.sizeSec : (Try.prog.info? 63).map (·.size) = some 64 := by kernel_rfl
theorem zeroSec : ∀ w, (zeroValue 63).run Try.prog w = .ok (.agg (List.replicate 64 (Value.int .u8 0)).toArray) w := (zero_of_info (n := 64) (by kernel_rfl)).1
theorem last_get (d : DSt) (h3 : d.Ok) (n : Nat) (s : List UInt8) (hs : d.lasts[n]? = some s) (j : Nat) (v : Value) (hv : (secV s)[j]? = some v) : d.lastCells[n * 64 + j]? = some v :=
  flat_get secV 64 d.lasts (fun x hx => by rw [secV_length]; exact h3.secs x hx) n s hs j v hv
theorem cache_get (d : DSt) (h3 : d.Ok) (n : Nat) (p : Nat × List UInt8) (hp : d.cache[n]? = some p) (j : Nat) (v : Value) (hv : (wrV p)[j]? = some v) : d.cacheCells[n * 65 + j]? = some v :=
  flat_get wrV 65 d.cache (fun x hx => wrV_length x (h3.wrs x hx).2) n p hp j v hv

set_option maxHeartbeats 1000000 in
theorem read_yes (F : Nat → Prop) (b : Nat) (d : DSt) (n : Nat) (w : World) (h : DiskAt w F b d) (hf : d.fault n = 0) (hmost : d.cache.length < 1000000000) :
    Calls Try.prog 13 #[.pointer (some ⟨b, 0, none⟩), .int .i64 n] w fun e w' => e = .returned (.tuple #[.string ⟨(d.top n).toArray⟩, .nilIface]) ∧ Fr (fun _ => False) w w' := by
  have HC : Hid (Calls Try.prog 27 #[.pointer (some ⟨b, 0, none⟩), .int .i64 n] w fun e w' => e = .returned .nilIface ∧ w' = w) :=
      (fault_any F b d n w h).mono fun e w' ⟨he, hw⟩ => ⟨by rw [he, hf]; rfl, hw⟩
  have hn : n < d.lasts.length := by
    simp only [DSt.fault] at hf
    split at hf
    · simp at hf
    · split at hf
      · simp at hf
      · omega
  obtain ⟨bl, cv, g0, h1, h2, h3, h4, h5, h6⟩ := h
  obtain ⟨A, cap, rfl, hA⟩ := own_form h2
  have hmx := h3.most
  have c0 := (cells5 g0).1.1
  have c1 := (cells5 g0).1.2.1
  obtain ⟨S0, hS0⟩ : ∃ s, d.lasts[n]? = some s := ⟨_, List.getElem?_eq_getElem hn⟩
  have lS0 : S0.length = 64 := h3.secs _ (List.mem_of_getElem? hS0)
  have htop : Hid (d.top n = topOf n S0 d.cache) := by
    refine Lib.hid ?_
    rw [DSt.top, List.getD_eq_getElem?_getD, hS0]; rfl
  obtain ⟨X0, hX0⟩ : ∃ X, X = secV S0 := ⟨_, rfl⟩
  have lX0 : X0.length = 64 := by rw [hX0, secV_length]; exact lS0
  have oX0 : ∀ x ∈ X0, x.oneCell' = true := by rw [hX0]; exact secV_one _
  have r1 : (LoadA 63 (.pointer (some ⟨bl, n * 64, none⟩))).run Try.prog w = .ok (.agg X0.toArray) w :=
    run_loadA h1 Try.underlying63 rfl (by rw [lX0]; exact Try.sizeSec) (by rw [hX0]; exact last_get d h3 n S0 hS0)
  obtain ⟨Z0, hZ0⟩ : ∃ Z : List Value, Z = List.replicate 64 (Value.int .u8 0) := ⟨_, rfl⟩
  have r2 : ∀ w, (zeroValue 63).run Try.prog w = .ok (.agg Z0.toArray) w := by rw [hZ0]; exact zeroSec
  have r3 : (StoreA 63 (.pointer (some ⟨w.heap.size, 0, none⟩)) (.agg X0.toArray)).run Try.prog (w.alloc (.cells Z0.toArray 63)) = .ok () (w.alloc (.cells X0.toArray 63)) :=
    run_storeAt_new w _ _ _ (by simpa [lX0] using Try.sizeSec) (by simp [hZ0, lX0]) (all_oneCell_toArray oX0)
  have G0 := Lib.hid g0
  have H1 := Lib.hid h1
  have H2 := Lib.hid h2
  have H3 := Lib.hid h3
  have HA := Lib.hid hA
  have HX0 := Lib.hid hX0; have HZ0 := Lib.hid hZ0
  have LS0 := Lib.hid lS0
  have c1a : ∀ o, (w.alloc o).cell? ⟨b, 1, none⟩ = some (.slice A d.cache.length cap) := fun o => (World.cell?_alloc_lt _ _ _ (lt_heap g0)).trans c1
  clear g0 h1 h2 h3 h4 h5 h6 hf hA hX0 hZ0 lS0 lX0 oX0 hS0
  go_enter Try.func13, Try.ntmps13
  go_wp2_with (first
    | (go_at_call 27; refine HC.out.mono ?_; rintro e w' ⟨rfl, rfl⟩))
  clear r1 r3 HC
  have hbg : b < w'.heap.size := lt_heap G0.out
  go_loopw [28] (fun i wr => ∃ k : Nat, k ≤ d.cache.length ∧ i = .int .i64 k ∧ wr.heap[w'.heap.size]? = some (.cells (secV (topOf n S0 (d.cache.take k))).toArray 63 (0, 0)) ∧ Fr (fun _ => False) w' wr) (fun i _ => d.cache.length - (intOf i).toNat)
  case atStart => exact ⟨0, Nat.zero_le _, rfl, by rw [heap_alloc_new]; simp [topOf, HX0.out], (Fr.refl _ _).alloc _⟩
  case round =>
    obtain ⟨k, hk, rfl, hrow, hfr⟩ := hrel
    by_cases hlt : k < d.cache.length
    · obtain ⟨g, rfl, cur, hcur, hcells⟩ := HA.out (by omega)
      obtain ⟨p, hp⟩ : ∃ p, d.cache[k]? = some p := ⟨_, List.getElem?_eq_getElem hlt⟩
      have hpw := H3.out.wrs p (List.mem_of_getElem? hp)
      have hcur' := hfr.at hcur (fun q => q)
      obtain ⟨at_, ps⟩ := p
      obtain ⟨S, hS⟩ : ∃ S, S = secV ps := ⟨_, rfl⟩
      have lS : S.length = 64 := by rw [hS, secV_length]; exact hpw.2
      have oS : ∀ x ∈ S, x.oneCell' = true := by rw [hS]; exact secV_one _
      have r1 : (LoadA 65 (.pointer (some ⟨g, k * 65, none⟩))).run Try.prog wr = .ok (.agg (Value.int .i64 (at_ : Int) :: S).toArray) wr :=
        run_loadA hcur' Try.underlying65 rfl (by rw [List.length_cons, lS]; exact Try.sizeWr) (fun j v hv => hcells _ _ (cache_get d H3.out k _ hp j v (by rw [hS] at hv; exact hv)))
      obtain ⟨Z1, hZ1⟩ : ∃ Z : List Value, Z = wr0 0 := ⟨_, rfl⟩
      have r4 : ∀ w, (zeroValue 65).run Try.prog w = .ok (.agg Z1.toArray) w := by rw [hZ1]; exact zeroWr
      have r5 : (StoreA 65 (.pointer (some ⟨wr.heap.size, 0, none⟩)) (.agg (Value.int .i64 (at_ : Int) :: S).toArray)).run Try.prog (wr.alloc (.cells Z1.toArray 65)) = .ok () (wr.alloc (.cells (Value.int .i64 (at_ : Int) :: S).toArray 65)) :=
        run_storeAt_new wr _ _ _ (by simpa [lS] using Try.sizeWr) (by simp [hZ1, wr0, lS]) (all_oneCell_toArray (by intro x hx; rcases List.mem_cons.1 hx with rfl | hx; rfl; exact oS x hx))
      have r6 : (LoadA 63 (.pointer (some ⟨wr.heap.size, 1, none⟩))).run Try.prog (wr.alloc (.cells (Value.int .i64 (at_ : Int) :: S).toArray 65)) = .ok (.agg S.toArray) (wr.alloc (.cells (Value.int .i64 (at_ : Int) :: S).toArray 65)) :=
        run_loadA (heap_alloc_new wr _) Try.underlying63 rfl (by rw [lS]; exact Try.sizeSec) (fun j v hv => by rw [Nat.add_comm, List.getElem?_cons_succ]; exact hv)
      have hlw : w'.heap.size < wr.heap.size := lt_heap hrow
      have r7 := run_storeA (P := Try.prog) (W := wr.alloc (.cells (Value.int .i64 (at_ : Int) :: S).toArray 65)) (g := w'.heap.size) (off := 0) (ty := 63) (xs := S) (cs := secV (topOf n S0 (d.cache.take k))) (t := 63)
        (by rw [Below.heap_alloc _ _ _ hlw]; exact hrow) (by rw [lS]; exact Try.sizeSec) (by rw [secV_length, topOf_length n S0 LS0.out _ (fun p hp => (H3.out.wrs p (List.mem_of_mem_take hp)).2)]; omega) oS
      have htk := Lib.hid (take_snoc' _ _ _ hp)
      have hfin : Hid (splice (secV (topOf n S0 (d.cache.take k))) 0 S = S) := by
        refine Lib.hid ?_
        simp only [splice, List.take_zero, List.nil_append, Nat.zero_add]
        rw [List.drop_eq_nil_of_le, List.append_nil]
        rw [secV_length, topOf_length n S0 LS0.out _ (fun p hp => (H3.out.wrs p (List.mem_of_mem_take hp)).2)]; omega
      have HR := Lib.hid hrow; have HFR := Lib.hid hfr; have HS := Lib.hid hS
      clear hrow hfr hcur hcur' hcells hp hpw oS lS hZ1 hS
      by_cases hc : at_ = n
      · subst hc
        go_wp2
        all_goals
          go_roundw
          case rel =>
            refine ⟨k + 1, by omega, by go_num, ?_, ?_⟩
            · rw [setRow_heap _ _ _ _ _ _ (by rw [Below.heap_alloc _ _ _ hlw]; exact HR.out), hfin.out, htk.out, topOf_snoc, if_pos rfl, HS.out]
            · exact (HFR.out.alloc _).setRow (Or.inr (Nat.le_refl _)) _
          case measure => simp [intOf]; omega
      · have hcB : ((at_ : Int) == (n : Int)) = false := by rw [beq_eq_false_iff_ne]; omega
        go_wp2
        all_goals
          go_roundw
          case rel =>
            refine ⟨k + 1, by omega, by go_num, ?_, HFR.out.alloc _⟩
            rw [Below.heap_alloc _ _ _ hlw, htk.out, topOf_snoc, if_neg hc]
            exact HR.out
          case measure => simp [intOf]; omega
    · obtain rfl : k = d.cache.length := by omega
      rw [List.take_length] at hrow
      have lT : (topOf n S0 d.cache).length = 64 := topOf_length n S0 LS0.out _ (fun p hp => (H3.out.wrs p hp).2)
      have r8 : (convert 66 9 (.slice (some ⟨w'.heap.size, 0, none⟩) 64 64)).run Try.prog wr = .ok (.string ⟨(topOf n S0 d.cache).toArray⟩) wr := by
        have := run_convert_bytes_back (P := Try.prog) wr 66 9 5 ⟨w'.heap.size, 0, none⟩ 64 (topOf n S0 d.cache) Try.underlying66 Try.underlying5 Try.underlying9 (fun j hj => by
          rw [plain_add, Nat.zero_add, cell_of_row wr _ j _ _ _ hrow]
          simp [secV, byteV, hj])
        rwa [lT] at this
      have HFR := Lib.hid hfr
      clear hrow lT hfr
      go_wp2
      go_ret2
      rw [htop.out]
      exact ⟨rfl, HFR.out⟩

theorem read_no (F : Nat → Prop) (b : Nat) (d : DSt) (at_ : Int) (w : World) (h : DiskAt w F b d) (hf : d.fault at_ ≠ 0) :
    Calls Try.prog 13 #[.pointer (some ⟨b, 0, none⟩), .int .i64 at_] w fun e w' => e = .returned (.tuple #[.string ⟨#[]⟩, errV (d.fault at_)]) ∧ w' = w := by
  have he := errV_ne hf
  have hca := fault_any F b d at_ w h
  generalize d.fault at_ = n at *
  have HC : Hid (Calls Try.prog 27 #[.pointer (some ⟨b, 0, none⟩), .int .i64 at_] w fun e w' => e = .returned (errV n) ∧ w' = w) := hca
  rw [he] at HC
  have HE := Lib.hid he
  clear hf h he hca
  go_enter Try.func13, Try.ntmps13
  go_wp2_with (go_at_call 27; refine HC.out.mono ?_; rintro e w' ⟨rfl, rfl⟩)
  go_ret2
  exact ⟨by rw [HE.out]; rfl, rfl⟩

/-- What Read answers. -/
def DSt.read (d : DSt) (at_ : Int) : List UInt8 × Nat := if d.fault at_ = 0 then (d.top at_.toNat, 0) else ([], d.fault at_)

theorem read_any (F : Nat → Prop) (b : Nat) (d : DSt) (at_ : Int) (w : World) (h : DiskAt w F b d) (hmost : d.cache.length < 1000000000) :
    Calls Try.prog 13 #[.pointer (some ⟨b, 0, none⟩), .int .i64 at_] w fun e w' => e = .returned (.tuple #[.string ⟨(d.read at_).1.toArray⟩, errV (d.read at_).2]) ∧ Fr (fun _ => False) w w' := by
  by_cases hf : d.fault at_ = 0
  · obtain ⟨n, rfl⟩ : ∃ n : Nat, at_ = n := by
      refine ⟨at_.toNat, ?_⟩
      simp only [DSt.fault] at hf
      split at hf
      · simp at hf
      · split at hf
        · simp at hf
        · omega
    refine (read_yes F b d n w h hf hmost).mono fun e w' ⟨he, hw⟩ => ⟨?_, hw⟩
    rw [he]
    simp [DSt.read, hf, errV]
  · refine (read_no F b d at_ w h hf).mono fun e w' ⟨he, hw⟩ => ⟨?_, by rw [hw]; exact Fr.refl _ _⟩
    rw [he]
    simp [DSt.read, hf]

/-- What lasts, with some writes laid upon it. -/
def putAll (L : List (List UInt8)) (l : List (Nat × List UInt8)) : List (List UInt8) := l.foldl (fun L p => L.set p.1 p.2) L
theorem putAll_snoc (L : List (List UInt8)) (l : List (Nat × List UInt8)) (p : Nat × List UInt8) : putAll L (l ++ [p]) = (putAll L l).set p.1 p.2 := by simp [putAll]
theorem putAll_length (L : List (List UInt8)) (l : List (Nat × List UInt8)) : (putAll L l).length = L.length := by
  induction l generalizing L with
  | nil => rfl
  | cons p l ih => exact (ih (L.set p.1 p.2)).trans (by simp)
theorem putAll_secs (L : List (List UInt8)) (hL : ∀ s ∈ L, s.length = 64) (l : List (Nat × List UInt8)) (hl : ∀ p ∈ l, p.2.length = 64) : ∀ s ∈ putAll L l, s.length = 64 := by
  induction l generalizing L with
  | nil => exact hL
  | cons p l ih =>
    refine ih (L.set p.1 p.2) (fun s hs => ?_) (fun q hq => hl q (by simp [hq]))
    rcases List.mem_or_eq_of_mem_set hs with h | h
    · exact hL s h
    · rw [h]; exact hl p (by simp)

def DSt.sync (d : DSt) : DSt × Nat := if d.down then (d, 6) else ({ d with lasts := putAll d.lasts d.cache, cache := [] }, 0)

theorem sync_no (F : Nat → Prop) (b : Nat) (d : DSt) (w : World) (h : DiskAt w F b d) (hf : d.down = true) :
    Calls Try.prog 11 #[.pointer (some ⟨b, 0, none⟩)] w fun e w' => e = .returned (errV 6) ∧ w' = w := by
  obtain ⟨bl, cv, g0, h1, h2, h3, h4, h5, h6⟩ := h
  rw [hf] at g0
  have c3 := (cells5 g0).1.2.2.2.1
  clear g0 h1 h2 h3 h4 h5 h6 hf
  go_enter Try.func11, Try.ntmps11
  go_wp2
  go_ret
  exact ⟨rfl, rfl⟩

set_option maxHeartbeats 1000000 in
theorem sync_yes (F : Nat → Prop) (b : Nat) (d : DSt) (w : World) (h : DiskAt w F b d) (hf : d.down = false) (hmost : d.cache.length < 1000000000) :
    Calls Try.prog 11 #[.pointer (some ⟨b, 0, none⟩)] w fun e w' => e = .returned (errV 0) ∧ DiskAt w' (gro F w w') b { d with lasts := putAll d.lasts d.cache, cache := [] } ∧ Fr F w w' := by
  obtain ⟨bl, cv, g0, h1, h2, h3, h4, h5, h6⟩ := h
  have hcb := own_ne h2 g0 (by decide)
  have hcl := own_ne h2 h1 (by decide)
  obtain ⟨A, cap, rfl, hA⟩ := own_form h2
  have hmx := h3.most
  have hne : bl ≠ b := by rintro rfl; rw [g0] at h1; simp at h1
  rw [hf] at g0
  have c0 := (cells5 g0).1.1
  have c1 := (cells5 g0).1.2.1
  have c3 := (cells5 g0).1.2.2.2.1
  have G0 := Lib.hid g0
  have H1 := Lib.hid h1
  have H2 := Lib.hid h2
  have H3 := Lib.hid h3
  have HA := Lib.hid hA
  have HCL := Lib.hid hcl; have HCB := Lib.hid hcb; have HNE := Lib.hid hne; have HF := Lib.hid hf
  clear g0 h1 h2 h3 h6 hf hA hcl hcb hne
  go_enter Try.func11, Try.ntmps11
  go_wp2
  go_loopw [15] (fun i wr => ∃ k : Nat, k ≤ d.cache.length ∧ i = .int .i64 k ∧ wr.heap[bl]? = some (.cells ((putAll d.lasts (d.cache.take k)).map secV).flatten.toArray 63 (0, 0)) ∧ Fr (only bl) w wr) (fun i _ => d.cache.length - (intOf i).toNat)
  case atStart => exact ⟨0, Nat.zero_le _, rfl, H1.out, Fr.refl _ _⟩
  case round =>
    obtain ⟨k, hk, rfl, hrow, hfr⟩ := hrel
    have gb := hfr.at_only G0.out (Ne.symm HNE.out)
    by_cases hlt : k < d.cache.length
    · obtain ⟨g, rfl, cur, hcur, hcells⟩ := HA.out (by omega)
      obtain ⟨p, hp⟩ : ∃ p, d.cache[k]? = some p := ⟨_, List.getElem?_eq_getElem hlt⟩
      have hpw := H3.out.wrs p (List.mem_of_getElem? hp)
      have hcur' := hfr.at_only hcur (HCL.out g rfl)
      obtain ⟨at_, ps⟩ := p
      have hat : at_ < d.lasts.length := hpw.1
      obtain ⟨S, hS⟩ : ∃ S, S = secV ps := ⟨_, rfl⟩
      have lS : S.length = 64 := by rw [hS, secV_length]; exact hpw.2
      have oS : ∀ x ∈ S, x.oneCell' = true := by rw [hS]; exact secV_one _
      have r1 : (LoadA 65 (.pointer (some ⟨g, k * 65, none⟩))).run Try.prog wr = .ok (.agg (Value.int .i64 (at_ : Int) :: S).toArray) wr :=
        run_loadA hcur' Try.underlying65 rfl (by rw [List.length_cons, lS]; exact Try.sizeWr) (fun j v hv => hcells _ _ (cache_get d H3.out k _ hp j v (by rw [hS] at hv; exact hv)))
      obtain ⟨Z1, hZ1⟩ : ∃ Z : List Value, Z = wr0 0 := ⟨_, rfl⟩
      have r4 : ∀ w, (zeroValue 65).run Try.prog w = .ok (.agg Z1.toArray) w := by rw [hZ1]; exact zeroWr
      have r5 : (StoreA 65 (.pointer (some ⟨wr.heap.size, 0, none⟩)) (.agg (Value.int .i64 (at_ : Int) :: S).toArray)).run Try.prog (wr.alloc (.cells Z1.toArray 65)) = .ok () (wr.alloc (.cells (Value.int .i64 (at_ : Int) :: S).toArray 65)) :=
        run_storeAt_new wr _ _ _ (by simpa [lS] using Try.sizeWr) (by simp [hZ1, wr0, lS]) (all_oneCell_toArray (by intro x hx; rcases List.mem_cons.1 hx with rfl | hx; rfl; exact oS x hx))
      have hlw : bl < wr.heap.size := lt_heap hrow
      have c0a : ∀ o, (wr.alloc o).cell? ⟨b, 0, none⟩ = some (Value.slice (some ⟨bl, 0, none⟩) d.lasts.length d.lasts.length) := fun o => (World.cell?_alloc_lt _ _ _ (lt_heap gb)).trans (cells5 gb).1.1
      have HR := Lib.hid hrow; have HFR := Lib.hid hfr; have HS := Lib.hid hS
      clear hrow hfr hcur hcur' hcells hpw hZ1 hS
      go_wp2
      -- the statement that draws its order
      generalize hW : wr.alloc (.cells (Value.int .i64 (at_ : Int) :: S).toArray 65) = W at *
      have hWs : W.heap[wr.heap.size]? = some (.cells (Value.int .i64 (at_ : Int) :: S).toArray 65 (0, 0)) := by rw [← hW]; exact heap_alloc_new wr _
      have hWl : W.heap[bl]? = wr.heap[bl]? := by rw [← hW]; exact Below.heap_alloc _ _ _ hlw
      have hWf : Fr (only bl) w W := by rw [← hW]; exact HFR.out.alloc _
      have d0 : W.cell? ⟨b, 0, none⟩ = some (Value.slice (some ⟨bl, 0, none⟩) d.lasts.length d.lasts.length) := by rw [← hW]; exact c0a _
      have d1 : W.cell? ⟨wr.heap.size, 0, none⟩ = some (.int .i64 (at_ : Int)) := by rw [cell_of_row _ _ 0 _ _ _ hWs]; rfl
      have r6 : (LoadA 63 (.pointer (some ⟨wr.heap.size, 1, none⟩))).run Try.prog W.drew = .ok (.agg S.toArray) W.drew :=
        run_loadA (W := W.drew) hWs Try.underlying63 rfl (by rw [lS]; exact Try.sizeSec) (fun j v hv => by rw [Nat.add_comm, List.getElem?_cons_succ]; exact hv)
      have hlenL := putAll_length d.lasts (d.cache.take k)
      have hsecs := putAll_secs d.lasts H3.out.secs (d.cache.take k) (fun p hp => (H3.out.wrs p (List.mem_of_mem_take hp)).2)
      have hflat := flat_length secV 64 (putAll d.lasts (d.cache.take k)) (fun x hx => by rw [secV_length]; exact hsecs x hx)
      have r7 : (StoreA 63 (.pointer (some ⟨bl, at_ * 64, none⟩)) (.agg S.toArray)).run Try.prog W.drew = .ok () (World.setRow W.drew bl (splice ((putAll d.lasts (d.cache.take k)).map secV).flatten (at_ * 64) S).toArray) :=
        run_storeA (P := Try.prog) (W := W.drew) (hWl.trans HR.out) (by rw [lS]; exact Try.sizeSec) (by rw [hflat, hlenL, lS]; omega) oS
      have HWS := Lib.hid hWs; have HWL := Lib.hid hWl; have HWF := Lib.hid hWf
      clear hW r1 r4 r5 c0a hWs hWl hWf hlenL hsecs hflat oS lS
      refine region_tail 9 (by kernel_rfl) (by kernel_rfl) ?_
      simp only [List.take_succ_cons, List.take_zero, List.drop_succ_cons, List.drop_zero]
      repeat still_step
      refine wpStill_nil ?_
      have htk := Lib.hid (take_snoc' _ _ _ hp)
      go_wp2
      go_roundw
      case rel =>
        refine ⟨k + 1, by omega, by go_num, ?_, (HWF.out.drew).setRow (Or.inl rfl) _⟩
        rw [setRow_heap (w := W.drew) _ _ _ _ _ (HWL.out.trans HR.out), htk.out, putAll_snoc, HS.out,
          flat_set secV 64 _ (fun x hx => by rw [secV_length]; exact putAll_secs d.lasts H3.out.secs (d.cache.take k) (fun p hp => (H3.out.wrs p (List.mem_of_mem_take hp)).2) x hx) at_ (by rw [putAll_length]; exact hat) ps (by rw [secV_length]; exact (H3.out.wrs _ (List.mem_of_getElem? hp)).2)]
      case measure => simp [intOf]; omega
    · obtain rfl : k = d.cache.length := by omega
      rw [List.take_length] at hrow
      have k1 := (cells5 gb).1.2.1
      have k1f := (cells5 gb).2
      have GB := Lib.hid gb
      have HR := Lib.hid hrow; have HFR := Lib.hid hfr
      clear gb hrow hfr
      go_wp2
      go_ret
      refine ⟨rfl, ?_⟩
      have hfw : Fr (only b) wr (wr.setCell ⟨b, 1, none⟩ (.slice none 0 0)) := Fr.setCell_only _ ⟨b, 1, none⟩ _
      refine ⟨⟨bl, .slice none 0 0, ?_, hfw.at_only ?_ HNE.out, World.ownsRow_nil _ _ _ _, ⟨?_, ?_, ?_, by simp⟩, Or.inl h4, Or.inl h5, fun k hk => by simp [Value.ownBlock] at hk⟩, (HFR.out.mono fun k q => by cases q; exact h5).trans' (hfw.mono fun k q => by cases q; exact h4)⟩
      · rw [heap_setCell_same _ _ _ _ _ _ GB.out, HF.out]
        simp [putAll_length]
      · exact HR.out
      · rw [putAll_length]; exact H3.out.one
      · rw [putAll_length]; exact H3.out.most
      · exact putAll_secs d.lasts H3.out.secs _ fun p hp => (H3.out.wrs p hp).2

theorem sync_any (F : Nat → Prop) (b : Nat) (d : DSt) (w : World) (h : DiskAt w F b d) (hmost : d.cache.length < 1000000000) :
    Calls Try.prog 11 #[.pointer (some ⟨b, 0, none⟩)] w fun e w' => e = .returned (errV d.sync.2) ∧ DiskAt w' (gro F w w') b d.sync.1 ∧ Fr F w w' := by
  cases hd : d.down with
  | true =>
    refine (sync_no F b d w h hd).mono fun e w' ⟨he, hw⟩ => ?_
    subst hw
    simp only [DSt.sync, hd, if_true]
    exact ⟨he, h.mono fun k q => Or.inl q, Fr.refl _ _⟩
  | false =>
    have e : d.sync = ({ d with lasts := putAll d.lasts d.cache, cache := [] }, 0) := by simp [DSt.sync, hd]
    rw [e]
    exact sync_yes F b d w h hd hmost

end Go.Proofs.Ytfhfnnpadfibkaa
