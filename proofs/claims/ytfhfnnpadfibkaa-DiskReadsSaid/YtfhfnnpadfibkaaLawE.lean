/-
  The walk of DiskReads.
-/
import Derived.Test.YtfhfnnpadfibkaaReadsP
import Derived.Deep.QuietTactic
import Derived.BigQuiet
set_option linter.unusedVariables false
set_option linter.unusedSimpArgs false
namespace Go.Proofs.Ytfhfnnpadfibkaa
open Go.RowKit

attribute [local go_sem ↓] minA_any maxA_any

theorem padded_B (s : ByteArray) (w : World) (hs : s.size ≤ 64) :
    Calls Try.prog 14 #[.string s] w fun e w' => e = .returned (.string (padB s)) ∧ Fr (fun _ => False) w w' := padded_any s w hs

theorem Try.infoStr : (Try.prog.info? 9).map (fun i => (i.zero, i.size, i.bytes)) = some (some (.string ByteArray.empty), 1, 16) := by kernel_rfl
theorem run_make_strs (n : Nat) (hn : n ≤ 1000) (w : World) : (Instr.makeSlice 36 (.int .i64 (n : Int)) (.int .i64 (n : Int))).run Try.prog w = .ok (.slice (some ⟨w.heap.size, 0, none⟩) n n) (w.alloc (.cells (List.replicate n (.string ByteArray.empty)).toArray 9)) := by
  have := run_make_row' (P := Try.prog) 36 9 (.string ByteArray.empty) 16 Try.underlying36 Try.infoStr rfl .i64 .i64 n (by omega) (by omega) w
  rw [this, ← madeCells_replicate (.string ByteArray.empty) 1 n (by decide)]
  rfl
def Row8 (w : World) (wb : Nat) (want : List ByteArray) : Prop := w.heap[wb]? = some (.cells (want.map Value.string).toArray 9 (0, 0))

theorem Row8.keep {w w' : World} {S : Nat → Prop} {wb : Nat} {want : List ByteArray} (h : Row8 w wb want) (hf : Fr S w w') (hs : ¬ S wb) : Row8 w' wb want := hf.at h hs
theorem Row8.cell {w : World} {wb : Nat} {want : List ByteArray} (h : Row8 w wb want) (j : Nat) (hj : j < want.length) : w.cell? ⟨wb, j, none⟩ = some (.string (want.getD j ByteArray.empty)) := by
  have := cell_of_row w wb j _ _ _ h
  rw [this]
  simp [List.getD, hj]
theorem Row8.frozen {w : World} {wb : Nat} {want : List ByteArray} (h : Row8 w wb want) (j : Nat) : w.frozen? ⟨wb, j, none⟩ = false := by
  unfold Row8 at h; simp [World.frozen?, h]
theorem Row8.set {w : World} {wb : Nat} {want : List ByteArray} (h : Row8 w wb want) (j : Nat) (s : ByteArray) : Row8 (w.setCell ⟨wb, j, none⟩ (.string s)) wb (want.set j s) := by
  unfold Row8 at *
  rw [heap_setCell_same _ _ _ _ _ _ h]
  simp [List.map_set]

set_option maxHeartbeats 8000000 in
set_option maxRecDepth 100000 in
theorem DiskReads_walk (sa : Option Addr) (sl sc : Nat) (sectors : List Int) (ta : Option Addr) (tl tc : Nat) (texts : List ByteArray) (w : World) (hs : IntsIn w sa sl sectors) (ht : StrsIn w ta tl texts) :
    Calls Try.prog 4 #[.slice sa sl sc, .slice ta tl tc] w fun e w' => e = .returned (.bool true) ∧ Fr (fun _ => False) w w' := by
  have HS := Lib.hid hs
  have HT := Lib.hid ht
  clear hs ht
  go_enter Try.func4, Try.ntmps4
  go_wp2_with fail
  refine (examples_any w).mono ?_
  rintro e w1 ⟨rfl, hf1⟩
  go_wp2_with fail
  refine (new_dk 8 w w1 (by omega) (by omega) (hf1.mono fun _ q => q.elim)).mono ?_
  rintro e w2 ⟨b, rfl, hD0⟩
  rw [show (8 : Int).toNat = 8 from rfl] at hD0
  obtain ⟨R, hR⟩ : ∃ R : List Value, R = List.replicate 8 (.string ByteArray.empty) := ⟨_, rfl⟩
  have hmk : ∀ w : World, (Instr.makeSlice 36 (.int .i64 8) (.int .i64 8)).run Try.prog w = .ok (.slice (some ⟨w.heap.size, 0, none⟩) 8 8) (w.alloc (.cells R.toArray 9)) := fun w => by rw [hR]; exact run_make_strs 8 (by omega) w
  have HR := Lib.hid hR; clear hR
  go_wp2_with fail
  obtain ⟨wb, hwb⟩ : ∃ wb : Nat, wb = w2.heap.size := ⟨_, rfl⟩
  have hX0 : DkX w w2 (only wb) b (DSt.init 8) := hD0.toX fun k q => by have : k = wb := q; omega
  have hA0 : Fr (fun _ => False) w2 (w2.alloc (.cells R.toArray 9)) := (Fr.refl _ _).alloc _
  have hX1 : DkX w (w2.alloc (.cells R.toArray 9)) (only wb) b (DSt.init 8) := hX0.still hA0
  have hW0 : Row8 (w2.alloc (.cells R.toArray 9)) wb (List.replicate 8 ByteArray.empty) := by
    rw [hwb]; unfold Row8; rw [heap_alloc_new, HR.out]; simp
  have hwz : wb < (w2.alloc (.cells R.toArray 9)).heap.size := by rw [hwb]; simp
  have hwl : w.heap.size ≤ wb := by rw [hwb]; exact hD0.fr.size
  rw [← hwb]
  generalize w2.alloc (.cells R.toArray 9) = w3 at hX1 hW0 hwz ⊢
  clear hX0 hA0 hwb hmk hD0 HR
  have HW := Lib.hid hwl; clear hwl
  go_loopw [9] (fun i wr => ∃ (k : Nat) (d : DSt) (want : List ByteArray), k ≤ 100 ∧ i = .int .i64 k ∧ ReadsAt d want 8 k ∧ DkX w wr (only wb) b d ∧ Row8 wr wb want ∧ wb < wr.heap.size) (fun i _ => 100 - (intOf i).toNat)
  case atStart => exact ⟨0, _, _, Nat.zero_le _, rfl, reads_init 8, hX1, hW0, hwz⟩
  case round =>
    obtain ⟨k, d, want, hk, rfl, hF, hDr, hWr, hwz1⟩ := hrel
    clear hX1 hW0 hwz
    by_cases h1 : k < sl
    · by_cases h2 : k < tl
      · by_cases h3 : k < 100
        · obtain ⟨ad, rfl, hcs, -⟩ := HS.out.1.2.2 (show 0 < sl by omega)
          obtain ⟨at_, rfl, hct, -⟩ := HT.out.cells (show 0 < tl by omega)
          obtain ⟨x, hx⟩ : ∃ x : Int, x = sectors.getD k 0 := ⟨_, rfl⟩
          obtain ⟨s0, hs0⟩ : ∃ s0 : ByteArray, s0 = texts.getD k ByteArray.empty := ⟨_, rfl⟩
          have c1 : wr.cell? (ad.add k) = some (.int .i64 x) := by rw [hx]; exact hDr.fr.up.cell (hcs k h1) (fun q => q)
          have c2 : wr.cell? (at_.add k) = some (.string s0) := by rw [hs0]; exact hDr.fr.up.cell (hct k h2) (fun q => q)
          have hxb : -9223372036854775808 ≤ x ∧ x ≤ 9223372036854775807 := by
            rw [hx, List.getD_eq_getElem?_getD, List.getElem?_eq_getElem (by rw [HS.out.1.1]; exact h1)]
            exact HS.out.2 _ (List.getElem_mem _)
          have hsb : s0.size ≤ 9223372036854775807 := by
            rw [hs0, List.getD_eq_getElem?_getD, List.getElem?_eq_getElem (by rw [HT.out.len]; exact h2)]
            exact HT.out.each _ (List.getElem_mem _)
          clear hcs hct hx hs0
          obtain ⟨xb1, xb2⟩ := hxb
          obtain ⟨m, hm, hm8⟩ : ∃ m : Nat, pickOf x 8 = m ∧ m < 8 := by
            have := pick_range x 8 (by omega)
            exact ⟨(pickOf x 8).toNat, by omega, by omega⟩
          obtain ⟨mA, hA1, hA2, rA⟩ := min_size s0
          have hA : (s0.extract 0 mA).size ≤ 64 := by simp; omega
          have HF := Lib.hid hF; have HWr := Lib.hid hWr; have HM := Lib.hid hm; clear hF hWr hm
          have iA : (mA : Int) ≤ s0.size := by omega
          have iA0 : (0 : Int) ≤ mA := by omega
          go_wp2_with (go_at_call 15; refine (pick_any x 8 wr (by omega) (by omega) xb1 xb2).mono ?_; rintro e wp ⟨rfl, rfl⟩; rw [HM.out])
          go_quiet (fail)
          go_wp2_with fail
          generalize s0.extract 0 mA = S at hA ⊢
          clear rA hA1 hA2 iA iA0 hsb
          obtain ⟨wq, hwq⟩ : ∃ wq, wq = wp.drewN nq := ⟨_, rfl⟩
          have hfq : Fr (fun _ => False) wp wq := by rw [hwq]; exact (Fr.refl _ _).drewN _
          rw [← hwq]
          have hDq := hDr.still hfq
          have HWq := Lib.hid (Row8.keep HWr.out hfq fun q => q)
          have hzq : wb < wq.heap.size := Nat.lt_of_lt_of_le hwz1 hfq.size
          clear c1 c2 hDr HWr hwz1 hwq hfq
          have hw := HF.out.write m hm8 S hA
          have hw1 := Lib.hid hw.1
          have hw2 := Lib.hid hw.2
          have hZ : d.fuse ≤ 9223372036854775807 := by rw [HF.out.fuse]; decide
          have hY : d.many < 1000000000 ∧ d.cache.length < 1000000000 := ⟨by have := HF.out.many; omega, by have := HF.out.cache; omega⟩
          clear hw HF
          refine (write_dx w wq (only wb) b d (m : Int) S hDq (fun q hq => by have : q = wb := hq; omega) hZ hY).mono ?_
          rintro e w4 ⟨rfl, hD4, hf4⟩
          rw [hw1.out, show errV 0 = .nilIface from rfl]
          obtain ⟨d4, hd4⟩ : ∃ d4, d4 = (d.write (m : Int) S.data.toList).1 := ⟨_, rfl⟩
          rw [← hd4] at hD4
          have HF4 : Hid (ReadsAt d4 (want.set m S) 8 (k + 1)) := by refine Lib.hid ?_; rw [hd4]; exact hw2.out
          have HW4 := Lib.hid (Row8.keep HWq.out hf4 fun q => q.2 rfl)
          have hz4 : wb < w4.heap.size := Nat.lt_of_lt_of_le hzq hf4.size
          clear hw1 hw2 hd4 hZ hY hf4 HWq hDq hzq
          by_cases b3 : ((k : Int).tmod 3 == 0) = true
          · have b5 : (k : Int).tmod 3 = 0 := by simpa using b3
            go_wp2_with fail
            refine (sync_dx w w4 (only wb) b d4 hD4 (fun q hq => by have : q = wb := hq; omega) (by have := HF4.out.cache; omega)).mono ?_
            rintro e w5 ⟨rfl, hD5, hf5⟩
            rw [HF4.out.sync.1, show errV 0 = .nilIface from rfl]
            obtain ⟨d5, hd5⟩ : ∃ d5, d5 = d4.sync.1 := ⟨_, rfl⟩
            rw [← hd5] at hD5
            have HF5 : Hid (ReadsAt d5 (want.set m S) 8 (k + 1)) := by refine Lib.hid ?_; rw [hd5]; exact HF4.out.sync.2
            have HW5 := Lib.hid (Row8.keep HW4.out hf5 fun q => q.2 rfl)
            have hz5 : wb < w5.heap.size := Nat.lt_of_lt_of_le hz4 hf5.size
            clear hD4 hd5 hf5 HW4 hz4 HF4
            have hwlen : m < want.length := by have := HF5.out.wl; simp at this; omega
            have c3 := HW5.out.cell m hwlen
            have f3 := HW5.out.frozen m
            obtain ⟨w6, hw6⟩ : ∃ w6, w6 = w5.setCell ⟨wb, m, none⟩ (.string S) := ⟨_, rfl⟩
            have hfs : Fr (only wb) w5 w6 := by rw [hw6]; exact Fr.setCell_only w5 ⟨wb, m, none⟩ _
            have hD6 : DkX w w6 (only wb) b d5 := hD5.aside hfs (fun q hq => ⟨hq, by have : q = wb := hq; have := HW.out; omega⟩) (fun q hq => Or.inl hq)
            have hW6 : Row8 w6 wb (want.set m S) := by rw [hw6]; exact HW5.out.set m S
            have hz6 : wb < w6.heap.size := Nat.lt_of_lt_of_le hz5 hfs.size
            obtain ⟨want2, hwant⟩ : ∃ q, q = want.set m S := ⟨_, rfl⟩
            rw [← hwant] at hW6 HF5
            have HW6 := Lib.hid hW6
            clear hfs HW5 hD5 hW6 hwlen
            go_wp2_with fail
            rw [← hw6]
            clear hw6 c3 f3 hwant
            go_loopw [12] (fun i wx => ∃ j : Nat, j ≤ 8 ∧ i = .int .i64 j ∧ DkX w wx (only wb) b d5 ∧ Row8 wx wb want2 ∧ wb < wx.heap.size) (fun i _ => 8 - (intOf i).toNat)
            case atStart => exact ⟨0, Nat.zero_le _, rfl, hD6, HW6.out, hz6⟩
            case round =>
              obtain ⟨j, hj, rfl, hDx, hWx, hzx⟩ := hrel
              clear hD6 HW6 hz6
              by_cases hj8 : j < 8
              · have HWx := Lib.hid hWx; clear hWx
                have hrd := HF5.out.read j hj8
                have HRD := Lib.hid hrd; clear hrd
                have hT := HF5.out.size j hj8
                obtain ⟨T, hTe⟩ : ∃ T, T = want2.getD j ByteArray.empty := ⟨_, rfl⟩
                rw [← hTe] at hT HRD
                have HTe := Lib.hid hTe; clear hTe
                have hwlen : j < want2.length := by have := HF5.out.wl; omega
                go_wp2_with fail
                refine (read_dx w _ (only wb) b d5 (j : Int) hDx (by have := HF5.out.cache; omega)).mono ?_
                rintro e w7 ⟨rfl, hD7, hf7⟩
                rw [HRD.out, show (ByteArray.mk (pad T.data.toList, 0).1.toArray) = padB T from rfl, show errV (pad T.data.toList, 0).2 = .nilIface from rfl]
                have HW7 := Lib.hid (Row8.keep HWx.out hf7 fun q => q)
                have hz7 : wb < w7.heap.size := Nat.lt_of_lt_of_le hzx hf7.size
                have c4 := HW7.out.cell j hwlen
                rw [← HTe.out] at c4
                clear hDx HWx hf7 hzx HRD
                go_wp2_with (first
                  | (go_at_call 14; refine (padded_B T _ hT).mono ?_; rintro e w8 ⟨rfl, hf8⟩))
                have hD8 := hD7.still hf8
                have hW8 := Row8.keep HW7.out hf8 fun q => q
                have hz8 : wb < w8.heap.size := Nat.lt_of_lt_of_le hz7 hf8.size
                clear hD7 HW7 c4
                go_roundw
                case rel => exact ⟨j + 1, by omega, by go_num, hD8, hW8, hz8⟩
                case measure => simp [intOf]; omega
              · have HWx := Lib.hid hWx; clear hWx
                go_wp2_with fail
                go_roundw
                case rel => exact ⟨k + 1, d5, want2, by omega, by go_num, HF5.out, hDx, HWx.out, hzx⟩
                case measure => simp [intOf]; omega
          · have b4 : ((k : Int).tmod 3 == 0) = false := by simpa using b3
            have b5 : ¬ (k : Int).tmod 3 = 0 := by simpa using b3
            clear b3
            have HF5 := HF4
            have hD5 := hD4
            have HW5 := HW4
            have hz5 := hz4
            clear HF4 hD4 HW4 hz4
            generalize w4 = w5 at hD5 HW5 hz5 ⊢
            generalize d4 = d5 at hD5 HF5
            have hwlen : m < want.length := by have := HF5.out.wl; simp at this; omega
            have c3 := HW5.out.cell m hwlen
            have f3 := HW5.out.frozen m
            obtain ⟨w6, hw6⟩ : ∃ w6, w6 = w5.setCell ⟨wb, m, none⟩ (.string S) := ⟨_, rfl⟩
            have hfs : Fr (only wb) w5 w6 := by rw [hw6]; exact Fr.setCell_only w5 ⟨wb, m, none⟩ _
            have hD6 : DkX w w6 (only wb) b d5 := hD5.aside hfs (fun q hq => ⟨hq, by have : q = wb := hq; have := HW.out; omega⟩) (fun q hq => Or.inl hq)
            have hW6 : Row8 w6 wb (want.set m S) := by rw [hw6]; exact HW5.out.set m S
            have hz6 : wb < w6.heap.size := Nat.lt_of_lt_of_le hz5 hfs.size
            obtain ⟨want2, hwant⟩ : ∃ q, q = want.set m S := ⟨_, rfl⟩
            rw [← hwant] at hW6 HF5
            have HW6 := Lib.hid hW6
            clear hfs HW5 hD5 hW6 hwlen
            go_wp2_with fail
            rw [← hw6]
            clear hw6 c3 f3 hwant
            go_loopw [12] (fun i wx => ∃ j : Nat, j ≤ 8 ∧ i = .int .i64 j ∧ DkX w wx (only wb) b d5 ∧ Row8 wx wb want2 ∧ wb < wx.heap.size) (fun i _ => 8 - (intOf i).toNat)
            case atStart => exact ⟨0, Nat.zero_le _, rfl, hD6, HW6.out, hz6⟩
            case round =>
              obtain ⟨j, hj, rfl, hDx, hWx, hzx⟩ := hrel
              clear hD6 HW6 hz6
              by_cases hj8 : j < 8
              · have HWx := Lib.hid hWx; clear hWx
                have hrd := HF5.out.read j hj8
                have HRD := Lib.hid hrd; clear hrd
                have hT := HF5.out.size j hj8
                obtain ⟨T, hTe⟩ : ∃ T, T = want2.getD j ByteArray.empty := ⟨_, rfl⟩
                rw [← hTe] at hT HRD
                have HTe := Lib.hid hTe; clear hTe
                have hwlen : j < want2.length := by have := HF5.out.wl; omega
                go_wp2_with fail
                refine (read_dx w _ (only wb) b d5 (j : Int) hDx (by have := HF5.out.cache; omega)).mono ?_
                rintro e w7 ⟨rfl, hD7, hf7⟩
                rw [HRD.out, show (ByteArray.mk (pad T.data.toList, 0).1.toArray) = padB T from rfl, show errV (pad T.data.toList, 0).2 = .nilIface from rfl]
                have HW7 := Lib.hid (Row8.keep HWx.out hf7 fun q => q)
                have hz7 : wb < w7.heap.size := Nat.lt_of_lt_of_le hzx hf7.size
                have c4 := HW7.out.cell j hwlen
                rw [← HTe.out] at c4
                clear hDx HWx hf7 hzx HRD
                go_wp2_with (first
                  | (go_at_call 14; refine (padded_B T _ hT).mono ?_; rintro e w8 ⟨rfl, hf8⟩))
                have hD8 := hD7.still hf8
                have hW8 := Row8.keep HW7.out hf8 fun q => q
                have hz8 : wb < w8.heap.size := Nat.lt_of_lt_of_le hz7 hf8.size
                clear hD7 HW7 c4
                go_roundw
                case rel => exact ⟨j + 1, by omega, by go_num, hD8, hW8, hz8⟩
                case measure => simp [intOf]; omega
              · have HWx := Lib.hid hWx; clear hWx
                go_wp2_with fail
                go_roundw
                case rel => exact ⟨k + 1, d5, want2, by omega, by go_num, HF5.out, hDx, HWx.out, hzx⟩
                case measure => simp [intOf]; omega
        · have HF := Lib.hid hF; have HWr := Lib.hid hWr; clear hF hWr
          go_wp2_with fail
          go_ret
          exact ⟨rfl, hDr.fr.up⟩
      · have HF := Lib.hid hF; have HWr := Lib.hid hWr; clear hF hWr
        go_wp2_with fail
        go_ret
        exact ⟨rfl, hDr.fr.up⟩
    · have HF := Lib.hid hF; have HWr := Lib.hid hWr; clear hF hWr
      go_wp2_with fail
      go_ret
      exact ⟨rfl, hDr.fr.up⟩
end Go.Proofs.Ytfhfnnpadfibkaa
