/-
  The laws' own small functions, and 'examples'.
-/
import Derived.Test.YtfhfnnpadfibkaaDisk3
set_option linter.unusedVariables false
set_option linter.unusedSimpArgs false
namespace Go.Proofs.Ytfhfnnpadfibkaa
open Go.RowKit

theorem assert_some (v : Value) (W : World) : (Instr.typeAssert (.iface 56 v) 26 56 true).run Try.prog W = .ok (.tuple #[v, .bool true]) W := by rfl
theorem assert_none (W : World) : (Instr.typeAssert .nilIface 26 56 true).run Try.prog W = .ok (.tuple #[.int .i64 0, .bool false]) W := by rfl

theorem is_nil (c : Int) (w : World) :
    Calls Try.prog 17 #[.nilIface, .int .i64 c] w fun e w' => e = .returned (.bool (decide (c = 0))) ∧ w' = w := by
  by_cases hc : c = 0
  · subst hc
    go_enter Try.func17, Try.ntmps17
    go_wp2
    go_ret
    exact ⟨by simp, rfl⟩
  · have hB : (c == 0) = false := by rw [beq_eq_false_iff_ne]; exact hc
    have hta := assert_none
    have hfin : Hid (decide (c = 0) = false) := by refine Lib.hid ?_; simp; exact hc
    clear hc
    go_enter Try.func17, Try.ntmps17
    go_wp2
    go_ret
    exact ⟨by rw [hfin.out]; rfl, rfl⟩

theorem is_num (n c : Int) (hn : n ≠ 0) (w : World) :
    Calls Try.prog 17 #[.iface 56 (.int .i64 n), .int .i64 c] w fun e w' => e = .returned (.bool (decide (n = c))) ∧ w' = w := by
  by_cases hc : c = 0
  · subst hc
    have hfin : Hid (decide (n = 0) = false) := by refine Lib.hid ?_; simp; exact hn
    have hta := assert_some
    clear hn
    go_enter Try.func17, Try.ntmps17
    go_wp2
    go_ret
    exact ⟨by rw [hfin.out]; rfl, rfl⟩
  · have hB : (c == 0) = false := by rw [beq_eq_false_iff_ne]; exact hc
    clear hc
    have hta := assert_some
    go_enter Try.func17, Try.ntmps17
    go_wp2
    go_ret
    refine ⟨?_, rfl⟩
    congr 2

theorem is_any (n : Nat) (c : Int) (w : World) :
    Calls Try.prog 17 #[errV n, .int .i64 c] w fun e w' => e = .returned (.bool (decide ((n : Int) = c))) ∧ w' = w := by
  by_cases hn : n = 0
  · subst hn
    refine (is_nil c w).mono fun e w' ⟨he, hw⟩ => ⟨?_, hw⟩
    rw [he]
    congr 2
    rw [Bool.eq_iff_iff]; simp; exact eq_comm
  · rw [errV_ne hn]
    exact is_num n c (by omega) w

def pickOf (c n : Int) : Int := if c < 0 then (-(c + 1)) % n else c % n
theorem pick_any (c n : Int) (w : World) (hn : 0 < n) (hn1 : n ≤ 9223372036854775807) (hc0 : -9223372036854775808 ≤ c) (hc1 : c ≤ 9223372036854775807) :
    Calls Try.prog 15 #[.int .i64 c, .int .i64 n] w fun e w' => e = .returned (.int .i64 (pickOf c n)) ∧ w' = w := by
  by_cases hc : c < 0
  · have hfin : Hid (pickOf c n = (-(c + 1)) % n) := by refine Lib.hid ?_; rw [pickOf, if_pos hc]
    have hz : (n == 0) = false := by rw [beq_eq_false_iff_ne]; omega
    go_enter Try.func15, Try.ntmps15
    go_wp2
    go_ret
    rw [hfin.out]
    refine ⟨?_, rfl⟩
    congr 1
    show Value.int .i64 (-(c + 1).tmod n) = _
    rw [← Int.neg_tmod, Int.tmod_eq_emod_of_nonneg (by omega)]
  · have hfin : Hid (pickOf c n = c % n) := by refine Lib.hid ?_; rw [pickOf, if_neg hc]
    have hz : (n == 0) = false := by rw [beq_eq_false_iff_ne]; omega
    go_enter Try.func15, Try.ntmps15
    go_wp2
    go_ret
    rw [hfin.out]
    refine ⟨?_, rfl⟩
    congr 2

theorem zerosB (n : Nat) : (List.replicate n (Value.int .u8 0)) = (List.replicate n (0 : UInt8)).map byteV := by rw [List.map_replicate]; rfl
theorem Try.infoU8 : (Try.prog.info? 5).map (fun i => (i.zero, i.size, i.bytes)) = some (some (.int .u8 0), 1, 1) := by kernel_rfl

theorem padded_any (s : ByteArray) (w : World) (hs : s.size ≤ 64) :
    Calls Try.prog 14 #[.string s] w fun e w' => e = .returned (.string ⟨(pad s.data.toList).toArray⟩) ∧ Fr (fun _ => False) w w' := by
  have e64 : (64 : Int) - (s.size : Int) = ((64 - s.size : Nat) : Int) := by omega
  obtain ⟨Z, hZ⟩ : ∃ Z : List Value, Z = (List.replicate (64 - s.size) (0 : UInt8)).map byteV := ⟨_, rfl⟩
  obtain ⟨z, hz⟩ : ∃ z : List UInt8, z = List.replicate (64 - s.size) (0 : UInt8) := ⟨_, rfl⟩
  have lz : z.length = 64 - s.size := by rw [hz]; simp
  have hmk : ∀ w : World, (Instr.makeSlice 66 (.int .i64 (64 - (s.size : Int))) (.int .i64 (64 - (s.size : Int)))).run Try.prog w = .ok (.slice (some ⟨w.heap.size, 0, none⟩) (64 - s.size) (64 - s.size)) (w.alloc (.cells Z.toArray 5)) := by
    intro w
    have := run_make_row' (P := Try.prog) 66 5 (.int .u8 0) 1 Try.underlying66 Try.infoU8 rfl .i64 .i64 (64 - s.size) (by omega) (by omega) w
    rw [hZ, ← zerosB]
    rw [e64, this]
    have h2 := madeCells_replicate (.int .u8 0) 1 (64 - s.size) (by decide)
    rw [← h2]
    rfl
  have hcv : ∀ w : World, (convert 66 9 (.slice (some ⟨w.heap.size, 0, none⟩) (64 - s.size) (64 - s.size))).run Try.prog (w.alloc (.cells Z.toArray 5)) = .ok (.string ⟨z.toArray⟩) (w.alloc (.cells Z.toArray 5)) := by
    intro w
    have := run_convert_bytes_back (P := Try.prog) (w.alloc (.cells Z.toArray 5)) 66 9 5 ⟨w.heap.size, 0, none⟩ (64 - s.size) z Try.underlying66 Try.underlying5 Try.underlying9 (fun j hj => by
      rw [plain_add, Nat.zero_add, cell_of_row _ _ j _ _ _ (heap_alloc_new w _), hZ, ← hz]
      simp [byteV, hj])
    rwa [lz] at this
  have hpad : Hid (pad s.data.toList = s.data.toList ++ z) := by refine Lib.hid ?_; rw [hz, pad, bytes_length]
  have hlz : z.length ≤ 64 := by omega
  clear e64 hZ hz lz
  go_enter Try.func14, Try.ntmps14
  go_wp2
  go_ret
  refine ⟨?_, (Fr.refl _ _).alloc _⟩
  rw [hpad.out]
  congr 2

/-! ### One disk, and all else that was there as it was -/
def Up (B : Nat) : Nat → Prop := fun k => B ≤ k
structure Dk (w0 w : World) (b : Nat) (d : DSt) : Prop where
  disk : DiskAt w (Up w0.heap.size) b d
  fr : Fr (Up w0.heap.size) w0 w
theorem Dk.of {w0 w w' : World} {b : Nat} {d d' : DSt} (h : Dk w0 w b d) (hd : DiskAt w' (gro (Up w0.heap.size) w w') b d') (hf : Fr (Up w0.heap.size) w w') : Dk w0 w' b d' :=
  ⟨hd.mono fun k q => by rcases q with q | q; exact q; exact Nat.le_trans h.fr.size q.1, h.fr.trans' hf⟩
theorem Dk.still {w0 w w' : World} {b : Nat} {d : DSt} (h : Dk w0 w b d) (hf : Fr (fun _ => False) w w') : Dk w0 w' b d :=
  ⟨h.disk.keep hf fun _ _ q => q, h.fr.trans' (hf.mono fun _ q => q.elim)⟩
theorem Fr.up {w0 w : World} (h : Fr (Up w0.heap.size) w0 w) : Fr (fun _ => False) w0 w :=
  ⟨h.os, h.tape, h.output, h.size, fun k hk _ => h.block k hk (fun q => by have : w0.heap.size ≤ k := q; omega)⟩

theorem new_dk (n : Int) (w0 w : World) (h0 : 1 ≤ n) (h1 : n ≤ 4000) (hf : Fr (Up w0.heap.size) w0 w) :
    Calls Try.prog 9 #[.int .i64 n] w fun e w' => ∃ b, e = .returned (.tuple #[.pointer (some ⟨b, 0, none⟩), .nilIface]) ∧ Dk w0 w' b (DSt.init n.toNat) := by
  obtain ⟨m, rfl⟩ := Int.eq_ofNat_of_zero_le (show 0 ≤ n by omega)
  refine (new_yes m w (by omega) (by omega)).mono fun e w' ⟨b, he, hd, hfr⟩ => ⟨b, he, ?_⟩
  exact ⟨hd.mono fun k q => by rcases q with q | q; exact q.elim; exact Nat.le_trans hf.size q.1, hf.trans' (hfr.mono fun k q => q.elim)⟩
theorem write_dk (w0 w : World) (b : Nat) (d : DSt) (at_ : Int) (s : ByteArray) (h : Dk w0 w b d) (hfz : d.fuse ≤ 9223372036854775807) (hmost : d.many < 1000000000 ∧ d.cache.length < 1000000000) :
    Calls Try.prog 10 #[.pointer (some ⟨b, 0, none⟩), .int .i64 at_, .string s] w fun e w' => e = .returned (errV (d.write at_ s.data.toList).2) ∧ Dk w0 w' b (d.write at_ s.data.toList).1 :=
  (write_any _ b d at_ s w h.disk hfz hmost).mono fun e w' ⟨he, hd, hf⟩ => ⟨he, h.of hd hf⟩
theorem sync_dk (w0 w : World) (b : Nat) (d : DSt) (h : Dk w0 w b d) (hmost : d.cache.length < 1000000000) :
    Calls Try.prog 11 #[.pointer (some ⟨b, 0, none⟩)] w fun e w' => e = .returned (errV d.sync.2) ∧ Dk w0 w' b d.sync.1 :=
  (sync_any _ b d w h.disk hmost).mono fun e w' ⟨he, hd, hf⟩ => ⟨he, h.of hd hf⟩
theorem read_dk (w0 w : World) (b : Nat) (d : DSt) (at_ : Int) (h : Dk w0 w b d) (hmost : d.cache.length < 1000000000) :
    Calls Try.prog 13 #[.pointer (some ⟨b, 0, none⟩), .int .i64 at_] w fun e w' => e = .returned (.tuple #[.string ⟨(d.read at_).1.toArray⟩, errV (d.read at_).2]) ∧ Dk w0 w' b d :=
  (read_any _ b d at_ w h.disk hmost).mono fun e w' ⟨he, hf⟩ => ⟨he, h.still hf⟩
theorem fuse_dk (w0 w : World) (b : Nat) (d : DSt) (n : Int) (h : Dk w0 w b d) :
    Calls Try.prog 21 #[.pointer (some ⟨b, 0, none⟩), .int .i64 n] w fun e w' => e = .returned (.tuple #[]) ∧ Dk w0 w' b { d with fuse := max n (-1) } :=
  (fuse_any _ b d n w h.disk).mono fun e w' ⟨he, hd, hf⟩ => ⟨he, h.of hd hf⟩
def DSt.crash (d : DSt) (keeps : List Int) (torn bytes : Int) : DSt := { d with lasts := crashAll (crashN keeps torn bytes) d.lasts d.cache, cache := [], fuse := -1, down := false }
theorem crash_dk (w0 w : World) (b : Nat) (d : DSt) (ka : Option Addr) (kl kc : Nat) (keeps : List Int) (torn bytes : Int) (h : Dk w0 w b d) (hk : IntsAt w ka kl keeps (Up w0.heap.size)) (hmost : d.cache.length < 1000000000) :
    Calls Try.prog 12 #[.pointer (some ⟨b, 0, none⟩), .slice ka kl kc, .int .i64 torn, .int .i64 bytes] w fun e w' => e = .returned (.tuple #[]) ∧ Dk w0 w' b (d.crash keeps torn bytes) :=
  (crash_any _ b d ka kl kc keeps torn bytes w h.disk hk hmost).mono fun e w' ⟨he, hd, hf⟩ => ⟨he, h.of hd hf⟩
theorem intsAt_nil (w : World) (F : Nat → Prop) : IntsAt w none 0 [] F := ⟨rfl, by omega, fun h => absurd h (by omega)⟩

theorem crash_lit (w0 w : World) (b : Nat) (d : DSt) (x torn bytes : Int) (h : Dk w0 w b d) (hmost : d.cache.length < 1000000000) :
    Calls Try.prog 12 #[.pointer (some ⟨b, 0, none⟩), .slice (some ⟨w.heap.size, 0, none⟩) 1 1, .int .i64 torn, .int .i64 bytes] (w.alloc (.cells #[.int .i64 x] 3)) fun e w' => e = .returned (.tuple #[]) ∧ Dk w0 w' b (d.crash [x] torn bytes) := by
  have hd : DiskAt w (fun k => Up w0.heap.size k ∧ k < w.heap.size) b d := by
    obtain ⟨bl, cv, h0, h1, h2, h3, h4, h5, h6⟩ := h.disk
    exact ⟨bl, cv, h0, h1, h2, h3, ⟨h4, lt_heap h0⟩, ⟨h5, lt_heap h1⟩, fun k hk => ⟨h6 k hk, own_lt' h2 k hk⟩⟩
  have ha : Fr (fun _ => False) w (w.alloc (.cells #[.int .i64 x] 3)) := (Fr.refl _ _).alloc _
  refine (crash_any _ b d (some ⟨w.heap.size, 0, none⟩) 1 1 [x] torn bytes (w.alloc (.cells #[.int .i64 x] 3)) (hd.keep ha fun _ _ q => q) ⟨rfl, by omega, fun _ => ⟨_, rfl, fun j hj => ?_, fun q => by have := q.2; simp at this⟩⟩ hmost).mono fun e w' ⟨he, hd', hf⟩ => ⟨he, ?_, ?_⟩
  · obtain rfl : j = 0 := by omega
    rw [plain_add, cell_of_row _ _ _ _ _ _ (heap_alloc_new w _)]
    rfl
  · refine hd'.mono fun k q => ?_
    rcases q with q | q
    · exact q.1
    · exact Nat.le_trans h.fr.size (Nat.le_trans ha.size q.1)
  · exact (h.fr.trans' (ha.mono fun _ q => q.elim)).trans' (hf.mono fun k q => q.1)

/-! ### The chapter's examples -/
def E1 : DSt := ((DSt.init 2).write 0 [97, 98]).1.sync.1
def E2 : DSt := (E1.write 0 [99, 100, 101, 102]).1
def E3 : DSt := E2.crash [] 0 1
def E4 : DSt := { E3 with fuse := max 1 (-1) }
def E5 : DSt := (E4.write 1 [120]).1
def E6 : DSt := (E5.write 1 [121]).1
def E7 : DSt := E6.crash [1] (-1) 0
theorem ex_read3 : (E3.read 0).2 = 0 ∧ (E3.read 0).1 = [99, 98] ++ List.replicate 62 0 := by decide +kernel
theorem ex_w5 : (E4.write 1 [120]).2 = 0 := by decide +kernel
theorem ex_w6 : (E5.write 1 [121]).2 = 6 := by decide +kernel
theorem ex_read6 : (E6.read 1).2 = 6 := by decide +kernel
theorem ex_read7 : (E7.read 1).2 = 0 ∧ (E7.read 1).1 = [120] ++ List.replicate 63 0 := by decide +kernel
theorem ex_many : E7.many = 3 ∧ E7.lasts.length = 2 := by decide +kernel

set_option maxHeartbeats 2000000 in
theorem examples_any (w : World) :
    Calls Try.prog 8 #[] w fun e w' => e = .returned (.bool true) ∧ Fr (fun _ => False) w w' := by
  go_enter Try.func8, Try.ntmps8
  go_wp2_with fail
  refine (new_dk 2 w w (by omega) (by omega) (Fr.refl _ _)).mono ?_
  rintro e w1 ⟨b, rfl, hD1⟩
  go_wp2_with fail
  refine (new_no 0 w1 (by omega)).mono ?_
  rintro e w1' ⟨rfl, rfl⟩
  rw [show errV 1 = .iface 56 (.int .i64 1) from rfl]
  go_wp2_with (go_at_call 17; refine (is_num 1 1 (by decide) _).mono ?_; rintro e w' ⟨rfl, rfl⟩)
  refine (write_dk w _ b (DSt.init 2) 0 ⟨#[97, 98]⟩ hD1 (by decide) (by decide)).mono ?_
  rintro e w2 ⟨rfl, hD2⟩
  clear hD1
  go_wp2_with fail
  refine (sync_dk w _ b _ hD2 (by decide)).mono ?_
  rintro e w3 ⟨rfl, hD3⟩
  have hE1 : Dk w w3 b E1 := hD3
  clear hD2 hD3
  go_wp2_with fail
  refine (write_dk w _ b E1 0 ⟨#[99, 100, 101, 102]⟩ hE1 (by decide) (by decide)).mono ?_
  rintro e w4 ⟨rfl, hD4⟩
  have hE2 : Dk w w4 b E2 := hD4
  clear hE1 hD4
  go_wp2_with fail
  refine (crash_dk w _ b E2 none 0 0 [] 0 1 hE2 (intsAt_nil _ _) (by decide +kernel)).mono ?_
  rintro e w5 ⟨rfl, hD5⟩
  have hE3 : Dk w w5 b E3 := hD5
  clear hE2 hD5
  go_wp2_with fail
  refine (read_dk w _ b E3 0 hE3 (by decide +kernel)).mono ?_
  rintro e w6 ⟨rfl, hD6⟩
  rw [ex_read3.1, ex_read3.2, show errV 0 = .nilIface from rfl]
  generalize hs3 : (ByteArray.mk ([99, 98] ++ List.replicate 62 0 : List UInt8).toArray) = s3
  have z3 : s3.size = 64 := by rw [← hs3]; rfl
  have x3 : s3.extract 0 3 = ⟨#[99, 98, 0]⟩ := by rw [← hs3]; decide +kernel
  clear hs3
  clear hE3
  go_wp2_with fail
  refine (fuse_dk w _ b E3 1 hD6).mono ?_
  rintro e w7 ⟨rfl, hD7⟩
  have hE4 : Dk w w7 b E4 := hD7
  clear hD6 hD7
  go_wp2_with fail
  refine (write_dk w _ b E4 1 ⟨#[120]⟩ hE4 (by decide +kernel) (by decide +kernel)).mono ?_
  rintro e w8 ⟨rfl, hD8⟩
  have hE5 : Dk w w8 b E5 := hD8
  rw [show (E4.write 1 (ByteArray.mk #[120]).data.toList).2 = 0 from ex_w5, show errV 0 = .nilIface from rfl]
  clear hE4 hD8
  go_wp2_with fail
  refine (write_dk w _ b E5 1 ⟨#[121]⟩ hE5 (by decide +kernel) (by decide +kernel)).mono ?_
  rintro e w9 ⟨rfl, hD9⟩
  have hE6 : Dk w w9 b E6 := hD9
  rw [show (E5.write 1 (ByteArray.mk #[121]).data.toList).2 = 6 from ex_w6, show errV 6 = .iface 56 (.int .i64 6) from rfl]
  clear hE5 hD9
  go_wp2_with fail
  refine (read_dk w _ b E6 1 hE6 (by decide +kernel)).mono ?_
  rintro e w10 ⟨rfl, hD10⟩
  rw [ex_read6, show errV 6 = .iface 56 (.int .i64 6) from rfl]
  generalize (E6.read 1).1.toArray = junk
  clear hE6
  go_wp2_with fail
  refine (crash_lit w w10 b E6 1 (-1) 0 hD10 (by decide +kernel)).mono ?_
  rintro e w11 ⟨rfl, hD11⟩
  have hE7 : Dk w w11 b E7 := hD11
  clear hD10 hD11
  go_wp2_with fail
  refine (read_dk w _ b E7 1 hE7 (by decide +kernel)).mono ?_
  rintro e w12 ⟨rfl, hD12⟩
  rw [ex_read7.1, ex_read7.2, show errV 0 = .nilIface from rfl]
  generalize hs7 : (ByteArray.mk ([120] ++ List.replicate 63 0 : List UInt8).toArray) = s7
  have z7 : s7.size = 64 := by rw [← hs7]; rfl
  have x7 : ∀ h : 0 < s7.size, (s7[0]'h).toNat = 120 := by rw [← hs7]; intro h; rfl
  clear hs7
  clear hE7
  have m7 := ex_many.1
  have l7 := ex_many.2
  go_wp2_with (first
    | (go_at_call 17; refine (is_num 6 6 (by decide) _).mono ?_; rintro e w' ⟨rfl, rfl⟩)
    | (go_at_call 18; refine (size_any _ b E7 _ (hD12.disk)).mono ?_; rintro e w' ⟨rfl, rfl⟩)
    | (go_at_call 26; refine (writes_any _ b E7 _ (hD12.disk)).mono ?_; rintro e w' ⟨rfl, rfl⟩))
  go_ret
  exact ⟨rfl, hD12.fr.up⟩

end Go.Proofs.Ytfhfnnpadfibkaa
