/-
  The walk of DiskFuse.
-/
import Derived.Test.YtfhfnnpadfibkaaLawA
set_option linter.unusedVariables false
set_option linter.unusedSimpArgs false
namespace Go.Proofs.Ytfhfnnpadfibkaa
open Go.RowKit

theorem fault_ok (d : DSt) (at_ : Int) (hd : d.down = false) (h0 : 0 ≤ at_) (h1 : at_ < d.lasts.length) : d.fault at_ = 0 := by
  unfold DSt.fault
  rw [hd]
  simp
  omega
theorem write_ok (d : DSt) (at_ : Int) (s : List UInt8) (hd : d.down = false) (h0 : 0 ≤ at_) (h1 : at_ < d.lasts.length) (hs : s.length ≤ 64) (hf : d.fuse ≠ 0) :
    d.write at_ s = ({ d with fuse := if 0 < d.fuse then d.fuse - 1 else d.fuse, cache := d.cache ++ [(at_.toNat, pad s)], many := d.many + 1 }, 0) := by
  unfold DSt.write
  rw [fault_ok d at_ hd h0 h1, if_neg (by simp), if_neg (by omega), if_neg hf]
theorem write_out (d : DSt) (at_ : Int) (s : List UInt8) (hd : d.down = false) (h0 : 0 ≤ at_) (h1 : at_ < d.lasts.length) (hs : s.length ≤ 64) (hf : d.fuse = 0) : d.write at_ s = ({ d with down := true }, 6) := by
  unfold DSt.write
  rw [fault_ok d at_ hd h0 h1, if_neg (by simp), if_neg (by omega), if_pos hf]
theorem write_down (d : DSt) (at_ : Int) (s : List UInt8) (hd : d.down = true) : d.write at_ s = (d, 6) := by
  unfold DSt.write DSt.fault
  simp [hd]
theorem crash_none (L : List (List UInt8)) (l : List (Nat × List UInt8)) (k : Nat) : (l.zipIdx k).foldl (lay (fun _ => 0)) L = L := by
  induction l generalizing L k with
  | nil => rfl
  | cons p l ih =>
    simp only [List.zipIdx_cons, List.foldl_cons]
    have : lay (fun _ => 0) L (p, k) = L := by
      simp only [lay, List.take_zero, List.nil_append, List.drop_zero]
      by_cases h : p.1 < L.length
      · simp [List.getD, h]
      · rw [List.set_eq_of_length_le (by omega)]
    rw [this]
    exact ih L (k + 1)

theorem read_last (d : DSt) (at_ : Int) (hd : d.down = false) (h0 : 0 ≤ at_) (h1 : at_ < d.lasts.length) (hc : d.cache = []) : d.read at_ = (d.lasts.getD at_.toNat [], 0) := by
  unfold DSt.read
  rw [fault_ok d at_ hd h0 h1, if_pos rfl, DSt.top, hc]
  rfl

/-- A text cut to 64 bytes. -/
def cut64 (s : ByteArray) : ByteArray := s.extract 0 (min s.size 64)
theorem cut64_size (s : ByteArray) : (cut64 s).size ≤ 64 := by simp [cut64]; omega

structure FuseAt (d : DSt) (n k : Nat) : Prop where
  lasts : d.lasts = List.replicate 4 (List.replicate 64 0)
  fuse : d.fuse = (n : Int) - k
  down : d.down = false
  many : d.many = k
  cache : d.cache.length = k
theorem FuseAt.next {d : DSt} {n k : Nat} (h : FuseAt d n k) (hk : k < n) (at_ : Int) (h0 : 0 ≤ at_) (h1 : at_ < 4) (s : List UInt8) (hs : s.length ≤ 64) : (d.write at_ s).2 = 0 ∧ FuseAt (d.write at_ s).1 n (k + 1) := by
  have e := write_ok d at_ s h.down h0 (by rw [h.lasts]; simpa using h1) hs (by rw [h.fuse]; omega)
  rw [e]
  refine ⟨rfl, h.lasts, ?_, h.down, by simp [h.many], by simp [h.cache]⟩
  have := h.fuse
  show (if 0 < d.fuse then d.fuse - 1 else d.fuse) = _
  rw [if_pos (by omega)]
  omega

theorem pick_range (c n : Int) (hn : 0 < n) : 0 ≤ pickOf c n ∧ pickOf c n < n := by
  unfold pickOf
  split
  · exact ⟨Int.emod_nonneg _ (by omega), Int.emod_lt_of_pos _ hn⟩
  · exact ⟨Int.emod_nonneg _ (by omega), Int.emod_lt_of_pos _ hn⟩

theorem pad_nil : pad [] = List.replicate 64 0 := by simp [pad]
theorem replicate_get {α : Type} (n i : Nat) (x y : α) (h : i < n) : (List.replicate n x).getD i y = x := by simp [List.getD, h]

set_option maxHeartbeats 8000000 in
theorem DiskFuse_walk (a0 : Int) (a1 : ByteArray) (w : World) (hc0 : -9223372036854775808 ≤ a0) (hc1 : a0 ≤ 9223372036854775807) (hm : a1.size ≤ 9223372036854775807) :
    Calls Try.prog 7 #[.int .i64 a0, .string a1] w fun e w' => e = .returned (.bool true) ∧ Fr (fun _ => False) w w' := by
  obtain ⟨hp0, hp1⟩ := pick_range a0 51 (by omega)
  go_enter Try.func7, Try.ntmps7
  go_wp2_with fail
  refine (examples_any w).mono ?_
  rintro e w1 ⟨rfl, hf1⟩
  go_wp2_with fail
  refine (pick_any a0 51 w1 (by omega) (by omega) hc0 hc1).mono ?_
  rintro e w1' ⟨rfl, rfl⟩
  obtain ⟨n, hn⟩ : ∃ n : Nat, pickOf a0 51 = n := ⟨(pickOf a0 51).toNat, by omega⟩
  rw [hn]
  have hn50 : n ≤ 50 := by omega
  clear hn hp0 hp1 hc0 hc1
  by_cases h64 : 64 < a1.size
  · have hS : (a1.extract 0 64).size ≤ 64 := by simp; omega
    go_wp2_with fail
    generalize a1.extract 0 64 = S at hS ⊢
    refine (new_dk 4 w w1' (by omega) (by omega) (hf1.mono fun _ q => q.elim)).mono ?_
    rintro e w2 ⟨b, rfl, hD⟩
    go_wp2_with fail
    refine (fuse_dk w w2 b _ n hD).mono ?_
    rintro e w3 ⟨rfl, hD3⟩
    have hFA : FuseAt { DSt.init (4 : Int).toNat with fuse := max (n : Int) (-1) } n 0 := ⟨rfl, by show max (n : Int) (-1) = _; omega, rfl, rfl, rfl⟩
    clear hD
    go_wp2_with fail
    go_loopw [8] (fun i wr => ∃ (k : Nat) (d : DSt), k ≤ n ∧ i = .int .i64 k ∧ FuseAt d n k ∧ Dk w wr b d) (fun i _ => n - (intOf i).toNat)
    case atStart => exact ⟨0, _, Nat.zero_le _, rfl, hFA, hD3⟩
    case round =>
      obtain ⟨k, d, hk, rfl, hF, hDr⟩ := hrel
      clear hFA hD3
      have hb1 := hF.fuse; have hb2 := hF.many; have hb3 := hF.cache
      have HZ : Hid (d.fuse ≤ 9223372036854775807) := by refine Lib.hid ?_; omega
      have HM : Hid (d.many < 1000000000 ∧ d.cache.length < 1000000000) := by refine Lib.hid ?_; omega
      clear hb1 hb2 hb3
      by_cases hlt : k < n
      · have hw := hF.next hlt ((k : Int) % 4) (by omega) (by omega) S.data.toList (by rw [bytes_length]; omega)
        have hw1 := Lib.hid hw.1
        have hw2 := Lib.hid hw.2
        have hF' := Lib.hid hF
        clear hw hF
        go_wp2_with (first
          | (go_at_call 10; refine (write_dk w _ b d ((k : Int) % 4) S hDr HZ.out HM.out).mono ?_; rintro e w' ⟨rfl, hD'⟩; rw [hw1.out, show errV 0 = .nilIface from rfl])
          | (go_at_call 25; refine (down_any _ b _ _ hD'.disk).mono ?_; rintro e w' ⟨rfl, rfl⟩; rw [hw2.out.down]))
        go_roundw
        case rel => exact ⟨k + 1, _, by omega, by go_num, hw2.out, hD'⟩
        case measure => simp [intOf]; omega
      · obtain rfl : k = n := by omega
        have e1 := write_out d 0 S.data.toList hF.down (by omega) (by rw [hF.lasts]; simp) (by rw [bytes_length]; omega) (by rw [hF.fuse]; omega)
        obtain ⟨d2, hd2⟩ : ∃ d2 : DSt, d2 = { d with down := true } := ⟨_, rfl⟩
        rw [← hd2] at e1
        have e2 : d2.sync = (d2, 6) := by rw [hd2]; rfl
        have e3 := write_down d2 1 S.data.toList (by rw [hd2])
        have e4 : d2.down = true := by rw [hd2]
        have e5 : d2.many = k := by rw [hd2]; exact hF.many
        obtain ⟨d3, hd3⟩ : ∃ d3 : DSt, d3 = d2.crash [] (-1) 0 := ⟨_, rfl⟩
        have e6 : d3.lasts = List.replicate 4 (List.replicate 64 0) := by
          rw [hd3, DSt.crash, hd2]
          show crashAll (crashN [] (-1) 0) d.lasts d.cache = _
          have : crashN [] (-1) 0 = fun _ => 0 := by
            funext i; unfold crashN; rw [if_neg (by omega), if_neg (by simp)]
          rw [this, ← hF.lasts]
          exact crash_none _ _ 0
        have e7 : d3.down = false ∧ d3.fuse = -1 ∧ d3.cache = [] ∧ d3.many = k := by rw [hd3]; exact ⟨rfl, rfl, rfl, e5⟩
        have e8 : d3.read 0 = (List.replicate 64 0, 0) := by
          rw [read_last d3 0 e7.1 (by omega) (by rw [e6]; simp) e7.2.2.1, e6]; rfl
        have e9 : (d3.write 0 S.data.toList).2 = 0 := by
          rw [write_ok d3 0 _ e7.1 (by omega) (by rw [e6]; simp) (by rw [bytes_length]; omega) (by rw [e7.2.1]; decide)]
        have HM2 : Hid (d2.fuse ≤ 9223372036854775807 ∧ d2.many < 1000000000 ∧ d2.cache.length < 1000000000) := by refine Lib.hid ?_; rw [hd2]; exact ⟨HZ.out, HM.out⟩
        have HM3 : Hid (d3.fuse ≤ 9223372036854775807 ∧ d3.many < 1000000000 ∧ d3.cache.length < 1000000000) := by refine Lib.hid ?_; rw [e7.2.1, e7.2.2.1, e7.2.2.2]; refine ⟨by decide, by omega, by decide⟩
        have E1 := Lib.hid e1; have E2 := Lib.hid e2; have E3 := Lib.hid e3; have E4 := Lib.hid e4; have E5 := Lib.hid e5; have E7 := Lib.hid e7; have E8 := Lib.hid e8; have E9 := Lib.hid e9
        have HD3 := Lib.hid hd3
        clear e1 e2 e3 e4 e5 e6 e7 e8 e9 hd2 hd3 hF
        go_wp2_with fail
        refine (write_dk w _ b d 0 S hDr HZ.out HM.out).mono ?_
        rintro e w5 ⟨rfl, hD5⟩
        rw [E1.out] at hD5
        rw [E1.out, show errV 6 = .iface 56 (.int .i64 6) from rfl]
        clear hDr
        go_wp2_with fail
        refine (sync_dk w _ b d2 hD5 HM2.out.2.2).mono ?_
        rintro e w6 ⟨rfl, hD6⟩
        rw [E2.out] at hD6
        rw [E2.out, show errV 6 = .iface 56 (.int .i64 6) from rfl]
        clear hD5
        go_wp2_with fail
        refine (write_dk w _ b d2 1 S hD6 HM2.out.1 HM2.out.2).mono ?_
        rintro e w7 ⟨rfl, hD7⟩
        rw [E3.out] at hD7
        rw [E3.out, show errV 6 = .iface 56 (.int .i64 6) from rfl]
        clear hD6
        go_wp2_with (first
          | (go_at_call 17; refine (is_num 6 6 (by decide) _).mono ?_; rintro e w' ⟨rfl, rfl⟩)
          | (go_at_call 25; refine (down_any _ b d2 _ hD7.disk).mono ?_; rintro e w' ⟨rfl, rfl⟩; rw [E4.out])
          | (go_at_call 26; refine (writes_any _ b d2 _ hD7.disk).mono ?_; rintro e w' ⟨rfl, rfl⟩; rw [E5.out]))
        refine (crash_dk w _ b d2 none 0 0 [] (-1) 0 hD7 (intsAt_nil _ _) HM2.out.2.2).mono ?_
        rintro e w8 ⟨rfl, hD8⟩
        rw [← HD3.out] at hD8
        clear hD7
        go_wp2_with fail
        refine (read_dk w _ b d3 0 hD8 HM3.out.2.2).mono ?_
        rintro e w9 ⟨rfl, hD9⟩
        rw [E8.out]
        obtain ⟨ZS, hZS⟩ : ∃ z : ByteArray, z = ⟨(List.replicate 64 0).toArray⟩ := ⟨_, rfl⟩
        rw [show (ByteArray.mk (List.replicate 64 0, 0).1.toArray) = ZS from hZS.symm, show errV (List.replicate 64 (0 : UInt8), 0).2 = .nilIface from rfl]
        have HZS := Lib.hid hZS; clear hZS
        clear hD8
        go_wp2_with (first
          | (go_at_call 14; refine (padded_any ⟨#[]⟩ _ (by decide)).mono ?_; rintro e wp ⟨rfl, hfp⟩; have hDp := hD9.still hfp; rw [show (ByteArray.mk (pad (ByteArray.mk #[]).data.toList).toArray) = ZS from HZS.out.symm])
          | (go_at_call 25; refine (down_any _ b d3 _ hDp.disk).mono ?_; rintro e w' ⟨rfl, rfl⟩; rw [E7.out.1])
          | (go_at_call 10; refine (write_dk w _ b d3 0 S hDp HM3.out.1 HM3.out.2).mono ?_; rintro e wz ⟨rfl, hDz⟩; rw [E9.out, show errV 0 = .nilIface from rfl]))
        go_ret
        exact ⟨rfl, hDz.fr.up⟩
  · have hS : a1.size ≤ 64 := by omega
    go_wp2_with fail
    obtain ⟨S, rfl⟩ : ∃ S, S = a1 := ⟨_, rfl⟩
    refine (new_dk 4 w w1' (by omega) (by omega) (hf1.mono fun _ q => q.elim)).mono ?_
    rintro e w2 ⟨b, rfl, hD⟩
    go_wp2_with fail
    refine (fuse_dk w w2 b _ n hD).mono ?_
    rintro e w3 ⟨rfl, hD3⟩
    have hFA : FuseAt { DSt.init (4 : Int).toNat with fuse := max (n : Int) (-1) } n 0 := ⟨rfl, by show max (n : Int) (-1) = _; omega, rfl, rfl, rfl⟩
    clear hD
    go_wp2_with fail
    go_loopw [8] (fun i wr => ∃ (k : Nat) (d : DSt), k ≤ n ∧ i = .int .i64 k ∧ FuseAt d n k ∧ Dk w wr b d) (fun i _ => n - (intOf i).toNat)
    case atStart => exact ⟨0, _, Nat.zero_le _, rfl, hFA, hD3⟩
    case round =>
      obtain ⟨k, d, hk, rfl, hF, hDr⟩ := hrel
      clear hFA hD3
      have hb1 := hF.fuse; have hb2 := hF.many; have hb3 := hF.cache
      have HZ : Hid (d.fuse ≤ 9223372036854775807) := by refine Lib.hid ?_; omega
      have HM : Hid (d.many < 1000000000 ∧ d.cache.length < 1000000000) := by refine Lib.hid ?_; omega
      clear hb1 hb2 hb3
      by_cases hlt : k < n
      · have hw := hF.next hlt ((k : Int) % 4) (by omega) (by omega) S.data.toList (by rw [bytes_length]; omega)
        have hw1 := Lib.hid hw.1
        have hw2 := Lib.hid hw.2
        have hF' := Lib.hid hF
        clear hw hF
        go_wp2_with (first
          | (go_at_call 10; refine (write_dk w _ b d ((k : Int) % 4) S hDr HZ.out HM.out).mono ?_; rintro e w' ⟨rfl, hD'⟩; rw [hw1.out, show errV 0 = .nilIface from rfl])
          | (go_at_call 25; refine (down_any _ b _ _ hD'.disk).mono ?_; rintro e w' ⟨rfl, rfl⟩; rw [hw2.out.down]))
        go_roundw
        case rel => exact ⟨k + 1, _, by omega, by go_num, hw2.out, hD'⟩
        case measure => simp [intOf]; omega
      · obtain rfl : k = n := by omega
        have e1 := write_out d 0 S.data.toList hF.down (by omega) (by rw [hF.lasts]; simp) (by rw [bytes_length]; omega) (by rw [hF.fuse]; omega)
        obtain ⟨d2, hd2⟩ : ∃ d2 : DSt, d2 = { d with down := true } := ⟨_, rfl⟩
        rw [← hd2] at e1
        have e2 : d2.sync = (d2, 6) := by rw [hd2]; rfl
        have e3 := write_down d2 1 S.data.toList (by rw [hd2])
        have e4 : d2.down = true := by rw [hd2]
        have e5 : d2.many = k := by rw [hd2]; exact hF.many
        obtain ⟨d3, hd3⟩ : ∃ d3 : DSt, d3 = d2.crash [] (-1) 0 := ⟨_, rfl⟩
        have e6 : d3.lasts = List.replicate 4 (List.replicate 64 0) := by
          rw [hd3, DSt.crash, hd2]
          show crashAll (crashN [] (-1) 0) d.lasts d.cache = _
          have : crashN [] (-1) 0 = fun _ => 0 := by
            funext i; unfold crashN; rw [if_neg (by omega), if_neg (by simp)]
          rw [this, ← hF.lasts]
          exact crash_none _ _ 0
        have e7 : d3.down = false ∧ d3.fuse = -1 ∧ d3.cache = [] ∧ d3.many = k := by rw [hd3]; exact ⟨rfl, rfl, rfl, e5⟩
        have e8 : d3.read 0 = (List.replicate 64 0, 0) := by
          rw [read_last d3 0 e7.1 (by omega) (by rw [e6]; simp) e7.2.2.1, e6]; rfl
        have e9 : (d3.write 0 S.data.toList).2 = 0 := by
          rw [write_ok d3 0 _ e7.1 (by omega) (by rw [e6]; simp) (by rw [bytes_length]; omega) (by rw [e7.2.1]; decide)]
        have HM2 : Hid (d2.fuse ≤ 9223372036854775807 ∧ d2.many < 1000000000 ∧ d2.cache.length < 1000000000) := by refine Lib.hid ?_; rw [hd2]; exact ⟨HZ.out, HM.out⟩
        have HM3 : Hid (d3.fuse ≤ 9223372036854775807 ∧ d3.many < 1000000000 ∧ d3.cache.length < 1000000000) := by refine Lib.hid ?_; rw [e7.2.1, e7.2.2.1, e7.2.2.2]; refine ⟨by decide, by omega, by decide⟩
        have E1 := Lib.hid e1; have E2 := Lib.hid e2; have E3 := Lib.hid e3; have E4 := Lib.hid e4; have E5 := Lib.hid e5; have E7 := Lib.hid e7; have E8 := Lib.hid e8; have E9 := Lib.hid e9
        have HD3 := Lib.hid hd3
        clear e1 e2 e3 e4 e5 e6 e7 e8 e9 hd2 hd3 hF
        go_wp2_with fail
        refine (write_dk w _ b d 0 S hDr HZ.out HM.out).mono ?_
        rintro e w5 ⟨rfl, hD5⟩
        rw [E1.out] at hD5
        rw [E1.out, show errV 6 = .iface 56 (.int .i64 6) from rfl]
        clear hDr
        go_wp2_with fail
        refine (sync_dk w _ b d2 hD5 HM2.out.2.2).mono ?_
        rintro e w6 ⟨rfl, hD6⟩
        rw [E2.out] at hD6
        rw [E2.out, show errV 6 = .iface 56 (.int .i64 6) from rfl]
        clear hD5
        go_wp2_with fail
        refine (write_dk w _ b d2 1 S hD6 HM2.out.1 HM2.out.2).mono ?_
        rintro e w7 ⟨rfl, hD7⟩
        rw [E3.out] at hD7
        rw [E3.out, show errV 6 = .iface 56 (.int .i64 6) from rfl]
        clear hD6
        go_wp2_with (first
          | (go_at_call 17; refine (is_num 6 6 (by decide) _).mono ?_; rintro e w' ⟨rfl, rfl⟩)
          | (go_at_call 25; refine (down_any _ b d2 _ hD7.disk).mono ?_; rintro e w' ⟨rfl, rfl⟩; rw [E4.out])
          | (go_at_call 26; refine (writes_any _ b d2 _ hD7.disk).mono ?_; rintro e w' ⟨rfl, rfl⟩; rw [E5.out]))
        refine (crash_dk w _ b d2 none 0 0 [] (-1) 0 hD7 (intsAt_nil _ _) HM2.out.2.2).mono ?_
        rintro e w8 ⟨rfl, hD8⟩
        rw [← HD3.out] at hD8
        clear hD7
        go_wp2_with fail
        refine (read_dk w _ b d3 0 hD8 HM3.out.2.2).mono ?_
        rintro e w9 ⟨rfl, hD9⟩
        rw [E8.out]
        obtain ⟨ZS, hZS⟩ : ∃ z : ByteArray, z = ⟨(List.replicate 64 0).toArray⟩ := ⟨_, rfl⟩
        rw [show (ByteArray.mk (List.replicate 64 0, 0).1.toArray) = ZS from hZS.symm, show errV (List.replicate 64 (0 : UInt8), 0).2 = .nilIface from rfl]
        have HZS := Lib.hid hZS; clear hZS
        clear hD8
        go_wp2_with (first
          | (go_at_call 14; refine (padded_any ⟨#[]⟩ _ (by decide)).mono ?_; rintro e wp ⟨rfl, hfp⟩; have hDp := hD9.still hfp; rw [show (ByteArray.mk (pad (ByteArray.mk #[]).data.toList).toArray) = ZS from HZS.out.symm])
          | (go_at_call 25; refine (down_any _ b d3 _ hDp.disk).mono ?_; rintro e w' ⟨rfl, rfl⟩; rw [E7.out.1])
          | (go_at_call 10; refine (write_dk w _ b d3 0 S hDp HM3.out.1 HM3.out.2).mono ?_; rintro e wz ⟨rfl, hDz⟩; rw [E9.out, show errV 0 = .nilIface from rfl]))
        go_ret
        exact ⟨rfl, hDz.fr.up⟩

end Go.Proofs.Ytfhfnnpadfibkaa
