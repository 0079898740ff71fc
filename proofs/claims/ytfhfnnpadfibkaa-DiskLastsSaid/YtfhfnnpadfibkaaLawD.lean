/-
  The walk of DiskLasts.
-/
import Derived.Test.YtfhfnnpadfibkaaLawC
import Derived.Deep.QuietTactic
import Derived.BigQuiet
set_option linter.unusedVariables false
set_option linter.unusedSimpArgs false
namespace Go.Proofs.Ytfhfnnpadfibkaa
open Go.RowKit Go.BigFrame

attribute [local go_sem ↓] minA_any maxA_any

theorem region_quietC {P : Program} {C : World → Prop} {id : Nat} {Q : Exit → Act → World → Prop} {a : Act} {w : World} {l : List Oper} (hm : P.follows .mixedOrders = true) (hB : Region.lexB .any l.toArray = true) (hC : C w.drew)
    (h : wpQuiet P l.toArray C (fun a' => ∀ w', C w' → Q .normal a' w') l a) : (Code.region id l.toArray true).wp P Q a w :=
  wp_region_quiet (C := C) hm hB hC (by simpa using h)

def FrN (w w' : World) : Prop := Fr (fun _ => False) w w'
theorem FrN.step {a b c : World} (h : FrN a b) (k : Fr (fun _ => False) b c) : FrN a c := Fr.trans' h k
theorem FrN.drw {a b : World} (h : FrN a b) (n : Nat) : FrN a (b.drewN n) := h.drewN n
theorem FrN.drw1 {a b : World} (h : FrN a b) : FrN a b.drew := h.drew

theorem padB_size (s : ByteArray) (h : s.size ≤ 64) : (padB s).size = 64 := by
  have := pad_length s.data.toList (by rw [bytes_length]; exact h)
  rw [← bytes_length, padB]; simpa using this
theorem mixB (s t : ByteArray) (hs : s.size ≤ 64) (ht : t.size ≤ 64) (n : Nat) (hn : n ≤ 64) : (ByteArray.mk ((pad s.data.toList).take n ++ (pad t.data.toList).drop n).toArray) = (padB s).extract 0 n ++ (padB t).extract n 64 := by
  have l1 := pad_length s.data.toList (by rw [bytes_length]; exact hs)
  have l2 := pad_length t.data.toList (by rw [bytes_length]; exact ht)
  apply ByteArray.ext
  rw [ByteArray.data_append, ByteArray.data_extract, ByteArray.data_extract, padB, padB]
  apply Array.toList_inj.mp
  simp [l1, l2]
  rw [List.take_of_length_le (by simp [l2])]
theorem mix_size (s t : ByteArray) (hs : s.size ≤ 64) (ht : t.size ≤ 64) (n : Nat) (hn : n ≤ 64) : (ByteArray.mk ((pad s.data.toList).take n ++ (pad t.data.toList).drop n).toArray).size = 64 := by
  have l1 := pad_length s.data.toList (by rw [bytes_length]; exact hs)
  have l2 := pad_length t.data.toList (by rw [bytes_length]; exact ht)
  rw [← bytes_length]; simp [l1, l2]; omega
theorem mix_64 (s t : ByteArray) (hs : s.size ≤ 64) (ht : t.size ≤ 64) : (ByteArray.mk ((pad s.data.toList).take 64 ++ (pad t.data.toList).drop 64).toArray) = padB s := by
  have l1 := pad_length s.data.toList (by rw [bytes_length]; exact hs)
  have l2 := pad_length t.data.toList (by rw [bytes_length]; exact ht)
  rw [List.take_of_length_le (by omega), List.drop_of_length_le (by omega), List.append_nil, padB]
theorem mix_0 (s t : ByteArray) : (ByteArray.mk ((pad s.data.toList).take 0 ++ (pad t.data.toList).drop 0).toArray) = padB t := by
  simp [padB]
theorem crashN_not (keeps : List Int) (torn bytes : Int) (i : Nat) (h : ¬ (i : Int) = torn) : crashN keeps torn bytes i = 64 ∨ crashN keeps torn bytes i = 0 := by
  rw [crashN, if_neg h]; split <;> simp
theorem add_0 (a : Addr) : a.add 0 = a := by
  cases a; simp [Addr.add]
def E0B : ByteArray := ⟨#[]⟩
theorem pad_E0 : List.replicate 64 (0 : UInt8) = pad E0B.data.toList := rfl
theorem toList_beq {s t : ByteArray} (h : s = t) : (s.toList == t.toList) = true := by rw [h]; exact beq_self_eq_true _

theorem padded_B (s : ByteArray) (w : World) (hs : s.size ≤ 64) :
    Calls Try.prog 14 #[.string s] w fun e w' => e = .returned (.string (padB s)) ∧ Fr (fun _ => False) w w' := padded_any s w hs

set_option maxHeartbeats 8000000 in
set_option maxRecDepth 100000 in
theorem DiskLasts_walk (a0 a1 : ByteArray) (ka : Option Addr) (kl kc : Nat) (keeps : List Int) (torn bytes : Int) (w : World) (hm0 : a0.size ≤ 9223372036854775807) (hm1 : a1.size ≤ 9223372036854775807) (hk : IntsIn w ka kl keeps) (ht0 : -9223372036854775808 ≤ torn) (ht1 : torn ≤ 9223372036854775807) (hb0 : -9223372036854775808 ≤ bytes) (hb1 : bytes ≤ 9223372036854775807) :
    Calls Try.prog 3 #[.string a0, .string a1, .slice ka kl kc, .int .i64 torn, .int .i64 bytes] w fun e w' => e = .returned (.bool true) ∧ Fr (fun _ => False) w w' := by
  obtain ⟨mA, hA1, hA2, rA⟩ := min_size a0
  obtain ⟨mB, hB1, hB2, rB⟩ := min_size a1
  have HK := Lib.hid hk
  clear hk
  go_enter Try.func3, Try.ntmps3
  go_wp2_with fail
  refine (examples_any w).mono ?_
  rintro e w1 ⟨rfl, hf1⟩
  go_wp2_with fail
  have hA : (a0.extract 0 mA).size ≤ 64 := by simp; omega
  have hB : (a1.extract 0 mB).size ≤ 64 := by simp; omega
  generalize a0.extract 0 mA = A at hA ⊢
  generalize a1.extract 0 mB = B at hB ⊢
  clear rA rB
  refine (new_dk 3 w w1 (by omega) (by omega) (hf1.mono fun _ q => q.elim)).mono ?_
  rintro e w2 ⟨b, rfl, hD0⟩
  rw [show (3 : Int).toNat = 3 from rfl] at hD0
  obtain ⟨s1, s2, s3, s4, s5⟩ := lasts_states A.data.toList B.data.toList (by rw [bytes_length]; exact hA) (by rw [bytes_length]; exact hB)
  have s6 := lasts_crash A.data.toList B.data.toList (by rw [bytes_length]; exact hA) (by rw [bytes_length]; exact hB) keeps torn bytes
  have S1 := Lib.hid s1; have S2 := Lib.hid s2; have S3 := Lib.hid s3; have S4 := Lib.hid s4; have S5 := Lib.hid s5; have S6 := Lib.hid s6
  clear s1 s2 s3 s4 s5 s6
  go_wp2_with fail
  refine (write_dk w w2 b _ 0 A hD0 (by decide) (by decide)).mono ?_
  rintro e w3 ⟨rfl, hD1⟩
  generalize errV ((DSt.init 3).write 0 A.data.toList).2 = j1
  clear hD0
  go_wp2_with fail
  refine (write_dk w w3 b _ 1 A hD1 (by rw [S1.out]; simp) (by rw [S1.out]; exact ⟨by simp, by simp⟩)).mono ?_
  rintro e w4 ⟨rfl, hD2⟩
  generalize errV _ = j2
  clear hD1
  go_wp2_with fail
  refine (sync_dk w w4 b _ hD2 (by rw [S2.out]; simp)).mono ?_
  rintro e w5 ⟨rfl, hD3⟩
  generalize errV _ = j3
  clear hD2
  go_wp2_with fail
  refine (write_dk w w5 b _ 1 B hD3 (by rw [S3.out]; simp) (by rw [S3.out]; exact ⟨by simp, by simp⟩)).mono ?_
  rintro e w6 ⟨rfl, hD4⟩
  generalize errV _ = j4
  clear hD3
  go_wp2_with fail
  refine (write_dk w w6 b _ 2 B hD4 (by rw [S4.out]; simp) (by rw [S4.out]; exact ⟨by simp, by simp⟩)).mono ?_
  rintro e w7 ⟨rfl, hD5⟩
  generalize errV _ = j5
  clear hD4
  go_wp2_with fail
  refine (crash_dk w w7 b _ ka kl kc keeps torn bytes hD5 (HK.out.1.keep hD5.fr fun _ q => q) (by rw [S5.out]; simp)).mono ?_
  rintro e w8 ⟨rfl, hD6⟩
  obtain ⟨d, hd⟩ : ∃ d, d = lastsD A.data.toList B.data.toList keeps torn bytes := ⟨_, rfl⟩
  have hD6' : Dk w w8 b d := by rw [hd]; exact hD6
  rw [S6.out] at hd
  have hc : d.cache.length < 1000000000 := by rw [hd]; simp
  have q0 : d.read 0 = (pad A.data.toList, 0) := by rw [hd, read_last _ _ rfl (by omega) (by simp) rfl]; rfl
  have q1 : d.read 1 = ((pad B.data.toList).take (crashN keeps torn bytes 0) ++ (pad A.data.toList).drop (crashN keeps torn bytes 0), 0) := by rw [hd, read_last _ _ rfl (by omega) (by simp) rfl]; rfl
  have q2 : d.read 2 = ((pad B.data.toList).take (crashN keeps torn bytes 1) ++ (List.replicate 64 0).drop (crashN keeps torn bytes 1), 0) := by rw [hd, read_last _ _ rfl (by omega) (by simp) rfl]; rfl
  have Q0 := Lib.hid q0; have Q1 := Lib.hid q1; have Q2 := Lib.hid q2
  clear hD5 hD6 hd q0 q1 q2 S1 S2 S3 S4 S5 S6
  go_wp2_with fail
  refine (read_dk w w8 b d 0 hD6' hc).mono ?_
  rintro e w9 ⟨rfl, hD7⟩
  rw [show errV (d.read 0).2 = .nilIface by rw [Q0.out]; rfl, show (ByteArray.mk (d.read 0).1.toArray) = padB A by rw [Q0.out]; rfl]
  clear hD6'
  go_wp2_with fail
  refine (read_dk w w9 b d 1 hD7 hc).mono ?_
  rintro e w10 ⟨rfl, hD8⟩
  obtain ⟨Y, hY⟩ : ∃ Y : ByteArray, (ByteArray.mk (d.read 1).1.toArray) = Y := ⟨_, rfl⟩
  rw [show errV (d.read 1).2 = .nilIface by rw [Q1.out]; rfl, hY]
  rw [Q1.out] at hY
  have HY := Lib.hid hY
  clear hD7 hY
  go_wp2_with fail
  refine (read_dk w w10 b d 2 hD8 hc).mono ?_
  rintro e w11 ⟨rfl, hD9⟩
  obtain ⟨Z, hZ⟩ : ∃ Z : ByteArray, (ByteArray.mk (d.read 2).1.toArray) = Z := ⟨_, rfl⟩
  rw [show errV (d.read 2).2 = .nilIface by rw [Q2.out]; rfl, hZ]
  rw [Q2.out] at hZ
  have HZ := Lib.hid hZ
  clear hD8 hZ
  have lY : Y.size = 64 := by rw [← HY.out]; exact mix_size B A hB hA _ (crashN_le _ _ _ _)
  have lZ : Z.size = 64 := by rw [← HZ.out, pad_E0]; exact mix_size B E0B hB (by decide) _ (crashN_le _ _ _ _)
  have hfin : FrN w w11 := hD9.fr.up
  obtain ⟨M, hM⟩ : ∃ M : Int, M = max bytes 0 := ⟨_, rfl⟩
  have rM := run_maxA bytes 0
  rw [← hM] at rM
  obtain ⟨n, hn⟩ : ∃ n : Nat, n = (min M 64).toNat := ⟨_, rfl⟩
  have rN : ∀ w : World, (MinA #[3, 3] 3 #[.int .i64 M, .int .i64 64]).run Try.prog w = .ok (.int .i64 (n : Int)) w := fun w => by rw [run_minA]; congr 2; omega
  have hn64 : n ≤ 64 := by omega
  have HM := Lib.hid hM; have HN := Lib.hid hn; clear hM hn
  have z1 := padB_size A hA; have z2 := padB_size B hB; have z3 := padB_size E0B (by decide)
  have n1 : (n : Int) ≤ 64 := by omega
  have n2 : (0 : Int) ≤ n := by omega
  have c0 : (0 : Int) = torn → crashN keeps torn bytes 0 = n := fun h => by
    have : ((0 : Nat) : Int) = torn := h
    rw [crashN, if_pos this, HN.out, HM.out]
  have c1 : (1 : Int) = torn → crashN keeps torn bytes 1 = n := fun h => by
    have : ((1 : Nat) : Int) = torn := h
    rw [crashN, if_pos this, HN.out, HM.out]
  have C0 := Lib.hid c0; have C1 := Lib.hid c1; clear c0 c1
  by_cases h0 : torn = 0
  · have b0 : (torn == 0) = true := by simpa using h0
    have eY : (Y.toList == ((padB B).extract 0 n ++ (padB A).extract n 64).toList) = true := toList_beq (by rw [← HY.out, C0.out h0.symm]; exact mixB B A hB hA n hn64)
    clear h0
    go_wp2_with (first
      | (go_at_call 14; refine (padded_B A _ hA).mono ?_; rintro e wp ⟨rfl, hfp⟩; have hfp2 : FrN w wp := FrN.step hfin hfp))
    refine region_quietC (C := fun x => FrN w x) (by kernel_rfl) (by kernel_rfl) (by first | exact FrN.drw1 (by assumption) | exact FrN.drw1 (FrN.drw1 (by assumption)) | exact FrN.drw1 (FrN.drw (by assumption) _)) ?_
    repeat (first | go_big_quiet_skip | (go_big_quiet_want; go_big_quiet_op; first | go_big_quiet_on | (refine ⟨_, fun _ _ => rfl, ?_⟩; go_big_quiet_on) | go_big_quiet_call (first
      | (intro hC_; go_at_call_of 14 (Value.string B); exact (padded_B B _ hB).mono fun e w' h => ⟨h.1, FrN.step hC_ h.2⟩)
      | (intro hC_; go_at_call_of 14 (Value.string A); exact (padded_B A _ hA).mono fun e w' h => ⟨h.1, FrN.step hC_ h.2⟩)
      | (intro hC_; go_at_call_of 14 (Value.string ⟨#[]⟩); exact (padded_B E0B _ (by decide)).mono fun e w' h => ⟨h.1, FrN.step hC_ h.2⟩))))
    refine wpQuiet_nil ?_
    intro w9_ hw9_
    go_wp2_with fail
    go_ret
    exact ⟨by simp [*], by assumption⟩
  · have b0 : (torn == 0) = false := by simpa using h0
    have F0 : ¬ ((0 : Nat) : Int) = torn := fun q => h0 q.symm
    clear h0
    have hkl := HK.out.1.1
    by_cases hkp : 0 < kl
    · obtain ⟨ad, rfl, hcell, -⟩ := HK.out.1.2.2 hkp
      have hc0 := hcell 0 hkp
      obtain ⟨k0, hk0⟩ : ∃ k0 : Int, k0 = keeps.getD 0 0 := ⟨_, rfl⟩
      rw [← hk0] at hc0
      rw [add_0] at hc0
      have HC0 := Lib.hid hc0
      clear hcell hc0
      by_cases hod : k0 % 2 = 1
      · have t0 : (k0.tmod 2 == 0) = false := by
          have : k0.tmod 2 ≠ 0 := fun q => by have := Int.emod_eq_zero_of_dvd (Int.dvd_iff_tmod_eq_zero.mpr q); omega
          simpa using this
        have t1 : (k0.tmod 2 != 0) = true := by rw [bne, t0]; rfl
        have eY : (Y.toList == (padB B).toList) = true := toList_beq (by rw [← HY.out, crashN, if_neg F0, if_pos ⟨by omega, by rw [← hk0]; exact hod⟩]; exact mix_64 B A hB hA)
        clear hod hk0 hkl
        have F1 := Lib.hid F0; clear F0
        by_cases h1 : torn = 1
        · have b1 : (torn == 1) = true := by simpa using h1
          have eZ : (Z.toList == ((padB B).extract 0 n ++ (padB E0B).extract n 64).toList) = true := toList_beq (by rw [← HZ.out, C1.out h1.symm, pad_E0]; exact mixB B E0B hB (by decide) n hn64)
          clear h1
          go_wp2_with (first
            | (go_at_call 14; refine (padded_B A _ hA).mono ?_; rintro e wp ⟨rfl, hfp⟩; have hfp2 : FrN w wp := FrN.step hfin hfp; have hcw : wp.cell? ad = some (.int .i64 k0) := Fr.cell hfp2 HC0.out (fun q => q)))
          go_wp2_with fail
          refine region_quietC (C := fun x => FrN w x) (by kernel_rfl) (by kernel_rfl) (by first | exact FrN.drw1 (by assumption) | exact FrN.drw1 (FrN.drw1 (by assumption)) | exact FrN.drw1 (FrN.drw (by assumption) _)) ?_
          repeat (first | go_big_quiet_skip | (go_big_quiet_want; go_big_quiet_op; first | go_big_quiet_on | (refine ⟨_, fun _ _ => rfl, ?_⟩; go_big_quiet_on) | go_big_quiet_call (first
            | (intro hC_; go_at_call_of 14 (Value.string B); exact (padded_B B _ hB).mono fun e w' h => ⟨h.1, FrN.step hC_ h.2⟩)
            | (intro hC_; go_at_call_of 14 (Value.string A); exact (padded_B A _ hA).mono fun e w' h => ⟨h.1, FrN.step hC_ h.2⟩)
            | (intro hC_; go_at_call_of 14 (Value.string ⟨#[]⟩); exact (padded_B E0B _ (by decide)).mono fun e w' h => ⟨h.1, FrN.step hC_ h.2⟩))))
          refine wpQuiet_nil ?_
          intro w9_ hw9_
          go_wp2_with fail
          go_ret
          exact ⟨by simp [*], by assumption⟩
        · have b1 : (torn == 1) = false := by simpa using h1
          have b2 : (torn != 1) = true := by simpa using h1
          have eZ : Z = padB B ∨ Z = padB E0B := by
            rw [← HZ.out, pad_E0]
            rcases crashN_not keeps torn bytes 1 (fun h => h1 h.symm) with e | e <;> rw [e]
            · exact Or.inl (mix_64 B E0B hB (by decide))
            · exact Or.inr (mix_0 B E0B)
          clear h1
          rcases eZ with eZ | eZ
          · have eZ1 : (Z.toList == (padB B).toList) = true := toList_beq eZ
            clear eZ
            go_wp2_with (first
              | (go_at_call 14; refine (padded_B A _ hA).mono ?_; rintro e wp ⟨rfl, hfp⟩; have hfp2 : FrN w wp := FrN.step hfin hfp; have hcw : wp.cell? ad = some (.int .i64 k0) := Fr.cell hfp2 HC0.out (fun q => q)))
            go_wp2_with fail
            refine region_quietC (C := fun x => FrN w x) (by kernel_rfl) (by kernel_rfl) (by first | exact FrN.drw1 (by assumption) | exact FrN.drw1 (FrN.drw1 (by assumption)) | exact FrN.drw1 (FrN.drw (by assumption) _)) ?_
            repeat (first | go_big_quiet_skip | (go_big_quiet_want; go_big_quiet_op; first | go_big_quiet_on | (refine ⟨_, fun _ _ => rfl, ?_⟩; go_big_quiet_on) | go_big_quiet_call (first
              | (intro hC_; go_at_call_of 14 (Value.string B); exact (padded_B B _ hB).mono fun e w' h => ⟨h.1, FrN.step hC_ h.2⟩)
              | (intro hC_; go_at_call_of 14 (Value.string A); exact (padded_B A _ hA).mono fun e w' h => ⟨h.1, FrN.step hC_ h.2⟩)
              | (intro hC_; go_at_call_of 14 (Value.string ⟨#[]⟩); exact (padded_B E0B _ (by decide)).mono fun e w' h => ⟨h.1, FrN.step hC_ h.2⟩))))
            refine wpQuiet_nil ?_
            intro w9_ hw9_
            go_wp2_with fail
            go_ret
            exact ⟨by simp [*], by assumption⟩
          · have eZ1 : (Z.toList == (padB E0B).toList) = true := toList_beq eZ
            clear eZ
            by_cases h2 : (Z.toList == (padB B).toList) = true
            · go_wp2_with (first
                | (go_at_call 14; refine (padded_B A _ hA).mono ?_; rintro e wp ⟨rfl, hfp⟩; have hfp2 : FrN w wp := FrN.step hfin hfp; have hcw : wp.cell? ad = some (.int .i64 k0) := Fr.cell hfp2 HC0.out (fun q => q)))
              go_wp2_with fail
              refine region_quietC (C := fun x => FrN w x) (by kernel_rfl) (by kernel_rfl) (by first | exact FrN.drw1 (by assumption) | exact FrN.drw1 (FrN.drw1 (by assumption)) | exact FrN.drw1 (FrN.drw (by assumption) _)) ?_
              repeat (first | go_big_quiet_skip | (go_big_quiet_want; go_big_quiet_op; first | go_big_quiet_on | (refine ⟨_, fun _ _ => rfl, ?_⟩; go_big_quiet_on) | go_big_quiet_call (first
                | (intro hC_; go_at_call_of 14 (Value.string B); exact (padded_B B _ hB).mono fun e w' h => ⟨h.1, FrN.step hC_ h.2⟩)
                | (intro hC_; go_at_call_of 14 (Value.string A); exact (padded_B A _ hA).mono fun e w' h => ⟨h.1, FrN.step hC_ h.2⟩)
                | (intro hC_; go_at_call_of 14 (Value.string ⟨#[]⟩); exact (padded_B E0B _ (by decide)).mono fun e w' h => ⟨h.1, FrN.step hC_ h.2⟩))))
              refine wpQuiet_nil ?_
              intro w9_ hw9_
              go_wp2_with fail
              go_ret
              exact ⟨by simp [*], by assumption⟩
            · have h3 : (Z.toList == (padB B).toList) = false := by simpa using h2
              clear h2
              go_wp2_with (first
                | (go_at_call 14; refine (padded_B A _ hA).mono ?_; rintro e wp ⟨rfl, hfp⟩; have hfp2 : FrN w wp := FrN.step hfin hfp; have hcw : wp.cell? ad = some (.int .i64 k0) := Fr.cell hfp2 HC0.out (fun q => q)))
              go_wp2_with fail
              refine region_quietC (C := fun x => FrN w x) (by kernel_rfl) (by kernel_rfl) (by first | exact FrN.drw1 (by assumption) | exact FrN.drw1 (FrN.drw1 (by assumption)) | exact FrN.drw1 (FrN.drw (by assumption) _)) ?_
              repeat (first | go_big_quiet_skip | (go_big_quiet_want; go_big_quiet_op; first | go_big_quiet_on | (refine ⟨_, fun _ _ => rfl, ?_⟩; go_big_quiet_on) | go_big_quiet_call (first
                | (intro hC_; go_at_call_of 14 (Value.string B); exact (padded_B B _ hB).mono fun e w' h => ⟨h.1, FrN.step hC_ h.2⟩)
                | (intro hC_; go_at_call_of 14 (Value.string A); exact (padded_B A _ hA).mono fun e w' h => ⟨h.1, FrN.step hC_ h.2⟩)
                | (intro hC_; go_at_call_of 14 (Value.string ⟨#[]⟩); exact (padded_B E0B _ (by decide)).mono fun e w' h => ⟨h.1, FrN.step hC_ h.2⟩))))
              refine wpQuiet_nil ?_
              intro w9_ hw9_
              go_wp2_with fail
              go_ret
              exact ⟨by simp [*], by assumption⟩
      · have t0 : (k0.tmod 2 == 0) = true := by
          have : k0.tmod 2 = 0 := Int.dvd_iff_tmod_eq_zero.mp (Int.dvd_of_emod_eq_zero (by omega))
          simpa using this
        have t1 : (k0.tmod 2 != 0) = false := by rw [bne, t0]; rfl
        have eY : (Y.toList == (padB A).toList) = true := toList_beq (by rw [← HY.out, crashN, if_neg F0, if_neg (fun q => hod (by rw [hk0]; exact q.2))]; exact mix_0 B A)
        clear hod hk0 hkl
        have F1 := Lib.hid F0; clear F0
        by_cases h1 : torn = 1
        · have b1 : (torn == 1) = true := by simpa using h1
          have eZ : (Z.toList == ((padB B).extract 0 n ++ (padB E0B).extract n 64).toList) = true := toList_beq (by rw [← HZ.out, C1.out h1.symm, pad_E0]; exact mixB B E0B hB (by decide) n hn64)
          clear h1
          go_wp2_with (first
            | (go_at_call 14; refine (padded_B A _ hA).mono ?_; rintro e wp ⟨rfl, hfp⟩; have hfp2 : FrN w wp := FrN.step hfin hfp; have hcw : wp.cell? ad = some (.int .i64 k0) := Fr.cell hfp2 HC0.out (fun q => q)))
          go_wp2_with fail
          refine region_quietC (C := fun x => FrN w x) (by kernel_rfl) (by kernel_rfl) (by first | exact FrN.drw1 (by assumption) | exact FrN.drw1 (FrN.drw1 (by assumption)) | exact FrN.drw1 (FrN.drw (by assumption) _)) ?_
          repeat (first | go_big_quiet_skip | (go_big_quiet_want; go_big_quiet_op; first | go_big_quiet_on | (refine ⟨_, fun _ _ => rfl, ?_⟩; go_big_quiet_on) | go_big_quiet_call (first
            | (intro hC_; go_at_call_of 14 (Value.string B); exact (padded_B B _ hB).mono fun e w' h => ⟨h.1, FrN.step hC_ h.2⟩)
            | (intro hC_; go_at_call_of 14 (Value.string A); exact (padded_B A _ hA).mono fun e w' h => ⟨h.1, FrN.step hC_ h.2⟩)
            | (intro hC_; go_at_call_of 14 (Value.string ⟨#[]⟩); exact (padded_B E0B _ (by decide)).mono fun e w' h => ⟨h.1, FrN.step hC_ h.2⟩))))
          refine wpQuiet_nil ?_
          intro w9_ hw9_
          go_wp2_with fail
          go_ret
          exact ⟨by simp [*], by assumption⟩
        · have b1 : (torn == 1) = false := by simpa using h1
          have b2 : (torn != 1) = true := by simpa using h1
          have eZ : Z = padB B ∨ Z = padB E0B := by
            rw [← HZ.out, pad_E0]
            rcases crashN_not keeps torn bytes 1 (fun h => h1 h.symm) with e | e <;> rw [e]
            · exact Or.inl (mix_64 B E0B hB (by decide))
            · exact Or.inr (mix_0 B E0B)
          clear h1
          rcases eZ with eZ | eZ
          · have eZ1 : (Z.toList == (padB B).toList) = true := toList_beq eZ
            clear eZ
            go_wp2_with (first
              | (go_at_call 14; refine (padded_B A _ hA).mono ?_; rintro e wp ⟨rfl, hfp⟩; have hfp2 : FrN w wp := FrN.step hfin hfp; have hcw : wp.cell? ad = some (.int .i64 k0) := Fr.cell hfp2 HC0.out (fun q => q)))
            go_wp2_with fail
            refine region_quietC (C := fun x => FrN w x) (by kernel_rfl) (by kernel_rfl) (by first | exact FrN.drw1 (by assumption) | exact FrN.drw1 (FrN.drw1 (by assumption)) | exact FrN.drw1 (FrN.drw (by assumption) _)) ?_
            repeat (first | go_big_quiet_skip | (go_big_quiet_want; go_big_quiet_op; first | go_big_quiet_on | (refine ⟨_, fun _ _ => rfl, ?_⟩; go_big_quiet_on) | go_big_quiet_call (first
              | (intro hC_; go_at_call_of 14 (Value.string B); exact (padded_B B _ hB).mono fun e w' h => ⟨h.1, FrN.step hC_ h.2⟩)
              | (intro hC_; go_at_call_of 14 (Value.string A); exact (padded_B A _ hA).mono fun e w' h => ⟨h.1, FrN.step hC_ h.2⟩)
              | (intro hC_; go_at_call_of 14 (Value.string ⟨#[]⟩); exact (padded_B E0B _ (by decide)).mono fun e w' h => ⟨h.1, FrN.step hC_ h.2⟩))))
            refine wpQuiet_nil ?_
            intro w9_ hw9_
            go_wp2_with fail
            go_ret
            exact ⟨by simp [*], by assumption⟩
          · have eZ1 : (Z.toList == (padB E0B).toList) = true := toList_beq eZ
            clear eZ
            by_cases h2 : (Z.toList == (padB B).toList) = true
            · go_wp2_with (first
                | (go_at_call 14; refine (padded_B A _ hA).mono ?_; rintro e wp ⟨rfl, hfp⟩; have hfp2 : FrN w wp := FrN.step hfin hfp; have hcw : wp.cell? ad = some (.int .i64 k0) := Fr.cell hfp2 HC0.out (fun q => q)))
              go_wp2_with fail
              refine region_quietC (C := fun x => FrN w x) (by kernel_rfl) (by kernel_rfl) (by first | exact FrN.drw1 (by assumption) | exact FrN.drw1 (FrN.drw1 (by assumption)) | exact FrN.drw1 (FrN.drw (by assumption) _)) ?_
              repeat (first | go_big_quiet_skip | (go_big_quiet_want; go_big_quiet_op; first | go_big_quiet_on | (refine ⟨_, fun _ _ => rfl, ?_⟩; go_big_quiet_on) | go_big_quiet_call (first
                | (intro hC_; go_at_call_of 14 (Value.string B); exact (padded_B B _ hB).mono fun e w' h => ⟨h.1, FrN.step hC_ h.2⟩)
                | (intro hC_; go_at_call_of 14 (Value.string A); exact (padded_B A _ hA).mono fun e w' h => ⟨h.1, FrN.step hC_ h.2⟩)
                | (intro hC_; go_at_call_of 14 (Value.string ⟨#[]⟩); exact (padded_B E0B _ (by decide)).mono fun e w' h => ⟨h.1, FrN.step hC_ h.2⟩))))
              refine wpQuiet_nil ?_
              intro w9_ hw9_
              go_wp2_with fail
              go_ret
              exact ⟨by simp [*], by assumption⟩
            · have h3 : (Z.toList == (padB B).toList) = false := by simpa using h2
              clear h2
              go_wp2_with (first
                | (go_at_call 14; refine (padded_B A _ hA).mono ?_; rintro e wp ⟨rfl, hfp⟩; have hfp2 : FrN w wp := FrN.step hfin hfp; have hcw : wp.cell? ad = some (.int .i64 k0) := Fr.cell hfp2 HC0.out (fun q => q)))
              go_wp2_with fail
              refine region_quietC (C := fun x => FrN w x) (by kernel_rfl) (by kernel_rfl) (by first | exact FrN.drw1 (by assumption) | exact FrN.drw1 (FrN.drw1 (by assumption)) | exact FrN.drw1 (FrN.drw (by assumption) _)) ?_
              repeat (first | go_big_quiet_skip | (go_big_quiet_want; go_big_quiet_op; first | go_big_quiet_on | (refine ⟨_, fun _ _ => rfl, ?_⟩; go_big_quiet_on) | go_big_quiet_call (first
                | (intro hC_; go_at_call_of 14 (Value.string B); exact (padded_B B _ hB).mono fun e w' h => ⟨h.1, FrN.step hC_ h.2⟩)
                | (intro hC_; go_at_call_of 14 (Value.string A); exact (padded_B A _ hA).mono fun e w' h => ⟨h.1, FrN.step hC_ h.2⟩)
                | (intro hC_; go_at_call_of 14 (Value.string ⟨#[]⟩); exact (padded_B E0B _ (by decide)).mono fun e w' h => ⟨h.1, FrN.step hC_ h.2⟩))))
              refine wpQuiet_nil ?_
              intro w9_ hw9_
              go_wp2_with fail
              go_ret
              exact ⟨by simp [*], by assumption⟩
    · obtain rfl : kl = 0 := by omega
      have eY : (Y.toList == (padB A).toList) = true := toList_beq (by rw [← HY.out, crashN, if_neg F0, if_neg (fun q => by omega)]; exact mix_0 B A)
      clear hkp hkl
      have F1 := Lib.hid F0; clear F0
      by_cases h1 : torn = 1
      · have b1 : (torn == 1) = true := by simpa using h1
        have eZ : (Z.toList == ((padB B).extract 0 n ++ (padB E0B).extract n 64).toList) = true := toList_beq (by rw [← HZ.out, C1.out h1.symm, pad_E0]; exact mixB B E0B hB (by decide) n hn64)
        clear h1
        go_wp2_with (first
          | (go_at_call 14; refine (padded_B A _ hA).mono ?_; rintro e wp ⟨rfl, hfp⟩; have hfp2 : FrN w wp := FrN.step hfin hfp))

        go_wp2_with fail
        refine region_quietC (C := fun x => FrN w x) (by kernel_rfl) (by kernel_rfl) (by first | exact FrN.drw1 (by assumption) | exact FrN.drw1 (FrN.drw1 (by assumption)) | exact FrN.drw1 (FrN.drw (by assumption) _)) ?_
        repeat (first | go_big_quiet_skip | (go_big_quiet_want; go_big_quiet_op; first | go_big_quiet_on | (refine ⟨_, fun _ _ => rfl, ?_⟩; go_big_quiet_on) | go_big_quiet_call (first
          | (intro hC_; go_at_call_of 14 (Value.string B); exact (padded_B B _ hB).mono fun e w' h => ⟨h.1, FrN.step hC_ h.2⟩)
          | (intro hC_; go_at_call_of 14 (Value.string A); exact (padded_B A _ hA).mono fun e w' h => ⟨h.1, FrN.step hC_ h.2⟩)
          | (intro hC_; go_at_call_of 14 (Value.string ⟨#[]⟩); exact (padded_B E0B _ (by decide)).mono fun e w' h => ⟨h.1, FrN.step hC_ h.2⟩))))
        refine wpQuiet_nil ?_
        intro w9_ hw9_
        go_wp2_with fail
        go_ret
        exact ⟨by simp [*], by assumption⟩
      · have b1 : (torn == 1) = false := by simpa using h1
        have b2 : (torn != 1) = true := by simpa using h1
        have eZ : Z = padB B ∨ Z = padB E0B := by
          rw [← HZ.out, pad_E0]
          rcases crashN_not keeps torn bytes 1 (fun h => h1 h.symm) with e | e <;> rw [e]
          · exact Or.inl (mix_64 B E0B hB (by decide))
          · exact Or.inr (mix_0 B E0B)
        clear h1
        rcases eZ with eZ | eZ
        · have eZ1 : (Z.toList == (padB B).toList) = true := toList_beq eZ
          clear eZ
          go_wp2_with (first
            | (go_at_call 14; refine (padded_B A _ hA).mono ?_; rintro e wp ⟨rfl, hfp⟩; have hfp2 : FrN w wp := FrN.step hfin hfp))

          go_wp2_with fail
          refine region_quietC (C := fun x => FrN w x) (by kernel_rfl) (by kernel_rfl) (by first | exact FrN.drw1 (by assumption) | exact FrN.drw1 (FrN.drw1 (by assumption)) | exact FrN.drw1 (FrN.drw (by assumption) _)) ?_
          repeat (first | go_big_quiet_skip | (go_big_quiet_want; go_big_quiet_op; first | go_big_quiet_on | (refine ⟨_, fun _ _ => rfl, ?_⟩; go_big_quiet_on) | go_big_quiet_call (first
            | (intro hC_; go_at_call_of 14 (Value.string B); exact (padded_B B _ hB).mono fun e w' h => ⟨h.1, FrN.step hC_ h.2⟩)
            | (intro hC_; go_at_call_of 14 (Value.string A); exact (padded_B A _ hA).mono fun e w' h => ⟨h.1, FrN.step hC_ h.2⟩)
            | (intro hC_; go_at_call_of 14 (Value.string ⟨#[]⟩); exact (padded_B E0B _ (by decide)).mono fun e w' h => ⟨h.1, FrN.step hC_ h.2⟩))))
          refine wpQuiet_nil ?_
          intro w9_ hw9_
          go_wp2_with fail
          go_ret
          exact ⟨by simp [*], by assumption⟩
        · have eZ1 : (Z.toList == (padB E0B).toList) = true := toList_beq eZ
          clear eZ
          by_cases h2 : (Z.toList == (padB B).toList) = true
          · go_wp2_with (first
              | (go_at_call 14; refine (padded_B A _ hA).mono ?_; rintro e wp ⟨rfl, hfp⟩; have hfp2 : FrN w wp := FrN.step hfin hfp))

            go_wp2_with fail
            refine region_quietC (C := fun x => FrN w x) (by kernel_rfl) (by kernel_rfl) (by first | exact FrN.drw1 (by assumption) | exact FrN.drw1 (FrN.drw1 (by assumption)) | exact FrN.drw1 (FrN.drw (by assumption) _)) ?_
            repeat (first | go_big_quiet_skip | (go_big_quiet_want; go_big_quiet_op; first | go_big_quiet_on | (refine ⟨_, fun _ _ => rfl, ?_⟩; go_big_quiet_on) | go_big_quiet_call (first
              | (intro hC_; go_at_call_of 14 (Value.string B); exact (padded_B B _ hB).mono fun e w' h => ⟨h.1, FrN.step hC_ h.2⟩)
              | (intro hC_; go_at_call_of 14 (Value.string A); exact (padded_B A _ hA).mono fun e w' h => ⟨h.1, FrN.step hC_ h.2⟩)
              | (intro hC_; go_at_call_of 14 (Value.string ⟨#[]⟩); exact (padded_B E0B _ (by decide)).mono fun e w' h => ⟨h.1, FrN.step hC_ h.2⟩))))
            refine wpQuiet_nil ?_
            intro w9_ hw9_
            go_wp2_with fail
            go_ret
            exact ⟨by simp [*], by assumption⟩
          · have h3 : (Z.toList == (padB B).toList) = false := by simpa using h2
            clear h2
            go_wp2_with (first
              | (go_at_call 14; refine (padded_B A _ hA).mono ?_; rintro e wp ⟨rfl, hfp⟩; have hfp2 : FrN w wp := FrN.step hfin hfp))

            go_wp2_with fail
            refine region_quietC (C := fun x => FrN w x) (by kernel_rfl) (by kernel_rfl) (by first | exact FrN.drw1 (by assumption) | exact FrN.drw1 (FrN.drw1 (by assumption)) | exact FrN.drw1 (FrN.drw (by assumption) _)) ?_
            repeat (first | go_big_quiet_skip | (go_big_quiet_want; go_big_quiet_op; first | go_big_quiet_on | (refine ⟨_, fun _ _ => rfl, ?_⟩; go_big_quiet_on) | go_big_quiet_call (first
              | (intro hC_; go_at_call_of 14 (Value.string B); exact (padded_B B _ hB).mono fun e w' h => ⟨h.1, FrN.step hC_ h.2⟩)
              | (intro hC_; go_at_call_of 14 (Value.string A); exact (padded_B A _ hA).mono fun e w' h => ⟨h.1, FrN.step hC_ h.2⟩)
              | (intro hC_; go_at_call_of 14 (Value.string ⟨#[]⟩); exact (padded_B E0B _ (by decide)).mono fun e w' h => ⟨h.1, FrN.step hC_ h.2⟩))))
            refine wpQuiet_nil ?_
            intro w9_ hw9_
            go_wp2_with fail
            go_ret
            exact ⟨by simp [*], by assumption⟩
end Go.Proofs.Ytfhfnnpadfibkaa
