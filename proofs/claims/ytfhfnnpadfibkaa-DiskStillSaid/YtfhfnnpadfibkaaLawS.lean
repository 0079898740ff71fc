/-
  The walk of DiskStill.
-/
import Derived.Test.YtfhfnnpadfibkaaReadsP
import Derived.Deep.QuietTactic
import Derived.BigQuiet
set_option linter.unusedVariables false
set_option linter.unusedSimpArgs false
namespace Go.Proofs.Ytfhfnnpadfibkaa
open Go.RowKit

attribute [local go_sem ↓] minA_any maxA_any

structure Synced (d : DSt) : Prop where
  lasts : d.lasts.length = 5
  down : d.down = false
  fuse : d.fuse = -1
  cache : d.cache = []
theorem ReadsAt.synced {d : DSt} {want : List ByteArray} {k : Nat} (h : ReadsAt d want 5 k) : d.sync.2 = 0 ∧ Synced d.sync.1 := by
  have e : d.sync = ({ d with lasts := putAll d.lasts d.cache, cache := [] }, 0) := by unfold DSt.sync; rw [h.down]; rfl
  rw [e]
  exact ⟨rfl, by simp [putAll_length, h.lasts], h.down, h.fuse, rfl⟩
theorem Synced.crash {d : DSt} (h : Synced d) (keeps : List Int) (torn bytes : Int) : d.crash keeps torn bytes = d := by
  obtain ⟨l, c, f, dn, m⟩ := d
  have h2 := h.down; have h3 := h.fuse; have h4 := h.cache
  simp only at h2 h3 h4
  subst h2 h3 h4
  simp [DSt.crash, crashAll]
def lastB (d : DSt) (j : Nat) : ByteArray := ⟨(d.lasts.getD j []).toArray⟩
theorem Synced.read {d : DSt} (h : Synced d) (j : Nat) (hj : j < 5) : d.read (j : Int) = (d.lasts.getD j [], 0) := by
  rw [read_last d j h.down (by omega) (by rw [h.lasts]; omega) h.cache]
  simp
def wasL (d : DSt) (j : Nat) : List Value := (List.range j).map fun i => Value.string (lastB d i)
theorem wasL_succ (d : DSt) (j : Nat) : wasL d (j + 1) = wasL d j ++ [Value.string (lastB d j)] := by simp [wasL, List.range_succ]
theorem wasL_length (d : DSt) (j : Nat) : (wasL d j).length = j := by simp [wasL]
theorem wasL_get (d : DSt) (n j : Nat) (hj : j < n) : (wasL d n)[j]? = some (Value.string (lastB d j)) := by simp [wasL, hj]
theorem news_one (w : World) (x : Value) (T : TypeId) : ∀ (j : Nat) (u : Value), [x][j]? = some u → (w.alloc (.cells #[x] T)).cell? ((⟨w.heap.size, 0, none⟩ : Addr).add j) = some u := by
  intro j u hu
  match j, hu with
  | 0, hu =>
    simp at hu
    subst hu
    rw [plain_add, cell_of_row _ _ _ _ _ _ (heap_alloc_new w _)]
    rfl
def OwnS (v : Value) : Nat → Prop := fun k => v.ownBlock = some k
theorem Try.infoStrS : (Try.prog.info? 9).map (fun i => (i.zero, i.size, i.bytes)) = some (some (.string ByteArray.empty), 1, 16) := by kernel_rfl

set_option maxHeartbeats 8000000 in
set_option maxRecDepth 100000 in
theorem DiskStill_walk (sa : Option Addr) (sl sc : Nat) (sectors : List Int) (ta : Option Addr) (tl tc : Nat) (texts : List ByteArray) (ka : Option Addr) (kl kc : Nat) (keeps : List Int) (torn bytes : Int) (w : World) (hs : IntsIn w sa sl sectors) (ht : StrsIn w ta tl texts) (hkk : IntsIn w ka kl keeps)
    (ht0 : -9223372036854775808 ≤ torn) (ht1 : torn ≤ 9223372036854775807) (hb0 : -9223372036854775808 ≤ bytes) (hb1 : bytes ≤ 9223372036854775807) :
    Calls Try.prog 5 #[.slice sa sl sc, .slice ta tl tc, .slice ka kl kc, .int .i64 torn, .int .i64 bytes] w fun e w' => e = .returned (.bool true) ∧ Fr (fun _ => False) w w' := by
  have HS := Lib.hid hs
  have HT := Lib.hid ht
  have HK := Lib.hid hkk
  clear hs ht hkk
  go_enter Try.func5, Try.ntmps5
  go_wp2_with fail
  refine (examples_any w).mono ?_
  rintro e w1 ⟨rfl, hf1⟩
  go_wp2_with fail
  refine (new_dk 5 w w1 (by omega) (by omega) (hf1.mono fun _ q => q.elim)).mono ?_
  rintro e w2 ⟨b, rfl, hD0⟩
  rw [show (5 : Int).toNat = 5 from rfl] at hD0
  have hX1 : DkX w w2 (fun _ => False) b (DSt.init 5) := hD0.toX fun k q => q.elim
  clear hD0 hf1
  go_wp2_with fail
  go_loopw [14] (fun i wr => ∃ (k : Nat) (d : DSt) (want : List ByteArray), k ≤ 20 ∧ i = .int .i64 k ∧ ReadsAt d want 5 k ∧ DkX w wr (fun _ => False) b d) (fun i _ => 20 - (intOf i).toNat)
  case atStart => exact ⟨0, _, _, Nat.zero_le _, rfl, reads_init 5, hX1⟩
  case round =>
    obtain ⟨k, d, want, hk, rfl, hF, hDr⟩ := hrel
    clear hX1
    by_cases hgo : k < sl ∧ k < tl ∧ k < 20
    · obtain ⟨h1, h2, h3⟩ := hgo
      obtain ⟨ad, rfl, hcs, -⟩ := HS.out.1.2.2 (show 0 < sl by omega)
      obtain ⟨at_, rfl, hct, -⟩ := HT.out.cells (show 0 < tl by omega)
      obtain ⟨x, hx⟩ : ∃ x : Int, x = sectors.getD k 0 := ⟨_, rfl⟩
      obtain ⟨s0, hs0⟩ : ∃ s0 : ByteArray, s0 = texts.getD k ByteArray.empty := ⟨_, rfl⟩
      have c1 : wr.cell? (ad.add k) = some (.int .i64 x) := by rw [hx]; exact hDr.fr.up.cell (hcs k h1) (fun q => q)
      have c2 : wr.cell? (at_.add k) = some (.string s0) := by rw [hs0]; exact hDr.fr.up.cell (hct k h2) (fun q => q)
      have hxb : -9223372036854775808 ≤ x ∧ x ≤ 9223372036854775807 := by
        rw [hx, List.getD_eq_getElem?_getD, List.getElem?_eq_getElem (by rw [HS.out.1.1]; exact h1)]
        exact HS.out.2 _ (List.getElem_mem _)
      have hsb : s0.size ≤ 9223372036854775807 := by
        rw [hs0, List.getD_eq_getElem?_getD, List.getElem?_eq_getElem (by rw [HT.out.len]; exact h2)]
        exact HT.out.each _ (List.getElem_mem _)
      clear hcs hct hx hs0
      obtain ⟨xb1, xb2⟩ := hxb
      obtain ⟨m, hm, hm8⟩ : ∃ m : Nat, pickOf x 5 = m ∧ m < 5 := by
        have := pick_range x 5 (by omega)
        exact ⟨(pickOf x 5).toNat, by omega, by omega⟩
      obtain ⟨mA, hA1, hA2, rA⟩ := min_size s0
      have hA : (s0.extract 0 mA).size ≤ 64 := by simp; omega
      have HF := Lib.hid hF; have HM := Lib.hid hm; have HD := Lib.hid hDr; clear hF hm hDr
      have iA : (mA : Int) ≤ s0.size := by omega
      have iA0 : (0 : Int) ≤ mA := by omega
      go_wp2_with fail
      refine region_tail 17 (by kernel_rfl) (by kernel_rfl) ?_
      simp only [List.take_succ_cons, List.take_zero, List.drop_succ_cons, List.drop_zero]
      have hpk : Calls Try.prog 15 #[.int .i64 x, .int .i64 5] wr.drew fun e w' => e = .returned (.int .i64 (m : Int)) ∧ w' = wr.drew := by
        rw [← HM.out]; exact pick_any x 5 _ (by omega) (by omega) xb1 xb2
      have HPK := Lib.hid hpk; clear hpk
      repeat (first | still_step | still_call HPK.out)
      refine wpStill_nil ?_
      go_wp2_with fail
      generalize s0.extract 0 mA = S at hA ⊢
      clear rA hA1 hA2 iA iA0 hsb HPK
      have hw := HF.out.write m hm8 S hA
      have hw1 := Lib.hid hw.1
      have hw2 := Lib.hid hw.2
      have hZ : d.fuse ≤ 9223372036854775807 := by rw [HF.out.fuse]; decide
      have hY : d.many < 1000000000 ∧ d.cache.length < 1000000000 := ⟨by have := HF.out.many; omega, by have := HF.out.cache; omega⟩
      clear hw HF
      refine (write_dx w _ (fun _ => False) b d (m : Int) S (HD.out.still ((Fr.refl _ _).drew)) (fun q hq => hq.elim) hZ hY).mono ?_
      rintro e w4 ⟨rfl, hD4, hf4⟩
      rw [hw1.out, show errV 0 = .nilIface from rfl]
      have HD4 := Lib.hid hD4
      clear hD4 hw1 c1 c2 HD hf4
      go_wp2_with fail
      go_roundw
      case rel => exact ⟨k + 1, _, _, by omega, by go_num, hw2.out, HD4.out⟩
      case measure => simp [intOf]; omega
    · have hD5 := hDr
      have hsy := hF.synced
      have hcl : d.cache.length < 1000000000 := by have := hF.cache; omega
      have HSY := Lib.hid hsy
      clear hF hsy hDr
      rcases (by omega : ¬ k < sl ∨ (k < sl ∧ ¬ k < tl) ∨ (k < sl ∧ k < tl ∧ ¬ k < 20)) with h1 | ⟨h1, h2⟩ | ⟨h1, h2, h3⟩
      all_goals
        clear hgo
        go_wp2_with fail
        refine (sync_dx w _ (fun _ => False) b d hD5 (fun q hq => hq.elim) hcl).mono ?_
        rintro e w5 ⟨rfl, hD6, hf6⟩
        rw [HSY.out.1, show errV 0 = .nilIface from rfl]
        obtain ⟨d5, hd5⟩ : ∃ d5, d5 = d.sync.1 := ⟨_, rfl⟩
        rw [← hd5] at hD6
        have HS5 : Hid (Synced d5) := by refine Lib.hid ?_; rw [hd5]; exact HSY.out.2
        have HD6 := Lib.hid hD6
        clear hD5 hcl HSY hd5 hD6 hf6
        go_wp2_with fail
        go_loopw [15, 16] (fun u i wr => ∃ (j : Nat) (v : Value), j ≤ 5 ∧ v = u ∧ i = .int .i64 j ∧ Hid (wr.ownsRow w.heap.size 9 1 v j (wasL d5 j)) ∧ Hid (DkX w wr (OwnS v) b d5)) (fun _ i _ => 5 - (intOf i).toNat)
        case atStart => exact ⟨0, _, Nat.zero_le _, rfl, rfl, Lib.hid (World.ownsRow_nil _ _ _ _), Lib.hid (HD6.out.aside (Fr.refl (fun _ => False) _) (fun _ q => q.elim) (fun k q => by simp [OwnS, Value.ownBlock] at q))⟩
        case round =>
          clear HD6
          obtain ⟨j, v, hj, rfl, rfl, HO, HD⟩ := hrel
          by_cases hj5 : j < 5
          · have hrd := HS5.out.read j hj5
            have hrd1 : (ByteArray.mk (d5.read (j : Int)).1.toArray) = lastB d5 j := by rw [hrd]; rfl
            have hrd2 : errV (d5.read (j : Int)).2 = .nilIface := by rw [hrd]; rfl
            have HR1 := Lib.hid hrd1; have HR2 := Lib.hid hrd2
            clear hrd hrd1 hrd2
            go_wp2_with fail
            refine (read_dx w _ (OwnS v) b d5 (j : Int) HD.out (by rw [HS5.out.cache]; decide)).mono ?_
            rintro e w7 ⟨rfl, hD7, hf7⟩
            rw [HR1.out, HR2.out]
            have HO7 := Lib.hid (Fr.row hf7 HO.out (fun k _ q => q))
            have HD7 := Lib.hid hD7
            clear hD7 hf7 HO HD HR1 HR2
            go_wp2_with (at_builtin; refine Hid.out ?_)
            refine Lib.hid ?_
            (obtain ⟨i0, hi0, hz0, hz1, hz2⟩ := info_parts Try.infoStrS; refine wpList_append_lies _ rfl _ _ 36 rfl w.heap.size 9 i0 _ 1 16 Try.underlying36 hi0 hz0 hz1 hz2 rfl (by decide) _ _ _ rfl (HO7.out.alloc _) ⟨w7.heap.size, 0, none⟩ 1 1 [.string (lastB d5 j)] rfl rfl ?cN (by simp [Value.oneCell']) (by decide) (by unfold maxLen; omega) (by omega) ?cB (w7.heap.size + 1) (by simp) ?_; (case cB => have := HD7.out.fr.size; simp; omega); (case cN => exact news_one _ _ _); intro g cap w9 hown hgrow hat hlt; have HOW := Lib.hid hown; have HGR := Lib.hid hgrow; have HAT := Lib.hid hat; clear hown hgrow hat hlt hi0 hz0 hz1 hz2 i0)
            have hfrA : Fr (OwnS v) w7 w9 := Fr.grown ((Fr.refl _ _).alloc _) HGR.out (fun k hk => Or.inl hk)
            have hlow : ∀ k, OwnS v k → w.heap.size ≤ k := fun k hk => (HO7.out.lt k hk).1
            have hD9 : DkX w w9 (OwnS (.slice (some ⟨g, 0, none⟩) (j + 1) cap)) b d5 := HD7.out.aside hfrA (fun k hk => ⟨hk, hlow k hk⟩) (fun k hk => by
              have : k = g := by simp [OwnS, Value.ownBlock] at hk; exact hk.symm
              subst this
              rcases HAT.out with q | q
              · exact Or.inl q
              · right; omega)
            have HD9 := Lib.hid hD9
            have HOX : Hid (w9.ownsRow w.heap.size 9 1 (.slice (some ⟨g, 0, none⟩) (j + 1) cap) (j + 1) (wasL d5 (j + 1))) := by refine Lib.hid ?_; rw [wasL_succ]; exact HOW.out
            clear hfrA hlow hD9 HD7 HO7 HOW HGR HAT
            go_wp2_with fail
            go_roundw
            case rel => exact ⟨j + 1, _, by omega, rfl, by go_num, HOX, HD9⟩
            case measure => simp [intOf]; omega
          · obtain rfl : j = 5 := by omega
            go_wp2_with fail
            refine (crash_dx w _ (OwnS v) b d5 ka kl kc keeps torn bytes HD.out (fun k hk => (HO.out.lt k hk).2) (HK.out.1.keep HD.out.fr fun _ q => q) (by rw [HS5.out.cache]; decide)).mono ?_
            rintro e w7 ⟨rfl, hD7, hf7⟩
            rw [HS5.out.crash] at hD7
            have HD7 := Lib.hid hD7
            have HO7 := Lib.hid (Fr.row hf7 HO.out (fun k hk q => q.2 hk))
            clear hD7 hf7 HD HO
            go_wp2_with fail
            refine (crash_dx w _ (OwnS v) b d5 ka kl kc keeps torn bytes HD7.out (fun k hk => (HO7.out.lt k hk).2) (HK.out.1.keep HD7.out.fr fun _ q => q) (by rw [HS5.out.cache]; decide)).mono ?_
            rintro e w8 ⟨rfl, hD8, hf8⟩
            rw [HS5.out.crash] at hD8
            have ho8 := Fr.row hf8 HO7.out (fun k hk q => q.2 hk)
            clear HD7 HO7 hf8
            rcases ho8.2 with ⟨_, q⟩ | ⟨g, cap, cur, rfl, hgb, hgc, _, _, _, hx⟩
            · omega
            have hrow : ∀ i, i < 5 → w8.cell? ⟨g, i, none⟩ = some (.string (lastB d5 i)) := fun i hi => by
              have h1 := wasL_get d5 5 i hi
              rw [← hx, List.getElem?_take, if_pos (by omega)] at h1
              rw [cell_of_row w8 g i _ _ _ hgc]
              simpa using h1
            have HD8 := Lib.hid hD8
            have HROW := Lib.hid hrow
            clear ho8 hgc hx hrow hD8
            go_wp2_with fail
            go_loopw [19] (fun i wr => ∃ (j : Nat), j ≤ 5 ∧ i = .int .i64 j ∧ Hid (∀ i, i < 5 → wr.cell? ⟨g, i, none⟩ = some (.string (lastB d5 i))) ∧ Hid (DkX w wr (OwnS (.slice (some ⟨g, 0, none⟩) 5 cap)) b d5)) (fun i _ => 5 - (intOf i).toNat)
            case atStart => exact ⟨0, Nat.zero_le _, rfl, HROW, HD8⟩
            case round =>
              clear HD8 HROW
              obtain ⟨j, hj, rfl, HROW, HD⟩ := hrel
              by_cases hj5 : j < 5
              · have hrd := HS5.out.read j hj5
                have hrd1 : (ByteArray.mk (d5.read (j : Int)).1.toArray) = lastB d5 j := by rw [hrd]; rfl
                have hrd2 : errV (d5.read (j : Int)).2 = .nilIface := by rw [hrd]; rfl
                have HR1 := Lib.hid hrd1; have HR2 := Lib.hid hrd2
                clear hrd hrd1 hrd2
                go_wp2_with fail
                refine (read_dx w _ _ b d5 (j : Int) HD.out (by rw [HS5.out.cache]; decide)).mono ?_
                rintro e w9 ⟨rfl, hD9, hf9⟩
                rw [HR1.out, HR2.out]
                have HROW9 : Hid (∀ i, i < 5 → w9.cell? ⟨g, i, none⟩ = some (.string (lastB d5 i))) := Lib.hid fun i hi => Fr.cell hf9 (HROW.out i hi) (fun q => q)
                have HD9 := Lib.hid hD9
                have hc := HROW9.out j hj5
                clear hD9 hf9 HD HROW HR1 HR2
                go_wp2_with fail
                go_roundw
                case rel => exact ⟨j + 1, by omega, by go_num, HROW9, HD9⟩
                case measure => simp [intOf]; omega
              · go_wp2_with fail
                go_ret
                exact ⟨rfl, HD.out.fr.up⟩
end Go.Proofs.Ytfhfnnpadfibkaa
