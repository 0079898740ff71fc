/-
  The given disk and the document's beside each other.
-/
import Derived.Test.YtfhfnnpadfibkaaRef4
set_option linter.unusedVariables false
set_option linter.unusedSimpArgs false
namespace Go.Proofs.Ytfhfnnpadfibkaa
open Go.RowKit Go.Proofs.YtfhfnnpadfibkaaW.PrintWords Go.Proofs.YtfhfnnpadfibkaaW.PrintLast Go.Proofs.YtfhfnnpadfibkaaW.PrintMore

/-- The given disk's blocks, by their types. -/
def TyD (w0 w : World) : Nat → Prop := fun k => w0.heap.size ≤ k ∧ ∃ cs t, w.heap[k]? = some (.cells cs t (0, 0)) ∧ (t = 60 ∨ t = 63 ∨ t = 65)
theorem DiskAt.typed {w0 w : World} {F : Nat → Prop} {b : Nat} {d : DSt} (h : DiskAt w F b d) (hF : ∀ k, F k → w0.heap.size ≤ k) : DiskAt w (TyD w0 w) b d := by
  obtain ⟨bl, cv, h0, h1, h2, h3, h4, h5, h6⟩ := h
  exact ⟨bl, cv, h0, h1, h2, h3, ⟨hF b h4, _, _, h0, .inl rfl⟩, ⟨hF bl h5, _, _, h1, .inr (.inl rfl)⟩, fun k hk => ⟨hF k (h6 k hk), by obtain ⟨c, hc⟩ := own_typed h2 k hk; exact ⟨_, _, hc, .inr (.inr rfl)⟩⟩⟩
theorem TyD.not {w0 w : World} {k : Nat} (h : TyD w0 w k) (cs : Array Value) (t : TypeId) (fr : Nat × Nat) (hc : w.heap[k]? = some (.cells cs t fr)) : t = 60 ∨ t = 63 ∨ t = 65 := by
  obtain ⟨_, cs', t', hc', ht⟩ := h
  rw [hc'] at hc
  injection hc with hc
  injection hc with _ hc _
  rw [← hc]
  exact ht
theorem RfAt.fr {w0 w w' : World} {g : Nat} {x : DSt} (h : RfAt w0 w g x) (hf : Fr (TyD w0 w) w w') : RfAt w0 w' g x := by
  obtain ⟨lv, cv, hg, hl, hc, hge, hok⟩ := h
  refine ⟨lv, cv, hf.at hg (fun q => ?_), ?_, ?_, hge, hok⟩
  · rcases q.not _ _ _ hg with q | q | q <;> exact absurd q (by decide)
  · refine Kd.R_mono (Kd.R_step (Kd.R_bound hl) (fun k ho hk => hf.block k hk (fun q => ?_))) (fun _ hk => hk.1)
    obtain ⟨_, _, _, e, he, cells, hc⟩ := ho
    have he' : e = 9 := List.mem_singleton.1 he
    subst he'
    rcases q.not _ _ _ hc with q | q | q <;> exact absurd q (by decide)
  · refine Kd.R_mono (Kd.R_step (Kd.R_bound hc) (fun k ho hk => hf.block k hk (fun q => ?_))) (fun _ hk => hk.1)
    obtain ⟨_, _, _, e, he, cells, hc⟩ := ho
    have he' : e = 69 := List.mem_singleton.1 he
    subst he'
    rcases q.not _ _ _ hc with q | q | q <;> exact absurd q (by decide)
theorem DiskAt.kept {w0 w w' : World} {b : Nat} {d : DSt} (h : DiskAt w (TyD w0 w) b d) (hk : Keep w w') : DiskAt w' (TyD w0 w') b d := by
  obtain ⟨bl, cv, h0, h1, h2, h3, h4, h5, h6⟩ := h
  have nt : ∀ t : TypeId, (t = 60 ∨ t = 63 ∨ t = 65) → t ≠ 53 ∧ t ≠ 9 ∧ t ≠ 69 := by
    rintro t (rfl | rfl | rfl) <;> decide
  have st : ∀ k, TyD w0 w k → k < w.heap.size → w'.heap[k]? = w.heap[k]? := fun k q hlt => hk k hlt (fun cs t fr hc => nt t (q.not cs t fr hc))
  have e0 := (st b h4 (lt_heap h0)).trans h0
  have e1 := (st bl h5 (lt_heap h1)).trans h1
  refine DiskAt.typed (F := fun k => w0.heap.size ≤ k) ⟨bl, cv, e0, e1, own_move h2 (fun k hk => st k (h6 k hk) (own_lt' h2 k hk)), h3, h4.1, h5.1, fun k hk => (h6 k hk).1⟩ (fun _ q => q)

/-- Both disks, behind w0; V: variables of a deed, with their cells. -/
structure Two (V : Nat → Array Value → Prop) (w0 w : World) (b g : Nat) (d x : DSt) : Prop where
  disk : DiskAt w (TyD w0 w) b d
  ref : RfAt w0 w g x
  bel : Below w0.heap.size w0 w
  var : ∀ h cs, V h cs → w.heap[h]? = some (.cells cs 46 (0, 0))
theorem below_fr {w0 w w' : World} (h : Below w0.heap.size w0 w) {S : Nat → Prop} (hf : Fr S w w') (hS : ∀ k, S k → w0.heap.size ≤ k) : Below w0.heap.size w0 w' :=
  ⟨hf.os.trans h.os, hf.tape.trans h.tape, hf.output.trans h.output, Nat.le_trans h.size hf.size, fun k hk => (hf.block k (Nat.lt_of_lt_of_le hk h.size) (fun q => by have := hS k q; omega)).trans (h.block k hk)⟩
section
variable {V : Nat → Array Value → Prop} {w0 w w' : World} {b g : Nat} {d x d' x' : DSt}
theorem Two.disked (h : Two V w0 w b g d x) (hd : DiskAt w' (gro (TyD w0 w) w w') b d') (hf : Fr (TyD w0 w) w w') : Two V w0 w' b g d' x :=
  ⟨hd.typed (fun k q => by rcases q with q | q; exact q.1; exact Nat.le_trans h.bel.size q.1), h.ref.fr hf, below_fr h.bel hf (fun _ q => q.1), fun n cs hv => hf.at (h.var n cs hv) (fun q => by
    rcases q.not _ _ _ (h.var n cs hv) with q | q | q <;> exact absurd q (by decide))⟩
theorem Two.quiet (h : Two V w0 w b g d x) (hf : Fr (fun _ => False) w w') : Two V w0 w' b g d x :=
  h.disked ((h.disk.keep hf fun _ _ q => q).mono (fun _ q => .inl q)) (hf.mono fun _ q => q.elim)
theorem Two.refed (h : Two V w0 w b g d x) (hr : RfAt w0 w' g x') (hb : Below w0.heap.size w0 w') (hk : Keep w w') : Two V w0 w' b g d x' :=
  ⟨h.disk.kept hk, hr, hb, fun n cs hv => (hk n (lt_heap (h.var n cs hv)) (fun cs' t fr hc => by
    rw [h.var n cs hv] at hc
    injection hc with hc
    injection hc with _ hc _
    rw [← hc]
    decide)).trans (h.var n cs hv)⟩
theorem Two.drew (h : Two V w0 w b g d x) : Two V w0 w.drew b g d x := h.quiet ((Fr.refl _ _).drew)
theorem Two.less {V' : Nat → Array Value → Prop} (h : Two V w0 w b g d x) (hv : ∀ n cs, V' n cs → V n cs) : Two V' w0 w b g d x := ⟨h.disk, h.ref, h.bel, fun n cs q => h.var n cs (hv n cs q)⟩
theorem Two.with {V' : Nat → Array Value → Prop} (h : Two V w0 w b g d x) (o : Array Value) (hv : ∀ n cs, V' n cs → n = w.heap.size ∧ cs = o) : Two V' w0 (w.alloc (.cells o 46)) b g d x := by
  have h' := h.quiet ((Fr.refl (fun _ => False) w).alloc (.cells o 46))
  exact ⟨h'.disk, h'.ref, h'.bel, fun n cs q => by obtain ⟨rfl, rfl⟩ := hv n cs q; exact blk_new _ _⟩
end
section
variable {V : Nat → Array Value → Prop} {w0 : World} {b g : Nat}
theorem two_write (w : World) (d x : DSt) (at_ : Int) (s : ByteArray) (h : Two V w0 w b g d x) (hfz : d.fuse ≤ 9223372036854775807) (hmost : d.many < 1000000 ∧ d.cache.length < 1000000) :
    Calls Try.prog 10 #[.pointer (some ⟨b, 0, none⟩), .int .i64 at_, .string s] w fun e w' => e = .returned (errV (d.write at_ s.data.toList).2) ∧ Two V w0 w' b g (d.write at_ s.data.toList).1 x :=
  (write_any _ b d at_ s w h.disk hfz (by omega)).mono fun e w' ⟨he, hd, hf⟩ => ⟨he, h.disked hd hf⟩
theorem two_sync (w : World) (d x : DSt) (h : Two V w0 w b g d x) (hmost : d.cache.length < 1000000) :
    Calls Try.prog 11 #[.pointer (some ⟨b, 0, none⟩)] w fun e w' => e = .returned (errV d.sync.2) ∧ Two V w0 w' b g d.sync.1 x :=
  (sync_any _ b d w h.disk (by omega)).mono fun e w' ⟨he, hd, hf⟩ => ⟨he, h.disked hd hf⟩
theorem two_read (w : World) (d x : DSt) (at_ : Int) (h : Two V w0 w b g d x) (hmost : d.cache.length < 1000000) :
    Calls Try.prog 13 #[.pointer (some ⟨b, 0, none⟩), .int .i64 at_] w fun e w' => e = .returned (.tuple #[.string ⟨(d.read at_).1.toArray⟩, errV (d.read at_).2]) ∧ Two V w0 w' b g d x :=
  (read_any _ b d at_ w h.disk (by omega)).mono fun e w' ⟨he, hf⟩ => ⟨he, h.quiet hf⟩
theorem two_fuse (w : World) (d x : DSt) (n : Int) (h : Two V w0 w b g d x) :
    Calls Try.prog 21 #[.pointer (some ⟨b, 0, none⟩), .int .i64 n] w fun e w' => e = .returned (.tuple #[]) ∧ Two V w0 w' b g { d with fuse := max n (-1) } x :=
  (fuse_any _ b d n w h.disk).mono fun e w' ⟨he, hd, hf⟩ => ⟨he, h.disked hd hf⟩
theorem two_crash (w : World) (d x : DSt) (ka : Option Addr) (kl kc : Nat) (keeps : List Int) (torn bytes : Int) (h : Two V w0 w b g d x) (hk : IntsAt w ka kl keeps (Up w0.heap.size)) (hmost : d.cache.length < 1000000) :
    Calls Try.prog 12 #[.pointer (some ⟨b, 0, none⟩), .slice ka kl kc, .int .i64 torn, .int .i64 bytes] w fun e w' => e = .returned (.tuple #[]) ∧ Two V w0 w' b g (d.crash keeps torn bytes) x ∧ IntsAt w' ka kl keeps (Up w0.heap.size) :=
  (crash_any _ b d ka kl kc keeps torn bytes w h.disk ⟨hk.1, hk.2.1, fun hn => by obtain ⟨ad, e, hc, hb⟩ := hk.2.2 hn; exact ⟨ad, e, hc, fun q => hb q.1⟩⟩ (by omega)).mono fun e w' ⟨he, hd, hf⟩ => ⟨he, h.disked hd hf, ints_to hk h.bel (h.disked hd hf).bel hf.size⟩
theorem two_writeR (w : World) (d x : DSt) (at_ : Int) (s : ByteArray) (h : Two V w0 w b g d x) (hfz : x.fuse ≤ 9223372036854775807 ∧ -1 ≤ x.fuse) (hmost : x.many < 1000000 ∧ x.cache.length < 1000000) :
    Calls Try.prog 19 #[.pointer (some ⟨g, 0, none⟩), .int .i64 at_, .string s] w fun e w' => e = .returned (.int .i64 ((x.write at_ s.data.toList).2 : Int)) ∧ Two V w0 w' b g d (x.write at_ s.data.toList).1 :=
  (ref_write w0 w g x at_ s h.ref h.bel hfz hmost).mono fun e w' ⟨he, hr, hb, hk⟩ => ⟨he, h.refed hr hb hk⟩
theorem two_syncR (w : World) (d x : DSt) (h : Two V w0 w b g d x) (hmost : x.cache.length < 1000000) :
    Calls Try.prog 20 #[.pointer (some ⟨g, 0, none⟩)] w fun e w' => e = .returned (.int .i64 (x.sync.2 : Int)) ∧ Two V w0 w' b g d x.sync.1 :=
  (ref_sync w0 w g x h.ref h.bel hmost).mono fun e w' ⟨he, hr, hb, hk⟩ => ⟨he, h.refed hr hb hk⟩
theorem two_readR (w : World) (d x : DSt) (n : Int) (h : Two V w0 w b g d x) (hmost : x.cache.length < 1000000) :
    Calls Try.prog 24 #[.pointer (some ⟨g, 0, none⟩), .int .i64 n] w fun e w' => e = .returned (.tuple #[.string ⟨(x.read n).1.toArray⟩, .int .i64 ((x.read n).2 : Int)]) ∧ Two V w0 w' b g d x :=
  (ref_read w0 w g x n h.ref hmost).mono fun e w' ⟨he, hw⟩ => ⟨he, by rw [hw]; exact h⟩
theorem two_fuseR (w : World) (d x : DSt) (n : Int) (h : Two V w0 w b g d x) :
    Calls Try.prog 22 #[.pointer (some ⟨g, 0, none⟩), .int .i64 n] w fun e w' => e = .returned (.tuple #[]) ∧ Two V w0 w' b g d { x with fuse := max n (-1) } :=
  (ref_fuse w0 w g x n h.ref h.bel).mono fun e w' ⟨he, hr, hb, hk⟩ => ⟨he, h.refed hr hb hk⟩
theorem two_crashR (w : World) (d x : DSt) (ka : Option Addr) (kl kc : Nat) (keeps : List Int) (torn bytes : Int) (h : Two V w0 w b g d x) (hk : IntsAt w ka kl keeps (Up w0.heap.size)) (hmost : x.cache.length < 1000000) :
    Calls Try.prog 23 #[.pointer (some ⟨g, 0, none⟩), .slice ka kl kc, .int .i64 torn, .int .i64 bytes] w fun e w' => e = .returned (.tuple #[]) ∧ Two V w0 w' b g d (x.crash keeps torn bytes) :=
  (ref_crash w0 w g x ka kl kc keeps torn bytes h.ref h.bel hk hmost).mono fun e w' ⟨he, hr, hb, hk⟩ => ⟨he, h.refed hr hb hk⟩
end
/-- Both made. -/
theorem two_new (w0 w1 w2 : World) (b g n : Nat) (h1 : Below w0.heap.size w0 w1) (hd : DiskAt w1 (gro (fun _ => False) w0 w1) b (DSt.init n)) (hr : RfAt w1 w2 g (DSt.init n)) (hb : Below w1.heap.size w1 w2) : Two (fun _ _ => False) w0 w2 b g (DSt.init n) (DSt.init n) := by
  have hd1 : DiskAt w1 (TyD w0 w1) b (DSt.init n) := hd.typed (fun k q => by rcases q with q | q; exact q.elim; exact q.1)
  refine ⟨hd1.kept (Keep.below hb), ?_, ⟨hb.os.trans h1.os, hb.tape.trans h1.tape, hb.output.trans h1.output, Nat.le_trans h1.size hb.size, fun k hk => (hb.block k (Nat.lt_of_lt_of_le hk h1.size)).trans (h1.block k hk)⟩, fun _ _ q => q.elim⟩
  obtain ⟨lv, cv, hg, hl, hc, hge, hok⟩ := hr
  exact ⟨lv, cv, hg, Kd.R_lower hl h1.size, Kd.R_lower hc h1.size, Nat.le_trans h1.size hge, hok⟩

/-! ### A deed -/
abbrev DeedT := Int × Int × Int × Int × ByteArray × List Int
def kDeed : Kd DeedT := Kd.iso (Kd.pair (Kd.int .i64) (Kd.pair (Kd.int .i64) (Kd.pair (Kd.int .i64) (Kd.pair (Kd.int .i64) (Kd.pair Kd.string (Kd.slice 3 (Kd.int .i64))))))) id
theorem kDeed_open {w : World} {u : DeedT} {cs : List Value} (h : kDeed.K w u cs) : ∃ ka kc, cs = [.int .i64 u.1, .int .i64 u.2.1, .int .i64 u.2.2.1, .int .i64 u.2.2.2.1, .string u.2.2.2.2.1, .slice ka u.2.2.2.2.2.length kc] ∧ Kd.C (Kd.int .i64) w ka u.2.2.2.2.2.length u.2.2.2.2.2 := by
  obtain ⟨c0, r0, rfl, h0, c1, r1, rfl, h1, c2, r2, rfl, h2, c3, r3, rfl, h3, c4, r4, rfl, h4, A, c, rfl, _, hr⟩ := h
  have e0 : c0 = [.int .i64 u.1] := h0
  have e1 : c1 = [.int .i64 u.2.1] := h1
  have e2 : c2 = [.int .i64 u.2.2.1] := h2
  have e3 : c3 = [.int .i64 u.2.2.2.1] := h3
  have e4 : c4 = [.string u.2.2.2.2.1] := h4
  subst e0 e1 e2 e3 e4
  exact ⟨A, c, rfl, hr⟩
theorem ints_of {w0 : World} {A : Option Addr} {n : Nat} {xs : List Int} (h : Kd.C (Kd.int .i64) w0 A n xs) : IntsAt w0 A n xs (Up w0.heap.size) := by
  refine ⟨h.1, h.2.1, fun hn => ?_⟩
  obtain ⟨ad, e, hc⟩ := h.2.2 hn
  have hcell : ∀ j, j < n → w0.cell? (ad.add j) = some (.int .i64 (xs.getD j 0)) := by
    intro j hj
    have hl : j < xs.length := by rw [h.1]; exact hj
    obtain ⟨c, hs, hr, hx⟩ := hc j _ (List.getElem?_eq_getElem hl)
    have hr' : c = [.int .i64 xs[j]] := hr
    subst hr'
    have := hx 0 _ rfl
    rw [show (Kd.int .i64).sz = 1 from rfl, Nat.mul_one, Nat.add_zero] at this
    rw [this]
    simp [List.getD, hl]
  refine ⟨ad, e, hcell, fun q => ?_⟩
  have := World.block_lt_of_cell? _ _ (hcell 0 hn)
  rw [add_block] at this
  have q' : w0.heap.size ≤ ad.block := q
  omega
theorem below_cell {w0 w : World} (h : Below w0.heap.size w0 w) {p : Addr} {v : Value} (hc : w0.cell? p = some v) : w.cell? p = some v :=
  (World.cell?_of_block (h.block p.block (World.block_lt_of_cell? _ _ hc))).trans hc
theorem deed_at {w0 wr : World} {A : Option Addr} {n : Nat} {xs : List DeedT} (h : Kd.C kDeed w0 A n xs) (hB : Below w0.heap.size w0 wr) (i : Nat) (u : DeedT) (hu : xs[i]? = some u) :
    ∃ ad ka kc, A = some ad ∧ wr.cell? (ad.add (i * 6)) = some (.int .i64 u.1) ∧ wr.cell? ⟨(ad.add (i * 6)).block, (ad.add (i * 6)).off + 1, none⟩ = some (.int .i64 u.2.1) ∧ wr.cell? ⟨(ad.add (i * 6)).block, (ad.add (i * 6)).off + 2, none⟩ = some (.int .i64 u.2.2.1) ∧ wr.cell? ⟨(ad.add (i * 6)).block, (ad.add (i * 6)).off + 3, none⟩ = some (.int .i64 u.2.2.2.1) ∧ wr.cell? ⟨(ad.add (i * 6)).block, (ad.add (i * 6)).off + 4, none⟩ = some (.string u.2.2.2.2.1) ∧ wr.cell? ⟨(ad.add (i * 6)).block, (ad.add (i * 6)).off + 5, none⟩ = some (.slice ka u.2.2.2.2.2.length kc) ∧ IntsAt wr ka u.2.2.2.2.2.length u.2.2.2.2.2 (Up w0.heap.size) := by
  have hi : i < n := by rw [← h.1]; exact (List.getElem?_eq_some_iff.1 hu).1
  obtain ⟨ad, e, hc⟩ := h.2.2 (by omega)
  obtain ⟨c, hs, hr, hx⟩ := hc i _ hu
  obtain ⟨ka, kc, rfl, hC⟩ := kDeed_open hr
  have hx' : ∀ j v, _ → w0.cell? (ad.add (i * 6 + j)) = some v := hx
  refine ⟨ad, ka, kc, e, ?_, ?_, ?_, ?_, ?_, ?_, ints_to (ints_of hC) (Below.refl _ _) hB hB.size⟩
  · exact below_cell hB (hx' 0 _ rfl)
  · rw [← add_field _ _ 1 (by omega)]; exact below_cell hB (hx' 1 _ rfl)
  · rw [← add_field _ _ 2 (by omega)]; exact below_cell hB (hx' 2 _ rfl)
  · rw [← add_field _ _ 3 (by omega)]; exact below_cell hB (hx' 3 _ rfl)
  · rw [← add_field _ _ 4 (by omega)]; exact below_cell hB (hx' 4 _ rfl)
  · rw [← add_field _ _ 5 (by omega)]; exact below_cell hB (hx' 5 _ rfl)
end Go.Proofs.Ytfhfnnpadfibkaa
