/-
  A disk beside other own blocks X; what its calls leave alone.
-/
import Derived.Test.YtfhfnnpadfibkaaLawC
set_option linter.unusedVariables false
set_option linter.unusedSimpArgs false
namespace Go.Proofs.Ytfhfnnpadfibkaa
open Go.RowKit

def FrN (w w' : World) : Prop := Fr (fun _ => False) w w'
theorem FrN.step {a b c : World} (h : FrN a b) (k : Fr (fun _ => False) b c) : FrN a c := Fr.trans' h k
theorem FrN.drw {a b : World} (h : FrN a b) (n : Nat) : FrN a (b.drewN n) := h.drewN n
theorem FrN.drw1 {a b : World} (h : FrN a b) : FrN a b.drew := h.drew

def NotX (w0 : World) (X : Nat → Prop) : Nat → Prop := fun k => w0.heap.size ≤ k ∧ ¬ X k
structure DkX (w0 w : World) (X : Nat → Prop) (b : Nat) (d : DSt) : Prop where
  disk : ∃ F, DiskAt w F b d ∧ ∀ k, F k → w0.heap.size ≤ k ∧ k < w.heap.size ∧ ¬ X k
  fr : Fr (Up w0.heap.size) w0 w
theorem DiskAt.bounded {w : World} {F : Nat → Prop} {b : Nat} {d : DSt} (h : DiskAt w F b d) : DiskAt w (fun k => F k ∧ k < w.heap.size) b d := by
  obtain ⟨bl, cv, h0, h1, h2, h3, h4, h5, h6⟩ := h
  exact ⟨bl, cv, h0, h1, h2, h3, ⟨h4, lt_heap h0⟩, ⟨h5, lt_heap h1⟩, fun k hk => ⟨h6 k hk, own_lt' h2 k hk⟩⟩
theorem Dk.toX {w0 w : World} {b : Nat} {d : DSt} (h : Dk w0 w b d) {X : Nat → Prop} (hX : ∀ k, X k → w.heap.size ≤ k) : DkX w0 w X b d :=
  ⟨⟨_, h.disk.bounded, fun k q => ⟨q.1, q.2, fun x => by have := hX k x; have := q.2; omega⟩⟩, h.fr⟩
theorem DkX.of {w0 w w' : World} {X F : Nat → Prop} {b : Nat} {d d' : DSt} (h : DkX w0 w X b d) (hF : ∀ k, F k → w0.heap.size ≤ k ∧ k < w.heap.size ∧ ¬ X k) (hX : ∀ k, X k → k < w.heap.size) (hd : DiskAt w' (gro F w w') b d') (hf : Fr F w w') : DkX w0 w' X b d' ∧ Fr (NotX w0 X) w w' :=
  ⟨⟨⟨_, hd, fun k q => by
    rcases q with q | q
    · exact ⟨(hF k q).1, Nat.lt_of_lt_of_le (hF k q).2.1 hf.size, (hF k q).2.2⟩
    · exact ⟨Nat.le_trans h.fr.size q.1, q.2, fun x => by have := hX k x; have := q.1; omega⟩⟩, h.fr.trans' (hf.mono fun k q => (hF k q).1)⟩, hf.mono fun k q => ⟨(hF k q).1, (hF k q).2.2⟩⟩
theorem DkX.aside {w0 w w' : World} {S X X' : Nat → Prop} {b : Nat} {d : DSt} (h : DkX w0 w X b d) (hf : Fr S w w') (hS : ∀ k, S k → X k ∧ w0.heap.size ≤ k) (hX : ∀ k, X' k → X k ∨ w.heap.size ≤ k) : DkX w0 w' X' b d := by
  obtain ⟨F, hd, hF⟩ := h.disk
  refine ⟨⟨F, hd.keep hf fun k q s => (hF k q).2.2 (hS k s).1, fun k q => ⟨(hF k q).1, Nat.lt_of_lt_of_le (hF k q).2.1 hf.size, fun x => ?_⟩⟩, h.fr.trans' (hf.mono fun k q => (hS k q).2)⟩
  rcases hX k x with y | y
  · exact (hF k q).2.2 y
  · have := (hF k q).2.1; omega
theorem DkX.still {w0 w w' : World} {X : Nat → Prop} {b : Nat} {d : DSt} (h : DkX w0 w X b d) (hf : Fr (fun _ => False) w w') : DkX w0 w' X b d :=
  h.aside hf (fun _ q => q.elim) (fun _ x => Or.inl x)

theorem write_dx (w0 w : World) (X : Nat → Prop) (b : Nat) (d : DSt) (at_ : Int) (s : ByteArray) (h : DkX w0 w X b d) (hX : ∀ k, X k → k < w.heap.size) (hfz : d.fuse ≤ 9223372036854775807) (hmost : d.many < 1000000000 ∧ d.cache.length < 1000000000) :
    Calls Try.prog 10 #[.pointer (some ⟨b, 0, none⟩), .int .i64 at_, .string s] w fun e w' => e = .returned (errV (d.write at_ s.data.toList).2) ∧ DkX w0 w' X b (d.write at_ s.data.toList).1 ∧ Fr (NotX w0 X) w w' := by
  obtain ⟨F, hd, hF⟩ := h.disk
  exact (write_any F b d at_ s w hd hfz hmost).mono fun e w' ⟨he, hd, hf⟩ => ⟨he, h.of hF hX hd hf⟩
theorem sync_dx (w0 w : World) (X : Nat → Prop) (b : Nat) (d : DSt) (h : DkX w0 w X b d) (hX : ∀ k, X k → k < w.heap.size) (hmost : d.cache.length < 1000000000) :
    Calls Try.prog 11 #[.pointer (some ⟨b, 0, none⟩)] w fun e w' => e = .returned (errV d.sync.2) ∧ DkX w0 w' X b d.sync.1 ∧ Fr (NotX w0 X) w w' := by
  obtain ⟨F, hd, hF⟩ := h.disk
  exact (sync_any F b d w hd hmost).mono fun e w' ⟨he, hd, hf⟩ => ⟨he, h.of hF hX hd hf⟩
theorem read_dx (w0 w : World) (X : Nat → Prop) (b : Nat) (d : DSt) (at_ : Int) (h : DkX w0 w X b d) (hmost : d.cache.length < 1000000000) :
    Calls Try.prog 13 #[.pointer (some ⟨b, 0, none⟩), .int .i64 at_] w fun e w' => e = .returned (.tuple #[.string ⟨(d.read at_).1.toArray⟩, errV (d.read at_).2]) ∧ DkX w0 w' X b d ∧ FrN w w' := by
  obtain ⟨F, hd, hF⟩ := h.disk
  exact (read_any F b d at_ w hd hmost).mono fun e w' ⟨he, hf⟩ => ⟨he, h.still hf, hf⟩
theorem fuse_dx (w0 w : World) (X : Nat → Prop) (b : Nat) (d : DSt) (n : Int) (h : DkX w0 w X b d) (hX : ∀ k, X k → k < w.heap.size) :
    Calls Try.prog 21 #[.pointer (some ⟨b, 0, none⟩), .int .i64 n] w fun e w' => e = .returned (.tuple #[]) ∧ DkX w0 w' X b { d with fuse := max n (-1) } ∧ Fr (NotX w0 X) w w' := by
  obtain ⟨F, hd, hF⟩ := h.disk
  exact (fuse_any F b d n w hd).mono fun e w' ⟨he, hd, hf⟩ => ⟨he, h.of hF hX hd hf⟩
theorem IntsAt.less {w : World} {A : Option Addr} {n : Nat} {xs : List Int} {F G : Nat → Prop} (h : IntsAt w A n xs F) (hs : ∀ k, G k → F k) : IntsAt w A n xs G :=
  ⟨h.1, h.2.1, fun hp => by obtain ⟨ad, e, hc, hb⟩ := h.2.2 hp; exact ⟨ad, e, hc, fun q => hb (hs _ q)⟩⟩
theorem crash_dx (w0 w : World) (X : Nat → Prop) (b : Nat) (d : DSt) (ka : Option Addr) (kl kc : Nat) (keeps : List Int) (torn bytes : Int) (h : DkX w0 w X b d) (hX : ∀ k, X k → k < w.heap.size) (hk : IntsAt w ka kl keeps (Up w0.heap.size)) (hmost : d.cache.length < 1000000000) :
    Calls Try.prog 12 #[.pointer (some ⟨b, 0, none⟩), .slice ka kl kc, .int .i64 torn, .int .i64 bytes] w fun e w' => e = .returned (.tuple #[]) ∧ DkX w0 w' X b (d.crash keeps torn bytes) ∧ Fr (NotX w0 X) w w' := by
  obtain ⟨F, hd, hF⟩ := h.disk
  exact (crash_any F b d ka kl kc keeps torn bytes w hd (hk.less fun k q => (hF k q).1) hmost).mono fun e w' ⟨he, hd, hf⟩ => ⟨he, h.of hF hX hd hf⟩
end Go.Proofs.Ytfhfnnpadfibkaa
