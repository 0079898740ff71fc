/-
  The disk: its state as plain data, how it lies in memory.
-/
import Derived.Test.YtfhfnnpadfibkaaOps
import Derived.Test.YtfhfnnpadfibkaaProg
set_option linter.unusedVariables false
set_option linter.unusedSimpArgs false
namespace Go.Proofs.Ytfhfnnpadfibkaa
open Go.RowKit

theorem loadA_sec (p : Value) : Instr.loadAt 63 p = LoadA 63 p := rfl
theorem loadA_wr (p : Value) : Instr.loadAt 65 p = LoadA 65 p := rfl
theorem storeA_sec (p v : Value) : Instr.storeAt 63 p v = StoreA 63 p v := rfl
theorem storeA_wr (p v : Value) : Instr.storeAt 65 p v = StoreA 65 p v := rfl
theorem buildS_wr (n : Nat) (parts : Array (Nat × Value)) : Instr.buildSlice 58 n parts = BuildS 58 n parts := rfl

def byteV (x : UInt8) : Value := .int .u8 (x.toNat : Int)
def secV (s : List UInt8) : List Value := s.map byteV

structure DSt where
  lasts : List (List UInt8)
  cache : List (Nat × List UInt8)
  fuse : Int
  down : Bool
  many : Nat

def DSt.lastCells (d : DSt) : List Value := (d.lasts.map secV).flatten
def wrV (p : Nat × List UInt8) : List Value := .int .i64 (p.1 : Int) :: secV p.2
def DSt.cacheCells (d : DSt) : List Value := (d.cache.map wrV).flatten

structure DSt.Ok (d : DSt) : Prop where
  one : 1 ≤ d.lasts.length
  most : d.lasts.length ≤ 4000
  secs : ∀ s ∈ d.lasts, s.length = 64
  wrs : ∀ p ∈ d.cache, p.1 < d.lasts.length ∧ p.2.length = 64

/-- The disk behind ⟨b, 0⟩ is d; its blocks are among F. -/
def DiskAt (w : World) (F : Nat → Prop) (b : Nat) (d : DSt) : Prop :=
  ∃ bl cv, w.heap[b]? = some (.cells #[.slice (some ⟨bl, 0, none⟩) d.lasts.length d.lasts.length, cv, .int .i64 d.fuse, .bool d.down, .int .i64 (d.many : Int)] 60 (0, 0)) ∧
    w.heap[bl]? = some (.cells d.lastCells.toArray 63 (0, 0)) ∧
    w.ownsRow 0 65 65 cv d.cache.length d.cacheCells ∧ d.Ok ∧ F b ∧ F bl ∧ (∀ k, cv.ownBlock = some k → F k)

def errV (n : Nat) : Value := if n = 0 then .nilIface else .iface 56 (.int .i64 (n : Int))

def DSt.fault (d : DSt) (at_ : Int) : Nat := if d.down then 6 else if at_ < 0 ∨ (d.lasts.length : Int) ≤ at_ then 1 else 0

set_option maxHeartbeats 400000 in
theorem fault_any (F : Nat → Prop) (b : Nat) (d : DSt) (at_ : Int) (w : World) (h : DiskAt w F b d) :
    Calls Try.prog 27 #[.pointer (some ⟨b, 0, none⟩), .int .i64 at_] w fun e w' => e = .returned (errV (d.fault at_)) ∧ w' = w := by
  obtain ⟨bl, cv, h0, h1, h2, h3, h4, h5, h6⟩ := h
  have c0 : w.cell? ⟨b, 0, none⟩ = some (.slice (some ⟨bl, 0, none⟩) d.lasts.length d.lasts.length) := by simp [World.cell?, h0]
  have c3 : w.cell? ⟨b, 3, none⟩ = some (.bool d.down) := by simp [World.cell?, h0]
  have hm := h3.most
  clear h0 h1 h2 h3 h4 h5 h6
  go_enter Try.func27, Try.ntmps27
  go_wp2
  all_goals
    go_ret
    refine ⟨?_, rfl⟩
    unfold errV DSt.fault
    simp_all
  all_goals omega

def DSt.init (n : Nat) : DSt := ⟨List.replicate n (List.replicate 64 0), [], -1, false, 0⟩
def newB (n : Int) : Bool := decide (1 ≤ n ∧ n ≤ 4000)

/-- A slice of k zero sectors. -/
theorem new_no (n : Int) (w : World) (h : n < 1 ∨ 4000 < n) :
    Calls Try.prog 9 #[.int .i64 n] w fun e w' => e = .returned (.tuple #[.pointer none, errV 1]) ∧ w' = w := by
  go_enter Try.func9, Try.ntmps9
  go_wp2
  all_goals
    go_ret2
    exact ⟨rfl, rfl⟩

theorem Try.infoSec : (Try.prog.info? 63).map (fun i => (i.zero, i.size, i.bytes)) = some (some (.agg (Array.replicate 64 (.int .u8 0))), 64, 64) := by kernel_rfl
theorem Try.infoWr : (Try.prog.info? 65).map (fun i => (i.zero, i.size, i.bytes)) = some (some (.agg (#[.int .i64 0] ++ Array.replicate 64 (.int .u8 0))), 65, 72) := by kernel_rfl

theorem lastCells_init (n : Nat) : (DSt.init n).lastCells = List.replicate (n * 64) (.int .u8 0) := by
  have e : ∀ k, secV (List.replicate k 0) = List.replicate k (.int .u8 0) := fun k => by simp only [secV, List.map_replicate]; rfl
  simp only [DSt.lastCells, DSt.init, List.map_replicate, e]
  rw [List.flatten_replicate_replicate]

theorem new_yes (n : Nat) (w : World) (h0 : 1 ≤ n) (h1 : n ≤ 4000) :
    Calls Try.prog 9 #[.int .i64 n] w fun e w' => ∃ b, e = .returned (.tuple #[.pointer (some ⟨b, 0, none⟩), errV 0]) ∧ DiskAt w' (gro (fun _ => False) w w') b (DSt.init n) ∧ Fr (fun _ => False) w w' := by
  have hmk := run_make_many (P := Try.prog) 57 63 (.int .u8 0) 64 64 Try.underlying57 Try.infoSec (by omega) n (by omega) (by omega)
  go_enter Try.func9, Try.ntmps9
  go_wp2
  go_ret2
  refine ⟨w.heap.size + 1, rfl, ⟨w.heap.size, .slice none 0 0, ?_, ?_, World.ownsRow_nil _ _ _ _, ?_, ?_, ?_, ?_⟩, ?_⟩
  · rw [heap_alloc2_new]
    simp [DSt.init]
  · rw [heap_alloc2_old, lastCells_init]
    simp
  · refine ⟨by simp [DSt.init]; omega, by simp [DSt.init]; omega, fun s hs => ?_, by simp [DSt.init]⟩
    simp only [DSt.init, List.mem_replicate] at hs
    rw [hs.2, List.length_replicate]
  · right; simp
  · right; simp; omega
  · intro k hk; simp [Value.ownBlock] at hk
  · exact ((Fr.refl _ _).alloc _).alloc _

theorem size_any (F : Nat → Prop) (b : Nat) (d : DSt) (w : World) (h : DiskAt w F b d) :
    Calls Try.prog 18 #[.pointer (some ⟨b, 0, none⟩)] w fun e w' => e = .returned (.int .i64 d.lasts.length) ∧ w' = w := by
  obtain ⟨bl, cv, h0, h1, h2, h3, h4, h5, h6⟩ := h
  have c0 : w.cell? ⟨b, 0, none⟩ = some (.slice (some ⟨bl, 0, none⟩) d.lasts.length d.lasts.length) := by simp [World.cell?, h0]
  have hm := h3.most
  clear h0 h1 h2 h3 h4 h5 h6
  go_enter Try.func18, Try.ntmps18
  go_wp2
  go_ret
  exact ⟨rfl, rfl⟩

theorem down_any (F : Nat → Prop) (b : Nat) (d : DSt) (w : World) (h : DiskAt w F b d) :
    Calls Try.prog 25 #[.pointer (some ⟨b, 0, none⟩)] w fun e w' => e = .returned (.bool d.down) ∧ w' = w := by
  obtain ⟨bl, cv, h0, h1, h2, h3, h4, h5, h6⟩ := h
  have c3 : w.cell? ⟨b, 3, none⟩ = some (.bool d.down) := by simp [World.cell?, h0]
  clear h0 h1 h2 h3 h4 h5 h6
  go_enter Try.func25, Try.ntmps25
  go_wp2
  go_ret
  exact ⟨rfl, rfl⟩

theorem writes_any (F : Nat → Prop) (b : Nat) (d : DSt) (w : World) (h : DiskAt w F b d) :
    Calls Try.prog 26 #[.pointer (some ⟨b, 0, none⟩)] w fun e w' => e = .returned (.int .i64 d.many) ∧ w' = w := by
  obtain ⟨bl, cv, h0, h1, h2, h3, h4, h5, h6⟩ := h
  have c3 : w.cell? ⟨b, 4, none⟩ = some (.int .i64 d.many) := by simp [World.cell?, h0]
  clear h0 h1 h2 h3 h4 h5 h6
  go_enter Try.func26, Try.ntmps26
  go_wp2
  go_ret
  exact ⟨rfl, rfl⟩

theorem DiskAt.mono {w : World} {F G : Nat → Prop} {b : Nat} {d : DSt} (h : DiskAt w F b d) (hs : ∀ k, F k → G k) : DiskAt w G b d := by
  obtain ⟨bl, cv, h0, h1, h2, h3, h4, h5, h6⟩ := h
  exact ⟨bl, cv, h0, h1, h2, h3, hs _ h4, hs _ h5, fun k hk => hs _ (h6 k hk)⟩
theorem DiskAt.keep {w w' : World} {F S : Nat → Prop} {b : Nat} {d : DSt} (h : DiskAt w F b d) (hfr : Fr S w w') (hd : ∀ k, F k → ¬ S k) : DiskAt w' F b d := by
  obtain ⟨bl, cv, h0, h1, h2, h3, h4, h5, h6⟩ := h
  exact ⟨bl, cv, hfr.at h0 (hd _ h4), hfr.at h1 (hd _ h5), hfr.row h2 fun k hk => hd _ (h6 k hk), h3, h4, h5, h6⟩

/-- A store into the disk's own first block. -/
theorem DiskAt.put {w : World} {F : Nat → Prop} {b : Nat} {d : DSt} (h : DiskAt w F b d) (fu : Int) : DiskAt (w.setCell ⟨b, 2, none⟩ (.int .i64 fu)) F b { d with fuse := fu } := by
  obtain ⟨bl, cv, h0, h1, h2, h3, h4, h5, h6⟩ := h
  have hne : bl ≠ b := by rintro rfl; rw [h0] at h1; simp at h1
  have hfr : Fr (fun k => k = b) w (w.setCell ⟨b, 2, none⟩ (.int .i64 fu)) := Fr.setCell (S := fun k => k = b) (Fr.refl _ _) (p := ⟨b, 2, none⟩) (Or.inl rfl) _
  refine ⟨bl, cv, ?_, hfr.at h1 hne, hfr.row h2 ?_, ⟨h3.one, h3.most, h3.secs, h3.wrs⟩, h4, h5, h6⟩
  · rw [heap_setCell_same _ _ _ _ _ _ h0]; rfl
  · rintro k hk rfl
    rcases h2.2 with ⟨rfl, _⟩ | ⟨g, cap, cur, rfl, _, hg, _⟩
    · simp [Value.ownBlock] at hk
    · simp [Value.ownBlock] at hk
      subst hk
      rw [h0] at hg; simp at hg

theorem DiskAt.down {w : World} {F : Nat → Prop} {b : Nat} {d : DSt} (h : DiskAt w F b d) : DiskAt (w.setCell ⟨b, 3, none⟩ (.bool true)) F b { d with down := true } := by
  obtain ⟨bl, cv, h0, h1, h2, h3, h4, h5, h6⟩ := h
  have hne : bl ≠ b := by rintro rfl; rw [h0] at h1; simp at h1
  have hfr : Fr (only b) w (w.setCell ⟨b, 3, none⟩ (.bool true)) := Fr.setCell_only _ ⟨b, 3, none⟩ _
  refine ⟨bl, cv, ?_, hfr.at_only h1 hne, hfr.row h2 (fun k hk => own_ne h2 h0 (by decide) k hk), ⟨h3.one, h3.most, h3.secs, h3.wrs⟩, h4, h5, h6⟩
  rw [heap_setCell_same _ _ _ _ _ _ h0]; rfl

theorem fuse_any (F : Nat → Prop) (b : Nat) (d : DSt) (n : Int) (w : World) (h : DiskAt w F b d) :
    Calls Try.prog 21 #[.pointer (some ⟨b, 0, none⟩), .int .i64 n] w fun e w' => e = .returned (.tuple #[]) ∧ DiskAt w' (gro F w w') b { d with fuse := max n (-1) } ∧ Fr F w w' := by
  have h' := h.put (max n (-1))
  obtain ⟨bl, cv, h0, h1, h2, h3, h4, h5, h6⟩ := h
  have c2 : w.cell? ⟨b, 2, none⟩ = some (.int .i64 d.fuse) := by simp [World.cell?, h0]
  have f2 : w.frozen? ⟨b, 2, none⟩ = false := by simp [World.frozen?, h0]
  clear h0 h1 h2 h3 h5 h6
  go_enter Try.func21, Try.ntmps21
  go_wp2
  · go_end0
    rw [show max n (-1) = -1 by omega] at h' ⊢
    exact ⟨rfl, h'.mono fun k q => Or.inl q, (Fr.refl _ _).setCell (Or.inl h4) _⟩
  · go_end0
    rw [show max n (-1) = n by omega] at h' ⊢
    exact ⟨rfl, h'.mono fun k q => Or.inl q, (Fr.refl _ _).setCell (Or.inl h4) _⟩

def pad (s : List UInt8) : List UInt8 := s ++ List.replicate (64 - s.length) 0

def DSt.write (d : DSt) (at_ : Int) (s : List UInt8) : DSt × Nat :=
  if d.fault at_ ≠ 0 then (d, d.fault at_) else if 64 < s.length then (d, 5) else if d.fuse = 0 then ({ d with down := true }, 6)
  else ({ d with fuse := if 0 < d.fuse then d.fuse - 1 else d.fuse, cache := d.cache ++ [(at_.toNat, pad s)], many := d.many + 1 }, 0)

theorem errV_ne {n : Nat} (h : n ≠ 0) : errV n = .iface 56 (.int .i64 (n : Int)) := by simp [errV, h]

/-- The way on which something is refused ahead of the fuse. -/
theorem write_no (F : Nat → Prop) (b : Nat) (d : DSt) (at_ : Int) (s : ByteArray) (w : World) (h : DiskAt w F b d) (hn : d.fault at_ ≠ 0 ∨ 64 < s.size) :
    Calls Try.prog 10 #[.pointer (some ⟨b, 0, none⟩), .int .i64 at_, .string s] w fun e w' => e = .returned (errV (d.write at_ s.data.toList).2) ∧ w' = w := by
  go_enter Try.func10, Try.ntmps10
  by_cases hf : d.fault at_ = 0
  · have hl : 64 < s.size := by rcases hn with q | q; exact absurd hf q; exact q
    have hfin : errV (d.write at_ s.data.toList).2 = errV 5 := by simp [DSt.write, hf, hl]
    have HF := Lib.hid hfin; clear hfin
    have HC : Hid (Calls Try.prog 27 #[.pointer (some ⟨b, 0, none⟩), .int .i64 at_] w fun e w' => e = .returned .nilIface ∧ w' = w) :=
      (fault_any F b d at_ w h).mono fun e w' ⟨he, hw⟩ => ⟨by rw [he, hf]; rfl, hw⟩
    clear hf hn h
    go_wp2_with (go_at_call 27; refine HC.out.mono ?_; rintro e w' ⟨rfl, rfl⟩)
    go_ret
    exact ⟨by rw [HF.out]; rfl, rfl⟩
  · have hfin : errV (d.write at_ s.data.toList).2 = errV (d.fault at_) := by simp [DSt.write, hf]
    have he := errV_ne hf
    have hca := fault_any F b d at_ w h
    generalize d.fault at_ = n at *
    have HF := Lib.hid hfin; clear hfin
    have HC : Hid (Calls Try.prog 27 #[.pointer (some ⟨b, 0, none⟩), .int .i64 at_] w fun e w' => e = .returned (errV n) ∧ w' = w) := hca
    rw [he] at HC HF
    clear hf hn h he hca
    go_wp2_with (go_at_call 27; refine HC.out.mono ?_; rintro e w' ⟨rfl, rfl⟩)
    go_ret
    exact ⟨by rw [HF.out]; rfl, rfl⟩

theorem write_dead (F : Nat → Prop) (b : Nat) (d : DSt) (at_ : Int) (s : ByteArray) (w : World) (h : DiskAt w F b d) (hf : d.fault at_ = 0) (hs : s.size ≤ 64) (h0 : d.fuse = 0) :
    Calls Try.prog 10 #[.pointer (some ⟨b, 0, none⟩), .int .i64 at_, .string s] w fun e w' => e = .returned (errV 6) ∧ w' = w.setCell ⟨b, 3, none⟩ (.bool true) := by
  have HC : Hid (Calls Try.prog 27 #[.pointer (some ⟨b, 0, none⟩), .int .i64 at_] w fun e w' => e = .returned .nilIface ∧ w' = w) :=
      (fault_any F b d at_ w h).mono fun e w' ⟨he, hw⟩ => ⟨by rw [he, hf]; rfl, hw⟩
  obtain ⟨bl, cv, g0, h1, h2, h3, h4, h5, h6⟩ := h
  rw [h0] at g0
  have c2 : w.cell? ⟨b, 2, none⟩ = some (.int .i64 0) := by simp [World.cell?, g0]
  have c3 : w.cell? ⟨b, 3, none⟩ = some (.bool d.down) := by simp [World.cell?, g0]
  have f3 : w.frozen? ⟨b, 3, none⟩ = false := by simp [World.frozen?, g0]
  clear g0 h1 h2 h3 h5 h6 hf h0
  go_enter Try.func10, Try.ntmps10
  go_wp2_with (go_at_call 27; refine HC.out.mono ?_; rintro e w' ⟨rfl, rfl⟩)
  go_ret
  exact ⟨rfl, rfl⟩

/-- A fresh 'write': its number, and a sector of bytes 0. -/
def wr0 (v : Int) : List Value := .int .i64 v :: List.replicate 64 (.int .u8 0)
theorem run_wr0 (v : Int) (w : World) : (Instr.build 65 #[(0, .int .i64 v)]).run Try.prog w = .ok (.agg (wr0 v).toArray) w := by kernel_rfl

theorem zeroWr : ∀ w, (zeroValue 65).run Try.prog w = .ok (.agg (wr0 0).toArray) w :=
  (zero_of_info (n := 65) (by kernel_rfl)).1
theorem Try.sizeWr : (Try.prog.info? 65).map (·.size) = some 65 := by kernel_rfl
theorem Try.infoWr1 : (Try.prog.info? 65).map (fun i => (i.zero.map (·.cells.size), i.size)) = some (some 65, 65) := by kernel_rfl

theorem wr0_length (v : Int) : (wr0 v).length = 65 := rfl
theorem wr0_one (v : Int) : ∀ x ∈ wr0 v, x.oneCell' = true := by
  intro x hx
  simp only [wr0, List.mem_cons, List.mem_replicate] at hx
  rcases hx with rfl | ⟨_, rfl⟩ <;> rfl

theorem Try.size5 : (Try.prog.info? 5).map (·.size) = some 1 := by kernel_rfl

theorem splice_wr (at_ : Nat) (s : List UInt8) : splice (splice (wr0 0) 0 (wr0 at_)) 1 (s.map byteV) = wrV (at_, pad s) := by
  have e1 : splice (wr0 0) 0 (wr0 at_) = wr0 at_ := by simp [splice, wr0]
  rw [e1]
  simp only [splice, wr0, wrV, pad, secV, List.take_succ_cons, List.take_zero, List.length_map, List.map_append, List.map_replicate, List.cons_append, List.nil_append]
  congr 2
  rw [Nat.add_comm 1, List.drop_succ_cons, List.drop_replicate]
  rfl

theorem secV_length (s : List UInt8) : (secV s).length = s.length := by simp [secV]
theorem pad_length (s : List UInt8) (hs : s.length ≤ 64) : (pad s).length = 64 := by simp [pad]; omega

/-- What a write leaves. -/
theorem write_close (F : Nat → Prop) (b bl : Nat) (cv : Value) (d : DSt) (at_ : Nat) (p : List UInt8) (fu : Int) (w w3 w4 : World) (o : Obj) (g cap : Nat)
    (h0 : ∃ cs t fr, w.heap[b]? = some (.cells cs t fr) ∧ t = 60) (h1 : w.heap[bl]? = some (.cells d.lastCells.toArray 63 (0, 0))) (h2 : w.ownsRow 0 65 65 cv d.cache.length d.cacheCells) (h3 : d.Ok) (h4 : F b) (h5 : F bl) (h6 : ∀ k, cv.ownBlock = some k → F k)
    (hat : at_ < d.lasts.length) (hp : p.length = 64) (hfr : Fr (only b) w w3) (hgr : (w3.alloc o).drew.grownBy w4 cv.ownBlock)
    (G4 : w4.heap[b]? = some (.cells #[.slice (some ⟨bl, 0, none⟩) d.lasts.length d.lasts.length, cv, .int .i64 fu, .bool d.down, .int .i64 (d.many : Int)] 60 (0, 0)))
    (HO : w4.ownsRow 0 65 65 (.slice (some ⟨g, 0, none⟩) (d.cache.length + 1) cap) (d.cache.length + 1) (d.cacheCells ++ wrV (at_, p))) (HA : cv.ownBlock = some g ∨ g = (w3.alloc o).drew.heap.size) (hg : g < w4.heap.size)
    (w5 w6 : World) (e5 : w5 = w4.setCell ⟨b, 1, none⟩ (.slice (some ⟨g, 0, none⟩) (d.cache.length + 1) cap)) (e6 : w6 = w5.setCell ⟨b, 4, none⟩ (.int .i64 ((d.many : Int) + 1))) :
    DiskAt w6 (gro F w w6) b { d with fuse := fu, cache := d.cache ++ [(at_, p)], many := d.many + 1 } ∧ Fr F w w6 := by
  obtain ⟨cs, t, fr, g0, rfl⟩ := h0
  have hne : bl ≠ b := by rintro rfl; rw [g0] at h1; simp at h1
  have hbl3 : w3.heap[bl]? = some (.cells d.lastCells.toArray 63 (0, 0)) := hfr.at_only h1 hne
  have hbl4 : w4.heap[bl]? = some (.cells d.lastCells.toArray 63 (0, 0)) := by
    refine grown_at hgr ?_ (own_ne h2 h1 (by decide))
    show (w3.alloc o).heap[bl]? = _
    rw [Below.heap_alloc _ _ _ (lt_heap hbl3)]
    exact hbl3
  have hgb : g ≠ b := own_ne HO G4 (by decide) g rfl
  have hf4 : Fr F w w4 := by
    refine Fr.grown (S := F) (a := w) (w := (w3.alloc o).drew) ?_ hgr (fun k hk => Or.inl (h6 k hk))
    exact ((hfr.mono (fun k q => by cases q; exact h4)).alloc o).drew
  have G5 : w5.heap[b]? = some (.cells #[.slice (some ⟨bl, 0, none⟩) d.lasts.length d.lasts.length, .slice (some ⟨g, 0, none⟩) (d.cache.length + 1) cap, .int .i64 fu, .bool d.down, .int .i64 (d.many : Int)] 60 (0, 0)) := by
    rw [e5, heap_setCell_same _ b 1 _ _ _ G4]; simp
  have G6 : w6.heap[b]? = some (.cells #[.slice (some ⟨bl, 0, none⟩) d.lasts.length d.lasts.length, .slice (some ⟨g, 0, none⟩) (d.cache.length + 1) cap, .int .i64 fu, .bool d.down, .int .i64 ((d.many : Int) + 1)] 60 (0, 0)) := by
    rw [e6, heap_setCell_same _ b 4 _ _ _ G5]; simp
  have hfr45 : Fr (only b) w4 w5 := by rw [e5]; exact Fr.setCell_only _ ⟨b, 1, none⟩ _
  have hfr56 : Fr (only b) w5 w6 := by rw [e6]; exact Fr.setCell_only _ ⟨b, 4, none⟩ _
  have hfr46 : Fr (only b) w4 w6 := hfr45.trans' hfr56
  have hob : ∀ k, only b k → F k := fun k q => by cases q; exact h4
  clear e5 e6 G5
  refine ⟨⟨bl, .slice (some ⟨g, 0, none⟩) (d.cache.length + 1) cap, ?_, hfr46.at_only hbl4 hne, ?_, ⟨h3.one, h3.most, h3.secs, ?_⟩, Or.inl h4, Or.inl h5, ?_⟩, hf4.trans' (hfr46.mono hob)⟩
  · rw [G6]; simp
  · have e : DSt.cacheCells { d with fuse := fu, cache := d.cache ++ [(at_, p)], many := d.many + 1 } = d.cacheCells ++ wrV (at_, p) := by simp [DSt.cacheCells]
    rw [e, List.length_append]
    exact hfr46.row HO (fun k hk => by simp [Value.ownBlock] at hk; subst hk; exact hgb)
  · intro q hq
    rcases List.mem_append.1 hq with hq | hq
    · exact h3.wrs q hq
    · rw [List.mem_singleton.1 hq]
      exact ⟨hat, hp⟩
  · intro k hk
    simp [Value.ownBlock] at hk
    subst hk
    rcases HA with HA | HA
    · exact Or.inl (h6 _ HA)
    · right
      refine ⟨?_, Nat.lt_of_lt_of_le hg hfr46.size⟩
      rw [HA]
      have := hfr.size
      simp [World.drew]
      omega

theorem wrV_one (q : Nat × List UInt8) : ∀ x ∈ wrV q, x.oneCell' = true := by
  intro x hx
  simp only [wrV, secV, List.mem_cons, List.mem_map] at hx
  rcases hx with rfl | ⟨_, _, rfl⟩ <;> rfl
theorem wrV_length (q : Nat × List UInt8) (h : q.2.length = 64) : (wrV q).length = 65 := by simp [wrV, secV, h]
theorem bytes_length (s : ByteArray) : s.data.toList.length = s.size := by rw [← Lib.size_eq]

attribute [local go_sem ↓] loadA_sec loadA_wr storeA_sec buildS_wr
set_option maxHeartbeats 1000000 in
theorem write_pos (F : Nat → Prop) (b : Nat) (d : DSt) (at_ : Int) (s : ByteArray) (w : World) (h : DiskAt w F b d) (hf : d.fault at_ = 0) (hs : s.size ≤ 64) (h0 : 0 < d.fuse) (hfz : d.fuse ≤ 9223372036854775807) (hmost : d.many < 1000000000 ∧ d.cache.length < 1000000000) :
    Calls Try.prog 10 #[.pointer (some ⟨b, 0, none⟩), .int .i64 at_, .string s] w fun e w' => e = .returned (errV 0) ∧ DiskAt w' (gro F w w') b (d.write at_ s.data.toList).1 ∧ Fr F w w' := by
  have HC : Hid (Calls Try.prog 27 #[.pointer (some ⟨b, 0, none⟩), .int .i64 at_] w fun e w' => e = .returned .nilIface ∧ w' = w) :=
      (fault_any F b d at_ w h).mono fun e w' ⟨he, hw⟩ => ⟨by rw [he, hf]; rfl, hw⟩
  obtain ⟨bl, cv, g0, h1, h2, h3, h4, h5, h6⟩ := h
  have c1 : w.cell? ⟨b, 1, none⟩ = some cv := by simp [World.cell?, g0]
  have f1 : w.frozen? ⟨b, 1, none⟩ = false := by simp [World.frozen?, g0]
  have c2 : w.cell? ⟨b, 2, none⟩ = some (.int .i64 d.fuse) := by simp [World.cell?, g0]
  have f2 : w.frozen? ⟨b, 2, none⟩ = false := by simp [World.frozen?, g0]
  have c4 : w.cell? ⟨b, 4, none⟩ = some (.int .i64 d.many) := by simp [World.cell?, g0]
  have f4 : w.frozen? ⟨b, 4, none⟩ = false := by simp [World.frozen?, g0]
  have d0 : (d.fuse == 0) = false := by rw [beq_eq_false_iff_ne]; omega
  obtain ⟨n, rfl⟩ : ∃ n : Nat, at_ = n := by
    refine ⟨at_.toNat, ?_⟩
    simp only [DSt.fault] at hf
    split at hf
    · simp at hf
    · split at hf
      · simp at hf
      · omega
  have hn : n < d.lasts.length := by
    simp only [DSt.fault] at hf
    split at hf
    · simp at hf
    · split at hf
      · simp at hf
      · omega
  have hfin : Hid ((d.write n s.data.toList).1 = { d with fuse := d.fuse - 1, cache := d.cache ++ [(n, pad s.data.toList)], many := d.many + 1 }) := by
    refine Lib.hid ?_
    have e1 : ¬ d.fuse = 0 := by omega
    have e2 : ¬ 64 < s.data.toList.length := by rw [bytes_length]; omega
    simp only [DSt.write, hf, e1, e2, if_false, ne_eq, not_true_eq_false, Int.toNat_natCast]
    simp only [if_pos h0]
  have HF := Lib.hid hf
  have H3 := Lib.hid h3
  have H6 := Lib.hid h6
  go_enter Try.func10, Try.ntmps10
  obtain ⟨W0, hW0⟩ : ∃ W0 : List Value, W0 = wr0 (n : Int) := ⟨_, rfl⟩
  obtain ⟨Z0, hZ0⟩ : ∃ Z0 : List Value, Z0 = wr0 0 := ⟨_, rfl⟩
  have HR : Hid (∀ w, (Instr.build 65 #[(0, .int .i64 (n : Int))]).run Try.prog w = .ok (.agg W0.toArray) w) := by rw [hW0]; exact run_wr0 n
  have HZ : Hid (∀ w, (zeroValue 65).run Try.prog w = .ok (.agg Z0.toArray) w) := by rw [hZ0]; exact zeroWr
  have lW : W0.length = 65 := by rw [hW0]; rfl
  have lZ : Z0.length = 65 := by rw [hZ0]; rfl
  have HW0 := Lib.hid hW0; clear hW0
  have HZ0 := Lib.hid hZ0; clear hZ0
  have G0 := Lib.hid g0
  have H1 := Lib.hid h1
  have H2 := Lib.hid h2
  clear g0 h1 h2 h3 h6 hf
  go_wp2_with (first
    | (go_at_call 27; refine HC.out.mono ?_; rintro e w' ⟨rfl, rfl⟩)
    | ((with_reducible refine wpList_allocA (o := ⟨some 8, _, _, _, _, _⟩) rfl 65 rfl Z0 HZ.out ?_); intro g1 w1 hg1 hb1 hs1 hfr1; have HB1 := Lib.hid hb1; clear hb1)
    | ((with_reducible refine wpList_build1 (o := ⟨some 45, _, _, _, _, _⟩) rfl 65 0 (.tmp 44) rfl _ _ ?_ (HR.out _) ?_); · rfl)
    | ((with_reducible refine wpList_storeA (o := ⟨none, .store 65 _ _, _, _, _, _⟩) rfl 65 (.tmp 8) (.tmp 45) rfl g1 0 ?_ 65 Z0 W0 ?_ HB1.out ?_ ?_ ?_ ?_); (· rfl); (· rfl); (· rw [lW]; exact Try.sizeWr); (· omega); (· rw [HW0.out]; exact wr0_one _); intro w2 hb2 hfr2; have HB2 := Lib.hid hb2; clear hb2)
    | ((with_reducible refine wpList_copyS (o := ⟨some 49, _, _, _, _, _⟩) rfl (.tmp 47) (.tmp 48) 66 9 rfl 5 Try.underlying66 Try.size5 g1 1 64 64 ?_ s ?_ hs (splice Z0 0 W0) 65 HB2.out ?_ ?_); (· rfl); (· rfl); (· rw [length_splice _ _ _ (by omega)]; omega); intro w3 hb3 hfr3; have HB3 := Lib.hid hb3; clear hb3))
  have hbw : b < w'.heap.size := lt_heap G0.out
  have hbg : b ≠ g1 := by have : w'.heap.size ≤ g1 := by simpa [World.setCell] using hg1
                          omega
  have hfr : Fr (only b) w' w3 := by
    have e0 : Fr (only b) w' (w'.setCell ⟨b, 2, none⟩ (.int .i64 (d.fuse - 1))) := Fr.setCell_only _ ⟨b, 2, none⟩ _
    refine (e0.trans' (hfr1.mono fun k q => q.elim)).trans ((hfr2.trans' hfr3).mono fun k q => Or.inr ?_)
    cases q
    exact ⟨by simpa [World.setCell] using hg1, lt_heap HB1.out⟩
  have G3 : w3.heap[b]? = some (.cells #[.slice (some ⟨bl, 0, none⟩) d.lasts.length d.lasts.length, cv, .int .i64 (d.fuse - 1), .bool d.down, .int .i64 (d.many : Int)] 60 (0, 0)) := by
    refine hfr3.at_only (hfr2.at_only (hfr1.at ?_ (fun q => q)) hbg) hbg
    rw [heap_setCell_same _ _ _ _ _ _ G0.out]
    simp
  clear c1 f1 c2 f2 c4 f4
  have c1 : w3.cell? ⟨b, 1, none⟩ = some cv := by simp [World.cell?, G3]
  have f1 : w3.frozen? ⟨b, 1, none⟩ = false := by simp [World.frozen?, G3]
  have c4 : w3.cell? ⟨b, 4, none⟩ = some (.int .i64 d.many) := by simp [World.cell?, G3]
  have f4 : w3.frozen? ⟨b, 4, none⟩ = false := by simp [World.frozen?, G3]
  have HG3 := Lib.hid G3
  clear G3
  obtain ⟨X1, hX1⟩ : ∃ X1 : List Value, X1 = wrV (n, pad s.data.toList) := ⟨_, rfl⟩
  have eX : splice (splice Z0 0 W0) 1 (List.map (fun x => Value.int IntKind.u8 (x.toNat : Int)) s.data.toList) = X1 := by
    rw [hX1, HZ0.out, HW0.out]; exact splice_wr n s.data.toList
  rw [eX] at HB3
  have lX : X1.length = 65 := by rw [hX1]; exact wrV_length _ (pad_length _ (by rw [bytes_length]; exact hs))
  have hone : Hid (∀ x ∈ X1, x.oneCell' = true) := by rw [hX1]; exact wrV_one _
  have HX1 := Lib.hid hX1; clear hX1 eX
  have hld : ∀ W : World, W.heap[g1]? = some (.cells X1.toArray 65 (0, 0)) → (LoadA 65 (.pointer (some ⟨g1, 0, none⟩))).run Try.prog W = .ok (.agg X1.toArray) W := fun W hW => by
    simp only [LoadA, Instr.loadAt, Instr.sureAddr, Sem.run_bind, Sem.run_pure, Result.andThen_ok]
    exact run_loadVar_at W g1 0 65 65 X1 X1 (0, 0) _ hW Try.underlying65 rfl (by rw [lX]; exact Try.sizeWr) (fun j v hv => by simpa using hv)
  have hbs : ∀ W, (BuildS 58 1 #[(0, .agg X1.toArray)]).run Try.prog W = .ok (.slice (some ⟨W.heap.size, 0, none⟩) 1 1) (W.alloc (.cells X1.toArray 65)) := run_buildSlice1 (P := Try.prog) 58 65 X1 Try.underlying58 (by rw [lX]; exact Try.infoWr1) (by omega) (by omega)
  have q1 : w3.drew.heap[g1]? = some (.cells X1.toArray 65 (0, 0)) := HB3.out
  have hbw3 : b < w3.heap.size := lt_heap HG3.out
  have c1a : ∀ o, (w3.alloc o).cell? ⟨b, 1, none⟩ = some cv := fun o => (World.cell?_alloc_lt _ _ _ hbw3).trans c1
  have A0 : Hid ((w3.alloc (.cells X1.toArray 65)).drew.ownsRow 0 65 65 cv d.cache.length d.cacheCells) :=
    World.ownsRow.alloc (w := w3) (hfr.row H2.out (fun k hk => own_ne H2.out G0.out (by decide) k hk)) _
  have K4 : Hid (∀ w4, (w3.alloc (.cells X1.toArray 65)).drew.grownBy w4 cv.ownBlock → w4.heap[b]? = some (.cells #[.slice (some ⟨bl, 0, none⟩) d.lasts.length d.lasts.length, cv, .int .i64 (d.fuse - 1), .bool d.down, .int .i64 (d.many : Int)] 60 (0, 0))) := by
    intro w4 hg
    refine grown_at hg ?_ (own_ne H2.out G0.out (by decide))
    show (w3.alloc _).heap[b]? = _
    rw [Below.heap_alloc _ _ _ (lt_heap HG3.out)]
    exact HG3.out
  obtain ⟨i0, hi, hz0, hz1, hz2⟩ := info_parts Try.infoWr
  have HI := Lib.hid hi; have HZ0' := Lib.hid hz0; have HZ1 := Lib.hid hz1; have HZ2 := Lib.hid hz2
  have hX65 := Lib.hid lX
  have hmost' : d.many < 1000000000 := hmost.1
  have hmost2 := Lib.hid hmost.2
  have HFR := Lib.hid hfr
  have HS := Lib.hid hs
  have HN := Lib.hid hn
  clear hs hg1 hs1 lW lZ hmost hi hz0 hz1 hz2 lX hbw3 hfr hfr1 hfr2 hfr3 hn HR HZ HC
  go_region_law ((refine step_append_lies _ rfl (.tmp 54) (.tmp 56) 58 (by rfl) 0 65 i0 _ 65 72 Try.underlying58 HI.out HZ0'.out HZ1.out HZ2.out rfl (by decide) cv d.cache.length d.cacheCells (by rfl) A0.out ⟨w3.heap.size, 0, none⟩ 1 1 X1 (by rfl) hX65.out (World.news_of_block (cs := X1.toArray) (t := 65) (fr := (0, 0)) (heap_alloc_new w3 _)) hone.out (by decide) (by have := hmost2.out; unfold maxLen; omega) (by have := hmost2.out; omega) (Nat.zero_le _) _ rfl ?_); intro g4 cap4 w4 hown4 hgrow4 hat4 hlt4; have G4 := K4.out _ hgrow4; have c1 := (cells5 G4).1.2.1; have f1 := (cells5 G4).2; have c4 := (cells5 G4).1.2.2.2.2; have HG4 := Lib.hid G4; have HO4 := Lib.hid hown4; have HGr4 := Lib.hid hgrow4; have HA4 := Lib.hid hat4; clear G4 hown4 hgrow4 hat4)
  all_goals
    go_wp2
    go_ret
    rw [hfin.out]
    rw [HX1.out] at HO4
    exact ⟨rfl, write_close F b bl cv d n _ (d.fuse - 1) w' w3 w4 _ g4 cap4 ⟨_, _, _, G0.out, rfl⟩ H1.out H2.out H3.out h4 h5 H6.out HN.out (pad_length _ (by rw [bytes_length]; exact HS.out)) HFR.out HGr4.out HG4.out HO4.out HA4.out hlt4 _ _ rfl rfl⟩

set_option maxHeartbeats 1000000 in
theorem write_neg (F : Nat → Prop) (b : Nat) (d : DSt) (at_ : Int) (s : ByteArray) (w : World) (h : DiskAt w F b d) (hf : d.fault at_ = 0) (hs : s.size ≤ 64) (h0 : d.fuse < 0) (hmost : d.many < 1000000000 ∧ d.cache.length < 1000000000) :
    Calls Try.prog 10 #[.pointer (some ⟨b, 0, none⟩), .int .i64 at_, .string s] w fun e w' => e = .returned (errV 0) ∧ DiskAt w' (gro F w w') b (d.write at_ s.data.toList).1 ∧ Fr F w w' := by
  have HC : Hid (Calls Try.prog 27 #[.pointer (some ⟨b, 0, none⟩), .int .i64 at_] w fun e w' => e = .returned .nilIface ∧ w' = w) :=
      (fault_any F b d at_ w h).mono fun e w' ⟨he, hw⟩ => ⟨by rw [he, hf]; rfl, hw⟩
  obtain ⟨bl, cv, g0, h1, h2, h3, h4, h5, h6⟩ := h
  have c1 : w.cell? ⟨b, 1, none⟩ = some cv := by simp [World.cell?, g0]
  have f1 : w.frozen? ⟨b, 1, none⟩ = false := by simp [World.frozen?, g0]
  have c2 : w.cell? ⟨b, 2, none⟩ = some (.int .i64 d.fuse) := by simp [World.cell?, g0]
  have f2 : w.frozen? ⟨b, 2, none⟩ = false := by simp [World.frozen?, g0]
  have c4 : w.cell? ⟨b, 4, none⟩ = some (.int .i64 d.many) := by simp [World.cell?, g0]
  have f4 : w.frozen? ⟨b, 4, none⟩ = false := by simp [World.frozen?, g0]
  have d0 : (d.fuse == 0) = false := by rw [beq_eq_false_iff_ne]; omega
  obtain ⟨n, rfl⟩ : ∃ n : Nat, at_ = n := by
    refine ⟨at_.toNat, ?_⟩
    simp only [DSt.fault] at hf
    split at hf
    · simp at hf
    · split at hf
      · simp at hf
      · omega
  have hn : n < d.lasts.length := by
    simp only [DSt.fault] at hf
    split at hf
    · simp at hf
    · split at hf
      · simp at hf
      · omega
  have hfin : Hid ((d.write n s.data.toList).1 = { d with fuse := d.fuse, cache := d.cache ++ [(n, pad s.data.toList)], many := d.many + 1 }) := by
    refine Lib.hid ?_
    have e1 : ¬ d.fuse = 0 := by omega
    have e2 : ¬ 64 < s.data.toList.length := by rw [bytes_length]; omega
    simp only [DSt.write, hf, e1, e2, if_false, ne_eq, not_true_eq_false, Int.toNat_natCast]
    simp only [if_neg (show ¬ 0 < d.fuse by omega)]
  have HF := Lib.hid hf
  have H3 := Lib.hid h3
  have H6 := Lib.hid h6
  go_enter Try.func10, Try.ntmps10
  obtain ⟨W0, hW0⟩ : ∃ W0 : List Value, W0 = wr0 (n : Int) := ⟨_, rfl⟩
  obtain ⟨Z0, hZ0⟩ : ∃ Z0 : List Value, Z0 = wr0 0 := ⟨_, rfl⟩
  have HR : Hid (∀ w, (Instr.build 65 #[(0, .int .i64 (n : Int))]).run Try.prog w = .ok (.agg W0.toArray) w) := by rw [hW0]; exact run_wr0 n
  have HZ : Hid (∀ w, (zeroValue 65).run Try.prog w = .ok (.agg Z0.toArray) w) := by rw [hZ0]; exact zeroWr
  have lW : W0.length = 65 := by rw [hW0]; rfl
  have lZ : Z0.length = 65 := by rw [hZ0]; rfl
  have HW0 := Lib.hid hW0; clear hW0
  have HZ0 := Lib.hid hZ0; clear hZ0
  have G0 := Lib.hid g0
  have H1 := Lib.hid h1
  have H2 := Lib.hid h2
  clear g0 h1 h2 h3 h6 hf
  go_wp2_with (first
    | (go_at_call 27; refine HC.out.mono ?_; rintro e w' ⟨rfl, rfl⟩)
    | ((with_reducible refine wpList_allocA (o := ⟨some 8, _, _, _, _, _⟩) rfl 65 rfl Z0 HZ.out ?_); intro g1 w1 hg1 hb1 hs1 hfr1; have HB1 := Lib.hid hb1; clear hb1)
    | ((with_reducible refine wpList_build1 (o := ⟨some 45, _, _, _, _, _⟩) rfl 65 0 (.tmp 44) rfl _ _ ?_ (HR.out _) ?_); · rfl)
    | ((with_reducible refine wpList_storeA (o := ⟨none, .store 65 _ _, _, _, _, _⟩) rfl 65 (.tmp 8) (.tmp 45) rfl g1 0 ?_ 65 Z0 W0 ?_ HB1.out ?_ ?_ ?_ ?_); (· rfl); (· rfl); (· rw [lW]; exact Try.sizeWr); (· omega); (· rw [HW0.out]; exact wr0_one _); intro w2 hb2 hfr2; have HB2 := Lib.hid hb2; clear hb2)
    | ((with_reducible refine wpList_copyS (o := ⟨some 49, _, _, _, _, _⟩) rfl (.tmp 47) (.tmp 48) 66 9 rfl 5 Try.underlying66 Try.size5 g1 1 64 64 ?_ s ?_ hs (splice Z0 0 W0) 65 HB2.out ?_ ?_); (· rfl); (· rfl); (· rw [length_splice _ _ _ (by omega)]; omega); intro w3 hb3 hfr3; have HB3 := Lib.hid hb3; clear hb3))
  have hbw : b < w'.heap.size := lt_heap G0.out
  have hbg : b ≠ g1 := by have : w'.heap.size ≤ g1 := by simpa [World.setCell] using hg1
                          omega
  have hfr : Fr (only b) w' w3 := by
    refine (hfr1.mono fun k q => q.elim).trans ((hfr2.trans' hfr3).mono fun k q => Or.inr ?_)
    cases q
    exact ⟨hg1, lt_heap HB1.out⟩
  have G3 : w3.heap[b]? = some (.cells #[.slice (some ⟨bl, 0, none⟩) d.lasts.length d.lasts.length, cv, .int .i64 (d.fuse), .bool d.down, .int .i64 (d.many : Int)] 60 (0, 0)) := by
    refine hfr3.at_only (hfr2.at_only (hfr1.at ?_ (fun q => q)) hbg) hbg
    exact G0.out
  clear c1 f1 c2 f2 c4 f4
  have c1 : w3.cell? ⟨b, 1, none⟩ = some cv := by simp [World.cell?, G3]
  have f1 : w3.frozen? ⟨b, 1, none⟩ = false := by simp [World.frozen?, G3]
  have c4 : w3.cell? ⟨b, 4, none⟩ = some (.int .i64 d.many) := by simp [World.cell?, G3]
  have f4 : w3.frozen? ⟨b, 4, none⟩ = false := by simp [World.frozen?, G3]
  have HG3 := Lib.hid G3
  clear G3
  obtain ⟨X1, hX1⟩ : ∃ X1 : List Value, X1 = wrV (n, pad s.data.toList) := ⟨_, rfl⟩
  have eX : splice (splice Z0 0 W0) 1 (List.map (fun x => Value.int IntKind.u8 (x.toNat : Int)) s.data.toList) = X1 := by
    rw [hX1, HZ0.out, HW0.out]; exact splice_wr n s.data.toList
  rw [eX] at HB3
  have lX : X1.length = 65 := by rw [hX1]; exact wrV_length _ (pad_length _ (by rw [bytes_length]; exact hs))
  have hone : Hid (∀ x ∈ X1, x.oneCell' = true) := by rw [hX1]; exact wrV_one _
  have HX1 := Lib.hid hX1; clear hX1 eX
  have hld : ∀ W : World, W.heap[g1]? = some (.cells X1.toArray 65 (0, 0)) → (LoadA 65 (.pointer (some ⟨g1, 0, none⟩))).run Try.prog W = .ok (.agg X1.toArray) W := fun W hW => by
    simp only [LoadA, Instr.loadAt, Instr.sureAddr, Sem.run_bind, Sem.run_pure, Result.andThen_ok]
    exact run_loadVar_at W g1 0 65 65 X1 X1 (0, 0) _ hW Try.underlying65 rfl (by rw [lX]; exact Try.sizeWr) (fun j v hv => by simpa using hv)
  have hbs : ∀ W, (BuildS 58 1 #[(0, .agg X1.toArray)]).run Try.prog W = .ok (.slice (some ⟨W.heap.size, 0, none⟩) 1 1) (W.alloc (.cells X1.toArray 65)) := run_buildSlice1 (P := Try.prog) 58 65 X1 Try.underlying58 (by rw [lX]; exact Try.infoWr1) (by omega) (by omega)
  have q1 : w3.drew.heap[g1]? = some (.cells X1.toArray 65 (0, 0)) := HB3.out
  have hbw3 : b < w3.heap.size := lt_heap HG3.out
  have c1a : ∀ o, (w3.alloc o).cell? ⟨b, 1, none⟩ = some cv := fun o => (World.cell?_alloc_lt _ _ _ hbw3).trans c1
  have A0 : Hid ((w3.alloc (.cells X1.toArray 65)).drew.ownsRow 0 65 65 cv d.cache.length d.cacheCells) :=
    World.ownsRow.alloc (w := w3) (hfr.row H2.out (fun k hk => own_ne H2.out G0.out (by decide) k hk)) _
  have K4 : Hid (∀ w4, (w3.alloc (.cells X1.toArray 65)).drew.grownBy w4 cv.ownBlock → w4.heap[b]? = some (.cells #[.slice (some ⟨bl, 0, none⟩) d.lasts.length d.lasts.length, cv, .int .i64 (d.fuse), .bool d.down, .int .i64 (d.many : Int)] 60 (0, 0))) := by
    intro w4 hg
    refine grown_at hg ?_ (own_ne H2.out G0.out (by decide))
    show (w3.alloc _).heap[b]? = _
    rw [Below.heap_alloc _ _ _ (lt_heap HG3.out)]
    exact HG3.out
  obtain ⟨i0, hi, hz0, hz1, hz2⟩ := info_parts Try.infoWr
  have HI := Lib.hid hi; have HZ0' := Lib.hid hz0; have HZ1 := Lib.hid hz1; have HZ2 := Lib.hid hz2
  have hX65 := Lib.hid lX
  have hmost' : d.many < 1000000000 := hmost.1
  have hmost2 := Lib.hid hmost.2
  have HFR := Lib.hid hfr
  have HS := Lib.hid hs
  have HN := Lib.hid hn
  clear hs hg1 hs1 lW lZ hmost hi hz0 hz1 hz2 lX hbw3 hfr hfr1 hfr2 hfr3 hn HR HZ HC
  go_region_law ((refine step_append_lies _ rfl (.tmp 54) (.tmp 56) 58 (by rfl) 0 65 i0 _ 65 72 Try.underlying58 HI.out HZ0'.out HZ1.out HZ2.out rfl (by decide) cv d.cache.length d.cacheCells (by rfl) A0.out ⟨w3.heap.size, 0, none⟩ 1 1 X1 (by rfl) hX65.out (World.news_of_block (cs := X1.toArray) (t := 65) (fr := (0, 0)) (heap_alloc_new w3 _)) hone.out (by decide) (by have := hmost2.out; unfold maxLen; omega) (by have := hmost2.out; omega) (Nat.zero_le _) _ rfl ?_); intro g4 cap4 w4 hown4 hgrow4 hat4 hlt4; have G4 := K4.out _ hgrow4; have c1 := (cells5 G4).1.2.1; have f1 := (cells5 G4).2; have c4 := (cells5 G4).1.2.2.2.2; have HG4 := Lib.hid G4; have HO4 := Lib.hid hown4; have HGr4 := Lib.hid hgrow4; have HA4 := Lib.hid hat4; clear G4 hown4 hgrow4 hat4)
  all_goals
    go_wp2
    go_ret
    rw [hfin.out]
    rw [HX1.out] at HO4
    exact ⟨rfl, write_close F b bl cv d n _ (d.fuse) w' w3 w4 _ g4 cap4 ⟨_, _, _, G0.out, rfl⟩ H1.out H2.out H3.out h4 h5 H6.out HN.out (pad_length _ (by rw [bytes_length]; exact HS.out)) HFR.out HGr4.out HG4.out HO4.out HA4.out hlt4 _ _ rfl rfl⟩

theorem write_any (F : Nat → Prop) (b : Nat) (d : DSt) (at_ : Int) (s : ByteArray) (w : World) (h : DiskAt w F b d) (hfz : d.fuse ≤ 9223372036854775807) (hmost : d.many < 1000000000 ∧ d.cache.length < 1000000000) :
    Calls Try.prog 10 #[.pointer (some ⟨b, 0, none⟩), .int .i64 at_, .string s] w fun e w' => e = .returned (errV (d.write at_ s.data.toList).2) ∧ DiskAt w' (gro F w w') b (d.write at_ s.data.toList).1 ∧ Fr F w w' := by
  by_cases hn : d.fault at_ ≠ 0 ∨ 64 < s.size
  · refine (write_no F b d at_ s w h hn).mono fun e w' ⟨he, hw⟩ => ⟨he, ?_⟩
    subst hw
    have e1 : (d.write at_ s.data.toList).1 = d := by
      simp only [DSt.write, bytes_length]
      rcases hn with q | q
      · simp [q]
      · split
        · rfl
        · simp [q]
    rw [e1]
    exact ⟨h.mono fun k q => Or.inl q, Fr.refl _ _⟩
  · have hf : d.fault at_ = 0 := by
      rcases Nat.eq_zero_or_pos (d.fault at_) with q | q
      · exact q
      · exact absurd (Or.inl (Nat.ne_of_gt q)) hn
    have hs : s.size ≤ 64 := by
      rcases Nat.lt_or_ge 64 s.size with q | q
      · exact absurd (Or.inr q) hn
      · exact q
    have e2 : ¬ 64 < s.size := by omega
    by_cases h0 : d.fuse = 0
    · refine (write_dead F b d at_ s w h hf hs h0).mono fun e w' ⟨he, hw⟩ => ?_
      subst hw
      have e1 : d.write at_ s.data.toList = ({ d with down := true }, 6) := by simp [DSt.write, hf, e2, h0]
      rw [e1]
      have h' := h.down
      obtain ⟨_, _, _, _, _, _, h4, _, _⟩ := h
      exact ⟨he, h'.mono fun k q => Or.inl q, Fr.setCell (S := F) (Fr.refl _ _) (p := ⟨b, 3, none⟩) (Or.inl h4) _⟩
    · have e1 : (d.write at_ s.data.toList).2 = 0 := by simp [DSt.write, hf, e2, h0]
      rw [e1]
      by_cases hp : 0 < d.fuse
      · exact write_pos F b d at_ s w h hf hs hp hfz hmost
      · exact write_neg F b d at_ s w h hf hs (by omega) hmost

end Go.Proofs.Ytfhfnnpadfibkaa
