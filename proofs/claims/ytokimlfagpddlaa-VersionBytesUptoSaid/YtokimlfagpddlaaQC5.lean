-- packed: GOpn VsOpn VsOpnE
import Derived.Test.YtokimlfagpddlaaQC4
/-
  Arguments opened: what lies at a type, as_ the print's kinds tell it (of any depth: whole numbers, truths, strings, structs, slices of these), with the bounds that a row's weights give.
-/
set_option linter.unusedVariables false
set_option linter.unusedSimpArgs false
namespace Go.Proofs.Ytokimlfagpddlaa
open Go.RowKit Go.Proofs.YtokimlfagpddlaaW.PrintWords Go.ChangeShapes Go.WideShapes Go.Deep

/-- Of a type: any cells that a datum stands on are of the kind, and good. -/
structure Opn (P : Program) (t : TypeId) {α : Type} (k : Kd α) (good : α → Prop) : Prop where
  sz : P.cellsOf t = k.sz
  op : ∀ {H : Type} {enc : TypeId × Value → H} {w : World} {base : Nat} {spare : Nat → Bool} {held : Bool} {fuel : Nat} {cs : List Value} {x : DataW H × List MemPlace},
    DataW.trod enc P w base spare held fuel t cs = some x → (∀ n ∈ x.1.weights P t, n ≤ reachBytes) → ∃ a : α, k.K w a cs ∧ good a
/-- Of a struct's fields, from a place on. -/
structure OpnF (P : Program) (fs : List Field) (off : Nat) {α : Type} (k : Kd α) (good : α → Prop) : Prop where
  op : ∀ {H : Type} {enc : TypeId × Value → H} {w : World} {base : Nat} {spare : Nat → Bool} {held : Bool} {fuel : Nat} {cs : List Value} {xs : List (DataW H × List MemPlace)},
    cs.length = off + k.sz → xs.length = fs.length → (∀ (i : Nat) (f : Field), fs[i]? = some f → DataW.trod enc P w base spare held fuel f.type ((cs.drop f.offset).take (P.cellsOf f.type)) = xs[i]?) →
    (∀ n ∈ DataW.weightsEach P (fs.map (·.type)) (xs.map (·.1)), n ≤ reachBytes) → ∃ a : α, k.K w a (cs.drop off) ∧ good a

theorem Opn.imp {P : Program} {t : TypeId} {α : Type} {k : Kd α} {good good' : α → Prop} (h : Opn P t k good) (hg : ∀ a, good a → good' a) : Opn P t k good' :=
  ⟨h.sz, fun hx hw => by obtain ⟨a, ha, hga⟩ := h.op hx hw; exact ⟨a, ha, hg a hga⟩⟩
theorem opn_int {P : Program} {t : TypeId} (ht : P.underlying t = some (.int .i64)) (hs : P.cellsOf t = 1) : Opn P t (Kd.int .i64) (fun n => -9223372036854775808 ≤ n ∧ n ≤ 9223372036854775807) :=
  ⟨hs, fun hx _ => by
    obtain ⟨n, rfl, _, hw⟩ := DataW.trod_int ht hx
    exact ⟨n, rfl, bounds_i64 hw⟩⟩
theorem opn_string {P : Program} {t : TypeId} (ht : P.underlying t = some .string) (hs : P.cellsOf t = 1) : Opn P t Kd.string (fun s => s.size ≤ reachBytes) :=
  ⟨hs, fun {H enc w base spare held fuel cs x} hx hw => by
    obtain ⟨s, rfl, hd, _⟩ := DataW.trod_string ht hx
    refine ⟨s, rfl, hw _ ?_⟩
    rw [hd]
    simp [DataW.weights]⟩
theorem opnF_one {P : Program} {f : Field} {off : Nat} {α : Type} {k : Kd α} {good : α → Prop} (h : Opn P f.type k good) (ho : f.offset = off) : OpnF P [f] off k good :=
  ⟨fun {H enc w base spare held fuel cs xs} hl hx hf hw => by
    match xs, hx with
    | [x], _ =>
      have h1 := hf 0 f rfl
      rw [ho, h.sz, List.take_of_length_le (by rw [List.length_drop]; omega)] at h1
      refine h.op h1 (fun n hn => hw n ?_)
      simp only [List.map_cons, List.map_nil, DataW.weightsEach, List.append_nil]
      exact hn⟩
theorem opnF_more {P : Program} {f : Field} {fs : List Field} {off : Nat} {α β : Type} {k : Kd α} {k' : Kd β} {good : α → Prop} {good' : β → Prop} (h : Opn P f.type k good) (ho : f.offset = off) (hr : OpnF P fs (off + k.sz) k' good') :
    OpnF P (f :: fs) off (Kd.pair k k') (fun x => good x.1 ∧ good' x.2) :=
  ⟨fun {H enc w base spare held fuel cs xs} hl hx hf hw => by
    match xs, hx with
    | x :: xs, hx =>
      have h1 := hf 0 f rfl
      rw [ho, h.sz] at h1
      have hl' : cs.length = off + (k.sz + k'.sz) := hl
      obtain ⟨a, ha, hga⟩ := h.op h1 (fun n hn => hw n (by
        simp only [List.map_cons, DataW.weightsEach]
        exact List.mem_append_left _ hn))
      obtain ⟨b, hb, hgb⟩ := hr.op (cs := cs) (xs := xs) (by omega) (by simpa using hx) (fun i g hg => by simpa using hf (i + 1) g (by simpa using hg)) (fun n hn => hw n (by
        simp only [List.map_cons, DataW.weightsEach]
        exact List.mem_append_right _ hn))
      refine ⟨(a, b), ⟨(cs.drop off).take k.sz, cs.drop (off + k.sz), ?_, ha, hb⟩, hga, hgb⟩
      rw [← List.drop_drop, List.take_append_drop]⟩
theorem opn_struct {P : Program} {t : TypeId} {fs : Array Field} {α β : Type} {k : Kd α} {f : β → α} {g : α → β} {good : α → Prop} (ht : P.underlying t = some (.struct fs)) (h : OpnF P fs.toList 0 k good) (hs : P.cellsOf t = k.sz) (hfg : ∀ a, f (g a) = a) :
    Opn P t (Kd.iso k f) (fun b => good (f b)) :=
  ⟨hs, fun {H enc w base spare held fuel cs x} hx hw => by
    obtain ⟨xs, n, _, rfl, hl, hxl, hf⟩ := DataW.trod_struct ht hx
    obtain ⟨a, ha, hga⟩ := h.op (cs := cs) (xs := xs) (by omega) (by simpa using hxl) (fun i f hi => hf i f (by simpa using hi)) (fun n hn => hw n (by
      simp only [DataW.weights, ht]
      exact hn))
    rw [List.drop_zero] at ha
    exact ⟨g a, by show k.K w (f (g a)) cs; rw [hfg]; exact ha, by rw [hfg]; exact hga⟩⟩
theorem weightsAll_mem {H : Type} {P : Program} {e : TypeId} : ∀ {ds : List (DataW H)} {d : DataW H}, d ∈ ds → ∀ n ∈ d.weights P e, n ∈ DataW.weightsAll P e ds
  | d0 :: ds, d, hd, n, hn => by
    simp only [DataW.weightsAll, List.mem_append]
    rcases List.mem_cons.1 hd with rfl | hd
    · exact .inl hn
    · exact .inr (weightsAll_mem hd n hn)
theorem choose_fn {α : Type} (d : α) {p : Nat → α → Prop} {m : Nat} (h : ∀ i, i < m → ∃ a, p i a) : ∃ F : Nat → α, ∀ i, i < m → p i (F i) := by
  classical
  exact ⟨fun i => if hi : i < m then (h i hi).choose else d, fun i hi => by simp only [dif_pos hi]; exact (h i hi).choose_spec⟩
theorem opn_slice {P : Program} {t e : TypeId} {α : Type} {k : Kd α} {good : α → Prop} {b : Nat} (ht : P.underlying t = some (.slice e)) (h : Opn P e k good) (hs : P.cellsOf t = 1) (hb : P.bytesOf e = b) :
    Opn P t (Kd.slice e k) (fun xs => xs.length ≤ 9223372036854775807 ∧ xs.length * b ≤ reachBytes ∧ ∀ x ∈ xs, good x) :=
  ⟨hs, fun {H enc w base spare held fuel cs x} hx hw => by
    rcases open_slice ht hx with ⟨rfl, rfl⟩ | ⟨a, len, cap, m, n, D, Pl, rfl, hbl, hl, hm, hmm, rfl, hi⟩
    · exact ⟨[], ⟨none, 0, rfl, Nat.le_refl _, Kd.C_nil _ _⟩, Nat.zero_le _, by simp, fun _ h => by simp at h⟩
    · have hlm : len ≤ m := by rw [hmm]; split <;> omega
      have key : ∀ i, i < len → ∃ a' : α, (∃ c, c.length = k.sz ∧ k.K w a' c ∧ ∀ j u, c[j]? = some u → w.cell? (a.add (i * k.sz + j)) = some u) ∧ good a' := fun i hil => by
        obtain ⟨cs', hc, ht'⟩ := hi i (by omega)
        obtain ⟨_, hcl, hat⟩ := World.cells?_some hc
        obtain ⟨a', ha, hg⟩ := h.op ht' (fun n hn => hw n (by
          simp only [DataW.weights, ht]
          refine List.mem_cons_of_mem _ (List.mem_append_left _ (weightsAll_mem (d := D i) ?_ n hn))
          exact List.mem_map.2 ⟨i, List.mem_range.2 hil, rfl⟩))
        refine ⟨a', ⟨cs', by rw [hcl, h.sz], ha, fun j u hu => ?_⟩, hg⟩
        have hj : j < cs'.length := (List.getElem?_eq_some_iff.1 hu).1
        have := hat j (by omega)
        rw [← Go.Deep.add_add, ← h.sz, this, hu]
      rcases Nat.eq_zero_or_pos len with h0 | hpos
      · subst h0
        exact ⟨[], ⟨some a, cap, rfl, hl, ⟨rfl, by simp, fun h => absurd h (Nat.lt_irrefl 0)⟩⟩, Nat.zero_le _, by simp, fun _ h => by simp at h⟩
      · obtain ⟨d, _⟩ := key 0 hpos
        obtain ⟨F, hF⟩ := choose_fn d key
        have hlen : ((List.range len).map F).length = len := by simp
        have hget : ∀ j p, ((List.range len).map F)[j]? = some p → j < len ∧ p = F j := fun j p hp => by
          have hj : j < len := by have := (List.getElem?_eq_some_iff.1 hp).1; omega
          rw [List.getElem?_map, List.getElem?_range hj] at hp
          exact ⟨hj, (Option.some.inj hp).symm⟩
        refine ⟨(List.range len).map F, ⟨some a, cap, by rw [hlen], by rw [hlen]; exact hl, ⟨rfl, by rw [hlen]; exact Nat.le_trans hl hm, fun _ => ⟨a, rfl, fun j p hp => ?_⟩⟩⟩, by rw [hlen]; exact Nat.le_trans hl hm, ?_, fun x hx => ?_⟩
        · obtain ⟨hj, rfl⟩ := hget j p hp
          obtain ⟨⟨c, hc, hk, hcell⟩, _⟩ := hF j hj
          exact ⟨c, hc, hk, hcell⟩
        · have := hw ((len + (m - len)) * P.bytesOf e) (by simp [DataW.weights, ht])
          rw [hlen, ← hb]
          exact Nat.le_trans (Nat.mul_le_mul_right _ (Nat.le_add_right _ _)) this
        · obtain ⟨i, hi', rfl⟩ := List.mem_map.1 hx
          exact (hF i (List.mem_range.1 hi')).2⟩
/-- A law's argument. -/
theorem Opn.arg {P : Program} {t : TypeId} {α : Type} {k : Kd α} {good : α → Prop} (ho : Opn P t k good) {H : Type} {enc : TypeId × Value → H} {w : World} {base : Nat} {spare : Nat → Bool} {held : Bool} {v : Value} {d : DataW H} {p : List MemPlace} (h : DataW.Trod enc P w base spare held t v d p)
    {ts : List TypeId} {ds : List (DataW H)} {j : Nat} (hsz : (DataW.weightsEach P ts ds).all (· ≤ reachBytes) = true) (htj : ts[j]? = some t) (hdj : ds[j]? = some d) : ∃ a : α, k.K w a v.cells.toList ∧ good a := by
  obtain ⟨fuel, hf⟩ := h
  exact ho.op hf (fun n hn => by simpa using List.all_eq_true.1 hsz n (DataW.weights_mem_each htj hdj n hn))
end Go.Proofs.Ytokimlfagpddlaa

/-
  A version, opened.
-/
namespace Go.Proofs.Ytokimlfagpddlaa.PD
open Go.RowKit Go.Proofs.Ytokimlfagpddlaa Go.Proofs.YtokimlfagpddlaaW.PrintWords
theorem opn_Meta : Opn Try.prog 35 k35 (fun b => (-9223372036854775808 ≤ b.f0 ∧ b.f0 ≤ 9223372036854775807) ∧ (-9223372036854775808 ≤ b.f1 ∧ b.f1 ≤ 9223372036854775807) ∧ b.f2.size ≤ reachBytes ∧ b.f3.size ≤ reachBytes ∧ (-9223372036854775808 ≤ b.f4 ∧ b.f4 ≤ 9223372036854775807)) :=
  opn_struct Try.underlying35 (opnF_more (opn_int Try.underlying3 (by kernel_rfl)) rfl (opnF_more (opn_int Try.underlying3 (by kernel_rfl)) rfl (opnF_more (opn_string Try.underlying9 (by kernel_rfl)) rfl (opnF_more (opn_string Try.underlying9 (by kernel_rfl)) rfl (opnF_one (opn_int Try.underlying3 (by kernel_rfl)) rfl))))) (by kernel_rfl)
    (g := fun a => (⟨a.1, a.2.1, a.2.2.1, a.2.2.2.1, a.2.2.2.2⟩ : S35)) (fun _ => rfl)
end Go.Proofs.Ytokimlfagpddlaa.PD

/-
  An edit, opened.
-/
namespace Go.Proofs.Ytokimlfagpddlaa.PD
open Go.RowKit Go.Proofs.Ytokimlfagpddlaa Go.Proofs.YtokimlfagpddlaaW.PrintWords
theorem opn_ints : Opn Try.prog 23 (Kd.slice 3 (Kd.int .i64)) (fun x => ∀ n ∈ x, -9223372036854775808 ≤ n ∧ n ≤ 9223372036854775807) := (opn_slice (b := 8) Try.underlying23 (opn_int Try.underlying3 (by kernel_rfl)) (by kernel_rfl) (by kernel_rfl)).imp (fun x h => h.2.2)
theorem opn_Edit : Opn Try.prog 32 (Kd.iso (Kd.pair (Kd.slice 35 k35) (Kd.pair (Kd.slice 3 (Kd.int .i64)) (Kd.pair (Kd.slice 3 (Kd.int .i64)) (Kd.pair (Kd.slice 3 (Kd.int .i64)) (Kd.int .i64))))) id) (fun _ => True) :=
  (opn_struct Try.underlying32 (opnF_more (opn_slice (b := 56) Try.underlying22 opn_Meta (by kernel_rfl) (by kernel_rfl)) rfl (opnF_more opn_ints rfl (opnF_more opn_ints rfl (opnF_more opn_ints rfl (opnF_one (opn_int Try.underlying3 (by kernel_rfl)) rfl))))) (by kernel_rfl)
    (g := id) (fun _ => rfl)).imp (fun x h => trivial)
end Go.Proofs.Ytokimlfagpddlaa.PD
