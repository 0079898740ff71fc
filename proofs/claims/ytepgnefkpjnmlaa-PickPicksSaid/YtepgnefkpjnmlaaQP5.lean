-- packed: Picks GOpn PkOpn
import Derived.Test.YtepgnefkpjnmlaaQP4
/-
  PickPicks, the plain law: of any version the document's own job is picked, or none; and each level's limit is the document's.
-/
set_option linter.unusedVariables false
set_option linter.unusedSimpArgs false
namespace Go.Proofs.Ytepgnefkpjnmlaa.PD
open Go.RowKit Go.Proofs.Ytepgnefkpjnmlaa Go.Proofs.YtepgnefkpjnmlaaW.PrintWords

theorem numbers_l0 (l : List Int) (hl : l.length ≤ 1000) : ∀ (d i k : Nat), l.length = i + d → d + 1 ≤ k → palinodelaw16_numbers.l0 k l l (i : Int) = some true := by
  intro d
  induction d with
  | zero =>
    intro i k hi hk
    obtain ⟨k, rfl⟩ : ∃ j, k = j + 1 := ⟨k - 1, by omega⟩
    rw [palinodelaw16_numbers.l0, if_neg (by omega)]
  | succ d ih =>
    intro i k hi hk
    obtain ⟨k, rfl⟩ : ∃ j, k = j + 1 := ⟨k - 1, by omega⟩
    have e1 : wrap64 ((i : Int) + 1) = ((i + 1 : Nat) : Int) := by rw [wrapP _ (by omega) (by omega)]; omega
    rw [palinodelaw16_numbers.l0, if_pos (by omega), if_pos (by omega), if_pos (by omega), if_pos rfl, e1]
    exact ih (i + 1) k (by omega) (by omega)
theorem numbers_some (l : List Int) (hl : l.length ≤ 1000) (k : Nat) (hk : l.length + 1 ≤ k) : palinodelaw16_numbers.f k l l = some true := by
  unfold palinodelaw16_numbers.f
  rw [if_pos rfl]
  exact numbers_l0 l hl l.length 0 k (by omega) hk
theorem Limit_same (a : Int) : ∃ n, pick_Limit.f a = some n ∧ palinoderef16_Limit.f a = some n := by
  unfold pick_Limit.f palinoderef16_Limit.f
  by_cases h1 : a = 1
  · subst h1; exact ⟨4000, by kernel_rfl, rfl⟩
  by_cases h2 : a = 2
  · subst h2; exact ⟨16000, by kernel_rfl, rfl⟩
  rw [if_neg h1, if_neg h2]
  by_cases h3 : a < 1
  · exact ⟨0, by rw [if_pos h3], rfl⟩
  · exact ⟨0, by rw [if_neg h3, if_pos (by omega)], rfl⟩
theorem PickPicks_any (V0 : List MetaT) (G : List Int) (a n : Int) (hg : (V0.length ≤ 9223372036854775807 ∧ ∀ m ∈ V0, -9223372036854775808 ≤ m.f0 ∧ m.f0 ≤ 9223372036854775807) ∧ (∀ n ∈ G, -9223372036854775808 ≤ n ∧ n ≤ 9223372036854775807)) (k : Nat) (hk : 300000 ≤ k) :
    palinodelaw16_PickPicks.f k V0 G a n = some true := by
  obtain ⟨lim, hl1, hl2⟩ := Limit_same n
  unfold palinodelaw16_PickPicks.f
  have hmn : mn (V0.length : Int) 60 = ((min V0.length 60 : Nat) : Int) := by unfold mn; split <;> omega
  rw [palinodelaw16_examples.sure, Option.bind_some, hmn, if_pos (by omega), if_pos (by omega), Option.bind_some, Int.toNat_natCast]
  obtain ⟨V, hV⟩ : ∃ V, V = V0.take (min V0.length 60) := ⟨_, rfl⟩
  have hlen : V.length ≤ 60 := by rw [hV, List.length_take]; omega
  have hf0 : ∀ m ∈ V, -9223372036854775808 ≤ m.f0 ∧ m.f0 ≤ 9223372036854775807 := fun m hm => hg.1.2 m (by rw [hV] at hm; exact List.mem_of_mem_take hm)
  rw [← hV]
  clear hV hmn
  have hR : version_Right.f V G a = some (version_Right.tell V G a) := by rw [version_Right.f, if_pos ⟨hf0, hg.2⟩]
  rw [refPick_some V G a k hk]
  unfold pick_Pick.f
  rw [hR, Option.bind_some]
  have hnil : palinodelaw16_numbers.f k [] [] = some true := numbers_some [] (by simp) k (by simp; omega)
  cases hT : version_Right.tell V G a with
  | false =>
    simp only [Bool.false_eq_true, if_false, Option.bind_some, hnil, if_true, beq_self_eq_true, hl1, hl2]
  | true =>
    obtain ⟨_, hm⟩ := right_facts hT
    have hF : pick_first.f V G a = some (pick_first.tell V) := by
      rw [pick_first.f, if_pos ⟨by omega, fun m hm' => (meta_facts m (hm m hm')).1⟩]
    rw [if_pos rfl, hF, Option.bind_some, if_pos rfl]
    by_cases hn : (pick_first.tell V).1 < 0
    · rw [if_pos hn, if_pos hn]
      simp only [Option.bind_some, hnil, if_true, beq_self_eq_true, hl1, hl2]
    · rw [if_neg hn, if_neg hn]
      have h1 : (pick_first.tell V).2.length ≤ 60 := by
        have h0 := lev_length V 0; have h1 := lev_length V 1; have h2 := lev_length V 2
        unfold pick_first.tell
        repeat' split
        all_goals simp
        all_goals omega
      have h2 : (pick_Pick.under V (pick_first.tell V).2 (pick_first.tell V).1).length ≤ 60 := Nat.le_trans (List.length_filter_le _ _) (Nat.le_trans (lev_length V _) hlen)
      have e1 : palinodelaw16_numbers.f k (pick_Pick.tell V (pick_first.tell V).2 (pick_first.tell V).1).2.1 (pick_Pick.tell V (pick_first.tell V).2 (pick_first.tell V).1).2.1 = some true := numbers_some _ (by simp [pick_Pick.tell]; omega) k (by simp [pick_Pick.tell]; omega)
      have e2 : palinodelaw16_numbers.f k (pick_Pick.tell V (pick_first.tell V).2 (pick_first.tell V).1).2.2.1 (pick_Pick.tell V (pick_first.tell V).2 (pick_first.tell V).1).2.2.1 = some true := numbers_some _ (by simp [pick_Pick.tell]; omega) k (by simp [pick_Pick.tell]; omega)
      simp only [Option.bind_some, e1, e2, if_true, beq_self_eq_true, hl1, hl2]
theorem PickPicks_true (V : List MetaT) (G : List Int) (a n : Int) (hg : (V.length ≤ 9223372036854775807 ∧ ∀ m ∈ V, -9223372036854775808 ≤ m.f0 ∧ m.f0 ≤ 9223372036854775807) ∧ (∀ n ∈ G, -9223372036854775808 ≤ n ∧ n ≤ 9223372036854775807)) (_h : -9223372036854775808 ≤ n ∧ n ≤ 9223372036854775807) :
    ∃ k, palinodelaw16_PickPicks.f k V G a n = some true := ⟨300000, PickPicks_any V G a n hg _ (Nat.le_refl _)⟩
end Go.Proofs.Ytepgnefkpjnmlaa.PD

/-
  Arguments opened: what lies at a type, as_ the print's kinds tell it (of any depth: whole numbers, truths, strings, structs, slices of these), with the bounds that a row's weights give.
-/
set_option linter.unusedVariables false
set_option linter.unusedSimpArgs false
namespace Go.Proofs.Ytepgnefkpjnmlaa
open Go.RowKit Go.Proofs.YtepgnefkpjnmlaaW.PrintWords Go.ChangeShapes Go.WideShapes Go.Deep

/-- Of a type: any cells that a datum stands on are of the kind, and good. -/
structure Opn (P : Program) (t : TypeId) {α : Type} (k : Kd α) (good : α → Prop) : Prop where
  sz : P.cellsOf t = k.sz
  op : ∀ {H : Type} {enc : TypeId × Value → H} {w : World} {base : Nat} {spare : Nat → Bool} {held : Bool} {fuel : Nat} {cs : List Value} {x : DataW H × List MemPlace},
    DataW.trod enc P w base spare held fuel t cs = some x → (∀ n ∈ x.1.weights P t, n ≤ reachBytes) → ∃ a : α, k.K w a cs ∧ good a
/-- Of a struct's fields, from a place on. -/
structure OpnF (P : Program) (fs : List Field) (off : Nat) {α : Type} (k : Kd α) (good : α → Prop) : Prop where
  op : ∀ {H : Type} {enc : TypeId × Value → H} {w : World} {base : Nat} {spare : Nat → Bool} {held : Bool} {fuel : Nat} {cs : List Value} {xs : List (DataW H × List MemPlace)},
    cs.length = off + k.sz → xs.length = fs.length → (∀ (i : Nat) (f : Field), fs[i]? = some f → DataW.trod enc P w base spare held fuel f.type ((cs.drop f.offset).take (P.cellsOf f.type)) = xs[i]?) →
    (∀ n ∈ DataW.weightsEach P (fs.map (·.type)) (xs.map (·.1)), n ≤ reachBytes) → ∃ a : α, k.K w a (cs.drop off) ∧ good a

theorem Opn.imp {P : Program} {t : TypeId} {α : Type} {k : Kd α} {good good' : α → Prop} (h : Opn P t k good) (hg : ∀ a, good a → good' a) : Opn P t k good' :=
  ⟨h.sz, fun hx hw => by obtain ⟨a, ha, hga⟩ := h.op hx hw; exact ⟨a, ha, hg a hga⟩⟩
theorem opn_int {P : Program} {t : TypeId} (ht : P.underlying t = some (.int .i64)) (hs : P.cellsOf t = 1) : Opn P t (Kd.int .i64) (fun n => -9223372036854775808 ≤ n ∧ n ≤ 9223372036854775807) :=
  ⟨hs, fun hx _ => by
    obtain ⟨n, rfl, _, hw⟩ := DataW.trod_int ht hx
    exact ⟨n, rfl, bounds_i64 hw⟩⟩
theorem opn_string {P : Program} {t : TypeId} (ht : P.underlying t = some .string) (hs : P.cellsOf t = 1) : Opn P t Kd.string (fun s => s.size ≤ reachBytes) :=
  ⟨hs, fun {H enc w base spare held fuel cs x} hx hw => by
    obtain ⟨s, rfl, hd, _⟩ := DataW.trod_string ht hx
    refine ⟨s, rfl, hw _ ?_⟩
    rw [hd]
    simp [DataW.weights]⟩
theorem opnF_one {P : Program} {f : Field} {off : Nat} {α : Type} {k : Kd α} {good : α → Prop} (h : Opn P f.type k good) (ho : f.offset = off) : OpnF P [f] off k good :=
  ⟨fun {H enc w base spare held fuel cs xs} hl hx hf hw => by
    match xs, hx with
    | [x], _ =>
      have h1 := hf 0 f rfl
      rw [ho, h.sz, List.take_of_length_le (by rw [List.length_drop]; omega)] at h1
      refine h.op h1 (fun n hn => hw n ?_)
      simp only [List.map_cons, List.map_nil, DataW.weightsEach, List.append_nil]
      exact hn⟩
theorem opnF_more {P : Program} {f : Field} {fs : List Field} {off : Nat} {α β : Type} {k : Kd α} {k' : Kd β} {good : α → Prop} {good' : β → Prop} (h : Opn P f.type k good) (ho : f.offset = off) (hr : OpnF P fs (off + k.sz) k' good') :
    OpnF P (f :: fs) off (Kd.pair k k') (fun x => good x.1 ∧ good' x.2) :=
  ⟨fun {H enc w base spare held fuel cs xs} hl hx hf hw => by
    match xs, hx with
    | x :: xs, hx =>
      have h1 := hf 0 f rfl
      rw [ho, h.sz] at h1
      have hl' : cs.length = off + (k.sz + k'.sz) := hl
      obtain ⟨a, ha, hga⟩ := h.op h1 (fun n hn => hw n (by
        simp only [List.map_cons, DataW.weightsEach]
        exact List.mem_append_left _ hn))
      obtain ⟨b, hb, hgb⟩ := hr.op (cs := cs) (xs := xs) (by omega) (by simpa using hx) (fun i g hg => by simpa using hf (i + 1) g (by simpa using hg)) (fun n hn => hw n (by
        simp only [List.map_cons, DataW.weightsEach]
        exact List.mem_append_right _ hn))
      refine ⟨(a, b), ⟨(cs.drop off).take k.sz, cs.drop (off + k.sz), ?_, ha, hb⟩, hga, hgb⟩
      rw [← List.drop_drop, List.take_append_drop]⟩
theorem opn_struct {P : Program} {t : TypeId} {fs : Array Field} {α β : Type} {k : Kd α} {f : β → α} {g : α → β} {good : α → Prop} (ht : P.underlying t = some (.struct fs)) (h : OpnF P fs.toList 0 k good) (hs : P.cellsOf t = k.sz) (hfg : ∀ a, f (g a) = a) :
    Opn P t (Kd.iso k f) (fun b => good (f b)) :=
  ⟨hs, fun {H enc w base spare held fuel cs x} hx hw => by
    obtain ⟨xs, n, _, rfl, hl, hxl, hf⟩ := DataW.trod_struct ht hx
    obtain ⟨a, ha, hga⟩ := h.op (cs := cs) (xs := xs) (by omega) (by simpa using hxl) (fun i f hi => hf i f (by simpa using hi)) (fun n hn => hw n (by
      simp only [DataW.weights, ht]
      exact hn))
    rw [List.drop_zero] at ha
    exact ⟨g a, by show k.K w (f (g a)) cs; rw [hfg]; exact ha, by rw [hfg]; exact hga⟩⟩
theorem weightsAll_mem {H : Type} {P : Program} {e : TypeId} : ∀ {ds : List (DataW H)} {d : DataW H}, d ∈ ds → ∀ n ∈ d.weights P e, n ∈ DataW.weightsAll P e ds
  | d0 :: ds, d, hd, n, hn => by
    simp only [DataW.weightsAll, List.mem_append]
    rcases List.mem_cons.1 hd with rfl | hd
    · exact .inl hn
    · exact .inr (weightsAll_mem hd n hn)
theorem choose_fn {α : Type} (d : α) {p : Nat → α → Prop} {m : Nat} (h : ∀ i, i < m → ∃ a, p i a) : ∃ F : Nat → α, ∀ i, i < m → p i (F i) := by
  classical
  exact ⟨fun i => if hi : i < m then (h i hi).choose else d, fun i hi => by simp only [dif_pos hi]; exact (h i hi).choose_spec⟩
theorem opn_slice {P : Program} {t e : TypeId} {α : Type} {k : Kd α} {good : α → Prop} {b : Nat} (ht : P.underlying t = some (.slice e)) (h : Opn P e k good) (hs : P.cellsOf t = 1) (hb : P.bytesOf e = b) :
    Opn P t (Kd.slice e k) (fun xs => xs.length ≤ 9223372036854775807 ∧ xs.length * b ≤ reachBytes ∧ ∀ x ∈ xs, good x) :=
  ⟨hs, fun {H enc w base spare held fuel cs x} hx hw => by
    rcases open_slice ht hx with ⟨rfl, rfl⟩ | ⟨a, len, cap, m, n, D, Pl, rfl, hbl, hl, hm, hmm, rfl, hi⟩
    · exact ⟨[], ⟨none, 0, rfl, Nat.le_refl _, Kd.C_nil _ _⟩, Nat.zero_le _, by simp, fun _ h => by simp at h⟩
    · have hlm : len ≤ m := by rw [hmm]; split <;> omega
      have key : ∀ i, i < len → ∃ a' : α, (∃ c, c.length = k.sz ∧ k.K w a' c ∧ ∀ j u, c[j]? = some u → w.cell? (a.add (i * k.sz + j)) = some u) ∧ good a' := fun i hil => by
        obtain ⟨cs', hc, ht'⟩ := hi i (by omega)
        obtain ⟨_, hcl, hat⟩ := World.cells?_some hc
        obtain ⟨a', ha, hg⟩ := h.op ht' (fun n hn => hw n (by
          simp only [DataW.weights, ht]
          refine List.mem_cons_of_mem _ (List.mem_append_left _ (weightsAll_mem (d := D i) ?_ n hn))
          exact List.mem_map.2 ⟨i, List.mem_range.2 hil, rfl⟩))
        refine ⟨a', ⟨cs', by rw [hcl, h.sz], ha, fun j u hu => ?_⟩, hg⟩
        have hj : j < cs'.length := (List.getElem?_eq_some_iff.1 hu).1
        have := hat j (by omega)
        rw [← Go.Deep.add_add, ← h.sz, this, hu]
      rcases Nat.eq_zero_or_pos len with h0 | hpos
      · subst h0
        exact ⟨[], ⟨some a, cap, rfl, hl, ⟨rfl, by simp, fun h => absurd h (Nat.lt_irrefl 0)⟩⟩, Nat.zero_le _, by simp, fun _ h => by simp at h⟩
      · obtain ⟨d, _⟩ := key 0 hpos
        obtain ⟨F, hF⟩ := choose_fn d key
        have hlen : ((List.range len).map F).length = len := by simp
        have hget : ∀ j p, ((List.range len).map F)[j]? = some p → j < len ∧ p = F j := fun j p hp => by
          have hj : j < len := by have := (List.getElem?_eq_some_iff.1 hp).1; omega
          rw [List.getElem?_map, List.getElem?_range hj] at hp
          exact ⟨hj, (Option.some.inj hp).symm⟩
        refine ⟨(List.range len).map F, ⟨some a, cap, by rw [hlen], by rw [hlen]; exact hl, ⟨rfl, by rw [hlen]; exact Nat.le_trans hl hm, fun _ => ⟨a, rfl, fun j p hp => ?_⟩⟩⟩, by rw [hlen]; exact Nat.le_trans hl hm, ?_, fun x hx => ?_⟩
        · obtain ⟨hj, rfl⟩ := hget j p hp
          obtain ⟨⟨c, hc, hk, hcell⟩, _⟩ := hF j hj
          exact ⟨c, hc, hk, hcell⟩
        · have := hw ((len + (m - len)) * P.bytesOf e) (by simp [DataW.weights, ht])
          rw [hlen, ← hb]
          exact Nat.le_trans (Nat.mul_le_mul_right _ (Nat.le_add_right _ _)) this
        · obtain ⟨i, hi', rfl⟩ := List.mem_map.1 hx
          exact (hF i (List.mem_range.1 hi')).2⟩
/-- A law's argument. -/
theorem Opn.arg {P : Program} {t : TypeId} {α : Type} {k : Kd α} {good : α → Prop} (ho : Opn P t k good) {H : Type} {enc : TypeId × Value → H} {w : World} {base : Nat} {spare : Nat → Bool} {held : Bool} {v : Value} {d : DataW H} {p : List MemPlace} (h : DataW.Trod enc P w base spare held t v d p)
    {ts : List TypeId} {ds : List (DataW H)} {j : Nat} (hsz : (DataW.weightsEach P ts ds).all (· ≤ reachBytes) = true) (htj : ts[j]? = some t) (hdj : ds[j]? = some d) : ∃ a : α, k.K w a v.cells.toList ∧ good a := by
  obtain ⟨fuel, hf⟩ := h
  exact ho.op hf (fun n hn => by simpa using List.all_eq_true.1 hsz n (DataW.weights_mem_each htj hdj n hn))
end Go.Proofs.Ytepgnefkpjnmlaa

/-
  A version, opened.
-/
namespace Go.Proofs.Ytepgnefkpjnmlaa.PD
open Go.RowKit Go.Proofs.Ytepgnefkpjnmlaa Go.Proofs.YtepgnefkpjnmlaaW.PrintWords
theorem opn_Meta : Opn Try.prog 49 k49 (fun b => (-9223372036854775808 ≤ b.f0 ∧ b.f0 ≤ 9223372036854775807) ∧ (-9223372036854775808 ≤ b.f1 ∧ b.f1 ≤ 9223372036854775807) ∧ b.f2.size ≤ reachBytes ∧ b.f3.size ≤ reachBytes ∧ (-9223372036854775808 ≤ b.f4 ∧ b.f4 ≤ 9223372036854775807)) :=
  opn_struct Try.underlying49 (opnF_more (opn_int Try.underlying3 (by kernel_rfl)) rfl (opnF_more (opn_int Try.underlying3 (by kernel_rfl)) rfl (opnF_more (opn_string Try.underlying9 (by kernel_rfl)) rfl (opnF_more (opn_string Try.underlying9 (by kernel_rfl)) rfl (opnF_one (opn_int Try.underlying3 (by kernel_rfl)) rfl))))) (by kernel_rfl)
    (g := fun a => (⟨a.1, a.2.1, a.2.2.1, a.2.2.2.1, a.2.2.2.2⟩ : S49)) (fun _ => rfl)
theorem opn_Version : Opn Try.prog 25 (Kd.iso (Kd.pair (Kd.slice 49 k49) (Kd.pair (Kd.slice 3 (Kd.int .i64)) (Kd.int .i64))) id)
    (fun x => (x.1.length ≤ 9223372036854775807 ∧ ∀ m ∈ x.1, -9223372036854775808 ≤ m.f0 ∧ m.f0 ≤ 9223372036854775807) ∧ (∀ n ∈ x.2.1, -9223372036854775808 ≤ n ∧ n ≤ 9223372036854775807)) :=
  (opn_struct Try.underlying25 (opnF_more (opn_slice (b := 56) Try.underlying22 opn_Meta (by kernel_rfl) (by kernel_rfl)) rfl (opnF_more (opn_slice (b := 8) Try.underlying23 (opn_int Try.underlying3 (by kernel_rfl)) (by kernel_rfl) (by kernel_rfl)) rfl (opnF_one (opn_int Try.underlying3 (by kernel_rfl)) rfl))) (by kernel_rfl)
    (g := id) (fun _ => rfl)).imp (fun _ h => ⟨⟨h.1.1, fun m hm => (h.1.2.2 m hm).1⟩, h.2.1.2.2⟩)
end Go.Proofs.Ytepgnefkpjnmlaa.PD
