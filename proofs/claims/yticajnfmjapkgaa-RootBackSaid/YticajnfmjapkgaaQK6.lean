-- packed: RtBack GOpn RtOpn
import Derived.Test.YticajnfmjapkgaaQK5
/-
  RootBack, the plain law: a root that is written is read as_ it was, what was read is written as_ it stood; and so are heads.
-/
set_option linter.unusedVariables false
set_option linter.unusedSimpArgs false
namespace Go.Proofs.Yticajnfmjapkgaa.PD
open Go.RowKit Go.Proofs.Yticajnfmjapkgaa Go.Proofs.YticajnfmjapkgaaW.PrintWords

theorem toList_iffB (a b : ByteArray) : a.toList = b.toList ↔ a = b := by
  constructor
  · intro h
    apply ByteArray.ext
    apply Array.toList_inj.1
    rw [← ByteArray.toList_eq, ← ByteArray.toList_eq, h]
  · rintro rfl; rfl
theorem toList_nil (a : ByteArray) : a.toList = [] ↔ a = ⟨#[]⟩ := by
  have h : (⟨#[]⟩ : ByteArray).toList = [] := by rw [ByteArray.toList_eq]
  exact ⟨fun e => (toList_iffB a ⟨#[]⟩).1 (e.trans h.symm), fun e => e ▸ h⟩
theorem encA_app (l : List Int) : ∀ a : ByteArray, encA a l = a ++ encA ⟨#[]⟩ l := by
  induction l with
  | nil => intro a; apply bytesOf_inj; simp [encA, bytesOf_append]; rfl
  | cons x l ih =>
    intro a
    have h1 : encA a (x :: l) = encA (a ++ numB x) l := rfl
    have h2 : encA ⟨#[]⟩ (x :: l) = encA (⟨#[]⟩ ++ numB x) l := rfl
    rw [h1, h2, ih (a ++ numB x), ih (⟨#[]⟩ ++ numB x)]
    apply bytesOf_inj
    simp only [bytesOf_append, List.append_assoc]
    rfl
theorem encA_cons (x : Int) (l : List Int) : encA ⟨#[]⟩ (x :: l) = numB x ++ encA ⟨#[]⟩ l := by
  have h2 : encA ⟨#[]⟩ (x :: l) = encA (⟨#[]⟩ ++ numB x) l := rfl
  rw [h2, encA_app]
  apply bytesOf_inj
  simp only [bytesOf_append, List.append_assoc]
  rfl
theorem encA_append (l l' : List Int) : encA ⟨#[]⟩ (l ++ l') = encA ⟨#[]⟩ l ++ encA ⟨#[]⟩ l' := by
  have : encA ⟨#[]⟩ (l ++ l') = encA (encA ⟨#[]⟩ l) l' := by unfold encA; rw [List.foldl_append]
  rw [this, encA_app]
def okN (x : Int) : Prop := 0 ≤ x ∧ x ≤ 9007199254740991
theorem nums_enc : ∀ (l : List Int) (r : ByteArray), (∀ x ∈ l, okN x) → nums l.length (encA ⟨#[]⟩ l ++ r) = .ok (l, r) := by
  intro l
  induction l with
  | nil =>
    intro r _
    have : encA ⟨#[]⟩ [] ++ r = r := by apply bytesOf_inj; rw [bytesOf_append]; rfl
    rw [this]; rfl
  | cons x l ih =>
    intro r h
    have hx := h x (by simp)
    have e : encA ⟨#[]⟩ (x :: l) ++ r = pack_Num.bytes x ++ (encA ⟨#[]⟩ l ++ r) := by
      rw [encA_cons, numB, if_neg (by unfold okN at hx; omega)]
      apply bytesOf_inj
      simp only [bytesOf_append, List.append_assoc]
    rw [List.length_cons, nums, e, tell_bytes x hx.1 hx.2]
    simp only [ih r (fun y hy => h y (by simp [hy]))]
theorem enc_nums : ∀ (n : Nat) (b r : ByteArray) (l : List Int), nums n b = .ok (l, r) → b = encA ⟨#[]⟩ l ++ r := by
  intro n
  induction n with
  | zero =>
    intro b r l h
    simp only [nums] at h
    injection h with h; injection h with h1 h2
    subst h1 h2
    apply bytesOf_inj; rw [bytesOf_append]; rfl
  | succ n ih =>
    intro b r l h
    simp only [nums] at h
    rcases hq : pack_ReadNum.tell b with ⟨x, r1, _ | c⟩
    · rw [hq] at h
      simp only at h
      rcases hn : nums n r1 with e | ⟨l', r2⟩
      · rw [hn] at h; simp at h
      · rw [hn] at h
        simp only at h
        injection h with h; injection h with h1 h2
        obtain ⟨h0, h9, hb⟩ := tell_some hq
        rw [← h1, encA_cons, numB, if_neg (by omega), hb, ih r1 r2 l' hn, h2]
        apply bytesOf_inj
        simp only [bytesOf_append, List.append_assoc]
    · rw [hq] at h; simp at h
theorem rgood_ok {total s n c : Int} {l : List FileT} (h : rgood total s n c l = true) : okN s ∧ okN n ∧ okN c ∧ l.length ≤ 24 ∧ ∀ f ∈ l, okN f.f0 ∧ (0 ≤ f.f1 ∧ f.f1 ≤ 4000) ∧ (0 ≤ f.f2 ∧ f.f2 ≤ 4000) := by
  obtain ⟨⟨h1, h2, h3, h4, h5⟩, hf, hc, hg⟩ := (rgood_iff total s n c l).1 h
  have ha := fok_all n l 0 hf
  have hv := good_valid hg
  have ht := good_of hg
  refine ⟨⟨by omega, h2⟩, ⟨by omega, h4⟩, ?_, h5, fun f hf' => ?_⟩
  · rcases hc with rfl | ⟨f, hm, rfl⟩
    · exact ⟨by omega, by omega⟩
    · have := ha f hm
      exact ⟨by omega, by omega⟩
  · have q1 := ha f hf'
    have q2 := hv (runOf f) (List.mem_map.2 ⟨f, hf', rfl⟩)
    unfold valid runOf at q2
    simp only at q2
    exact ⟨⟨by omega, by omega⟩, ⟨by omega, by omega⟩, by omega, by omega⟩
theorem flat_mem {l : List FileT} {x : Int} (h : x ∈ flat l) : ∃ f ∈ l, x = f.f0 ∨ x = f.f1 ∨ x = f.f2 := by
  induction l with
  | nil => simp [flat] at h
  | cons f l ih =>
    simp only [flat, List.mem_cons] at h
    rcases h with h | h | h | h
    · exact ⟨f, by simp, Or.inl h⟩
    · exact ⟨f, by simp, Or.inr (Or.inl h)⟩
    · exact ⟨f, by simp, Or.inr (Or.inr h)⟩
    · obtain ⟨g, hg, q⟩ := ih h
      exact ⟨g, by simp [hg], q⟩
theorem numB_le (x : Int) (k : Nat) (h0 : 0 ≤ x) (h : x < 256 ^ k) (hk : k ≤ 8) : (numB x).size ≤ 1 + k := by
  unfold numB
  split
  · exact Nat.zero_le _
  · rw [bytes_size]
    have := pack_Num.sz_le k 8 x h
    omega
theorem flat_size (l : List FileT) (h : ∀ f ∈ l, okN f.f0 ∧ (0 ≤ f.f1 ∧ f.f1 ≤ 4000) ∧ (0 ≤ f.f2 ∧ f.f2 ≤ 4000)) : (encA ⟨#[]⟩ (flat l)).size ≤ 14 * l.length := by
  induction l with
  | nil => exact Nat.zero_le _
  | cons f l ih =>
    obtain ⟨q0, q1, q2⟩ := h f (by simp)
    have h0 := numB_size f.f0
    have h1 := numB_le f.f1 2 q1.1 (by omega) (by omega)
    have h2 := numB_le f.f2 2 q2.1 (by omega) (by omega)
    have := ih (fun g hg => h g (by simp [hg]))
    simp only [flat, encA_cons, ByteArray.size_append, List.length_cons]
    omega
theorem encR_size {total s n c : Int} {l : List FileT} (h : rgood total s n c l = true) : (encR s n c l).size ≤ 512 := by
  obtain ⟨_, _, _, hl, hf⟩ := rgood_ok h
  have := flat_size l hf
  have h1 := numB_size s
  have h2 := numB_size n
  have h3 := numB_size c
  have h4 := numB_size (l.length : Int)
  unfold encR
  rw [encA_append, ByteArray.size_append, encA_cons, encA_cons, encA_cons, encA_cons]
  simp only [ByteArray.size_append]
  have h5 : (encA ⟨#[]⟩ []).size = 0 := rfl
  omega
theorem dec_enc {total s n c : Int} {l : List FileT} (h : rgood total s n c l = true) : dec total (encR s n c l) = (s, n, c, l, none) := by
  obtain ⟨q1, q2, q3, hl, hf⟩ := rgood_ok h
  have hs := encR_size h
  unfold dec
  rw [if_neg (by omega)]
  have h4 : nums 4 (encR s n c l) = .ok ([s, n, c, (l.length : Int)], encA ⟨#[]⟩ (flat l)) := by
    unfold encR
    rw [encA_append]
    exact nums_enc [s, n, c, (l.length : Int)] _ (fun x hx => by
      simp at hx
      rcases hx with rfl | rfl | rfl | rfl
      · exact q1
      · exact q2
      · exact q3
      · exact ⟨by omega, by omega⟩)
  have h5 : nums (3 * (l.length : Int).toNat) (encA ⟨#[]⟩ (flat l)) = .ok (flat l, ⟨#[]⟩) := by
    have := nums_enc (flat l) ⟨#[]⟩ (fun x hx => by
      obtain ⟨f, hm, q⟩ := flat_mem hx
      obtain ⟨w0, w1, w2⟩ := hf f hm
      rcases q with rfl | rfl | rfl
      · exact w0
      · exact ⟨by omega, by omega⟩
      · exact ⟨by omega, by omega⟩)
    have e : encA ⟨#[]⟩ (flat l) ++ ⟨#[]⟩ = encA ⟨#[]⟩ (flat l) := by
      apply bytesOf_inj; rw [bytesOf_append]; exact List.append_nil _
    rw [flat_length, e] at this
    rw [Int.toNat_natCast]
    exact this
  rw [h4]
  simp only
  rw [if_neg (by omega), h5]
  simp only
  rw [if_pos ((toList_nil _).2 rfl), files_flat, if_pos h]
theorem enc_dec {total s n c : Int} {l : List FileT} {b : ByteArray} (h : dec total b = (s, n, c, l, none)) : rgood total s n c l = true ∧ encR s n c l = b := by
  unfold dec at h
  split at h
  · simp at h
  · have hg := go4_4 b
    rcases hn : nums 4 b with e | ⟨q, r⟩
    · rw [hn] at h; simp at h
    · rw [hn] at hg h
      obtain ⟨x1, x2, x3, m, rfl, _⟩ := hg
      have hm := nums_nonneg 4 b r _ hn m (by simp)
      simp only at h
      split at h
      · simp at h
      · rcases hl : nums (3 * m.toNat) r with e | ⟨q, r'⟩
        · rw [hl] at h; simp at h
        · rw [hl] at h
          simp only at h
          split at h
          · next hr =>
            split at h
            · next hgd =>
              simp only [Prod.mk.injEq] at h
              obtain ⟨rfl, rfl, rfl, rfl, _⟩ := h
              refine ⟨hgd, ?_⟩
              have hq := nums_length _ _ _ _ hl
              have e1 := enc_nums _ _ _ _ hn
              have e2 := enc_nums _ _ _ _ hl
              rw [(toList_nil r').1 hr] at e2
              have hlen := files_length m.toNat q hq
              unfold encR
              rw [flat_files m.toNat q hq, hlen, show ((m.toNat : Nat) : Int) = m by omega, encA_append, e1, e2]
              apply bytesOf_inj
              simp only [bytesOf_append]
              rw [show bytesOf ⟨#[]⟩ = [] from rfl, List.append_nil]
            · simp at h
          · simp at h
theorem rnum_be (k : Nat) : ∀ n : Int, 0 ≤ n → n < 256 ^ k → root_ReadHead.num (pack_Num.be k n) = n := num_be k
theorem head_back (s z : Int) (h : inR s z) : root_ReadHead.f (strOfNums (headL s z)) = some (s, z, none) := by
  have hb := bytesOf_str _ (headL_bound s z)
  have hs : (strOfNums (headL s z)).size = 64 := by rw [str_size, headL_length]
  have e1 : ((headL s z).drop 2).take 7 = pack_Num.be 7 s := by
    rw [headL, List.drop_left' (by simp), List.take_left' (be_length _ _)]
  have e2 := headL_92 s z
  unfold root_ReadHead.f root_ReadHead.tell
  rw [if_neg (by omega), if_neg (by omega), hb, e1, e2]
  unfold inR at h
  rw [rnum_be 7 s (by omega) (by omega), rnum_be 2 z (by omega) (by omega), if_neg (by rw [cells_eq]; intro q; rcases q with q | q | q | q | q <;> first | omega | exact q rfl)]
theorem is_one : palinodelaw06_is.f (some 1) 1 = some true := rfl
theorem back_j1 (a3 a4 : Int) (k : Nat) (hk : 1 ≤ k) : palinodelaw06_RootBack.j1 k a3 a4 true false = some true := by
  obtain ⟨k, rfl⟩ : ∃ q, k = q + 1 := ⟨k - 1, by omega⟩
  rw [palinodelaw06_RootBack.j1, if_neg (by simp), Head_some, Option.bind_some]
  by_cases h : inR a3 a4
  · simp only [if_pos h, Option.isNone_none, if_true, head_back a3 a4 h, Option.bind_some, str_size, headL_length]
    rfl
  · simp only [if_neg h, Option.isNone_some, Bool.false_eq_true, if_false, if_true, Option.getD_some, is_one, Option.bind_some]
theorem back_j2 (a3 a4 : Int) (k : Nat) (hk : 1 ≤ k) : palinodelaw06_RootBack.j2 k a3 a4 true false = some true := by
  obtain ⟨k, rfl⟩ : ∃ q, k = q + 1 := ⟨k - 1, by omega⟩
  rw [palinodelaw06_RootBack.j2, if_neg (by simp), Head_some, Option.bind_some]
  by_cases h : inR a3 a4
  · simp only [if_pos h, Option.isNone_none, if_true, head_back a3 a4 h, Option.bind_some, str_size, headL_length]
    rfl
  · simp only [if_neg h, Option.isNone_some, Bool.false_eq_true, if_false, if_true, Option.getD_some, is_one, Option.bind_some]
theorem back_j0 (a0 : Int) (b : ByteArray) (a3 a4 : Int) (k : Nat) (hk : 2000 ≤ k) : palinodelaw06_RootBack.j0 k a0 b a3 a4 true false = some true := by
  obtain ⟨k, rfl⟩ : ∃ q, k = q + 1 := ⟨k - 1, by omega⟩
  rw [palinodelaw06_RootBack.j0, if_neg (by simp), Dec_some a0 b k (by omega), Option.bind_some]
  rcases hd : dec a0 b with ⟨d1, d2, d3, d4, _ | e⟩
  · obtain ⟨hg, he⟩ := enc_dec hd
    have hl := rgood_len hg
    simp only [Option.isNone_none, if_true]
    rw [Enc_some a0 d1 d2 d3 d4 k (by omega) (by omega), if_pos hg, he]
    simp only [Option.bind_some, if_true, Option.isNone_none]
    exact back_j1 a3 a4 k (by omega)
  · simp only [Option.isNone_some, Bool.false_eq_true, if_false]
    rw [Head_some, Option.bind_some]
    by_cases h : inR a3 a4
    · simp only [if_pos h, Option.isNone_none, if_true, head_back a3 a4 h, Option.bind_some, str_size, headL_length]
      rfl
    · simp only [if_neg h, Option.isNone_some, Bool.false_eq_true, if_false, if_true, Option.getD_some, is_one, Option.bind_some]
theorem RootBack_true (a0 s n c : Int) (l : List FileT) (b : ByteArray) (a3 a4 : Int) (_h0 : -9223372036854775808 ≤ a0 ∧ a0 ≤ 9223372036854775807)
    (g : l.length ≤ 5864062014804 ∧ (∀ b ∈ l, (-9223372036854775808 ≤ b.f0 ∧ b.f0 ≤ 9223372036854775807) ∧ (-9223372036854775808 ≤ b.f1 ∧ b.f1 ≤ 9223372036854775807) ∧ (-9223372036854775808 ≤ b.f2 ∧ b.f2 ≤ 9223372036854775807)) ∧ (-9223372036854775808 ≤ s ∧ s ≤ 9223372036854775807) ∧ (-9223372036854775808 ≤ n ∧ n ≤ 9223372036854775807) ∧ (-9223372036854775808 ≤ c ∧ c ≤ 9223372036854775807))
    (_h2 : b.size ≤ reachBytes) (_h3 : -9223372036854775808 ≤ a3 ∧ a3 ≤ 9223372036854775807) (_h4 : -9223372036854775808 ≤ a4 ∧ a4 ≤ 9223372036854775807) : ∃ k, palinodelaw06_RootBack.f k a0 s n c l b a3 a4 = some true := by
  obtain ⟨k, hk⟩ : ∃ k, k = l.length + 5000 := ⟨_, rfl⟩
  refine ⟨k, ?_⟩
  unfold palinodelaw06_RootBack.f
  rw [ex_some k (by omega), Option.bind_some, Enc_some a0 s n c l k (by omega) (by have := g.1; omega), Option.bind_some]
  by_cases hg : rgood a0 s n c l = true
  · have hs := encR_size hg
    have hl := rgood_len hg
    have e : decide (((encR s n c l).size : Int) > 512) = false := decide_eq_false (by omega)
    rw [if_pos hg]
    simp only [Option.isNone_none, if_true]
    rw [Dec_some a0 _ k (by omega), dec_enc hg, Option.bind_some]
    simp only
    rw [same_some s n c l k (by omega) (by omega)]
    simp only [Option.bind_some, if_true, Option.isNone_none, e]
    exact back_j0 a0 b a3 a4 k (by omega)
  · rw [if_neg hg]
    simp only [Option.isNone_some, Bool.false_eq_true, if_false]
    rw [Dec_some a0 b k (by omega), Option.bind_some]
    rcases hd : dec a0 b with ⟨d1, d2, d3, d4, _ | e⟩
    · obtain ⟨hg, he⟩ := enc_dec hd
      have hl := rgood_len hg
      simp only [Option.isNone_none, if_true]
      rw [Enc_some a0 d1 d2 d3 d4 k (by omega) (by omega), if_pos hg, he]
      simp only [Option.bind_some, if_true, Option.isNone_none]
      exact back_j2 a3 a4 k (by omega)
    · simp only [Option.isNone_some, Bool.false_eq_true, if_false]
      rw [Head_some, Option.bind_some]
      by_cases h : inR a3 a4
      · simp only [if_pos h, Option.isNone_none, if_true, head_back a3 a4 h, Option.bind_some, str_size, headL_length]
        rfl
      · simp only [if_neg h, Option.isNone_some, Bool.false_eq_true, if_false, if_true, Option.getD_some, is_one, Option.bind_some]
end Go.Proofs.Yticajnfmjapkgaa.PD

/-
  Arguments opened: what lies at a type, as_ the print's kinds tell it (of any depth: whole numbers, truths, strings, structs, slices of these), with the bounds that a row's weights give.
-/
set_option linter.unusedVariables false
set_option linter.unusedSimpArgs false
namespace Go.Proofs.Yticajnfmjapkgaa
open Go.RowKit Go.Proofs.YticajnfmjapkgaaW.PrintWords Go.ChangeShapes Go.WideShapes Go.Deep

/-- Of a type: any cells that a datum stands on are of the kind, and good. -/
structure Opn (P : Program) (t : TypeId) {α : Type} (k : Kd α) (good : α → Prop) : Prop where
  sz : P.cellsOf t = k.sz
  op : ∀ {H : Type} {enc : TypeId × Value → H} {w : World} {base : Nat} {spare : Nat → Bool} {held : Bool} {fuel : Nat} {cs : List Value} {x : DataW H × List MemPlace},
    DataW.trod enc P w base spare held fuel t cs = some x → (∀ n ∈ x.1.weights P t, n ≤ reachBytes) → ∃ a : α, k.K w a cs ∧ good a
/-- Of a struct's fields, from a place on. -/
structure OpnF (P : Program) (fs : List Field) (off : Nat) {α : Type} (k : Kd α) (good : α → Prop) : Prop where
  op : ∀ {H : Type} {enc : TypeId × Value → H} {w : World} {base : Nat} {spare : Nat → Bool} {held : Bool} {fuel : Nat} {cs : List Value} {xs : List (DataW H × List MemPlace)},
    cs.length = off + k.sz → xs.length = fs.length → (∀ (i : Nat) (f : Field), fs[i]? = some f → DataW.trod enc P w base spare held fuel f.type ((cs.drop f.offset).take (P.cellsOf f.type)) = xs[i]?) →
    (∀ n ∈ DataW.weightsEach P (fs.map (·.type)) (xs.map (·.1)), n ≤ reachBytes) → ∃ a : α, k.K w a (cs.drop off) ∧ good a

theorem Opn.imp {P : Program} {t : TypeId} {α : Type} {k : Kd α} {good good' : α → Prop} (h : Opn P t k good) (hg : ∀ a, good a → good' a) : Opn P t k good' :=
  ⟨h.sz, fun hx hw => by obtain ⟨a, ha, hga⟩ := h.op hx hw; exact ⟨a, ha, hg a hga⟩⟩
theorem opn_int {P : Program} {t : TypeId} (ht : P.underlying t = some (.int .i64)) (hs : P.cellsOf t = 1) : Opn P t (Kd.int .i64) (fun n => -9223372036854775808 ≤ n ∧ n ≤ 9223372036854775807) :=
  ⟨hs, fun hx _ => by
    obtain ⟨n, rfl, _, hw⟩ := DataW.trod_int ht hx
    exact ⟨n, rfl, bounds_i64 hw⟩⟩
theorem opnF_one {P : Program} {f : Field} {off : Nat} {α : Type} {k : Kd α} {good : α → Prop} (h : Opn P f.type k good) (ho : f.offset = off) : OpnF P [f] off k good :=
  ⟨fun {H enc w base spare held fuel cs xs} hl hx hf hw => by
    match xs, hx with
    | [x], _ =>
      have h1 := hf 0 f rfl
      rw [ho, h.sz, List.take_of_length_le (by rw [List.length_drop]; omega)] at h1
      refine h.op h1 (fun n hn => hw n ?_)
      simp only [List.map_cons, List.map_nil, DataW.weightsEach, List.append_nil]
      exact hn⟩
theorem opnF_more {P : Program} {f : Field} {fs : List Field} {off : Nat} {α β : Type} {k : Kd α} {k' : Kd β} {good : α → Prop} {good' : β → Prop} (h : Opn P f.type k good) (ho : f.offset = off) (hr : OpnF P fs (off + k.sz) k' good') :
    OpnF P (f :: fs) off (Kd.pair k k') (fun x => good x.1 ∧ good' x.2) :=
  ⟨fun {H enc w base spare held fuel cs xs} hl hx hf hw => by
    match xs, hx with
    | x :: xs, hx =>
      have h1 := hf 0 f rfl
      rw [ho, h.sz] at h1
      have hl' : cs.length = off + (k.sz + k'.sz) := hl
      obtain ⟨a, ha, hga⟩ := h.op h1 (fun n hn => hw n (by
        simp only [List.map_cons, DataW.weightsEach]
        exact List.mem_append_left _ hn))
      obtain ⟨b, hb, hgb⟩ := hr.op (cs := cs) (xs := xs) (by omega) (by simpa using hx) (fun i g hg => by simpa using hf (i + 1) g (by simpa using hg)) (fun n hn => hw n (by
        simp only [List.map_cons, DataW.weightsEach]
        exact List.mem_append_right _ hn))
      refine ⟨(a, b), ⟨(cs.drop off).take k.sz, cs.drop (off + k.sz), ?_, ha, hb⟩, hga, hgb⟩
      rw [← List.drop_drop, List.take_append_drop]⟩
theorem opn_struct {P : Program} {t : TypeId} {fs : Array Field} {α β : Type} {k : Kd α} {f : β → α} {g : α → β} {good : α → Prop} (ht : P.underlying t = some (.struct fs)) (h : OpnF P fs.toList 0 k good) (hs : P.cellsOf t = k.sz) (hfg : ∀ a, f (g a) = a) :
    Opn P t (Kd.iso k f) (fun b => good (f b)) :=
  ⟨hs, fun {H enc w base spare held fuel cs x} hx hw => by
    obtain ⟨xs, n, _, rfl, hl, hxl, hf⟩ := DataW.trod_struct ht hx
    obtain ⟨a, ha, hga⟩ := h.op (cs := cs) (xs := xs) (by omega) (by simpa using hxl) (fun i f hi => hf i f (by simpa using hi)) (fun n hn => hw n (by
      simp only [DataW.weights, ht]
      exact hn))
    rw [List.drop_zero] at ha
    exact ⟨g a, by show k.K w (f (g a)) cs; rw [hfg]; exact ha, by rw [hfg]; exact hga⟩⟩
theorem weightsAll_mem {H : Type} {P : Program} {e : TypeId} : ∀ {ds : List (DataW H)} {d : DataW H}, d ∈ ds → ∀ n ∈ d.weights P e, n ∈ DataW.weightsAll P e ds
  | d0 :: ds, d, hd, n, hn => by
    simp only [DataW.weightsAll, List.mem_append]
    rcases List.mem_cons.1 hd with rfl | hd
    · exact .inl hn
    · exact .inr (weightsAll_mem hd n hn)
theorem choose_fn {α : Type} (d : α) {p : Nat → α → Prop} {m : Nat} (h : ∀ i, i < m → ∃ a, p i a) : ∃ F : Nat → α, ∀ i, i < m → p i (F i) := by
  classical
  exact ⟨fun i => if hi : i < m then (h i hi).choose else d, fun i hi => by simp only [dif_pos hi]; exact (h i hi).choose_spec⟩
theorem opn_slice {P : Program} {t e : TypeId} {α : Type} {k : Kd α} {good : α → Prop} {b : Nat} (ht : P.underlying t = some (.slice e)) (h : Opn P e k good) (hs : P.cellsOf t = 1) (hb : P.bytesOf e = b) :
    Opn P t (Kd.slice e k) (fun xs => xs.length ≤ 9223372036854775807 ∧ xs.length * b ≤ reachBytes ∧ ∀ x ∈ xs, good x) :=
  ⟨hs, fun {H enc w base spare held fuel cs x} hx hw => by
    rcases open_slice ht hx with ⟨rfl, rfl⟩ | ⟨a, len, cap, m, n, D, Pl, rfl, hbl, hl, hm, hmm, rfl, hi⟩
    · exact ⟨[], ⟨none, 0, rfl, Nat.le_refl _, Kd.C_nil _ _⟩, Nat.zero_le _, by simp, fun _ h => by simp at h⟩
    · have hlm : len ≤ m := by rw [hmm]; split <;> omega
      have key : ∀ i, i < len → ∃ a' : α, (∃ c, c.length = k.sz ∧ k.K w a' c ∧ ∀ j u, c[j]? = some u → w.cell? (a.add (i * k.sz + j)) = some u) ∧ good a' := fun i hil => by
        obtain ⟨cs', hc, ht'⟩ := hi i (by omega)
        obtain ⟨_, hcl, hat⟩ := World.cells?_some hc
        obtain ⟨a', ha, hg⟩ := h.op ht' (fun n hn => hw n (by
          simp only [DataW.weights, ht]
          refine List.mem_cons_of_mem _ (List.mem_append_left _ (weightsAll_mem (d := D i) ?_ n hn))
          exact List.mem_map.2 ⟨i, List.mem_range.2 hil, rfl⟩))
        refine ⟨a', ⟨cs', by rw [hcl, h.sz], ha, fun j u hu => ?_⟩, hg⟩
        have hj : j < cs'.length := (List.getElem?_eq_some_iff.1 hu).1
        have := hat j (by omega)
        rw [← Go.Deep.add_add, ← h.sz, this, hu]
      rcases Nat.eq_zero_or_pos len with h0 | hpos
      · subst h0
        exact ⟨[], ⟨some a, cap, rfl, hl, ⟨rfl, by simp, fun h => absurd h (Nat.lt_irrefl 0)⟩⟩, Nat.zero_le _, by simp, fun _ h => by simp at h⟩
      · obtain ⟨d, _⟩ := key 0 hpos
        obtain ⟨F, hF⟩ := choose_fn d key
        have hlen : ((List.range len).map F).length = len := by simp
        have hget : ∀ j p, ((List.range len).map F)[j]? = some p → j < len ∧ p = F j := fun j p hp => by
          have hj : j < len := by have := (List.getElem?_eq_some_iff.1 hp).1; omega
          rw [List.getElem?_map, List.getElem?_range hj] at hp
          exact ⟨hj, (Option.some.inj hp).symm⟩
        refine ⟨(List.range len).map F, ⟨some a, cap, by rw [hlen], by rw [hlen]; exact hl, ⟨rfl, by rw [hlen]; exact Nat.le_trans hl hm, fun _ => ⟨a, rfl, fun j p hp => ?_⟩⟩⟩, by rw [hlen]; exact Nat.le_trans hl hm, ?_, fun x hx => ?_⟩
        · obtain ⟨hj, rfl⟩ := hget j p hp
          obtain ⟨⟨c, hc, hk, hcell⟩, _⟩ := hF j hj
          exact ⟨c, hc, hk, hcell⟩
        · have := hw ((len + (m - len)) * P.bytesOf e) (by simp [DataW.weights, ht])
          rw [hlen, ← hb]
          exact Nat.le_trans (Nat.mul_le_mul_right _ (Nat.le_add_right _ _)) this
        · obtain ⟨i, hi', rfl⟩ := List.mem_map.1 hx
          exact (hF i (List.mem_range.1 hi')).2⟩
/-- A law's argument. -/
theorem Opn.arg {P : Program} {t : TypeId} {α : Type} {k : Kd α} {good : α → Prop} (ho : Opn P t k good) {H : Type} {enc : TypeId × Value → H} {w : World} {base : Nat} {spare : Nat → Bool} {held : Bool} {v : Value} {d : DataW H} {p : List MemPlace} (h : DataW.Trod enc P w base spare held t v d p)
    {ts : List TypeId} {ds : List (DataW H)} {j : Nat} (hsz : (DataW.weightsEach P ts ds).all (· ≤ reachBytes) = true) (htj : ts[j]? = some t) (hdj : ds[j]? = some d) : ∃ a : α, k.K w a v.cells.toList ∧ good a := by
  obtain ⟨fuel, hf⟩ := h
  exact ho.op hf (fun n hn => by simpa using List.all_eq_true.1 hsz n (DataW.weights_mem_each htj hdj n hn))
end Go.Proofs.Yticajnfmjapkgaa

/-
  The arguments of chapter 6's laws, opened.
-/
namespace Go.Proofs.Yticajnfmjapkgaa.PD
open Go.RowKit Go.Proofs.Yticajnfmjapkgaa Go.Proofs.YticajnfmjapkgaaW.PrintWords
theorem opn_File : Opn Try.prog 42 k42 (fun b => (-9223372036854775808 ≤ b.f0 ∧ b.f0 ≤ 9223372036854775807) ∧ (-9223372036854775808 ≤ b.f1 ∧ b.f1 ≤ 9223372036854775807) ∧ (-9223372036854775808 ≤ b.f2 ∧ b.f2 ≤ 9223372036854775807)) :=
  opn_struct Try.underlying42 (opnF_more (opn_int Try.underlying3 (by kernel_rfl)) rfl (opnF_more (opn_int Try.underlying3 (by kernel_rfl)) rfl (opnF_one (opn_int Try.underlying3 (by kernel_rfl)) rfl))) (by kernel_rfl)
    (g := fun a => (⟨a.1, a.2.1, a.2.2⟩ : S42)) (fun _ => rfl)
theorem opn_Root : Opn Try.prog 39 (Kd.iso (Kd.pair (Kd.int .i64) (Kd.pair (Kd.int .i64) (Kd.pair (Kd.int .i64) (Kd.slice 42 k42)))) id)
    (fun x => x.2.2.2.length ≤ 5864062014804 ∧ (∀ b ∈ x.2.2.2, (-9223372036854775808 ≤ b.f0 ∧ b.f0 ≤ 9223372036854775807) ∧ (-9223372036854775808 ≤ b.f1 ∧ b.f1 ≤ 9223372036854775807) ∧ (-9223372036854775808 ≤ b.f2 ∧ b.f2 ≤ 9223372036854775807)) ∧ (-9223372036854775808 ≤ x.1 ∧ x.1 ≤ 9223372036854775807) ∧ (-9223372036854775808 ≤ x.2.1 ∧ x.2.1 ≤ 9223372036854775807) ∧ (-9223372036854775808 ≤ x.2.2.1 ∧ x.2.2.1 ≤ 9223372036854775807)) :=
  (opn_struct Try.underlying39 (opnF_more (opn_int Try.underlying3 (by kernel_rfl)) rfl (opnF_more (opn_int Try.underlying3 (by kernel_rfl)) rfl (opnF_more (opn_int Try.underlying3 (by kernel_rfl)) rfl (opnF_one (opn_slice (b := 24) Try.underlying37 opn_File (by kernel_rfl) (by kernel_rfl)) rfl)))) (by kernel_rfl)
    (g := id) (fun _ => rfl)).imp (fun x h => ⟨by have h' : x.2.2.2.length * 24 ≤ reachBytes := h.2.2.2.2.1; unfold reachBytes at h'; omega, h.2.2.2.2.2, h.1, h.2.1, h.2.2.1⟩)
end Go.Proofs.Yticajnfmjapkgaa.PD
