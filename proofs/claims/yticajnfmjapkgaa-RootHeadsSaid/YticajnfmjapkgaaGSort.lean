/-
  A row of structs that the call owns, sorted in its place by the library: read as the sort's row, and owned again behind it.
-/
import Derived.Test.YticajnfmjapkgaaWMore
import Derived.Shelf.GgSortFunc.InsertionK
set_option linter.unusedVariables false
set_option linter.unusedSimpArgs false
namespace Go.Proofs.Yticajnfmjapkgaa
open Go.RowKit Go.Proofs.YticajnfmjapkgaaW.PrintWords Go.Sort

section
variable {α : Type} {d : Kd α} {enc : α → List Value}

theorem flat_take_drop (L : Nat) (l : List α) (hl : ∀ x, (enc x).length = L) (q r : Nat) (x : α) (hx : l[q]? = some x) (hr : r < L) : (l.map enc).flatten[q * L + r]? = (enc x)[r]? := by
  induction l generalizing q with
  | nil => simp at hx
  | cons y l ih =>
    simp only [List.map_cons, List.flatten_cons]
    cases q with
    | zero =>
      simp at hx
      subst hx
      rw [Nat.zero_mul, Nat.zero_add, List.getElem?_append_left (by rw [hl]; exact hr)]
    | succ q =>
      rw [List.getElem?_append_right (by rw [hl, Nat.succ_mul]; omega), hl, show (q + 1) * L + r - L = q * L + r by rw [Nat.succ_mul]; omega]
      exact ih q (by simpa using hx)
theorem flat_len (L : Nat) (l : List α) (hl : ∀ x, (enc x).length = L) : (l.map enc).flatten.length = l.length * L := by
  induction l with
  | nil => simp
  | cons y l ih => simp only [List.map_cons, List.flatten_cons, List.length_append, hl, ih, List.length_cons, Nat.succ_mul]; omega
theorem reps_flat (L : Nat) (l : List α) {R : α → List Value → Prop} {cs : List Value} (hR : ∀ p c, R p c → c = enc p) (hl : ∀ x, (enc x).length = L) (h : Reps R L l cs) : cs = (l.map enc).flatten := by
  obtain ⟨h1, h2⟩ := h
  apply List.ext_getElem?
  intro t
  rcases Nat.lt_or_ge t (l.length * L) with ht | ht
  · have h0 : 0 < L := by rcases Nat.eq_zero_or_pos L with h | h; subst h; simp at ht; exact h
    have hq : t / L < l.length := (Nat.div_lt_iff_lt_mul h0).2 ht
    have hr : t % L < L := Nat.mod_lt _ h0
    have hx : l[t / L]? = some l[t / L] := List.getElem?_eq_getElem hq
    have e := hR _ _ (h2 _ _ hx)
    have := flat_take_drop L l hl (t / L) (t % L) _ hx hr
    have ed : t / L * L + t % L = t := by rw [Nat.mul_comm]; exact Nat.div_add_mod t L
    rw [ed] at this
    rw [this, ← e, List.getElem?_take_of_lt hr, List.getElem?_drop, ed]
  · rw [List.getElem?_eq_none (by omega), List.getElem?_eq_none (by rw [flat_len L l hl]; omega)]
theorem flat_reps (L : Nat) (l : List α) {R : α → List Value → Prop} (hR : ∀ p, R p (enc p)) (hl : ∀ x, (enc x).length = L) : Reps R L l (l.map enc).flatten := by
  refine ⟨flat_len L l hl, fun j p hp => ?_⟩
  have e : (((l.map enc).flatten.drop (j * L)).take L) = enc p := by
    apply List.ext_getElem?
    intro t
    rcases Nat.lt_or_ge t L with ht | ht
    · rw [List.getElem?_take_of_lt ht, List.getElem?_drop, flat_take_drop L l hl j t p hp ht]
    · rw [List.getElem?_take_eq_none ht, List.getElem?_eq_none (by rw [hl]; exact ht)]
  rw [e]
  exact hR p

variable [Inhabited α]
theorem flat_cells (L : Nat) (h0 : 0 < L) (l : List α) (hl : ∀ x, (enc x).length = L) (t : Nat) (ht : t < l.length * L) : (l.map enc).flatten[t]? = some ((flatK enc L l.toArray)[t]!) := by
  rw [get_flatK _ _ _ _ (by simpa using ht)]
  have hq : t / L < l.length := (Nat.div_lt_iff_lt_mul h0).2 ht
  have hr : t % L < L := Nat.mod_lt _ h0
  have hx : l[t / L]? = some l[t / L] := List.getElem?_eq_getElem hq
  have := flat_take_drop L l hl (t / L) (t % L) _ hx hr
  rw [show t / L * L + t % L = t by rw [Nat.mul_comm]; exact Nat.div_add_mod t L] at this
  rw [this]
  have e1 : (l.toArray)[t / L]! = l[t / L] := by rw [getElem!_pos l.toArray (t / L) (by simpa using hq)]; simp
  rw [e1, List.getElem?_eq_getElem (by rw [hl]; exact hr), getElem!_pos _ _ (by rw [hl]; exact hr)]
/-- Before the sort: the row as the sort's own word has it. -/
theorem R_holds {e : Nat} {w : World} {base : Nat} {ok : Nat → Prop} {g cap : Nat} {l : List α} (hlen : ∀ x, (enc x).length = d.sz) (h0 : 0 < d.sz) (hM : ∀ {w base ok x cs}, d.M w base ok x cs → cs = enc x)
    (h : d.R e w base ok (.slice (some ⟨g, 0, none⟩) l.length cap) l) : HoldsK enc d.sz w g 0 l.toArray ∧ g < w.heap.size ∧ base ≤ g := by
  obtain ⟨_, inner, ⟨ho1, ho2⟩, hr⟩ := h
  have hi := reps_flat d.sz l (fun p c hp => hM hp) hlen hr
  rcases ho2 with ⟨q, _⟩ | ⟨g', cap', cur, q, hb, hg, hn, _, hs, hx⟩
  · cases q
  · injection q with q1 q2 q3
    injection q1 with q1
    injection q1 with q1
    clear q2
    subst q1 q3
    refine ⟨fun t ht => ?_, (Array.getElem?_eq_some_iff.1 hg).1, hb⟩
    have ht2 : t < l.length * d.sz := by simpa using ht
    refine ⟨?_, by simp [World.frozen?, hg]⟩
    have hc := flat_cells d.sz h0 l hlen t ht2
    rw [← hi, ← hx, List.getElem?_take_of_lt ht2] at hc
    rw [Nat.zero_add, cell_of_row _ _ _ _ _ _ hg, ← Array.getElem?_toList]
    exact hc
/-- Behind it: the same slice owns the row as it lies now; all older blocks but that one are as they were. -/
theorem sorted_R {e : Nat} {w : World} {base : Nat} {ok : Nat → Prop} {g cap m : Nat} {l : List α} {d' : Array α} {os : Array Obj} (hlen : ∀ x, (enc x).length = d.sz) (h0 : 0 < d.sz) (hM : ∀ {w base ok x cs}, d.M w base ok x cs → cs = enc x) (hM2 : ∀ w base ok x, d.M w base ok x (enc x))
    (h : d.R e w base ok (.slice (some ⟨g, 0, none⟩) l.length cap) l) (hd : d'.size = l.length) : d.R e (sortWorldK enc d.sz w g 0 m d' os) base ok (.slice (some ⟨g, 0, none⟩) l.length cap) d'.toList ∧ w.grownBy (sortWorldK enc d.sz w g 0 m d' os) (some g) := by
  obtain ⟨hok, inner, ⟨ho1, ho2⟩, hr⟩ := h
  have hi := reps_flat d.sz l (fun p c hp => hM hp) hlen hr
  have hrl := hr.1
  rcases ho2 with ⟨q, _⟩ | ⟨g', cap', cur, q, hb, hg, hn, hm, hs, hx⟩
  · cases q
  · injection q with q1 q2 q3
    injection q1 with q1
    injection q1 with q1
    clear q2
    subst q1 q3
    have hlt : g < w.heap.size := (Array.getElem?_eq_some_iff.1 hg).1
    obtain ⟨n, hn0⟩ : ∃ n, n = l.length := ⟨_, rfl⟩
    rw [← hn0] at hd hn hx ⊢
    have hsz : d'.toList.length = n := by simp [hd]
    refine ⟨⟨hok, (d'.toList.map enc).flatten, ⟨by rw [flat_len d.sz _ hlen], Or.inr ⟨g, cap, putCells id 0 (flatK enc d.sz d') cur, by rw [hsz], hb, ?_, by rw [hsz]; exact hn, hm, by simp [putCells, hs], ?_⟩⟩, ?_⟩, ?_⟩
    · rw [sortWorldK, heap_grow_old _ _ (by simp [putRowK, Sort.ahead]; exact hlt)]
      simp [putRowK, putRow, mapBlock, Sort.ahead, Array.getElem?_modify, hg, onCells]
    · apply List.ext_getElem?
      intro t
      have hle : n * d.sz ≤ cur.size := by rw [hs]; exact Nat.mul_le_mul_right _ hn
      rw [hsz]
      rcases Nat.lt_or_ge t (n * d.sz) with ht | ht
      · have hc := flat_cells d.sz h0 d'.toList hlen t (by rw [hsz]; exact ht)
        rw [hc, List.getElem?_take_of_lt ht, Array.getElem?_toList]
        have : t < d'.size * d.sz := by rw [hd]; exact ht
        simp [putCells, show t < cur.size by omega, this]
      · rw [List.getElem?_take_eq_none ht, List.getElem?_eq_none (by rw [flat_len d.sz _ hlen, hsz]; exact ht)]
    · exact flat_reps d.sz _ (fun p => hM2 _ _ _ p) hlen
    · refine ⟨rfl, rfl, rfl, by simp [sortWorldK, putRowK, Sort.ahead], fun k hk hne => ?_⟩
      rw [sortWorldK, heap_grow_old _ _ (by simpa [putRowK, Sort.ahead] using hk)]
      have : g ≠ k := fun e => hne (by rw [e])
      simp [putRowK, putRow, mapBlock, Sort.ahead, Array.getElem?_modify, this]
end
end Go.Proofs.Yticajnfmjapkgaa
