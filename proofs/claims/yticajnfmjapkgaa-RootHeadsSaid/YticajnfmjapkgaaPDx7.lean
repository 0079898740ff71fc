-- printed by gprint.py (own tool) over the kit's print
import Derived.Test.YticajnfmjapkgaaPDx0
namespace Go.Proofs.Yticajnfmjapkgaa.PD
open Go.RowKit Go.Proofs.Yticajnfmjapkgaa Go.Proofs.YticajnfmjapkgaaW.PrintWords Go.Proofs.YticajnfmjapkgaaW.PrintLast Go.Proofs.YticajnfmjapkgaaW.PrintMore
attribute [local go_sem] max2_int min2_int max_two min_two max_three min_three max_four min_four   -- for this text's walks alone
set_option linter.unnecessarySimpa false
attribute [local go_sem] min2_str max2_str leq_str gtr_str geq_str
set_option linter.unusedVariables false
set_option linter.unusedSimpArgs false

/-! ### api_Run_35: function 35 -/
def api_Run_35.f (l0 : List (S62)) : Option (List (S62)) := if l0.length < 8796093022208 then some l0 else none
set_option maxHeartbeats 1000000 in
theorem api_Run_35.calls (A0 : Option Addr) (c0 : Nat) (l0 : List (S62)) (r : List (S62)) (w : World) (hr0 : Kd.C k62 w A0 l0.length l0) (hc0 : l0.length ≤ c0) (h : api_Run_35.f l0 = some r) :
    Calls Try.prog 35 #[.slice A0 l0.length c0] w fun e w' => ∃ v0_ : Value, e = .returned (v0_) ∧ Kd.R k62 62 w' w.heap.size (fun _ => True) v0_ r ∧ Below w.heap.size w w' := by
  obtain ⟨hlim, rfl⟩ : l0.length < 8796093022208 ∧ l0 = r := by
    unfold api_Run_35.f at h
    split at h
    · rename_i hl; exact ⟨hl, Option.some.inj h⟩
    · cases h
  clear h
  have HR := Aside0.mk hr0
  have HL := Aside0.mk hlim
  rcases A0 with _ | ad
  · have h0 : l0 = [] := by
      rcases Nat.eq_zero_or_pos l0.length with h0 | h0
      · exact List.eq_nil_of_length_eq_zero h0
      · obtain ⟨ad, e, _⟩ := hr0.2.2 h0; cases e
    subst h0
    clear HR HL hr0 hlim hc0
    have he := fun W => run_eql_slice_nil (P := Try.prog) W 60 62 none 0 c0 Try.underlying60
    go_enter Try.func35, Try.ntmps35
    go_wp2
    go_ret
    exact ⟨_, rfl, Kd.R_nil _ _ _ _ _, Below.refl _ _⟩
  · clear hr0 hlim
    have he := fun W => run_eql_slice_nil (P := Try.prog) W 60 62 (some ad) l0.length c0 Try.underlying60
    go_enter Try.func35, Try.ntmps35
    go_wp2_with ((with_reducible refine gate_builtin (b := .append) (xs := #[.tmp 5, .tmp 6]) rfl ?_); refine Kd.R_append_rows k62 (w0 := w) w.heap.size rfl (.tmp 5) (.tmp 6) 60 62 (.agg #[(.int .i64 0), (.int .i64 0)]) 16 rfl Try.underlying60 info62 rfl (by decide) (by omega) _ [] l0 _ _ _ (fun _ => True) (fun _ => False) rfl rfl ?aO ?aR (fun _ _ h => h) (fun _ h => h.elim) ?aF ?aB ?aS ?aL ?_; (case aO => exact ⟨fun _ _ => trivial, [], World.ownsRow_made w #[] 0 (Nat.le_refl _) (by decide) rfl, Reps.none _ _⟩); (case aR => exact Kd.C_alloc HR.out _); (case aF => exact fun _ _ => trivial); (case aB => exact below_alloc (Below.refl _ _) _); (case aS => simp); (case aL => have := HL.out; simp; omega); intro v1 w1 ho hb hg hat; have HO := Aside0.mk ho; have HB := Aside0.mk hb; clear ho hb hg hat)
    go_ret
    exact ⟨_, rfl, HO.out, HB.out⟩


end Go.Proofs.Yticajnfmjapkgaa.PD
