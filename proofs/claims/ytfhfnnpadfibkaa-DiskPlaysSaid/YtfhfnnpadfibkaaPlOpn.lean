/-
  The deeds of chapter 4's laws, opened.
-/
import Derived.Test.YtfhfnnpadfibkaaGOpn
import Derived.Test.YtfhfnnpadfibkaaTwo
namespace Go.Proofs.Ytfhfnnpadfibkaa
open Go.RowKit Go.Proofs.YtfhfnnpadfibkaaW.PrintWords
theorem opn_Deed : Opn Try.prog 46 kDeed
    (fun x => (-9223372036854775808 ≤ x.1 ∧ x.1 ≤ 9223372036854775807) ∧ (-9223372036854775808 ≤ x.2.1 ∧ x.2.1 ≤ 9223372036854775807)) :=
  (opn_struct Try.underlying46 (opnF_more (opn_int Try.underlying3 (by kernel_rfl)) rfl (opnF_more (opn_int Try.underlying3 (by kernel_rfl)) rfl (opnF_more (opn_int Try.underlying3 (by kernel_rfl)) rfl (opnF_more (opn_int Try.underlying3 (by kernel_rfl)) rfl (opnF_more (opn_string Try.underlying9 (by kernel_rfl)) rfl (opnF_one (opn_slice (b := 8) Try.underlying22 (opn_int Try.underlying3 (by kernel_rfl)) (by kernel_rfl) (by kernel_rfl)) rfl)))))) (by kernel_rfl)
    (g := id) (fun _ => rfl)).imp (fun _ h => ⟨h.1, h.2.1⟩)
theorem opn_Deeds : Opn Try.prog 40 (Kd.slice 46 kDeed)
    (fun l => ∀ u ∈ l, (-9223372036854775808 ≤ u.1 ∧ u.1 ≤ 9223372036854775807) ∧ (-9223372036854775808 ≤ u.2.1 ∧ u.2.1 ≤ 9223372036854775807)) :=
  (opn_slice (b := 72) Try.underlying40 opn_Deed (by kernel_rfl) (by kernel_rfl)).imp (fun _ h => h.2.2)
end Go.Proofs.Ytfhfnnpadfibkaa
