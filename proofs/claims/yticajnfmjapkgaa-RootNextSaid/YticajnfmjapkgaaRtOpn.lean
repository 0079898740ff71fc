/-
  The arguments of chapter 6's laws, opened.
-/
import Derived.Test.YticajnfmjapkgaaGOpn
import Derived.Test.YticajnfmjapkgaaPDx0
namespace Go.Proofs.Yticajnfmjapkgaa.PD
open Go.RowKit Go.Proofs.Yticajnfmjapkgaa Go.Proofs.YticajnfmjapkgaaW.PrintWords
theorem opn_File : Opn Try.prog 42 k42 (fun b => (-9223372036854775808 ≤ b.f0 ∧ b.f0 ≤ 9223372036854775807) ∧ (-9223372036854775808 ≤ b.f1 ∧ b.f1 ≤ 9223372036854775807) ∧ (-9223372036854775808 ≤ b.f2 ∧ b.f2 ≤ 9223372036854775807)) :=
  opn_struct Try.underlying42 (opnF_more (opn_int Try.underlying3 (by kernel_rfl)) rfl (opnF_more (opn_int Try.underlying3 (by kernel_rfl)) rfl (opnF_one (opn_int Try.underlying3 (by kernel_rfl)) rfl))) (by kernel_rfl)
    (g := fun a => (⟨a.1, a.2.1, a.2.2⟩ : S42)) (fun _ => rfl)
theorem opn_Root : Opn Try.prog 39 (Kd.iso (Kd.pair (Kd.int .i64) (Kd.pair (Kd.int .i64) (Kd.pair (Kd.int .i64) (Kd.slice 42 k42)))) id)
    (fun x => x.2.2.2.length ≤ 5864062014804 ∧ (∀ b ∈ x.2.2.2, (-9223372036854775808 ≤ b.f0 ∧ b.f0 ≤ 9223372036854775807) ∧ (-9223372036854775808 ≤ b.f1 ∧ b.f1 ≤ 9223372036854775807) ∧ (-9223372036854775808 ≤ b.f2 ∧ b.f2 ≤ 9223372036854775807)) ∧ (-9223372036854775808 ≤ x.1 ∧ x.1 ≤ 9223372036854775807) ∧ (-9223372036854775808 ≤ x.2.1 ∧ x.2.1 ≤ 9223372036854775807) ∧ (-9223372036854775808 ≤ x.2.2.1 ∧ x.2.2.1 ≤ 9223372036854775807)) :=
  (opn_struct Try.underlying39 (opnF_more (opn_int Try.underlying3 (by kernel_rfl)) rfl (opnF_more (opn_int Try.underlying3 (by kernel_rfl)) rfl (opnF_more (opn_int Try.underlying3 (by kernel_rfl)) rfl (opnF_one (opn_slice (b := 24) Try.underlying37 opn_File (by kernel_rfl) (by kernel_rfl)) rfl)))) (by kernel_rfl)
    (g := id) (fun _ => rfl)).imp (fun x h => ⟨by have h' : x.2.2.2.length * 24 ≤ reachBytes := h.2.2.2.2.1; unfold reachBytes at h'; omega, h.2.2.2.2.2, h.1, h.2.1, h.2.2.1⟩)
end Go.Proofs.Yticajnfmjapkgaa.PD
