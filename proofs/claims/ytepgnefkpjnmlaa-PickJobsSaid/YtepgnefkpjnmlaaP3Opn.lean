/-
  A version, opened.
-/
import Derived.Test.YtepgnefkpjnmlaaGOpn
import Derived.Test.YtepgnefkpjnmlaaP3x0
namespace Go.Proofs.Ytepgnefkpjnmlaa.P3
open Go.RowKit Go.Proofs.Ytepgnefkpjnmlaa Go.Proofs.YtepgnefkpjnmlaaW.PrintWords
theorem opn_Meta : Opn Try.prog 49 k49 (fun b => (-9223372036854775808 ≤ b.f0 ∧ b.f0 ≤ 9223372036854775807) ∧ (-9223372036854775808 ≤ b.f1 ∧ b.f1 ≤ 9223372036854775807) ∧ b.f2.size ≤ reachBytes ∧ b.f3.size ≤ reachBytes ∧ (-9223372036854775808 ≤ b.f4 ∧ b.f4 ≤ 9223372036854775807)) :=
  opn_struct Try.underlying49 (opnF_more (opn_int Try.underlying3 (by kernel_rfl)) rfl (opnF_more (opn_int Try.underlying3 (by kernel_rfl)) rfl (opnF_more (opn_string Try.underlying9 (by kernel_rfl)) rfl (opnF_more (opn_string Try.underlying9 (by kernel_rfl)) rfl (opnF_one (opn_int Try.underlying3 (by kernel_rfl)) rfl))))) (by kernel_rfl)
    (g := fun a => (⟨a.1, a.2.1, a.2.2.1, a.2.2.2.1, a.2.2.2.2⟩ : S49)) (fun _ => rfl)
theorem opn_Version : Opn Try.prog 25 (Kd.iso (Kd.pair (Kd.slice 49 k49) (Kd.pair (Kd.slice 3 (Kd.int .i64)) (Kd.int .i64))) id)
    (fun x => (x.1.length ≤ 9223372036854775807 ∧ ∀ m ∈ x.1, -9223372036854775808 ≤ m.f0 ∧ m.f0 ≤ 9223372036854775807) ∧ (∀ n ∈ x.2.1, -9223372036854775808 ≤ n ∧ n ≤ 9223372036854775807)) :=
  (opn_struct Try.underlying25 (opnF_more (opn_slice (b := 56) Try.underlying22 opn_Meta (by kernel_rfl) (by kernel_rfl)) rfl (opnF_more (opn_slice (b := 8) Try.underlying23 (opn_int Try.underlying3 (by kernel_rfl)) (by kernel_rfl) (by kernel_rfl)) rfl (opnF_one (opn_int Try.underlying3 (by kernel_rfl)) rfl))) (by kernel_rfl)
    (g := id) (fun _ => rfl)).imp (fun _ h => ⟨⟨h.1.1, fun m hm => (h.1.2.2 m hm).1⟩, h.2.1.2.2⟩)
end Go.Proofs.Ytepgnefkpjnmlaa.P3
