/-
  The arguments of chapter 16's laws, opened.
-/
import Derived.Test.YtepgnefkpjnmlaaGOpn
import Derived.Test.YtepgnefkpjnmlaaP5x0
namespace Go.Proofs.Ytepgnefkpjnmlaa.P5
open Go.RowKit Go.Proofs.Ytepgnefkpjnmlaa Go.Proofs.YtepgnefkpjnmlaaW.PrintWords
theorem opn_Entry : Opn Try.prog 45 k45 (fun b => b.f0.size ≤ reachBytes ∧ (-9223372036854775808 ≤ b.f1 ∧ b.f1 ≤ 9223372036854775807) ∧ True ∧ b.f3.size ≤ reachBytes) :=
  opn_struct Try.underlying45 (opnF_more (opn_string Try.underlying9 (by kernel_rfl)) rfl (opnF_more (opn_int Try.underlying3 (by kernel_rfl)) rfl (opnF_more (opn_bool Try.underlying4 (by kernel_rfl)) rfl (opnF_one (opn_string Try.underlying9 (by kernel_rfl)) rfl)))) (by kernel_rfl)
    (g := fun a => (⟨a.1, a.2.1, a.2.2.1, a.2.2.2⟩ : S45)) (fun _ => rfl)
theorem opn_Entries : Opn Try.prog 34 (Kd.slice 45 k45) (fun l => l.length ≤ 9223372036854775807) :=
  (opn_slice (b := 48) Try.underlying34 opn_Entry (by kernel_rfl) (by kernel_rfl)).imp (fun _ h => h.1)
end Go.Proofs.Ytepgnefkpjnmlaa.P5
