/-
  The arguments of chapter 5's laws, opened.
-/
import Derived.Test.YtgmfmlnkifeikaaGOpn
import Derived.Test.YtgmfmlnkifeikaaPDx0
namespace Go.Proofs.Ytgmfmlnkifeikaa.PD
open Go.RowKit Go.Proofs.Ytgmfmlnkifeikaa Go.Proofs.YtgmfmlnkifeikaaW.PrintWords
theorem opn_Ints : Opn Try.prog 42 (Kd.slice 3 (Kd.int .i64)) (fun l => l.length ≤ 1000000000000000 ∧ ∀ x ∈ l, -9223372036854775808 ≤ x ∧ x ≤ 9223372036854775807) :=
  (opn_slice (b := 8) Try.underlying42 (opn_int Try.underlying3 (by kernel_rfl)) (by kernel_rfl) (by kernel_rfl)).imp (fun _ h => ⟨by have := h.2.1; unfold reachBytes at this; omega, h.2.2⟩)
theorem opn_Run : Opn Try.prog 32 k32 (fun b => (-9223372036854775808 ≤ b.f0 ∧ b.f0 ≤ 9223372036854775807) ∧ (-9223372036854775808 ≤ b.f1 ∧ b.f1 ≤ 9223372036854775807)) :=
  opn_struct Try.underlying32 (opnF_more (opn_int Try.underlying3 (by kernel_rfl)) rfl (opnF_one (opn_int Try.underlying3 (by kernel_rfl)) rfl)) (by kernel_rfl)
    (g := fun a => (⟨a.1, a.2⟩ : S32)) (fun _ => rfl)
theorem opn_Runs : Opn Try.prog 22 (Kd.slice 32 k32) (fun l => l.length ≤ 8796093022207 ∧ ∀ x ∈ l, (-9223372036854775808 ≤ x.f0 ∧ x.f0 ≤ 9223372036854775807) ∧ (-9223372036854775808 ≤ x.f1 ∧ x.f1 ≤ 9223372036854775807)) :=
  (opn_slice (b := 16) Try.underlying22 opn_Run (by kernel_rfl) (by kernel_rfl)).imp (fun _ h => ⟨by have := h.2.1; unfold reachBytes at this; omega, h.2.2⟩)
end Go.Proofs.Ytgmfmlnkifeikaa.PD
