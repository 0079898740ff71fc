/-
  No cell of these rows narrows 'for every input' (looked for: loops, veiled, ifaces, maps, wideKeys, modest, calm, conditions, laid).
  DERIVED. THE GIVEN ROWS OF THIS SEAT. 6 by the template 'for every input the law returns true; each argument reads behind the call as it read before'; 0 by the template 'total and deterministic' (their statements: YticajnfmjapkgaaTotals.lean).
  GIVEN WITH THE SEED: the statements are not yours to turn. If you find one false, say at which input.
  Laid BY PROGRAM, IN A SANDBOX (cutbox-rows.mjs): the forced cells as the released guide's own fill.sh prints them over the translation 89bcc9971cb5d4d2… (all of the seat's roots in one cut). By AI agents, Wed Nov 11 2026. No macro, syntax, notation, axiom, sorry.
-/
import Derived.Test.YticajnfmjapkgaaChecked
import GoSem.Claim
import GoSem.ClaimJoined
import GoSem.ClaimMapViews
import Derived.JoinedTies
import Derived.KernelRfl
namespace Go.Proofs.Yticajnfmjapkgaa
/- THE CELL 'sum', in the pinned program and in every row, IS THE sha256 OF THE DUMP (.gsa) THAT YticajnfmjapkgaaProg.lean LOADS. Nothing in Lean hashes anything: it is a label: what it is worth is what the hold of that sum in a sandbox is worth. -/
noncomputable def Try.pinned : Pinned := { name := "yticajnfmjapkgaa", sum := "89bcc9971cb5d4d2aad9cd1d8f774b6701fa53527238535900e4977c6f11a67d", checked := Try.checked }
namespace Rows
def none {H : Type} : Left H := { results := [], args := [] }

/-- 'palinodelaw06.RootHeads': WHATEVER THE INPUT: true; the input reads as it did. -/
def rootHeadsSpec : ChangeSpec := { name := "rootHeads", fn := fun _ => fun
  | [d1, d2, d3] => { results := [.lit (.bool true)], args := [d1, d2, d3] }
  | _ => none }
def rootHeadsRow : OpenClaim := { program := "yticajnfmjapkgaa", sum := "89bcc9971cb5d4d2aad9cd1d8f774b6701fa53527238535900e4977c6f11a67d", func := "palinode/palinodelaw06.RootHeads", spec := "rootHeads", unfollowed := true, recurses := true, apart := false }
def RootHeadsSaid : Prop := rootHeadsRow.holds Try.pinned (OpenSpec.ofChange rootHeadsSpec)

/-- ITS FALSE NEIGHBOUR: 'it returns false'. Refute it at one input. -/
def rootHeadsWrong : ChangeSpec := { name := "rootHeads", fn := fun _ => fun
  | [d1, d2, d3] => { results := [.lit (.bool false)], args := [d1, d2, d3] }
  | _ => none }
def RootHeadsWrongFalsely : Prop := rootHeadsRow.holds Try.pinned (OpenSpec.ofChange rootHeadsWrong)

/-- 'palinodelaw06.RootTorn': WHATEVER THE INPUT: true; the input reads as it did. -/
def rootTornSpec : ChangeSpec := { name := "rootTorn", fn := fun _ => fun
  | [d1, d2, d3, d4, d5, d6] => { results := [.lit (.bool true)], args := [d1, d2, d3, d4, d5, d6] }
  | _ => none }
def rootTornRow : OpenClaim := { program := "yticajnfmjapkgaa", sum := "89bcc9971cb5d4d2aad9cd1d8f774b6701fa53527238535900e4977c6f11a67d", func := "palinode/palinodelaw06.RootTorn", spec := "rootTorn", unfollowed := true, recurses := true, apart := false }
def RootTornSaid : Prop := rootTornRow.holds Try.pinned (OpenSpec.ofChange rootTornSpec)

/-- ITS FALSE NEIGHBOUR: 'it returns false'. Refute it at one input. -/
def rootTornWrong : ChangeSpec := { name := "rootTorn", fn := fun _ => fun
  | [d1, d2, d3, d4, d5, d6] => { results := [.lit (.bool false)], args := [d1, d2, d3, d4, d5, d6] }
  | _ => none }
def RootTornWrongFalsely : Prop := rootTornRow.holds Try.pinned (OpenSpec.ofChange rootTornWrong)

/-- 'palinodelaw06.RootSpoils': WHATEVER THE INPUT: true; the input reads as it did. -/
def rootSpoilsSpec : ChangeSpec := { name := "rootSpoils", fn := fun _ => fun
  | [d1, d2, d3, d4] => { results := [.lit (.bool true)], args := [d1, d2, d3, d4] }
  | _ => none }
def rootSpoilsRow : OpenClaim := { program := "yticajnfmjapkgaa", sum := "89bcc9971cb5d4d2aad9cd1d8f774b6701fa53527238535900e4977c6f11a67d", func := "palinode/palinodelaw06.RootSpoils", spec := "rootSpoils", unfollowed := true, recurses := true, apart := false }
def RootSpoilsSaid : Prop := rootSpoilsRow.holds Try.pinned (OpenSpec.ofChange rootSpoilsSpec)

/-- ITS FALSE NEIGHBOUR: 'it returns false'. Refute it at one input. -/
def rootSpoilsWrong : ChangeSpec := { name := "rootSpoils", fn := fun _ => fun
  | [d1, d2, d3, d4] => { results := [.lit (.bool false)], args := [d1, d2, d3, d4] }
  | _ => none }
def RootSpoilsWrongFalsely : Prop := rootSpoilsRow.holds Try.pinned (OpenSpec.ofChange rootSpoilsWrong)

/-- 'palinodelaw06.RootNext': WHATEVER THE INPUT: true; the input reads as it did. -/
def rootNextSpec : ChangeSpec := { name := "rootNext", fn := fun _ => fun
  | [d1, d2, d3] => { results := [.lit (.bool true)], args := [d1, d2, d3] }
  | _ => none }
def rootNextRow : OpenClaim := { program := "yticajnfmjapkgaa", sum := "89bcc9971cb5d4d2aad9cd1d8f774b6701fa53527238535900e4977c6f11a67d", func := "palinode/palinodelaw06.RootNext", spec := "rootNext", unfollowed := true, recurses := true, apart := false }
def RootNextSaid : Prop := rootNextRow.holds Try.pinned (OpenSpec.ofChange rootNextSpec)

/-- ITS FALSE NEIGHBOUR: 'it returns false'. Refute it at one input. -/
def rootNextWrong : ChangeSpec := { name := "rootNext", fn := fun _ => fun
  | [d1, d2, d3] => { results := [.lit (.bool false)], args := [d1, d2, d3] }
  | _ => none }
def RootNextWrongFalsely : Prop := rootNextRow.holds Try.pinned (OpenSpec.ofChange rootNextWrong)

/-- 'palinodelaw06.RootBytes': WHATEVER THE INPUT: true; the input reads as it did. -/
def rootBytesSpec : ChangeSpec := { name := "rootBytes", fn := fun _ => fun
  | [d1, d2, d3] => { results := [.lit (.bool true)], args := [d1, d2, d3] }
  | _ => none }
def rootBytesRow : OpenClaim := { program := "yticajnfmjapkgaa", sum := "89bcc9971cb5d4d2aad9cd1d8f774b6701fa53527238535900e4977c6f11a67d", func := "palinode/palinodelaw06.RootBytes", spec := "rootBytes", unfollowed := true, recurses := true, apart := false }
def RootBytesSaid : Prop := rootBytesRow.holds Try.pinned (OpenSpec.ofChange rootBytesSpec)

/-- ITS FALSE NEIGHBOUR: 'it returns false'. Refute it at one input. -/
def rootBytesWrong : ChangeSpec := { name := "rootBytes", fn := fun _ => fun
  | [d1, d2, d3] => { results := [.lit (.bool false)], args := [d1, d2, d3] }
  | _ => none }
def RootBytesWrongFalsely : Prop := rootBytesRow.holds Try.pinned (OpenSpec.ofChange rootBytesWrong)

/-- 'palinodelaw06.RootBack': WHATEVER THE INPUT: true; the input reads as it did. -/
def rootBackSpec : ChangeSpec := { name := "rootBack", fn := fun _ => fun
  | [d1, d2, d3, d4, d5] => { results := [.lit (.bool true)], args := [d1, d2, d3, d4, d5] }
  | _ => none }
def rootBackRow : OpenClaim := { program := "yticajnfmjapkgaa", sum := "89bcc9971cb5d4d2aad9cd1d8f774b6701fa53527238535900e4977c6f11a67d", func := "palinode/palinodelaw06.RootBack", spec := "rootBack", unfollowed := true, recurses := true, apart := false }
def RootBackSaid : Prop := rootBackRow.holds Try.pinned (OpenSpec.ofChange rootBackSpec)

/-- ITS FALSE NEIGHBOUR: 'it returns false'. Refute it at one input. -/
def rootBackWrong : ChangeSpec := { name := "rootBack", fn := fun _ => fun
  | [d1, d2, d3, d4, d5] => { results := [.lit (.bool false)], args := [d1, d2, d3, d4, d5] }
  | _ => none }
def RootBackWrongFalsely : Prop := rootBackRow.holds Try.pinned (OpenSpec.ofChange rootBackWrong)

/- THE SECOND FORM. 'bulk': how many values and letters a reading holds, each counted each time it is reached (what is shared counts as often as it is met; a slice's spare places count too). A statement '..UptoSaid' is the law's where the arguments, and the package variables that the reading takes, are together of bulk at most 1048576: NARROWER than '..Said'. Prove '..Said' where nothing that the law and all that it calls make is longer than what came in: it says more and counts as full. Else prove '..UptoSaid'. A law counts once. -/
mutual
def uptoBulk {H : Type} : DataW H → Nat
  | .lit (.string bytes) => bytes.length + 1
  | .lit _ => 1
  | .nil => 1
  | .ptr d => uptoBulk d + 1
  | .slice elems spare => uptoBulkAll elems + uptoBulkAll spare + 1
  | .agg parts => uptoBulkAll parts + 1
  | .iface _ d => uptoBulk d + 1
  | .map entries => uptoBulkEntries entries + 1
  | .held _ => 1
def uptoBulkAll {H : Type} : List (DataW H) → Nat
  | [] => 0
  | d :: r => uptoBulk d + uptoBulkAll r
def uptoBulkEntries {H : Type} : List (Lit × DataW H) → Nat
  | [] => 0
  | x :: r => uptoBulkEntry x + uptoBulkEntries r
def uptoBulkEntry {H : Type} : Lit × DataW H → Nat
  | (.string bytes, d) => bytes.length + uptoBulk d + 1
  | (_, d) => uptoBulk d + 1
 end
def uptoSmall : (H : Type) → List (DataW H) → Bool := fun _ ds => decide (uptoBulkAll ds ≤ 1048576)
def OpenSpec.upto (s : _root_.Go.ChangeSpec) : _root_.Go.OpenSpec := { _root_.Go.OpenSpec.ofChange s with cond := some uptoSmall }

/-- 'palinodelaw06.RootHeads', WHERE WHAT IT READS IS OF BULK AT MOST 1048576: true; the input reads as it did. -/
def rootHeadsUptoRow : OpenClaim := { program := "yticajnfmjapkgaa", sum := "89bcc9971cb5d4d2aad9cd1d8f774b6701fa53527238535900e4977c6f11a67d", func := "palinode/palinodelaw06.RootHeads", spec := "rootHeads", unfollowed := true, recurses := true, apart := false, narrowed := true }
def RootHeadsUptoSaid : Prop := rootHeadsUptoRow.holds Try.pinned (OpenSpec.upto rootHeadsSpec)

/-- 'palinodelaw06.RootTorn', WHERE WHAT IT READS IS OF BULK AT MOST 1048576: true; the input reads as it did. -/
def rootTornUptoRow : OpenClaim := { program := "yticajnfmjapkgaa", sum := "89bcc9971cb5d4d2aad9cd1d8f774b6701fa53527238535900e4977c6f11a67d", func := "palinode/palinodelaw06.RootTorn", spec := "rootTorn", unfollowed := true, recurses := true, apart := false, narrowed := true }
def RootTornUptoSaid : Prop := rootTornUptoRow.holds Try.pinned (OpenSpec.upto rootTornSpec)

/-- 'palinodelaw06.RootSpoils', WHERE WHAT IT READS IS OF BULK AT MOST 1048576: true; the input reads as it did. -/
def rootSpoilsUptoRow : OpenClaim := { program := "yticajnfmjapkgaa", sum := "89bcc9971cb5d4d2aad9cd1d8f774b6701fa53527238535900e4977c6f11a67d", func := "palinode/palinodelaw06.RootSpoils", spec := "rootSpoils", unfollowed := true, recurses := true, apart := false, narrowed := true }
def RootSpoilsUptoSaid : Prop := rootSpoilsUptoRow.holds Try.pinned (OpenSpec.upto rootSpoilsSpec)

/-- 'palinodelaw06.RootNext', WHERE WHAT IT READS IS OF BULK AT MOST 1048576: true; the input reads as it did. -/
def rootNextUptoRow : OpenClaim := { program := "yticajnfmjapkgaa", sum := "89bcc9971cb5d4d2aad9cd1d8f774b6701fa53527238535900e4977c6f11a67d", func := "palinode/palinodelaw06.RootNext", spec := "rootNext", unfollowed := true, recurses := true, apart := false, narrowed := true }
def RootNextUptoSaid : Prop := rootNextUptoRow.holds Try.pinned (OpenSpec.upto rootNextSpec)

/-- 'palinodelaw06.RootBytes', WHERE WHAT IT READS IS OF BULK AT MOST 1048576: true; the input reads as it did. -/
def rootBytesUptoRow : OpenClaim := { program := "yticajnfmjapkgaa", sum := "89bcc9971cb5d4d2aad9cd1d8f774b6701fa53527238535900e4977c6f11a67d", func := "palinode/palinodelaw06.RootBytes", spec := "rootBytes", unfollowed := true, recurses := true, apart := false, narrowed := true }
def RootBytesUptoSaid : Prop := rootBytesUptoRow.holds Try.pinned (OpenSpec.upto rootBytesSpec)

/-- 'palinodelaw06.RootBack', WHERE WHAT IT READS IS OF BULK AT MOST 1048576: true; the input reads as it did. -/
def rootBackUptoRow : OpenClaim := { program := "yticajnfmjapkgaa", sum := "89bcc9971cb5d4d2aad9cd1d8f774b6701fa53527238535900e4977c6f11a67d", func := "palinode/palinodelaw06.RootBack", spec := "rootBack", unfollowed := true, recurses := true, apart := false, narrowed := true }
def RootBackUptoSaid : Prop := rootBackUptoRow.holds Try.pinned (OpenSpec.upto rootBackSpec)

end Rows
end Go.Proofs.Yticajnfmjapkgaa
