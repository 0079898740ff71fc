/-
  No cell of these rows narrows 'for every input' (looked for: loops, veiled, ifaces, maps, wideKeys, modest, calm, conditions, laid).
  DERIVED. THE GIVEN ROWS OF THIS SEAT. 6 by the template 'for every input the law returns true; each argument reads behind the call as it read before'; 0 by the template 'total and deterministic' (their statements: YtokimlfagpddlaaTotals.lean).
  GIVEN WITH THE SEED: the statements are not yours to turn. If you find one false, say at which input.
  Laid BY PROGRAM, IN A SANDBOX (cutbox-rows.mjs): the forced cells as the released guide's own fill.sh prints them over the translation 2891003739ca1729… (all of the seat's roots in one cut). By AI agents, Wed Nov 11 2026. No macro, syntax, notation, axiom, sorry.
-/
import Derived.Test.YtokimlfagpddlaaChecked
import GoSem.Claim
import GoSem.ClaimJoined
import GoSem.ClaimMapViews
import Derived.JoinedTies
import Derived.KernelRfl
namespace Go.Proofs.Ytokimlfagpddlaa
/- THE CELL 'sum', in the pinned program and in every row, IS THE sha256 OF THE DUMP (.gsa) THAT YtokimlfagpddlaaProg.lean LOADS. Nothing in Lean hashes anything: it is a label: what it is worth is what the hold of that sum in a sandbox is worth. -/
noncomputable def Try.pinned : Pinned := { name := "ytokimlfagpddlaa", sum := "2891003739ca17296bda15d29c67c6f7013f641811e2312858a22f0568c769c4", checked := Try.checked }
namespace Rows
def none {H : Type} : Left H := { results := [], args := [] }

/-- 'palinodelaw14.VersionUndo': WHATEVER THE INPUT: true; the input reads as it did. -/
def versionUndoSpec : ChangeSpec := { name := "versionUndo", fn := fun _ => fun
  | [d1, d2, d3] => { results := [.lit (.bool true)], args := [d1, d2, d3] }
  | _ => none }
def versionUndoRow : OpenClaim := { program := "ytokimlfagpddlaa", sum := "2891003739ca17296bda15d29c67c6f7013f641811e2312858a22f0568c769c4", func := "palinode/palinodelaw14.VersionUndo", spec := "versionUndo", unfollowed := true, recurses := true, apart := false }
def VersionUndoSaid : Prop := versionUndoRow.holds Try.pinned (OpenSpec.ofChange versionUndoSpec)

/-- ITS FALSE NEIGHBOUR: 'it returns false'. Refute it at one input. -/
def versionUndoWrong : ChangeSpec := { name := "versionUndo", fn := fun _ => fun
  | [d1, d2, d3] => { results := [.lit (.bool false)], args := [d1, d2, d3] }
  | _ => none }
def VersionUndoWrongFalsely : Prop := versionUndoRow.holds Try.pinned (OpenSpec.ofChange versionUndoWrong)

/-- 'palinodelaw14.VersionWhole': WHATEVER THE INPUT: true; the input reads as it did. -/
def versionWholeSpec : ChangeSpec := { name := "versionWhole", fn := fun _ => fun
  | [d] => { results := [.lit (.bool true)], args := [d] }
  | _ => none }
def versionWholeRow : OpenClaim := { program := "ytokimlfagpddlaa", sum := "2891003739ca17296bda15d29c67c6f7013f641811e2312858a22f0568c769c4", func := "palinode/palinodelaw14.VersionWhole", spec := "versionWhole", unfollowed := true, recurses := true, apart := false }
def VersionWholeSaid : Prop := versionWholeRow.holds Try.pinned (OpenSpec.ofChange versionWholeSpec)

/-- ITS FALSE NEIGHBOUR: 'it returns false'. Refute it at one input. -/
def versionWholeWrong : ChangeSpec := { name := "versionWhole", fn := fun _ => fun
  | [d] => { results := [.lit (.bool false)], args := [d] }
  | _ => none }
def VersionWholeWrongFalsely : Prop := versionWholeRow.holds Try.pinned (OpenSpec.ofChange versionWholeWrong)

/-- 'palinodelaw14.VersionLive': WHATEVER THE INPUT: true; the input reads as it did. -/
def versionLiveSpec : ChangeSpec := { name := "versionLive", fn := fun _ => fun
  | [d] => { results := [.lit (.bool true)], args := [d] }
  | _ => none }
def versionLiveRow : OpenClaim := { program := "ytokimlfagpddlaa", sum := "2891003739ca17296bda15d29c67c6f7013f641811e2312858a22f0568c769c4", func := "palinode/palinodelaw14.VersionLive", spec := "versionLive", unfollowed := true, recurses := true, apart := false }
def VersionLiveSaid : Prop := versionLiveRow.holds Try.pinned (OpenSpec.ofChange versionLiveSpec)

/-- ITS FALSE NEIGHBOUR: 'it returns false'. Refute it at one input. -/
def versionLiveWrong : ChangeSpec := { name := "versionLive", fn := fun _ => fun
  | [d] => { results := [.lit (.bool false)], args := [d] }
  | _ => none }
def VersionLiveWrongFalsely : Prop := versionLiveRow.holds Try.pinned (OpenSpec.ofChange versionLiveWrong)

/-- 'palinodelaw14.VersionApart': WHATEVER THE INPUT: true; the input reads as it did. -/
def versionApartSpec : ChangeSpec := { name := "versionApart", fn := fun _ => fun
  | [d1, d2] => { results := [.lit (.bool true)], args := [d1, d2] }
  | _ => none }
def versionApartRow : OpenClaim := { program := "ytokimlfagpddlaa", sum := "2891003739ca17296bda15d29c67c6f7013f641811e2312858a22f0568c769c4", func := "palinode/palinodelaw14.VersionApart", spec := "versionApart", unfollowed := true, recurses := true, apart := false }
def VersionApartSaid : Prop := versionApartRow.holds Try.pinned (OpenSpec.ofChange versionApartSpec)

/-- ITS FALSE NEIGHBOUR: 'it returns false'. Refute it at one input. -/
def versionApartWrong : ChangeSpec := { name := "versionApart", fn := fun _ => fun
  | [d1, d2] => { results := [.lit (.bool false)], args := [d1, d2] }
  | _ => none }
def VersionApartWrongFalsely : Prop := versionApartRow.holds Try.pinned (OpenSpec.ofChange versionApartWrong)

/-- 'palinodelaw14.VersionBytes': WHATEVER THE INPUT: true; the input reads as it did. -/
def versionBytesSpec : ChangeSpec := { name := "versionBytes", fn := fun _ => fun
  | [d1, d2] => { results := [.lit (.bool true)], args := [d1, d2] }
  | _ => none }
def versionBytesRow : OpenClaim := { program := "ytokimlfagpddlaa", sum := "2891003739ca17296bda15d29c67c6f7013f641811e2312858a22f0568c769c4", func := "palinode/palinodelaw14.VersionBytes", spec := "versionBytes", unfollowed := true, recurses := true, apart := false }
def VersionBytesSaid : Prop := versionBytesRow.holds Try.pinned (OpenSpec.ofChange versionBytesSpec)

/-- ITS FALSE NEIGHBOUR: 'it returns false'. Refute it at one input. -/
def versionBytesWrong : ChangeSpec := { name := "versionBytes", fn := fun _ => fun
  | [d1, d2] => { results := [.lit (.bool false)], args := [d1, d2] }
  | _ => none }
def VersionBytesWrongFalsely : Prop := versionBytesRow.holds Try.pinned (OpenSpec.ofChange versionBytesWrong)

/-- 'palinodelaw14.VersionBack': WHATEVER THE INPUT: true; the input reads as it did. -/
def versionBackSpec : ChangeSpec := { name := "versionBack", fn := fun _ => fun
  | [d1, d2] => { results := [.lit (.bool true)], args := [d1, d2] }
  | _ => none }
def versionBackRow : OpenClaim := { program := "ytokimlfagpddlaa", sum := "2891003739ca17296bda15d29c67c6f7013f641811e2312858a22f0568c769c4", func := "palinode/palinodelaw14.VersionBack", spec := "versionBack", unfollowed := true, recurses := true, apart := false }
def VersionBackSaid : Prop := versionBackRow.holds Try.pinned (OpenSpec.ofChange versionBackSpec)

/-- ITS FALSE NEIGHBOUR: 'it returns false'. Refute it at one input. -/
def versionBackWrong : ChangeSpec := { name := "versionBack", fn := fun _ => fun
  | [d1, d2] => { results := [.lit (.bool false)], args := [d1, d2] }
  | _ => none }
def VersionBackWrongFalsely : Prop := versionBackRow.holds Try.pinned (OpenSpec.ofChange versionBackWrong)

/- THE SECOND FORM. 'bulk': how many values and letters a reading holds, each counted each time it is reached (what is shared counts as often as it is met; a slice's spare places count too). A statement '..UptoSaid' is the law's where the arguments, and the package variables that the reading takes, are together of bulk at most 1048576: NARROWER than '..Said'. Prove '..Said' where nothing that the law and all that it calls make is longer than what came in: it says more and counts as full. Else prove '..UptoSaid'. A law counts once. -/
mutual
def uptoBulk {H : Type} : DataW H → Nat
  | .lit (.string bytes) => bytes.length + 1
  | .lit _ => 1
  | .nil => 1
  | .ptr d => uptoBulk d + 1
  | .slice elems spare => uptoBulkAll elems + uptoBulkAll spare + 1
  | .agg parts => uptoBulkAll parts + 1
  | .iface _ d => uptoBulk d + 1
  | .map entries => uptoBulkEntries entries + 1
  | .held _ => 1
def uptoBulkAll {H : Type} : List (DataW H) → Nat
  | [] => 0
  | d :: r => uptoBulk d + uptoBulkAll r
def uptoBulkEntries {H : Type} : List (Lit × DataW H) → Nat
  | [] => 0
  | x :: r => uptoBulkEntry x + uptoBulkEntries r
def uptoBulkEntry {H : Type} : Lit × DataW H → Nat
  | (.string bytes, d) => bytes.length + uptoBulk d + 1
  | (_, d) => uptoBulk d + 1
 end
def uptoSmall : (H : Type) → List (DataW H) → Bool := fun _ ds => decide (uptoBulkAll ds ≤ 1048576)
def OpenSpec.upto (s : _root_.Go.ChangeSpec) : _root_.Go.OpenSpec := { _root_.Go.OpenSpec.ofChange s with cond := some uptoSmall }

/-- 'palinodelaw14.VersionUndo', WHERE WHAT IT READS IS OF BULK AT MOST 1048576: true; the input reads as it did. -/
def versionUndoUptoRow : OpenClaim := { program := "ytokimlfagpddlaa", sum := "2891003739ca17296bda15d29c67c6f7013f641811e2312858a22f0568c769c4", func := "palinode/palinodelaw14.VersionUndo", spec := "versionUndo", unfollowed := true, recurses := true, apart := false, narrowed := true }
def VersionUndoUptoSaid : Prop := versionUndoUptoRow.holds Try.pinned (OpenSpec.upto versionUndoSpec)

/-- 'palinodelaw14.VersionWhole', WHERE WHAT IT READS IS OF BULK AT MOST 1048576: true; the input reads as it did. -/
def versionWholeUptoRow : OpenClaim := { program := "ytokimlfagpddlaa", sum := "2891003739ca17296bda15d29c67c6f7013f641811e2312858a22f0568c769c4", func := "palinode/palinodelaw14.VersionWhole", spec := "versionWhole", unfollowed := true, recurses := true, apart := false, narrowed := true }
def VersionWholeUptoSaid : Prop := versionWholeUptoRow.holds Try.pinned (OpenSpec.upto versionWholeSpec)

/-- 'palinodelaw14.VersionLive', WHERE WHAT IT READS IS OF BULK AT MOST 1048576: true; the input reads as it did. -/
def versionLiveUptoRow : OpenClaim := { program := "ytokimlfagpddlaa", sum := "2891003739ca17296bda15d29c67c6f7013f641811e2312858a22f0568c769c4", func := "palinode/palinodelaw14.VersionLive", spec := "versionLive", unfollowed := true, recurses := true, apart := false, narrowed := true }
def VersionLiveUptoSaid : Prop := versionLiveUptoRow.holds Try.pinned (OpenSpec.upto versionLiveSpec)

/-- 'palinodelaw14.VersionApart', WHERE WHAT IT READS IS OF BULK AT MOST 1048576: true; the input reads as it did. -/
def versionApartUptoRow : OpenClaim := { program := "ytokimlfagpddlaa", sum := "2891003739ca17296bda15d29c67c6f7013f641811e2312858a22f0568c769c4", func := "palinode/palinodelaw14.VersionApart", spec := "versionApart", unfollowed := true, recurses := true, apart := false, narrowed := true }
def VersionApartUptoSaid : Prop := versionApartUptoRow.holds Try.pinned (OpenSpec.upto versionApartSpec)

/-- 'palinodelaw14.VersionBytes', WHERE WHAT IT READS IS OF BULK AT MOST 1048576: true; the input reads as it did. -/
def versionBytesUptoRow : OpenClaim := { program := "ytokimlfagpddlaa", sum := "2891003739ca17296bda15d29c67c6f7013f641811e2312858a22f0568c769c4", func := "palinode/palinodelaw14.VersionBytes", spec := "versionBytes", unfollowed := true, recurses := true, apart := false, narrowed := true }
def VersionBytesUptoSaid : Prop := versionBytesUptoRow.holds Try.pinned (OpenSpec.upto versionBytesSpec)

/-- 'palinodelaw14.VersionBack', WHERE WHAT IT READS IS OF BULK AT MOST 1048576: true; the input reads as it did. -/
def versionBackUptoRow : OpenClaim := { program := "ytokimlfagpddlaa", sum := "2891003739ca17296bda15d29c67c6f7013f641811e2312858a22f0568c769c4", func := "palinode/palinodelaw14.VersionBack", spec := "versionBack", unfollowed := true, recurses := true, apart := false, narrowed := true }
def VersionBackUptoSaid : Prop := versionBackUptoRow.holds Try.pinned (OpenSpec.upto versionBackSpec)

end Rows
end Go.Proofs.Ytokimlfagpddlaa
