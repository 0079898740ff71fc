/-
  No cell of these rows narrows 'for every input' (looked for: loops, veiled, ifaces, maps, wideKeys, modest, calm, conditions, laid).
  DERIVED. THE GIVEN ROWS OF THIS SEAT. 5 by the template 'for every input the law returns true; each argument reads behind the call as it read before'; 0 by the template 'total and deterministic' (their statements: YtepgnefkpjnmlaaTotals.lean).
  GIVEN WITH THE SEED: the statements are not yours to turn. If you find one false, say at which input.
  Laid BY PROGRAM, IN A SANDBOX (cutbox-rows.mjs): the forced cells as the released guide's own fill.sh prints them over the translation 2de300fde2037938… (all of the seat's roots in one cut). By AI agents, Wed Nov 11 2026. No macro, syntax, notation, axiom, sorry.
-/
import Derived.Test.YtepgnefkpjnmlaaChecked
import GoSem.Claim
import GoSem.ClaimJoined
import GoSem.ClaimMapViews
import Derived.JoinedTies
import Derived.KernelRfl
namespace Go.Proofs.Ytepgnefkpjnmlaa
/- THE CELL 'sum', in the pinned program and in every row, IS THE sha256 OF THE DUMP (.gsa) THAT YtepgnefkpjnmlaaProg.lean LOADS. Nothing in Lean hashes anything: it is a label: what it is worth is what the hold of that sum in a sandbox is worth. -/
noncomputable def Try.pinned : Pinned := { name := "ytepgnefkpjnmlaa", sum := "2de300fde2037938a3743b29e72f0197404d6dca055576702297393b3f85a7b9", checked := Try.checked }
namespace Rows
def none {H : Type} : Left H := { results := [], args := [] }

/-- 'palinodelaw16.PickPicks': WHATEVER THE INPUT: true; the input reads as it did. -/
def pickPicksSpec : ChangeSpec := { name := "pickPicks", fn := fun _ => fun
  | [d1, d2] => { results := [.lit (.bool true)], args := [d1, d2] }
  | _ => none }
def pickPicksRow : OpenClaim := { program := "ytepgnefkpjnmlaa", sum := "2de300fde2037938a3743b29e72f0197404d6dca055576702297393b3f85a7b9", func := "palinode/palinodelaw16.PickPicks", spec := "pickPicks", unfollowed := true, recurses := true, apart := false }
def PickPicksSaid : Prop := pickPicksRow.holds Try.pinned (OpenSpec.ofChange pickPicksSpec)

/-- ITS FALSE NEIGHBOUR: 'it returns false'. Refute it at one input. -/
def pickPicksWrong : ChangeSpec := { name := "pickPicks", fn := fun _ => fun
  | [d1, d2] => { results := [.lit (.bool false)], args := [d1, d2] }
  | _ => none }
def PickPicksWrongFalsely : Prop := pickPicksRow.holds Try.pinned (OpenSpec.ofChange pickPicksWrong)

/-- 'palinodelaw16.PickCuts': WHATEVER THE INPUT: true; the input reads as it did. -/
def pickCutsSpec : ChangeSpec := { name := "pickCuts", fn := fun _ => fun
  | [d1, d2] => { results := [.lit (.bool true)], args := [d1, d2] }
  | _ => none }
def pickCutsRow : OpenClaim := { program := "ytepgnefkpjnmlaa", sum := "2de300fde2037938a3743b29e72f0197404d6dca055576702297393b3f85a7b9", func := "palinode/palinodelaw16.PickCuts", spec := "pickCuts", unfollowed := true, recurses := true, apart := false }
def PickCutsSaid : Prop := pickCutsRow.holds Try.pinned (OpenSpec.ofChange pickCutsSpec)

/-- ITS FALSE NEIGHBOUR: 'it returns false'. Refute it at one input. -/
def pickCutsWrong : ChangeSpec := { name := "pickCuts", fn := fun _ => fun
  | [d1, d2] => { results := [.lit (.bool false)], args := [d1, d2] }
  | _ => none }
def PickCutsWrongFalsely : Prop := pickCutsRow.holds Try.pinned (OpenSpec.ofChange pickCutsWrong)

/-- 'palinodelaw16.PickJobs': WHATEVER THE INPUT: true; the input reads as it did. -/
def pickJobsSpec : ChangeSpec := { name := "pickJobs", fn := fun _ => fun
  | [d] => { results := [.lit (.bool true)], args := [d] }
  | _ => none }
def pickJobsRow : OpenClaim := { program := "ytepgnefkpjnmlaa", sum := "2de300fde2037938a3743b29e72f0197404d6dca055576702297393b3f85a7b9", func := "palinode/palinodelaw16.PickJobs", spec := "pickJobs", unfollowed := true, recurses := true, apart := false }
def PickJobsSaid : Prop := pickJobsRow.holds Try.pinned (OpenSpec.ofChange pickJobsSpec)

/-- ITS FALSE NEIGHBOUR: 'it returns false'. Refute it at one input. -/
def pickJobsWrong : ChangeSpec := { name := "pickJobs", fn := fun _ => fun
  | [d] => { results := [.lit (.bool false)], args := [d] }
  | _ => none }
def PickJobsWrongFalsely : Prop := pickJobsRow.holds Try.pinned (OpenSpec.ofChange pickJobsWrong)

/-- 'palinodelaw16.PickRest': WHATEVER THE INPUT: true; the input reads as it did. -/
def pickRestSpec : ChangeSpec := { name := "pickRest", fn := fun _ => fun
  | [d] => { results := [.lit (.bool true)], args := [d] }
  | _ => none }
def pickRestRow : OpenClaim := { program := "ytepgnefkpjnmlaa", sum := "2de300fde2037938a3743b29e72f0197404d6dca055576702297393b3f85a7b9", func := "palinode/palinodelaw16.PickRest", spec := "pickRest", unfollowed := true, recurses := true, apart := false }
def PickRestSaid : Prop := pickRestRow.holds Try.pinned (OpenSpec.ofChange pickRestSpec)

/-- ITS FALSE NEIGHBOUR: 'it returns false'. Refute it at one input. -/
def pickRestWrong : ChangeSpec := { name := "pickRest", fn := fun _ => fun
  | [d] => { results := [.lit (.bool false)], args := [d] }
  | _ => none }
def PickRestWrongFalsely : Prop := pickRestRow.holds Try.pinned (OpenSpec.ofChange pickRestWrong)

/-- 'palinodelaw16.PickPieces': WHATEVER THE INPUT: true; the input reads as it did. -/
def pickPiecesSpec : ChangeSpec := { name := "pickPieces", fn := fun _ => fun
  | [d1, d2] => { results := [.lit (.bool true)], args := [d1, d2] }
  | _ => none }
def pickPiecesRow : OpenClaim := { program := "ytepgnefkpjnmlaa", sum := "2de300fde2037938a3743b29e72f0197404d6dca055576702297393b3f85a7b9", func := "palinode/palinodelaw16.PickPieces", spec := "pickPieces", unfollowed := true, recurses := true, apart := false }
def PickPiecesSaid : Prop := pickPiecesRow.holds Try.pinned (OpenSpec.ofChange pickPiecesSpec)

/-- ITS FALSE NEIGHBOUR: 'it returns false'. Refute it at one input. -/
def pickPiecesWrong : ChangeSpec := { name := "pickPieces", fn := fun _ => fun
  | [d1, d2] => { results := [.lit (.bool false)], args := [d1, d2] }
  | _ => none }
def PickPiecesWrongFalsely : Prop := pickPiecesRow.holds Try.pinned (OpenSpec.ofChange pickPiecesWrong)

/- THE SECOND FORM. 'bulk': how many values and letters a reading holds, each counted each time it is reached (what is shared counts as often as it is met; a slice's spare places count too). A statement '..UptoSaid' is the law's where the arguments, and the package variables that the reading takes, are together of bulk at most 1048576: NARROWER than '..Said'. Prove '..Said' where nothing that the law and all that it calls make is longer than what came in: it says more and counts as full. Else prove '..UptoSaid'. A law counts once. -/
mutual
def uptoBulk {H : Type} : DataW H → Nat
  | .lit (.string bytes) => bytes.length + 1
  | .lit _ => 1
  | .nil => 1
  | .ptr d => uptoBulk d + 1
  | .slice elems spare => uptoBulkAll elems + uptoBulkAll spare + 1
  | .agg parts => uptoBulkAll parts + 1
  | .iface _ d => uptoBulk d + 1
  | .map entries => uptoBulkEntries entries + 1
  | .held _ => 1
def uptoBulkAll {H : Type} : List (DataW H) → Nat
  | [] => 0
  | d :: r => uptoBulk d + uptoBulkAll r
def uptoBulkEntries {H : Type} : List (Lit × DataW H) → Nat
  | [] => 0
  | x :: r => uptoBulkEntry x + uptoBulkEntries r
def uptoBulkEntry {H : Type} : Lit × DataW H → Nat
  | (.string bytes, d) => bytes.length + uptoBulk d + 1
  | (_, d) => uptoBulk d + 1
 end
def uptoSmall : (H : Type) → List (DataW H) → Bool := fun _ ds => decide (uptoBulkAll ds ≤ 1048576)
def OpenSpec.upto (s : _root_.Go.ChangeSpec) : _root_.Go.OpenSpec := { _root_.Go.OpenSpec.ofChange s with cond := some uptoSmall }

/-- 'palinodelaw16.PickPicks', WHERE WHAT IT READS IS OF BULK AT MOST 1048576: true; the input reads as it did. -/
def pickPicksUptoRow : OpenClaim := { program := "ytepgnefkpjnmlaa", sum := "2de300fde2037938a3743b29e72f0197404d6dca055576702297393b3f85a7b9", func := "palinode/palinodelaw16.PickPicks", spec := "pickPicks", unfollowed := true, recurses := true, apart := false, narrowed := true }
def PickPicksUptoSaid : Prop := pickPicksUptoRow.holds Try.pinned (OpenSpec.upto pickPicksSpec)

/-- 'palinodelaw16.PickCuts', WHERE WHAT IT READS IS OF BULK AT MOST 1048576: true; the input reads as it did. -/
def pickCutsUptoRow : OpenClaim := { program := "ytepgnefkpjnmlaa", sum := "2de300fde2037938a3743b29e72f0197404d6dca055576702297393b3f85a7b9", func := "palinode/palinodelaw16.PickCuts", spec := "pickCuts", unfollowed := true, recurses := true, apart := false, narrowed := true }
def PickCutsUptoSaid : Prop := pickCutsUptoRow.holds Try.pinned (OpenSpec.upto pickCutsSpec)

/-- 'palinodelaw16.PickJobs', WHERE WHAT IT READS IS OF BULK AT MOST 1048576: true; the input reads as it did. -/
def pickJobsUptoRow : OpenClaim := { program := "ytepgnefkpjnmlaa", sum := "2de300fde2037938a3743b29e72f0197404d6dca055576702297393b3f85a7b9", func := "palinode/palinodelaw16.PickJobs", spec := "pickJobs", unfollowed := true, recurses := true, apart := false, narrowed := true }
def PickJobsUptoSaid : Prop := pickJobsUptoRow.holds Try.pinned (OpenSpec.upto pickJobsSpec)

/-- 'palinodelaw16.PickRest', WHERE WHAT IT READS IS OF BULK AT MOST 1048576: true; the input reads as it did. -/
def pickRestUptoRow : OpenClaim := { program := "ytepgnefkpjnmlaa", sum := "2de300fde2037938a3743b29e72f0197404d6dca055576702297393b3f85a7b9", func := "palinode/palinodelaw16.PickRest", spec := "pickRest", unfollowed := true, recurses := true, apart := false, narrowed := true }
def PickRestUptoSaid : Prop := pickRestUptoRow.holds Try.pinned (OpenSpec.upto pickRestSpec)

/-- 'palinodelaw16.PickPieces', WHERE WHAT IT READS IS OF BULK AT MOST 1048576: true; the input reads as it did. -/
def pickPiecesUptoRow : OpenClaim := { program := "ytepgnefkpjnmlaa", sum := "2de300fde2037938a3743b29e72f0197404d6dca055576702297393b3f85a7b9", func := "palinode/palinodelaw16.PickPieces", spec := "pickPieces", unfollowed := true, recurses := true, apart := false, narrowed := true }
def PickPiecesUptoSaid : Prop := pickPiecesUptoRow.holds Try.pinned (OpenSpec.upto pickPiecesSpec)

end Rows
end Go.Proofs.Ytepgnefkpjnmlaa
