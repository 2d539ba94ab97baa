/-
  No cell of these rows narrows 'for every input' (looked for: loops, veiled, ifaces, maps, wideKeys, modest, calm, conditions, laid).
  DERIVED. THE GIVEN ROWS OF THIS SEAT. 3 by the template 'for every input the law returns true; each argument reads behind the call as it read before'; 0 by the template 'total and deterministic' (their statements: YtchldakooabdbaaTotals.lean).
  GIVEN WITH THE SEED: the statements are not yours to turn. If you find one false, say at which input.
  Laid BY PROGRAM, IN A SANDBOX (cutbox-rows.mjs): the forced cells as the released guide's own fill.sh prints them over the translation aa2e9c40a26fe9c2… (all of the seat's roots in one cut). By AI agents, Wed Nov 11 2026. No macro, syntax, notation, axiom, sorry.
-/
import Derived.Test.YtchldakooabdbaaChecked
import GoSem.Claim
import GoSem.ClaimJoined
import GoSem.ClaimMapViews
import Derived.JoinedTies
import Derived.KernelRfl
namespace Go.Proofs.Ytchldakooabdbaa
/- THE CELL 'sum', in the pinned program and in every row, IS THE sha256 OF THE DUMP (.gsa) THAT YtchldakooabdbaaProg.lean LOADS. Nothing in Lean hashes anything: it is a label: what it is worth is what the hold of that sum in a sandbox is worth. -/
noncomputable def Try.pinned : Pinned := { name := "ytchldakooabdbaa", sum := "aa2e9c40a26fe9c2d28c2b5b0a6752feaebdd112798b4b54c488fb238dce82d6", checked := Try.checked }
namespace Rows
def none {H : Type} : Left H := { results := [], args := [] }

/-- 'drawbridgelaw15.SumReckons': WHATEVER THE INPUT: true; the input reads as it did. -/
def sumReckonsSpec : ChangeSpec := { name := "sumReckons", fn := fun _ => fun
  | [d1, d2, d3, d4, d5] => { results := [.lit (.bool true)], args := [d1, d2, d3, d4, d5] }
  | _ => none }
def sumReckonsRow : OpenClaim := { program := "ytchldakooabdbaa", sum := "aa2e9c40a26fe9c2d28c2b5b0a6752feaebdd112798b4b54c488fb238dce82d6", func := "drawbridge/drawbridgelaw15.SumReckons", spec := "sumReckons", apart := false }
def SumReckonsSaid : Prop := sumReckonsRow.holds Try.pinned (OpenSpec.ofChange sumReckonsSpec)

/-- ITS FALSE NEIGHBOUR: 'it returns false'. Refute it at one input. -/
def sumReckonsWrong : ChangeSpec := { name := "sumReckons", fn := fun _ => fun
  | [d1, d2, d3, d4, d5] => { results := [.lit (.bool false)], args := [d1, d2, d3, d4, d5] }
  | _ => none }
def SumReckonsWrongFalsely : Prop := sumReckonsRow.holds Try.pinned (OpenSpec.ofChange sumReckonsWrong)

/-- 'drawbridgelaw15.SumPatches': WHATEVER THE INPUT: true; the input reads as it did. -/
def sumPatchesSpec : ChangeSpec := { name := "sumPatches", fn := fun _ => fun
  | [d1, d2] => { results := [.lit (.bool true)], args := [d1, d2] }
  | _ => none }
def sumPatchesRow : OpenClaim := { program := "ytchldakooabdbaa", sum := "aa2e9c40a26fe9c2d28c2b5b0a6752feaebdd112798b4b54c488fb238dce82d6", func := "drawbridge/drawbridgelaw15.SumPatches", spec := "sumPatches", apart := false }
def SumPatchesSaid : Prop := sumPatchesRow.holds Try.pinned (OpenSpec.ofChange sumPatchesSpec)

/-- ITS FALSE NEIGHBOUR: 'it returns false'. Refute it at one input. -/
def sumPatchesWrong : ChangeSpec := { name := "sumPatches", fn := fun _ => fun
  | [d1, d2] => { results := [.lit (.bool false)], args := [d1, d2] }
  | _ => none }
def SumPatchesWrongFalsely : Prop := sumPatchesRow.holds Try.pinned (OpenSpec.ofChange sumPatchesWrong)

/-- 'drawbridgelaw15.SumTurns': WHATEVER THE INPUT: true; the input reads as it did. -/
def sumTurnsSpec : ChangeSpec := { name := "sumTurns", fn := fun _ => fun
  | [d1, d2] => { results := [.lit (.bool true)], args := [d1, d2] }
  | _ => none }
def sumTurnsRow : OpenClaim := { program := "ytchldakooabdbaa", sum := "aa2e9c40a26fe9c2d28c2b5b0a6752feaebdd112798b4b54c488fb238dce82d6", func := "drawbridge/drawbridgelaw15.SumTurns", spec := "sumTurns", apart := false }
def SumTurnsSaid : Prop := sumTurnsRow.holds Try.pinned (OpenSpec.ofChange sumTurnsSpec)

/-- ITS FALSE NEIGHBOUR: 'it returns false'. Refute it at one input. -/
def sumTurnsWrong : ChangeSpec := { name := "sumTurns", fn := fun _ => fun
  | [d1, d2] => { results := [.lit (.bool false)], args := [d1, d2] }
  | _ => none }
def SumTurnsWrongFalsely : Prop := sumTurnsRow.holds Try.pinned (OpenSpec.ofChange sumTurnsWrong)

/- THE SECOND FORM. 'bulk': how many values and letters a reading holds, each counted each time it is reached (what is shared counts as often as it is met; a slice's spare places count too). A statement '..UptoSaid' is the law's where the arguments, and the package variables that the reading takes, are together of bulk at most 1048576: NARROWER than '..Said'. Prove '..Said' where nothing that the law and all that it calls make is longer than what came in: it says more and counts as full. Else prove '..UptoSaid'. A law counts once. -/
mutual
def uptoBulk {H : Type} : DataW H → Nat
  | .lit (.string bytes) => bytes.length + 1
  | .lit _ => 1
  | .nil => 1
  | .ptr d => uptoBulk d + 1
  | .slice elems spare => uptoBulkAll elems + uptoBulkAll spare + 1
  | .agg parts => uptoBulkAll parts + 1
  | .iface _ d => uptoBulk d + 1
  | .map entries => uptoBulkEntries entries + 1
  | .held _ => 1
def uptoBulkAll {H : Type} : List (DataW H) → Nat
  | [] => 0
  | d :: r => uptoBulk d + uptoBulkAll r
def uptoBulkEntries {H : Type} : List (Lit × DataW H) → Nat
  | [] => 0
  | x :: r => uptoBulkEntry x + uptoBulkEntries r
def uptoBulkEntry {H : Type} : Lit × DataW H → Nat
  | (.string bytes, d) => bytes.length + uptoBulk d + 1
  | (_, d) => uptoBulk d + 1
 end
def uptoSmall : (H : Type) → List (DataW H) → Bool := fun _ ds => decide (uptoBulkAll ds ≤ 1048576)
def OpenSpec.upto (s : _root_.Go.ChangeSpec) : _root_.Go.OpenSpec := { _root_.Go.OpenSpec.ofChange s with cond := some uptoSmall }

/-- 'drawbridgelaw15.SumReckons', WHERE WHAT IT READS IS OF BULK AT MOST 1048576: true; the input reads as it did. -/
def sumReckonsUptoRow : OpenClaim := { program := "ytchldakooabdbaa", sum := "aa2e9c40a26fe9c2d28c2b5b0a6752feaebdd112798b4b54c488fb238dce82d6", func := "drawbridge/drawbridgelaw15.SumReckons", spec := "sumReckons", apart := false, narrowed := true }
def SumReckonsUptoSaid : Prop := sumReckonsUptoRow.holds Try.pinned (OpenSpec.upto sumReckonsSpec)

/-- 'drawbridgelaw15.SumPatches', WHERE WHAT IT READS IS OF BULK AT MOST 1048576: true; the input reads as it did. -/
def sumPatchesUptoRow : OpenClaim := { program := "ytchldakooabdbaa", sum := "aa2e9c40a26fe9c2d28c2b5b0a6752feaebdd112798b4b54c488fb238dce82d6", func := "drawbridge/drawbridgelaw15.SumPatches", spec := "sumPatches", apart := false, narrowed := true }
def SumPatchesUptoSaid : Prop := sumPatchesUptoRow.holds Try.pinned (OpenSpec.upto sumPatchesSpec)

/-- 'drawbridgelaw15.SumTurns', WHERE WHAT IT READS IS OF BULK AT MOST 1048576: true; the input reads as it did. -/
def sumTurnsUptoRow : OpenClaim := { program := "ytchldakooabdbaa", sum := "aa2e9c40a26fe9c2d28c2b5b0a6752feaebdd112798b4b54c488fb238dce82d6", func := "drawbridge/drawbridgelaw15.SumTurns", spec := "sumTurns", apart := false, narrowed := true }
def SumTurnsUptoSaid : Prop := sumTurnsUptoRow.holds Try.pinned (OpenSpec.upto sumTurnsSpec)

end Rows
end Go.Proofs.Ytchldakooabdbaa
