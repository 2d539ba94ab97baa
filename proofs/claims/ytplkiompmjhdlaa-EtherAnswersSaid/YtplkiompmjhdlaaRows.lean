/-
  No cell of these rows narrows 'for every input' (looked for: loops, veiled, ifaces, maps, wideKeys, modest, calm, conditions, laid).
  DERIVED. THE GIVEN ROWS OF THIS SEAT. 5 by the template 'for every input the law returns true; each argument reads behind the call as it read before'; 0 by the template 'total and deterministic' (their statements: YtplkiompmjhdlaaTotals.lean).
  GIVEN WITH THE SEED: the statements are not yours to turn. If you find one false, say at which input.
  Laid BY PROGRAM, IN A SANDBOX (cutbox-rows.mjs): the forced cells as the released guide's own fill.sh prints them over the translation 45592d65a74d87ad… (all of the seat's roots in one cut). By AI agents, Wed Nov 11 2026. No macro, syntax, notation, axiom, sorry.
-/
import Derived.Test.YtplkiompmjhdlaaChecked
import GoSem.Claim
import GoSem.ClaimJoined
import GoSem.ClaimMapViews
import Derived.JoinedTies
import Derived.KernelRfl
namespace Go.Proofs.Ytplkiompmjhdlaa
/- THE CELL 'sum', in the pinned program and in every row, IS THE sha256 OF THE DUMP (.gsa) THAT YtplkiompmjhdlaaProg.lean LOADS. Nothing in Lean hashes anything: it is a label: what it is worth is what the hold of that sum in a sandbox is worth. -/
noncomputable def Try.pinned : Pinned := { name := "ytplkiompmjhdlaa", sum := "45592d65a74d87ad8ea1b6e48c5f245bf4120b090dc23cbcae4236b216f928ce", checked := Try.checked }
namespace Rows
def none {H : Type} : Left H := { results := [], args := [] }

/-- 'drawbridgelaw16.EtherAgain': WHATEVER THE INPUT: true; the input reads as it did. -/
def etherAgainSpec : ChangeSpec := { name := "etherAgain", fn := fun _ => fun
  | [d] => { results := [.lit (.bool true)], args := [d] }
  | _ => none }
def etherAgainRow : OpenClaim := { program := "ytplkiompmjhdlaa", sum := "45592d65a74d87ad8ea1b6e48c5f245bf4120b090dc23cbcae4236b216f928ce", func := "drawbridge/drawbridgelaw16.EtherAgain", spec := "etherAgain", inPlace := ["internal/reflectlite.TypeOf"], unfollowed := true, recurses := true, apart := false }
def EtherAgainSaid : Prop := etherAgainRow.holds Try.pinned (OpenSpec.ofChange etherAgainSpec)

/-- ITS FALSE NEIGHBOUR: 'it returns false'. Refute it at one input. -/
def etherAgainWrong : ChangeSpec := { name := "etherAgain", fn := fun _ => fun
  | [d] => { results := [.lit (.bool false)], args := [d] }
  | _ => none }
def EtherAgainWrongFalsely : Prop := etherAgainRow.holds Try.pinned (OpenSpec.ofChange etherAgainWrong)

/-- 'drawbridgelaw16.EtherTells': WHATEVER THE INPUT: true; the input reads as it did. -/
def etherTellsSpec : ChangeSpec := { name := "etherTells", fn := fun _ => fun
  | [d1, d2] => { results := [.lit (.bool true)], args := [d1, d2] }
  | _ => none }
def etherTellsRow : OpenClaim := { program := "ytplkiompmjhdlaa", sum := "45592d65a74d87ad8ea1b6e48c5f245bf4120b090dc23cbcae4236b216f928ce", func := "drawbridge/drawbridgelaw16.EtherTells", spec := "etherTells", inPlace := ["internal/reflectlite.TypeOf"], unfollowed := true, recurses := true, apart := false }
def EtherTellsSaid : Prop := etherTellsRow.holds Try.pinned (OpenSpec.ofChange etherTellsSpec)

/-- ITS FALSE NEIGHBOUR: 'it returns false'. Refute it at one input. -/
def etherTellsWrong : ChangeSpec := { name := "etherTells", fn := fun _ => fun
  | [d1, d2] => { results := [.lit (.bool false)], args := [d1, d2] }
  | _ => none }
def EtherTellsWrongFalsely : Prop := etherTellsRow.holds Try.pinned (OpenSpec.ofChange etherTellsWrong)

/-- 'drawbridgelaw16.EtherArps': WHATEVER THE INPUT: true; the input reads as it did. -/
def etherArpsSpec : ChangeSpec := { name := "etherArps", fn := fun _ => fun
  | [d1, d2, d3, d4] => { results := [.lit (.bool true)], args := [d1, d2, d3, d4] }
  | _ => none }
def etherArpsRow : OpenClaim := { program := "ytplkiompmjhdlaa", sum := "45592d65a74d87ad8ea1b6e48c5f245bf4120b090dc23cbcae4236b216f928ce", func := "drawbridge/drawbridgelaw16.EtherArps", spec := "etherArps", inPlace := ["internal/reflectlite.TypeOf"], unfollowed := true, recurses := true, apart := false }
def EtherArpsSaid : Prop := etherArpsRow.holds Try.pinned (OpenSpec.ofChange etherArpsSpec)

/-- ITS FALSE NEIGHBOUR: 'it returns false'. Refute it at one input. -/
def etherArpsWrong : ChangeSpec := { name := "etherArps", fn := fun _ => fun
  | [d1, d2, d3, d4] => { results := [.lit (.bool false)], args := [d1, d2, d3, d4] }
  | _ => none }
def EtherArpsWrongFalsely : Prop := etherArpsRow.holds Try.pinned (OpenSpec.ofChange etherArpsWrong)

/-- 'drawbridgelaw16.EtherBack': WHATEVER THE INPUT: true; the input reads as it did. -/
def etherBackSpec : ChangeSpec := { name := "etherBack", fn := fun _ => fun
  | [d1, d2, d3] => { results := [.lit (.bool true)], args := [d1, d2, d3] }
  | _ => none }
def etherBackRow : OpenClaim := { program := "ytplkiompmjhdlaa", sum := "45592d65a74d87ad8ea1b6e48c5f245bf4120b090dc23cbcae4236b216f928ce", func := "drawbridge/drawbridgelaw16.EtherBack", spec := "etherBack", inPlace := ["internal/reflectlite.TypeOf"], unfollowed := true, recurses := true, apart := false }
def EtherBackSaid : Prop := etherBackRow.holds Try.pinned (OpenSpec.ofChange etherBackSpec)

/-- ITS FALSE NEIGHBOUR: 'it returns false'. Refute it at one input. -/
def etherBackWrong : ChangeSpec := { name := "etherBack", fn := fun _ => fun
  | [d1, d2, d3] => { results := [.lit (.bool false)], args := [d1, d2, d3] }
  | _ => none }
def EtherBackWrongFalsely : Prop := etherBackRow.holds Try.pinned (OpenSpec.ofChange etherBackWrong)

/-- 'drawbridgelaw16.EtherAnswers': WHATEVER THE INPUT: true; the input reads as it did. -/
def etherAnswersSpec : ChangeSpec := { name := "etherAnswers", fn := fun _ => fun
  | [d1, d2, d3] => { results := [.lit (.bool true)], args := [d1, d2, d3] }
  | _ => none }
def etherAnswersRow : OpenClaim := { program := "ytplkiompmjhdlaa", sum := "45592d65a74d87ad8ea1b6e48c5f245bf4120b090dc23cbcae4236b216f928ce", func := "drawbridge/drawbridgelaw16.EtherAnswers", spec := "etherAnswers", inPlace := ["internal/reflectlite.TypeOf"], unfollowed := true, recurses := true, apart := false }
def EtherAnswersSaid : Prop := etherAnswersRow.holds Try.pinned (OpenSpec.ofChange etherAnswersSpec)

/-- ITS FALSE NEIGHBOUR: 'it returns false'. Refute it at one input. -/
def etherAnswersWrong : ChangeSpec := { name := "etherAnswers", fn := fun _ => fun
  | [d1, d2, d3] => { results := [.lit (.bool false)], args := [d1, d2, d3] }
  | _ => none }
def EtherAnswersWrongFalsely : Prop := etherAnswersRow.holds Try.pinned (OpenSpec.ofChange etherAnswersWrong)

/- THE SECOND FORM. 'bulk': how many values and letters a reading holds, each counted each time it is reached (what is shared counts as often as it is met; a slice's spare places count too). A statement '..UptoSaid' is the law's where the arguments, and the package variables that the reading takes, are together of bulk at most 1048576: NARROWER than '..Said'. Prove '..Said' where nothing that the law and all that it calls make is longer than what came in: it says more and counts as full. Else prove '..UptoSaid'. A law counts once. -/
mutual
def uptoBulk {H : Type} : DataW H → Nat
  | .lit (.string bytes) => bytes.length + 1
  | .lit _ => 1
  | .nil => 1
  | .ptr d => uptoBulk d + 1
  | .slice elems spare => uptoBulkAll elems + uptoBulkAll spare + 1
  | .agg parts => uptoBulkAll parts + 1
  | .iface _ d => uptoBulk d + 1
  | .map entries => uptoBulkEntries entries + 1
  | .held _ => 1
def uptoBulkAll {H : Type} : List (DataW H) → Nat
  | [] => 0
  | d :: r => uptoBulk d + uptoBulkAll r
def uptoBulkEntries {H : Type} : List (Lit × DataW H) → Nat
  | [] => 0
  | x :: r => uptoBulkEntry x + uptoBulkEntries r
def uptoBulkEntry {H : Type} : Lit × DataW H → Nat
  | (.string bytes, d) => bytes.length + uptoBulk d + 1
  | (_, d) => uptoBulk d + 1
 end
def uptoSmall : (H : Type) → List (DataW H) → Bool := fun _ ds => decide (uptoBulkAll ds ≤ 1048576)
def OpenSpec.upto (s : _root_.Go.ChangeSpec) : _root_.Go.OpenSpec := { _root_.Go.OpenSpec.ofChange s with cond := some uptoSmall }

/-- 'drawbridgelaw16.EtherAgain', WHERE WHAT IT READS IS OF BULK AT MOST 1048576: true; the input reads as it did. -/
def etherAgainUptoRow : OpenClaim := { program := "ytplkiompmjhdlaa", sum := "45592d65a74d87ad8ea1b6e48c5f245bf4120b090dc23cbcae4236b216f928ce", func := "drawbridge/drawbridgelaw16.EtherAgain", spec := "etherAgain", inPlace := ["internal/reflectlite.TypeOf"], unfollowed := true, recurses := true, apart := false, narrowed := true }
def EtherAgainUptoSaid : Prop := etherAgainUptoRow.holds Try.pinned (OpenSpec.upto etherAgainSpec)

/-- 'drawbridgelaw16.EtherTells', WHERE WHAT IT READS IS OF BULK AT MOST 1048576: true; the input reads as it did. -/
def etherTellsUptoRow : OpenClaim := { program := "ytplkiompmjhdlaa", sum := "45592d65a74d87ad8ea1b6e48c5f245bf4120b090dc23cbcae4236b216f928ce", func := "drawbridge/drawbridgelaw16.EtherTells", spec := "etherTells", inPlace := ["internal/reflectlite.TypeOf"], unfollowed := true, recurses := true, apart := false, narrowed := true }
def EtherTellsUptoSaid : Prop := etherTellsUptoRow.holds Try.pinned (OpenSpec.upto etherTellsSpec)

/-- 'drawbridgelaw16.EtherArps', WHERE WHAT IT READS IS OF BULK AT MOST 1048576: true; the input reads as it did. -/
def etherArpsUptoRow : OpenClaim := { program := "ytplkiompmjhdlaa", sum := "45592d65a74d87ad8ea1b6e48c5f245bf4120b090dc23cbcae4236b216f928ce", func := "drawbridge/drawbridgelaw16.EtherArps", spec := "etherArps", inPlace := ["internal/reflectlite.TypeOf"], unfollowed := true, recurses := true, apart := false, narrowed := true }
def EtherArpsUptoSaid : Prop := etherArpsUptoRow.holds Try.pinned (OpenSpec.upto etherArpsSpec)

/-- 'drawbridgelaw16.EtherBack', WHERE WHAT IT READS IS OF BULK AT MOST 1048576: true; the input reads as it did. -/
def etherBackUptoRow : OpenClaim := { program := "ytplkiompmjhdlaa", sum := "45592d65a74d87ad8ea1b6e48c5f245bf4120b090dc23cbcae4236b216f928ce", func := "drawbridge/drawbridgelaw16.EtherBack", spec := "etherBack", inPlace := ["internal/reflectlite.TypeOf"], unfollowed := true, recurses := true, apart := false, narrowed := true }
def EtherBackUptoSaid : Prop := etherBackUptoRow.holds Try.pinned (OpenSpec.upto etherBackSpec)

/-- 'drawbridgelaw16.EtherAnswers', WHERE WHAT IT READS IS OF BULK AT MOST 1048576: true; the input reads as it did. -/
def etherAnswersUptoRow : OpenClaim := { program := "ytplkiompmjhdlaa", sum := "45592d65a74d87ad8ea1b6e48c5f245bf4120b090dc23cbcae4236b216f928ce", func := "drawbridge/drawbridgelaw16.EtherAnswers", spec := "etherAnswers", inPlace := ["internal/reflectlite.TypeOf"], unfollowed := true, recurses := true, apart := false, narrowed := true }
def EtherAnswersUptoSaid : Prop := etherAnswersUptoRow.holds Try.pinned (OpenSpec.upto etherAnswersSpec)

end Rows
end Go.Proofs.Ytplkiompmjhdlaa
