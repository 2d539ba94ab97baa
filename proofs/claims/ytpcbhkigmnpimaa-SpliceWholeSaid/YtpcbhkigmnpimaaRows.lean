/-
  No cell of these rows narrows 'for every input' (looked for: loops, veiled, ifaces, maps, wideKeys, modest, calm, conditions, laid).
  DERIVED. THE GIVEN ROWS OF THIS SEAT. 6 by the template 'for every input the law returns true; each argument reads behind the call as it read before'; 0 by the template 'total and deterministic' (their statements: YtpcbhkigmnpimaaTotals.lean).
  GIVEN WITH THE SEED: the statements are not yours to turn. If you find one false, say at which input.
  Laid BY PROGRAM, IN A SANDBOX (cutbox-rows.mjs): the forced cells as the released guide's own fill.sh prints them over the translation 0c5237fa1b6bb445… (all of the seat's roots in one cut). By AI agents, Wed Nov 11 2026. No macro, syntax, notation, axiom, sorry.
-/
import Derived.Test.YtpcbhkigmnpimaaChecked
import GoSem.Claim
import GoSem.ClaimJoined
import GoSem.ClaimMapViews
import Derived.JoinedTies
import Derived.KernelRfl
namespace Go.Proofs.Ytpcbhkigmnpimaa
/- THE CELL 'sum', in the pinned program and in every row, IS THE sha256 OF THE DUMP (.gsa) THAT YtpcbhkigmnpimaaProg.lean LOADS. Nothing in Lean hashes anything: it is a label: what it is worth is what the hold of that sum in a sandbox is worth. -/
noncomputable def Try.pinned : Pinned := { name := "ytpcbhkigmnpimaa", sum := "0c5237fa1b6bb445aeb96186556c6ccba1f2b57a60e162264565acf71379b605", checked := Try.checked }
namespace Rows
def none {H : Type} : Left H := { results := [], args := [] }

/-- 'drawbridgelaw28.SpliceResets': WHATEVER THE INPUT: true; the input reads as it did. -/
def spliceResetsSpec : ChangeSpec := { name := "spliceResets", fn := fun _ => fun
  | [d1, d2, d3] => { results := [.lit (.bool true)], args := [d1, d2, d3] }
  | _ => none }
def spliceResetsRow : OpenClaim := { program := "ytpcbhkigmnpimaa", sum := "0c5237fa1b6bb445aeb96186556c6ccba1f2b57a60e162264565acf71379b605", func := "drawbridge/drawbridgelaw28.SpliceResets", spec := "spliceResets", unfollowed := true, recurses := true, apart := false }
def SpliceResetsSaid : Prop := spliceResetsRow.holds Try.pinned (OpenSpec.ofChange spliceResetsSpec)

/-- ITS FALSE NEIGHBOUR: 'it returns false'. Refute it at one input. -/
def spliceResetsWrong : ChangeSpec := { name := "spliceResets", fn := fun _ => fun
  | [d1, d2, d3] => { results := [.lit (.bool false)], args := [d1, d2, d3] }
  | _ => none }
def SpliceResetsWrongFalsely : Prop := spliceResetsRow.holds Try.pinned (OpenSpec.ofChange spliceResetsWrong)

/-- 'drawbridgelaw28.SpliceGivesUp': WHATEVER THE INPUT: true; the input reads as it did. -/
def spliceGivesUpSpec : ChangeSpec := { name := "spliceGivesUp", fn := fun _ => fun
  | [d1, d2] => { results := [.lit (.bool true)], args := [d1, d2] }
  | _ => none }
def spliceGivesUpRow : OpenClaim := { program := "ytpcbhkigmnpimaa", sum := "0c5237fa1b6bb445aeb96186556c6ccba1f2b57a60e162264565acf71379b605", func := "drawbridge/drawbridgelaw28.SpliceGivesUp", spec := "spliceGivesUp", unfollowed := true, recurses := true, apart := false }
def SpliceGivesUpSaid : Prop := spliceGivesUpRow.holds Try.pinned (OpenSpec.ofChange spliceGivesUpSpec)

/-- ITS FALSE NEIGHBOUR: 'it returns false'. Refute it at one input. -/
def spliceGivesUpWrong : ChangeSpec := { name := "spliceGivesUp", fn := fun _ => fun
  | [d1, d2] => { results := [.lit (.bool false)], args := [d1, d2] }
  | _ => none }
def SpliceGivesUpWrongFalsely : Prop := spliceGivesUpRow.holds Try.pinned (OpenSpec.ofChange spliceGivesUpWrong)

/-- 'drawbridgelaw28.SpliceStays': WHATEVER THE INPUT: true; the input reads as it did. -/
def spliceStaysSpec : ChangeSpec := { name := "spliceStays", fn := fun _ => fun
  | [d1, d2, d3] => { results := [.lit (.bool true)], args := [d1, d2, d3] }
  | _ => none }
def spliceStaysRow : OpenClaim := { program := "ytpcbhkigmnpimaa", sum := "0c5237fa1b6bb445aeb96186556c6ccba1f2b57a60e162264565acf71379b605", func := "drawbridge/drawbridgelaw28.SpliceStays", spec := "spliceStays", unfollowed := true, recurses := true, apart := false }
def SpliceStaysSaid : Prop := spliceStaysRow.holds Try.pinned (OpenSpec.ofChange spliceStaysSpec)

/-- ITS FALSE NEIGHBOUR: 'it returns false'. Refute it at one input. -/
def spliceStaysWrong : ChangeSpec := { name := "spliceStays", fn := fun _ => fun
  | [d1, d2, d3] => { results := [.lit (.bool false)], args := [d1, d2, d3] }
  | _ => none }
def SpliceStaysWrongFalsely : Prop := spliceStaysRow.holds Try.pinned (OpenSpec.ofChange spliceStaysWrong)

/-- 'drawbridgelaw28.SpliceGives': WHATEVER THE INPUT: true; the input reads as it did. -/
def spliceGivesSpec : ChangeSpec := { name := "spliceGives", fn := fun _ => fun
  | [d1, d2, d3, d4] => { results := [.lit (.bool true)], args := [d1, d2, d3, d4] }
  | _ => none }
def spliceGivesRow : OpenClaim := { program := "ytpcbhkigmnpimaa", sum := "0c5237fa1b6bb445aeb96186556c6ccba1f2b57a60e162264565acf71379b605", func := "drawbridge/drawbridgelaw28.SpliceGives", spec := "spliceGives", unfollowed := true, recurses := true, apart := false }
def SpliceGivesSaid : Prop := spliceGivesRow.holds Try.pinned (OpenSpec.ofChange spliceGivesSpec)

/-- ITS FALSE NEIGHBOUR: 'it returns false'. Refute it at one input. -/
def spliceGivesWrong : ChangeSpec := { name := "spliceGives", fn := fun _ => fun
  | [d1, d2, d3, d4] => { results := [.lit (.bool false)], args := [d1, d2, d3, d4] }
  | _ => none }
def SpliceGivesWrongFalsely : Prop := spliceGivesRow.holds Try.pinned (OpenSpec.ofChange spliceGivesWrong)

/-- 'drawbridgelaw28.SpliceSends': WHATEVER THE INPUT: true; the input reads as it did. -/
def spliceSendsSpec : ChangeSpec := { name := "spliceSends", fn := fun _ => fun
  | [d1, d2, d3] => { results := [.lit (.bool true)], args := [d1, d2, d3] }
  | _ => none }
def spliceSendsRow : OpenClaim := { program := "ytpcbhkigmnpimaa", sum := "0c5237fa1b6bb445aeb96186556c6ccba1f2b57a60e162264565acf71379b605", func := "drawbridge/drawbridgelaw28.SpliceSends", spec := "spliceSends", unfollowed := true, recurses := true, apart := false }
def SpliceSendsSaid : Prop := spliceSendsRow.holds Try.pinned (OpenSpec.ofChange spliceSendsSpec)

/-- ITS FALSE NEIGHBOUR: 'it returns false'. Refute it at one input. -/
def spliceSendsWrong : ChangeSpec := { name := "spliceSends", fn := fun _ => fun
  | [d1, d2, d3] => { results := [.lit (.bool false)], args := [d1, d2, d3] }
  | _ => none }
def SpliceSendsWrongFalsely : Prop := spliceSendsRow.holds Try.pinned (OpenSpec.ofChange spliceSendsWrong)

/-- 'drawbridgelaw28.SpliceWhole': WHATEVER THE INPUT: true; the input reads as it did. -/
def spliceWholeSpec : ChangeSpec := { name := "spliceWhole", fn := fun _ => fun
  | [d1, d2, d3, d4, d5, d6] => { results := [.lit (.bool true)], args := [d1, d2, d3, d4, d5, d6] }
  | _ => none }
def spliceWholeRow : OpenClaim := { program := "ytpcbhkigmnpimaa", sum := "0c5237fa1b6bb445aeb96186556c6ccba1f2b57a60e162264565acf71379b605", func := "drawbridge/drawbridgelaw28.SpliceWhole", spec := "spliceWhole", unfollowed := true, recurses := true, apart := false }
def SpliceWholeSaid : Prop := spliceWholeRow.holds Try.pinned (OpenSpec.ofChange spliceWholeSpec)

/-- ITS FALSE NEIGHBOUR: 'it returns false'. Refute it at one input. -/
def spliceWholeWrong : ChangeSpec := { name := "spliceWhole", fn := fun _ => fun
  | [d1, d2, d3, d4, d5, d6] => { results := [.lit (.bool false)], args := [d1, d2, d3, d4, d5, d6] }
  | _ => none }
def SpliceWholeWrongFalsely : Prop := spliceWholeRow.holds Try.pinned (OpenSpec.ofChange spliceWholeWrong)

/- THE SECOND FORM. 'bulk': how many values and letters a reading holds, each counted each time it is reached (what is shared counts as often as it is met; a slice's spare places count too). A statement '..UptoSaid' is the law's where the arguments, and the package variables that the reading takes, are together of bulk at most 1048576: NARROWER than '..Said'. Prove '..Said' where nothing that the law and all that it calls make is longer than what came in: it says more and counts as full. Else prove '..UptoSaid'. A law counts once. -/
mutual
def uptoBulk {H : Type} : DataW H → Nat
  | .lit (.string bytes) => bytes.length + 1
  | .lit _ => 1
  | .nil => 1
  | .ptr d => uptoBulk d + 1
  | .slice elems spare => uptoBulkAll elems + uptoBulkAll spare + 1
  | .agg parts => uptoBulkAll parts + 1
  | .iface _ d => uptoBulk d + 1
  | .map entries => uptoBulkEntries entries + 1
  | .held _ => 1
def uptoBulkAll {H : Type} : List (DataW H) → Nat
  | [] => 0
  | d :: r => uptoBulk d + uptoBulkAll r
def uptoBulkEntries {H : Type} : List (Lit × DataW H) → Nat
  | [] => 0
  | x :: r => uptoBulkEntry x + uptoBulkEntries r
def uptoBulkEntry {H : Type} : Lit × DataW H → Nat
  | (.string bytes, d) => bytes.length + uptoBulk d + 1
  | (_, d) => uptoBulk d + 1
 end
def uptoSmall : (H : Type) → List (DataW H) → Bool := fun _ ds => decide (uptoBulkAll ds ≤ 1048576)
def OpenSpec.upto (s : _root_.Go.ChangeSpec) : _root_.Go.OpenSpec := { _root_.Go.OpenSpec.ofChange s with cond := some uptoSmall }

/-- 'drawbridgelaw28.SpliceResets', WHERE WHAT IT READS IS OF BULK AT MOST 1048576: true; the input reads as it did. -/
def spliceResetsUptoRow : OpenClaim := { program := "ytpcbhkigmnpimaa", sum := "0c5237fa1b6bb445aeb96186556c6ccba1f2b57a60e162264565acf71379b605", func := "drawbridge/drawbridgelaw28.SpliceResets", spec := "spliceResets", unfollowed := true, recurses := true, apart := false, narrowed := true }
def SpliceResetsUptoSaid : Prop := spliceResetsUptoRow.holds Try.pinned (OpenSpec.upto spliceResetsSpec)

/-- 'drawbridgelaw28.SpliceGivesUp', WHERE WHAT IT READS IS OF BULK AT MOST 1048576: true; the input reads as it did. -/
def spliceGivesUpUptoRow : OpenClaim := { program := "ytpcbhkigmnpimaa", sum := "0c5237fa1b6bb445aeb96186556c6ccba1f2b57a60e162264565acf71379b605", func := "drawbridge/drawbridgelaw28.SpliceGivesUp", spec := "spliceGivesUp", unfollowed := true, recurses := true, apart := false, narrowed := true }
def SpliceGivesUpUptoSaid : Prop := spliceGivesUpUptoRow.holds Try.pinned (OpenSpec.upto spliceGivesUpSpec)

/-- 'drawbridgelaw28.SpliceStays', WHERE WHAT IT READS IS OF BULK AT MOST 1048576: true; the input reads as it did. -/
def spliceStaysUptoRow : OpenClaim := { program := "ytpcbhkigmnpimaa", sum := "0c5237fa1b6bb445aeb96186556c6ccba1f2b57a60e162264565acf71379b605", func := "drawbridge/drawbridgelaw28.SpliceStays", spec := "spliceStays", unfollowed := true, recurses := true, apart := false, narrowed := true }
def SpliceStaysUptoSaid : Prop := spliceStaysUptoRow.holds Try.pinned (OpenSpec.upto spliceStaysSpec)

/-- 'drawbridgelaw28.SpliceGives', WHERE WHAT IT READS IS OF BULK AT MOST 1048576: true; the input reads as it did. -/
def spliceGivesUptoRow : OpenClaim := { program := "ytpcbhkigmnpimaa", sum := "0c5237fa1b6bb445aeb96186556c6ccba1f2b57a60e162264565acf71379b605", func := "drawbridge/drawbridgelaw28.SpliceGives", spec := "spliceGives", unfollowed := true, recurses := true, apart := false, narrowed := true }
def SpliceGivesUptoSaid : Prop := spliceGivesUptoRow.holds Try.pinned (OpenSpec.upto spliceGivesSpec)

/-- 'drawbridgelaw28.SpliceSends', WHERE WHAT IT READS IS OF BULK AT MOST 1048576: true; the input reads as it did. -/
def spliceSendsUptoRow : OpenClaim := { program := "ytpcbhkigmnpimaa", sum := "0c5237fa1b6bb445aeb96186556c6ccba1f2b57a60e162264565acf71379b605", func := "drawbridge/drawbridgelaw28.SpliceSends", spec := "spliceSends", unfollowed := true, recurses := true, apart := false, narrowed := true }
def SpliceSendsUptoSaid : Prop := spliceSendsUptoRow.holds Try.pinned (OpenSpec.upto spliceSendsSpec)

/-- 'drawbridgelaw28.SpliceWhole', WHERE WHAT IT READS IS OF BULK AT MOST 1048576: true; the input reads as it did. -/
def spliceWholeUptoRow : OpenClaim := { program := "ytpcbhkigmnpimaa", sum := "0c5237fa1b6bb445aeb96186556c6ccba1f2b57a60e162264565acf71379b605", func := "drawbridge/drawbridgelaw28.SpliceWhole", spec := "spliceWhole", unfollowed := true, recurses := true, apart := false, narrowed := true }
def SpliceWholeUptoSaid : Prop := spliceWholeUptoRow.holds Try.pinned (OpenSpec.upto spliceWholeSpec)

end Rows
end Go.Proofs.Ytpcbhkigmnpimaa
