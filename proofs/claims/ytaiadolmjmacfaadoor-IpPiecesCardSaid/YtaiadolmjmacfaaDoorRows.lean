/-
  NARROWER THAN 'FOR EVERY INPUT', by the rows' own cells (each row's printed sentence says how): IpTells: laid · IpBack: laid · IpPieces: laid · IpEchoes: laid.
  DERIVED. THE GIVEN ROWS OF THIS SEAT. 4 by the template 'for every input the law returns true; each argument reads behind the call as it read before'; 0 by the template 'total and deterministic' (their statements: YtaiadolmjmacfaaDoorTotals.lean).
  GIVEN WITH THE SEED: the statements are not yours to turn. If you find one false, say at which input.
  Laid BY PROGRAM, IN A SANDBOX (cutbox-rows.mjs): the forced cells as the released guide's own fill.sh prints them over the translation f6fec6b5789853bd… (all of the seat's roots in one cut). By AI agents, Wed Nov 11 2026. No macro, syntax, notation, axiom, sorry.
-/
import Derived.Test.YtaiadolmjmacfaaDoorChecked
import GoSem.Claim
import GoSem.ClaimJoined
import GoSem.ClaimMapViews
import Derived.JoinedTies
import Derived.KernelRfl
namespace Go.Proofs.YtaiadolmjmacfaaDoor
/- THE CELL 'sum', in the pinned program and in every row, IS THE sha256 OF THE DUMP (.gsa) THAT YtaiadolmjmacfaaDoorProg.lean LOADS. Nothing in Lean hashes anything: it is a label: what it is worth is what the hold of that sum in a sandbox is worth. -/
noncomputable def Tryd.pinned : Pinned := { name := "ytaiadolmjmacfaadoor", sum := "f6fec6b5789853bda949c6e8b30189c65168063cddaf8eae26397a47fa72195e", checked := Tryd.checked }
namespace Rows
def none {H : Type} : Left H := { results := [], args := [] }

/- WHAT THE LISTED PACKAGE-LEVEL VARIABLES READ AS WHEN THE CALL BEGINS. Each datum BY PROGRAM (the guide's laid-datum.mjs) off the statement by which the dump's own 'gosem.cut.vars' lays the variable. In a bare row this is a premise. The card (YtaiadolmjmacfaaDoorCards.lean) ties it to the program's text. -/
def laid_errors_errorType {H : Type} : DataW H := .iface "internal/reflectlite.rtype" (.agg [.ptr (.lit (.string [101, 114, 114, 111, 114]))])

/-- 'drawbridgelaw17.IpTells': WHATEVER THE INPUT: true; the input reads as it did. -/
def ipTellsSpec : ChangeSpec := { name := "ipTells", fn := fun _ => fun
  | [d1, d2] => { results := [.lit (.bool true)], args := [d1, d2] }
  | _ => none }
def ipTellsRow : OpenClaim := { program := "ytaiadolmjmacfaadoor", sum := "f6fec6b5789853bda949c6e8b30189c65168063cddaf8eae26397a47fa72195e", func := "drawbridge/drawbridgelaw17.IpTells", spec := "ipTells", inPlace := ["internal/reflectlite.ValueOf", "(internal/reflectlite.Value).Type", "(internal/reflectlite.Value).IsNil", "internal/reflectlite.TypeOf", "(internal/reflectlite.Value).Elem", "(internal/reflectlite.Value).Set"], unfollowed := true, recurses := true, named := ["errors.errorType"], apart := false, laid := [("errors.errorType", laid_errors_errorType)] }
def IpTellsSaid : Prop := ipTellsRow.holds Tryd.pinned (OpenSpec.ofChange ipTellsSpec)

/-- ITS FALSE NEIGHBOUR: 'it returns false'. Refute it at one input. -/
def ipTellsWrong : ChangeSpec := { name := "ipTells", fn := fun _ => fun
  | [d1, d2] => { results := [.lit (.bool false)], args := [d1, d2] }
  | _ => none }
def IpTellsWrongFalsely : Prop := ipTellsRow.holds Tryd.pinned (OpenSpec.ofChange ipTellsWrong)

/-- 'drawbridgelaw17.IpBack': WHATEVER THE INPUT: true; the input reads as it did. -/
def ipBackSpec : ChangeSpec := { name := "ipBack", fn := fun _ => fun
  | [d1, d2] => { results := [.lit (.bool true)], args := [d1, d2] }
  | _ => none }
def ipBackRow : OpenClaim := { program := "ytaiadolmjmacfaadoor", sum := "f6fec6b5789853bda949c6e8b30189c65168063cddaf8eae26397a47fa72195e", func := "drawbridge/drawbridgelaw17.IpBack", spec := "ipBack", inPlace := ["internal/reflectlite.ValueOf", "(internal/reflectlite.Value).Type", "(internal/reflectlite.Value).IsNil", "internal/reflectlite.TypeOf", "(internal/reflectlite.Value).Elem", "(internal/reflectlite.Value).Set"], unfollowed := true, recurses := true, named := ["errors.errorType"], apart := false, laid := [("errors.errorType", laid_errors_errorType)] }
def IpBackSaid : Prop := ipBackRow.holds Tryd.pinned (OpenSpec.ofChange ipBackSpec)

/-- ITS FALSE NEIGHBOUR: 'it returns false'. Refute it at one input. -/
def ipBackWrong : ChangeSpec := { name := "ipBack", fn := fun _ => fun
  | [d1, d2] => { results := [.lit (.bool false)], args := [d1, d2] }
  | _ => none }
def IpBackWrongFalsely : Prop := ipBackRow.holds Tryd.pinned (OpenSpec.ofChange ipBackWrong)

/-- 'drawbridgelaw17.IpPieces': WHATEVER THE INPUT: true; the input reads as it did. -/
def ipPiecesSpec : ChangeSpec := { name := "ipPieces", fn := fun _ => fun
  | [d1, d2] => { results := [.lit (.bool true)], args := [d1, d2] }
  | _ => none }
def ipPiecesRow : OpenClaim := { program := "ytaiadolmjmacfaadoor", sum := "f6fec6b5789853bda949c6e8b30189c65168063cddaf8eae26397a47fa72195e", func := "drawbridge/drawbridgelaw17.IpPieces", spec := "ipPieces", inPlace := ["internal/reflectlite.ValueOf", "(internal/reflectlite.Value).Type", "(internal/reflectlite.Value).IsNil", "internal/reflectlite.TypeOf", "(internal/reflectlite.Value).Elem", "(internal/reflectlite.Value).Set"], unfollowed := true, recurses := true, named := ["errors.errorType"], apart := false, laid := [("errors.errorType", laid_errors_errorType)] }
def IpPiecesSaid : Prop := ipPiecesRow.holds Tryd.pinned (OpenSpec.ofChange ipPiecesSpec)

/-- ITS FALSE NEIGHBOUR: 'it returns false'. Refute it at one input. -/
def ipPiecesWrong : ChangeSpec := { name := "ipPieces", fn := fun _ => fun
  | [d1, d2] => { results := [.lit (.bool false)], args := [d1, d2] }
  | _ => none }
def IpPiecesWrongFalsely : Prop := ipPiecesRow.holds Tryd.pinned (OpenSpec.ofChange ipPiecesWrong)

/-- 'drawbridgelaw17.IpEchoes': WHATEVER THE INPUT: true; the input reads as it did. -/
def ipEchoesSpec : ChangeSpec := { name := "ipEchoes", fn := fun _ => fun
  | [d] => { results := [.lit (.bool true)], args := [d] }
  | _ => none }
def ipEchoesRow : OpenClaim := { program := "ytaiadolmjmacfaadoor", sum := "f6fec6b5789853bda949c6e8b30189c65168063cddaf8eae26397a47fa72195e", func := "drawbridge/drawbridgelaw17.IpEchoes", spec := "ipEchoes", inPlace := ["internal/reflectlite.ValueOf", "(internal/reflectlite.Value).Type", "(internal/reflectlite.Value).IsNil", "internal/reflectlite.TypeOf", "(internal/reflectlite.Value).Elem", "(internal/reflectlite.Value).Set"], unfollowed := true, recurses := true, named := ["errors.errorType"], apart := false, laid := [("errors.errorType", laid_errors_errorType)] }
def IpEchoesSaid : Prop := ipEchoesRow.holds Tryd.pinned (OpenSpec.ofChange ipEchoesSpec)

/-- ITS FALSE NEIGHBOUR: 'it returns false'. Refute it at one input. -/
def ipEchoesWrong : ChangeSpec := { name := "ipEchoes", fn := fun _ => fun
  | [d] => { results := [.lit (.bool false)], args := [d] }
  | _ => none }
def IpEchoesWrongFalsely : Prop := ipEchoesRow.holds Tryd.pinned (OpenSpec.ofChange ipEchoesWrong)

/- THE SECOND FORM. 'bulk': how many values and letters a reading holds, each counted each time it is reached (what is shared counts as often as it is met; a slice's spare places count too). A statement '..UptoSaid' is the law's where the arguments, and the package variables that the reading takes, are together of bulk at most 1048576: NARROWER than '..Said'. Prove '..Said' where nothing that the law and all that it calls make is longer than what came in: it says more and counts as full. Else prove '..UptoSaid'. A law counts once. -/
mutual
def uptoBulk {H : Type} : DataW H → Nat
  | .lit (.string bytes) => bytes.length + 1
  | .lit _ => 1
  | .nil => 1
  | .ptr d => uptoBulk d + 1
  | .slice elems spare => uptoBulkAll elems + uptoBulkAll spare + 1
  | .agg parts => uptoBulkAll parts + 1
  | .iface _ d => uptoBulk d + 1
  | .map entries => uptoBulkEntries entries + 1
  | .held _ => 1
def uptoBulkAll {H : Type} : List (DataW H) → Nat
  | [] => 0
  | d :: r => uptoBulk d + uptoBulkAll r
def uptoBulkEntries {H : Type} : List (Lit × DataW H) → Nat
  | [] => 0
  | x :: r => uptoBulkEntry x + uptoBulkEntries r
def uptoBulkEntry {H : Type} : Lit × DataW H → Nat
  | (.string bytes, d) => bytes.length + uptoBulk d + 1
  | (_, d) => uptoBulk d + 1
 end
def uptoSmall : (H : Type) → List (DataW H) → Bool := fun _ ds => decide (uptoBulkAll ds ≤ 1048576)
def OpenSpec.upto (s : _root_.Go.ChangeSpec) : _root_.Go.OpenSpec := { _root_.Go.OpenSpec.ofChange s with cond := some uptoSmall }

/-- 'drawbridgelaw17.IpTells', WHERE WHAT IT READS IS OF BULK AT MOST 1048576: true; the input reads as it did. -/
def ipTellsUptoRow : OpenClaim := { program := "ytaiadolmjmacfaadoor", sum := "f6fec6b5789853bda949c6e8b30189c65168063cddaf8eae26397a47fa72195e", func := "drawbridge/drawbridgelaw17.IpTells", spec := "ipTells", inPlace := ["internal/reflectlite.ValueOf", "(internal/reflectlite.Value).Type", "(internal/reflectlite.Value).IsNil", "internal/reflectlite.TypeOf", "(internal/reflectlite.Value).Elem", "(internal/reflectlite.Value).Set"], unfollowed := true, recurses := true, named := ["errors.errorType"], apart := false, laid := [("errors.errorType", laid_errors_errorType)], narrowed := true }
def IpTellsUptoSaid : Prop := ipTellsUptoRow.holds Tryd.pinned (OpenSpec.upto ipTellsSpec)

/-- 'drawbridgelaw17.IpBack', WHERE WHAT IT READS IS OF BULK AT MOST 1048576: true; the input reads as it did. -/
def ipBackUptoRow : OpenClaim := { program := "ytaiadolmjmacfaadoor", sum := "f6fec6b5789853bda949c6e8b30189c65168063cddaf8eae26397a47fa72195e", func := "drawbridge/drawbridgelaw17.IpBack", spec := "ipBack", inPlace := ["internal/reflectlite.ValueOf", "(internal/reflectlite.Value).Type", "(internal/reflectlite.Value).IsNil", "internal/reflectlite.TypeOf", "(internal/reflectlite.Value).Elem", "(internal/reflectlite.Value).Set"], unfollowed := true, recurses := true, named := ["errors.errorType"], apart := false, laid := [("errors.errorType", laid_errors_errorType)], narrowed := true }
def IpBackUptoSaid : Prop := ipBackUptoRow.holds Tryd.pinned (OpenSpec.upto ipBackSpec)

/-- 'drawbridgelaw17.IpPieces', WHERE WHAT IT READS IS OF BULK AT MOST 1048576: true; the input reads as it did. -/
def ipPiecesUptoRow : OpenClaim := { program := "ytaiadolmjmacfaadoor", sum := "f6fec6b5789853bda949c6e8b30189c65168063cddaf8eae26397a47fa72195e", func := "drawbridge/drawbridgelaw17.IpPieces", spec := "ipPieces", inPlace := ["internal/reflectlite.ValueOf", "(internal/reflectlite.Value).Type", "(internal/reflectlite.Value).IsNil", "internal/reflectlite.TypeOf", "(internal/reflectlite.Value).Elem", "(internal/reflectlite.Value).Set"], unfollowed := true, recurses := true, named := ["errors.errorType"], apart := false, laid := [("errors.errorType", laid_errors_errorType)], narrowed := true }
def IpPiecesUptoSaid : Prop := ipPiecesUptoRow.holds Tryd.pinned (OpenSpec.upto ipPiecesSpec)

/-- 'drawbridgelaw17.IpEchoes', WHERE WHAT IT READS IS OF BULK AT MOST 1048576: true; the input reads as it did. -/
def ipEchoesUptoRow : OpenClaim := { program := "ytaiadolmjmacfaadoor", sum := "f6fec6b5789853bda949c6e8b30189c65168063cddaf8eae26397a47fa72195e", func := "drawbridge/drawbridgelaw17.IpEchoes", spec := "ipEchoes", inPlace := ["internal/reflectlite.ValueOf", "(internal/reflectlite.Value).Type", "(internal/reflectlite.Value).IsNil", "internal/reflectlite.TypeOf", "(internal/reflectlite.Value).Elem", "(internal/reflectlite.Value).Set"], unfollowed := true, recurses := true, named := ["errors.errorType"], apart := false, laid := [("errors.errorType", laid_errors_errorType)], narrowed := true }
def IpEchoesUptoSaid : Prop := ipEchoesUptoRow.holds Tryd.pinned (OpenSpec.upto ipEchoesSpec)

end Rows
end Go.Proofs.YtaiadolmjmacfaaDoor
