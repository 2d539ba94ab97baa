/-
  No cell of these rows narrows 'for every input' (looked for: loops, veiled, ifaces, maps, wideKeys, modest, calm, conditions, laid).
  DERIVED. THE GIVEN ROWS OF THIS SEAT. 3 by the template 'for every input the law returns true; each argument reads behind the call as it read before'; 0 by the template 'total and deterministic' (their statements: YtlpjgmbbcibkjaaTotals.lean).
  GIVEN WITH THE SEED: the statements are not yours to turn. If you find one false, say at which input.
  Laid BY PROGRAM, IN A SANDBOX (cutbox-rows.mjs): the forced cells as the released guide's own fill.sh prints them over the translation cb74e850ebc2989a… (all of the seat's roots in one cut). By AI agents, Wed Nov 11 2026. No macro, syntax, notation, axiom, sorry.
-/
import Derived.Test.YtlpjgmbbcibkjaaChecked
import GoSem.Claim
import GoSem.ClaimJoined
import GoSem.ClaimMapViews
import Derived.JoinedTies
import Derived.KernelRfl
namespace Go.Proofs.Ytlpjgmbbcibkjaa
/- THE CELL 'sum', in the pinned program and in every row, IS THE sha256 OF THE DUMP (.gsa) THAT YtlpjgmbbcibkjaaProg.lean LOADS. Nothing in Lean hashes anything: it is a label: what it is worth is what the hold of that sum in a sandbox is worth. -/
noncomputable def Try.pinned : Pinned := { name := "ytlpjgmbbcibkjaa", sum := "cb74e850ebc2989aa50009f5e815e63bcac8ba6c870df715fe05c5e07fdd238a", checked := Try.checked }
namespace Rows
def none {H : Type} : Left H := { results := [], args := [] }

/-- 'drawbridgelaw24.ReasmFirst': WHATEVER THE INPUT: true; the input reads as it did. -/
def reasmFirstSpec : ChangeSpec := { name := "reasmFirst", fn := fun _ => fun
  | [d1, d2, d3, d4] => { results := [.lit (.bool true)], args := [d1, d2, d3, d4] }
  | _ => none }
def reasmFirstRow : OpenClaim := { program := "ytlpjgmbbcibkjaa", sum := "cb74e850ebc2989aa50009f5e815e63bcac8ba6c870df715fe05c5e07fdd238a", func := "drawbridge/drawbridgelaw24.ReasmFirst", spec := "reasmFirst", unfollowed := true, recurses := true, plainKeys := false, apart := false }
def ReasmFirstSaid : Prop := reasmFirstRow.holds Try.pinned (OpenSpec.ofChange reasmFirstSpec)

/-- ITS FALSE NEIGHBOUR: 'it returns false'. Refute it at one input. -/
def reasmFirstWrong : ChangeSpec := { name := "reasmFirst", fn := fun _ => fun
  | [d1, d2, d3, d4] => { results := [.lit (.bool false)], args := [d1, d2, d3, d4] }
  | _ => none }
def ReasmFirstWrongFalsely : Prop := reasmFirstRow.holds Try.pinned (OpenSpec.ofChange reasmFirstWrong)

/-- 'drawbridgelaw24.ReasmBack': WHATEVER THE INPUT: true; the input reads as it did. -/
def reasmBackSpec : ChangeSpec := { name := "reasmBack", fn := fun _ => fun
  | [d1, d2, d3] => { results := [.lit (.bool true)], args := [d1, d2, d3] }
  | _ => none }
def reasmBackRow : OpenClaim := { program := "ytlpjgmbbcibkjaa", sum := "cb74e850ebc2989aa50009f5e815e63bcac8ba6c870df715fe05c5e07fdd238a", func := "drawbridge/drawbridgelaw24.ReasmBack", spec := "reasmBack", unfollowed := true, recurses := true, plainKeys := false, apart := false }
def ReasmBackSaid : Prop := reasmBackRow.holds Try.pinned (OpenSpec.ofChange reasmBackSpec)

/-- ITS FALSE NEIGHBOUR: 'it returns false'. Refute it at one input. -/
def reasmBackWrong : ChangeSpec := { name := "reasmBack", fn := fun _ => fun
  | [d1, d2, d3] => { results := [.lit (.bool false)], args := [d1, d2, d3] }
  | _ => none }
def ReasmBackWrongFalsely : Prop := reasmBackRow.holds Try.pinned (OpenSpec.ofChange reasmBackWrong)

/-- 'drawbridgelaw24.ReasmStays': WHATEVER THE INPUT: true; the input reads as it did. -/
def reasmStaysSpec : ChangeSpec := { name := "reasmStays", fn := fun _ => fun
  | [d1, d2, d3] => { results := [.lit (.bool true)], args := [d1, d2, d3] }
  | _ => none }
def reasmStaysRow : OpenClaim := { program := "ytlpjgmbbcibkjaa", sum := "cb74e850ebc2989aa50009f5e815e63bcac8ba6c870df715fe05c5e07fdd238a", func := "drawbridge/drawbridgelaw24.ReasmStays", spec := "reasmStays", unfollowed := true, recurses := true, plainKeys := false, apart := false }
def ReasmStaysSaid : Prop := reasmStaysRow.holds Try.pinned (OpenSpec.ofChange reasmStaysSpec)

/-- ITS FALSE NEIGHBOUR: 'it returns false'. Refute it at one input. -/
def reasmStaysWrong : ChangeSpec := { name := "reasmStays", fn := fun _ => fun
  | [d1, d2, d3] => { results := [.lit (.bool false)], args := [d1, d2, d3] }
  | _ => none }
def ReasmStaysWrongFalsely : Prop := reasmStaysRow.holds Try.pinned (OpenSpec.ofChange reasmStaysWrong)

/- THE SECOND FORM. 'bulk': how many values and letters a reading holds, each counted each time it is reached (what is shared counts as often as it is met; a slice's spare places count too). A statement '..UptoSaid' is the law's where the arguments, and the package variables that the reading takes, are together of bulk at most 1048576: NARROWER than '..Said'. Prove '..Said' where nothing that the law and all that it calls make is longer than what came in: it says more and counts as full. Else prove '..UptoSaid'. A law counts once. -/
mutual
def uptoBulk {H : Type} : DataW H → Nat
  | .lit (.string bytes) => bytes.length + 1
  | .lit _ => 1
  | .nil => 1
  | .ptr d => uptoBulk d + 1
  | .slice elems spare => uptoBulkAll elems + uptoBulkAll spare + 1
  | .agg parts => uptoBulkAll parts + 1
  | .iface _ d => uptoBulk d + 1
  | .map entries => uptoBulkEntries entries + 1
  | .held _ => 1
def uptoBulkAll {H : Type} : List (DataW H) → Nat
  | [] => 0
  | d :: r => uptoBulk d + uptoBulkAll r
def uptoBulkEntries {H : Type} : List (Lit × DataW H) → Nat
  | [] => 0
  | x :: r => uptoBulkEntry x + uptoBulkEntries r
def uptoBulkEntry {H : Type} : Lit × DataW H → Nat
  | (.string bytes, d) => bytes.length + uptoBulk d + 1
  | (_, d) => uptoBulk d + 1
 end
def uptoSmall : (H : Type) → List (DataW H) → Bool := fun _ ds => decide (uptoBulkAll ds ≤ 1048576)
def OpenSpec.upto (s : _root_.Go.ChangeSpec) : _root_.Go.OpenSpec := { _root_.Go.OpenSpec.ofChange s with cond := some uptoSmall }

/-- 'drawbridgelaw24.ReasmFirst', WHERE WHAT IT READS IS OF BULK AT MOST 1048576: true; the input reads as it did. -/
def reasmFirstUptoRow : OpenClaim := { program := "ytlpjgmbbcibkjaa", sum := "cb74e850ebc2989aa50009f5e815e63bcac8ba6c870df715fe05c5e07fdd238a", func := "drawbridge/drawbridgelaw24.ReasmFirst", spec := "reasmFirst", unfollowed := true, recurses := true, plainKeys := false, apart := false, narrowed := true }
def ReasmFirstUptoSaid : Prop := reasmFirstUptoRow.holds Try.pinned (OpenSpec.upto reasmFirstSpec)

/-- 'drawbridgelaw24.ReasmBack', WHERE WHAT IT READS IS OF BULK AT MOST 1048576: true; the input reads as it did. -/
def reasmBackUptoRow : OpenClaim := { program := "ytlpjgmbbcibkjaa", sum := "cb74e850ebc2989aa50009f5e815e63bcac8ba6c870df715fe05c5e07fdd238a", func := "drawbridge/drawbridgelaw24.ReasmBack", spec := "reasmBack", unfollowed := true, recurses := true, plainKeys := false, apart := false, narrowed := true }
def ReasmBackUptoSaid : Prop := reasmBackUptoRow.holds Try.pinned (OpenSpec.upto reasmBackSpec)

/-- 'drawbridgelaw24.ReasmStays', WHERE WHAT IT READS IS OF BULK AT MOST 1048576: true; the input reads as it did. -/
def reasmStaysUptoRow : OpenClaim := { program := "ytlpjgmbbcibkjaa", sum := "cb74e850ebc2989aa50009f5e815e63bcac8ba6c870df715fe05c5e07fdd238a", func := "drawbridge/drawbridgelaw24.ReasmStays", spec := "reasmStays", unfollowed := true, recurses := true, plainKeys := false, apart := false, narrowed := true }
def ReasmStaysUptoSaid : Prop := reasmStaysUptoRow.holds Try.pinned (OpenSpec.upto reasmStaysSpec)

end Rows
end Go.Proofs.Ytlpjgmbbcibkjaa
