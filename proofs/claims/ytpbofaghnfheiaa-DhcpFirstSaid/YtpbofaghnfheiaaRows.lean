/-
  No cell of these rows narrows 'for every input' (looked for: loops, veiled, ifaces, maps, wideKeys, modest, calm, conditions, laid).
  DERIVED. THE GIVEN ROWS OF THIS SEAT. 4 by the template 'for every input the law returns true; each argument reads behind the call as it read before'; 0 by the template 'total and deterministic' (their statements: YtpbofaghnfheiaaTotals.lean).
  GIVEN WITH THE SEED: the statements are not yours to turn. If you find one false, say at which input.
  Laid BY PROGRAM, IN A SANDBOX (cutbox-rows.mjs): the forced cells as the released guide's own fill.sh prints them over the translation d39f22d52b2ea754… (all of the seat's roots in one cut). By AI agents, Wed Nov 11 2026. No macro, syntax, notation, axiom, sorry.
-/
import Derived.Test.YtpbofaghnfheiaaChecked
import GoSem.Claim
import GoSem.ClaimJoined
import GoSem.ClaimMapViews
import Derived.JoinedTies
import Derived.KernelRfl
namespace Go.Proofs.Ytpbofaghnfheiaa
/- THE CELL 'sum', in the pinned program and in every row, IS THE sha256 OF THE DUMP (.gsa) THAT YtpbofaghnfheiaaProg.lean LOADS. Nothing in Lean hashes anything: it is a label: what it is worth is what the hold of that sum in a sandbox is worth. -/
noncomputable def Try.pinned : Pinned := { name := "ytpbofaghnfheiaa", sum := "d39f22d52b2ea7541279cb33b6baf4bc9392300993a9cf5ec1cc9573740ea673", checked := Try.checked }
namespace Rows
def none {H : Type} : Left H := { results := [], args := [] }

/-- 'drawbridgelaw20.DhcpAgain': WHATEVER THE INPUT: true; the input reads as it did. -/
def dhcpAgainSpec : ChangeSpec := { name := "dhcpAgain", fn := fun _ => fun
  | [d] => { results := [.lit (.bool true)], args := [d] }
  | _ => none }
def dhcpAgainRow : OpenClaim := { program := "ytpbofaghnfheiaa", sum := "d39f22d52b2ea7541279cb33b6baf4bc9392300993a9cf5ec1cc9573740ea673", func := "drawbridge/drawbridgelaw20.DhcpAgain", spec := "dhcpAgain", unfollowed := true, recurses := true, apart := false }
def DhcpAgainSaid : Prop := dhcpAgainRow.holds Try.pinned (OpenSpec.ofChange dhcpAgainSpec)

/-- ITS FALSE NEIGHBOUR: 'it returns false'. Refute it at one input. -/
def dhcpAgainWrong : ChangeSpec := { name := "dhcpAgain", fn := fun _ => fun
  | [d] => { results := [.lit (.bool false)], args := [d] }
  | _ => none }
def DhcpAgainWrongFalsely : Prop := dhcpAgainRow.holds Try.pinned (OpenSpec.ofChange dhcpAgainWrong)

/-- 'drawbridgelaw20.DhcpTells': WHATEVER THE INPUT: true; the input reads as it did. -/
def dhcpTellsSpec : ChangeSpec := { name := "dhcpTells", fn := fun _ => fun
  | [d1, d2] => { results := [.lit (.bool true)], args := [d1, d2] }
  | _ => none }
def dhcpTellsRow : OpenClaim := { program := "ytpbofaghnfheiaa", sum := "d39f22d52b2ea7541279cb33b6baf4bc9392300993a9cf5ec1cc9573740ea673", func := "drawbridge/drawbridgelaw20.DhcpTells", spec := "dhcpTells", unfollowed := true, recurses := true, apart := false }
def DhcpTellsSaid : Prop := dhcpTellsRow.holds Try.pinned (OpenSpec.ofChange dhcpTellsSpec)

/-- ITS FALSE NEIGHBOUR: 'it returns false'. Refute it at one input. -/
def dhcpTellsWrong : ChangeSpec := { name := "dhcpTells", fn := fun _ => fun
  | [d1, d2] => { results := [.lit (.bool false)], args := [d1, d2] }
  | _ => none }
def DhcpTellsWrongFalsely : Prop := dhcpTellsRow.holds Try.pinned (OpenSpec.ofChange dhcpTellsWrong)

/-- 'drawbridgelaw20.DhcpBack': WHATEVER THE INPUT: true; the input reads as it did. -/
def dhcpBackSpec : ChangeSpec := { name := "dhcpBack", fn := fun _ => fun
  | [d1, d2] => { results := [.lit (.bool true)], args := [d1, d2] }
  | _ => none }
def dhcpBackRow : OpenClaim := { program := "ytpbofaghnfheiaa", sum := "d39f22d52b2ea7541279cb33b6baf4bc9392300993a9cf5ec1cc9573740ea673", func := "drawbridge/drawbridgelaw20.DhcpBack", spec := "dhcpBack", unfollowed := true, recurses := true, apart := false }
def DhcpBackSaid : Prop := dhcpBackRow.holds Try.pinned (OpenSpec.ofChange dhcpBackSpec)

/-- ITS FALSE NEIGHBOUR: 'it returns false'. Refute it at one input. -/
def dhcpBackWrong : ChangeSpec := { name := "dhcpBack", fn := fun _ => fun
  | [d1, d2] => { results := [.lit (.bool false)], args := [d1, d2] }
  | _ => none }
def DhcpBackWrongFalsely : Prop := dhcpBackRow.holds Try.pinned (OpenSpec.ofChange dhcpBackWrong)

/-- 'drawbridgelaw20.DhcpFirst': WHATEVER THE INPUT: true; the input reads as it did. -/
def dhcpFirstSpec : ChangeSpec := { name := "dhcpFirst", fn := fun _ => fun
  | [d1, d2, d3, d4] => { results := [.lit (.bool true)], args := [d1, d2, d3, d4] }
  | _ => none }
def dhcpFirstRow : OpenClaim := { program := "ytpbofaghnfheiaa", sum := "d39f22d52b2ea7541279cb33b6baf4bc9392300993a9cf5ec1cc9573740ea673", func := "drawbridge/drawbridgelaw20.DhcpFirst", spec := "dhcpFirst", unfollowed := true, recurses := true, apart := false }
def DhcpFirstSaid : Prop := dhcpFirstRow.holds Try.pinned (OpenSpec.ofChange dhcpFirstSpec)

/-- ITS FALSE NEIGHBOUR: 'it returns false'. Refute it at one input. -/
def dhcpFirstWrong : ChangeSpec := { name := "dhcpFirst", fn := fun _ => fun
  | [d1, d2, d3, d4] => { results := [.lit (.bool false)], args := [d1, d2, d3, d4] }
  | _ => none }
def DhcpFirstWrongFalsely : Prop := dhcpFirstRow.holds Try.pinned (OpenSpec.ofChange dhcpFirstWrong)

/- THE SECOND FORM. 'bulk': how many values and letters a reading holds, each counted each time it is reached (what is shared counts as often as it is met; a slice's spare places count too). A statement '..UptoSaid' is the law's where the arguments, and the package variables that the reading takes, are together of bulk at most 1048576: NARROWER than '..Said'. Prove '..Said' where nothing that the law and all that it calls make is longer than what came in: it says more and counts as full. Else prove '..UptoSaid'. A law counts once. -/
mutual
def uptoBulk {H : Type} : DataW H → Nat
  | .lit (.string bytes) => bytes.length + 1
  | .lit _ => 1
  | .nil => 1
  | .ptr d => uptoBulk d + 1
  | .slice elems spare => uptoBulkAll elems + uptoBulkAll spare + 1
  | .agg parts => uptoBulkAll parts + 1
  | .iface _ d => uptoBulk d + 1
  | .map entries => uptoBulkEntries entries + 1
  | .held _ => 1
def uptoBulkAll {H : Type} : List (DataW H) → Nat
  | [] => 0
  | d :: r => uptoBulk d + uptoBulkAll r
def uptoBulkEntries {H : Type} : List (Lit × DataW H) → Nat
  | [] => 0
  | x :: r => uptoBulkEntry x + uptoBulkEntries r
def uptoBulkEntry {H : Type} : Lit × DataW H → Nat
  | (.string bytes, d) => bytes.length + uptoBulk d + 1
  | (_, d) => uptoBulk d + 1
 end
def uptoSmall : (H : Type) → List (DataW H) → Bool := fun _ ds => decide (uptoBulkAll ds ≤ 1048576)
def OpenSpec.upto (s : _root_.Go.ChangeSpec) : _root_.Go.OpenSpec := { _root_.Go.OpenSpec.ofChange s with cond := some uptoSmall }

/-- 'drawbridgelaw20.DhcpAgain', WHERE WHAT IT READS IS OF BULK AT MOST 1048576: true; the input reads as it did. -/
def dhcpAgainUptoRow : OpenClaim := { program := "ytpbofaghnfheiaa", sum := "d39f22d52b2ea7541279cb33b6baf4bc9392300993a9cf5ec1cc9573740ea673", func := "drawbridge/drawbridgelaw20.DhcpAgain", spec := "dhcpAgain", unfollowed := true, recurses := true, apart := false, narrowed := true }
def DhcpAgainUptoSaid : Prop := dhcpAgainUptoRow.holds Try.pinned (OpenSpec.upto dhcpAgainSpec)

/-- 'drawbridgelaw20.DhcpTells', WHERE WHAT IT READS IS OF BULK AT MOST 1048576: true; the input reads as it did. -/
def dhcpTellsUptoRow : OpenClaim := { program := "ytpbofaghnfheiaa", sum := "d39f22d52b2ea7541279cb33b6baf4bc9392300993a9cf5ec1cc9573740ea673", func := "drawbridge/drawbridgelaw20.DhcpTells", spec := "dhcpTells", unfollowed := true, recurses := true, apart := false, narrowed := true }
def DhcpTellsUptoSaid : Prop := dhcpTellsUptoRow.holds Try.pinned (OpenSpec.upto dhcpTellsSpec)

/-- 'drawbridgelaw20.DhcpBack', WHERE WHAT IT READS IS OF BULK AT MOST 1048576: true; the input reads as it did. -/
def dhcpBackUptoRow : OpenClaim := { program := "ytpbofaghnfheiaa", sum := "d39f22d52b2ea7541279cb33b6baf4bc9392300993a9cf5ec1cc9573740ea673", func := "drawbridge/drawbridgelaw20.DhcpBack", spec := "dhcpBack", unfollowed := true, recurses := true, apart := false, narrowed := true }
def DhcpBackUptoSaid : Prop := dhcpBackUptoRow.holds Try.pinned (OpenSpec.upto dhcpBackSpec)

/-- 'drawbridgelaw20.DhcpFirst', WHERE WHAT IT READS IS OF BULK AT MOST 1048576: true; the input reads as it did. -/
def dhcpFirstUptoRow : OpenClaim := { program := "ytpbofaghnfheiaa", sum := "d39f22d52b2ea7541279cb33b6baf4bc9392300993a9cf5ec1cc9573740ea673", func := "drawbridge/drawbridgelaw20.DhcpFirst", spec := "dhcpFirst", unfollowed := true, recurses := true, apart := false, narrowed := true }
def DhcpFirstUptoSaid : Prop := dhcpFirstUptoRow.holds Try.pinned (OpenSpec.upto dhcpFirstSpec)

end Rows
end Go.Proofs.Ytpbofaghnfheiaa
