/-
  No cell of these rows narrows 'for every input' (looked for: loops, veiled, ifaces, maps, wideKeys, modest, calm, conditions, laid).
  DERIVED. THE GIVEN ROWS OF THIS SEAT. 4 by the template 'for every input the law returns true; each argument reads behind the call as it read before'; 0 by the template 'total and deterministic' (their statements: YtmmaojclfggioaaTotals.lean).
  GIVEN WITH THE SEED: the statements are not yours to turn. If you find one false, say at which input.
  Laid BY PROGRAM, IN A SANDBOX (cutbox-rows.mjs): the forced cells as the released guide's own fill.sh prints them over the translation 989c90f7c696505f… (all of the seat's roots in one cut). By AI agents, Wed Nov 11 2026. No macro, syntax, notation, axiom, sorry.
-/
import Derived.Test.YtmmaojclfggioaaChecked
import GoSem.Claim
import GoSem.ClaimJoined
import GoSem.ClaimMapViews
import Derived.JoinedTies
import Derived.KernelRfl
namespace Go.Proofs.Ytmmaojclfggioaa
/- THE CELL 'sum', in the pinned program and in every row, IS THE sha256 OF THE DUMP (.gsa) THAT YtmmaojclfggioaaProg.lean LOADS. Nothing in Lean hashes anything: it is a label: what it is worth is what the hold of that sum in a sandbox is worth. -/
noncomputable def Try.pinned : Pinned := { name := "ytmmaojclfggioaa", sum := "989c90f7c696505fc73abfff4317d02c217a325afdab004d4c2bda8300c14eaf", checked := Try.checked }
namespace Rows
def none {H : Type} : Left H := { results := [], args := [] }

/-- 'drawbridgelaw25.LeaseEnds': WHATEVER THE INPUT: true; the input reads as it did. -/
def leaseEndsSpec : ChangeSpec := { name := "leaseEnds", fn := fun _ => fun
  | [d1, d2, d3, d4, d5] => { results := [.lit (.bool true)], args := [d1, d2, d3, d4, d5] }
  | _ => none }
def leaseEndsRow : OpenClaim := { program := "ytmmaojclfggioaa", sum := "989c90f7c696505fc73abfff4317d02c217a325afdab004d4c2bda8300c14eaf", func := "drawbridge/drawbridgelaw25.LeaseEnds", spec := "leaseEnds", unfollowed := true, recurses := true, apart := false }
def LeaseEndsSaid : Prop := leaseEndsRow.holds Try.pinned (OpenSpec.ofChange leaseEndsSpec)

/-- ITS FALSE NEIGHBOUR: 'it returns false'. Refute it at one input. -/
def leaseEndsWrong : ChangeSpec := { name := "leaseEnds", fn := fun _ => fun
  | [d1, d2, d3, d4, d5] => { results := [.lit (.bool false)], args := [d1, d2, d3, d4, d5] }
  | _ => none }
def LeaseEndsWrongFalsely : Prop := leaseEndsRow.holds Try.pinned (OpenSpec.ofChange leaseEndsWrong)

/-- 'drawbridgelaw25.LeaseServes': WHATEVER THE INPUT: true; the input reads as it did. -/
def leaseServesSpec : ChangeSpec := { name := "leaseServes", fn := fun _ => fun
  | [d1, d2, d3, d4] => { results := [.lit (.bool true)], args := [d1, d2, d3, d4] }
  | _ => none }
def leaseServesRow : OpenClaim := { program := "ytmmaojclfggioaa", sum := "989c90f7c696505fc73abfff4317d02c217a325afdab004d4c2bda8300c14eaf", func := "drawbridge/drawbridgelaw25.LeaseServes", spec := "leaseServes", unfollowed := true, recurses := true, apart := false }
def LeaseServesSaid : Prop := leaseServesRow.holds Try.pinned (OpenSpec.ofChange leaseServesSpec)

/-- ITS FALSE NEIGHBOUR: 'it returns false'. Refute it at one input. -/
def leaseServesWrong : ChangeSpec := { name := "leaseServes", fn := fun _ => fun
  | [d1, d2, d3, d4] => { results := [.lit (.bool false)], args := [d1, d2, d3, d4] }
  | _ => none }
def LeaseServesWrongFalsely : Prop := leaseServesRow.holds Try.pinned (OpenSpec.ofChange leaseServesWrong)

/-- 'drawbridgelaw25.LeaseOne': WHATEVER THE INPUT: true; the input reads as it did. -/
def leaseOneSpec : ChangeSpec := { name := "leaseOne", fn := fun _ => fun
  | [d1, d2] => { results := [.lit (.bool true)], args := [d1, d2] }
  | _ => none }
def leaseOneRow : OpenClaim := { program := "ytmmaojclfggioaa", sum := "989c90f7c696505fc73abfff4317d02c217a325afdab004d4c2bda8300c14eaf", func := "drawbridge/drawbridgelaw25.LeaseOne", spec := "leaseOne", unfollowed := true, recurses := true, apart := false }
def LeaseOneSaid : Prop := leaseOneRow.holds Try.pinned (OpenSpec.ofChange leaseOneSpec)

/-- ITS FALSE NEIGHBOUR: 'it returns false'. Refute it at one input. -/
def leaseOneWrong : ChangeSpec := { name := "leaseOne", fn := fun _ => fun
  | [d1, d2] => { results := [.lit (.bool false)], args := [d1, d2] }
  | _ => none }
def LeaseOneWrongFalsely : Prop := leaseOneRow.holds Try.pinned (OpenSpec.ofChange leaseOneWrong)

/-- 'drawbridgelaw25.LeaseOffers': WHATEVER THE INPUT: true; the input reads as it did. -/
def leaseOffersSpec : ChangeSpec := { name := "leaseOffers", fn := fun _ => fun
  | [d1, d2, d3] => { results := [.lit (.bool true)], args := [d1, d2, d3] }
  | _ => none }
def leaseOffersRow : OpenClaim := { program := "ytmmaojclfggioaa", sum := "989c90f7c696505fc73abfff4317d02c217a325afdab004d4c2bda8300c14eaf", func := "drawbridge/drawbridgelaw25.LeaseOffers", spec := "leaseOffers", unfollowed := true, recurses := true, apart := false }
def LeaseOffersSaid : Prop := leaseOffersRow.holds Try.pinned (OpenSpec.ofChange leaseOffersSpec)

/-- ITS FALSE NEIGHBOUR: 'it returns false'. Refute it at one input. -/
def leaseOffersWrong : ChangeSpec := { name := "leaseOffers", fn := fun _ => fun
  | [d1, d2, d3] => { results := [.lit (.bool false)], args := [d1, d2, d3] }
  | _ => none }
def LeaseOffersWrongFalsely : Prop := leaseOffersRow.holds Try.pinned (OpenSpec.ofChange leaseOffersWrong)

/- THE SECOND FORM. 'bulk': how many values and letters a reading holds, each counted each time it is reached (what is shared counts as often as it is met; a slice's spare places count too). A statement '..UptoSaid' is the law's where the arguments, and the package variables that the reading takes, are together of bulk at most 1048576: NARROWER than '..Said'. Prove '..Said' where nothing that the law and all that it calls make is longer than what came in: it says more and counts as full. Else prove '..UptoSaid'. A law counts once. -/
mutual
def uptoBulk {H : Type} : DataW H → Nat
  | .lit (.string bytes) => bytes.length + 1
  | .lit _ => 1
  | .nil => 1
  | .ptr d => uptoBulk d + 1
  | .slice elems spare => uptoBulkAll elems + uptoBulkAll spare + 1
  | .agg parts => uptoBulkAll parts + 1
  | .iface _ d => uptoBulk d + 1
  | .map entries => uptoBulkEntries entries + 1
  | .held _ => 1
def uptoBulkAll {H : Type} : List (DataW H) → Nat
  | [] => 0
  | d :: r => uptoBulk d + uptoBulkAll r
def uptoBulkEntries {H : Type} : List (Lit × DataW H) → Nat
  | [] => 0
  | x :: r => uptoBulkEntry x + uptoBulkEntries r
def uptoBulkEntry {H : Type} : Lit × DataW H → Nat
  | (.string bytes, d) => bytes.length + uptoBulk d + 1
  | (_, d) => uptoBulk d + 1
 end
def uptoSmall : (H : Type) → List (DataW H) → Bool := fun _ ds => decide (uptoBulkAll ds ≤ 1048576)
def OpenSpec.upto (s : _root_.Go.ChangeSpec) : _root_.Go.OpenSpec := { _root_.Go.OpenSpec.ofChange s with cond := some uptoSmall }

/-- 'drawbridgelaw25.LeaseEnds', WHERE WHAT IT READS IS OF BULK AT MOST 1048576: true; the input reads as it did. -/
def leaseEndsUptoRow : OpenClaim := { program := "ytmmaojclfggioaa", sum := "989c90f7c696505fc73abfff4317d02c217a325afdab004d4c2bda8300c14eaf", func := "drawbridge/drawbridgelaw25.LeaseEnds", spec := "leaseEnds", unfollowed := true, recurses := true, apart := false, narrowed := true }
def LeaseEndsUptoSaid : Prop := leaseEndsUptoRow.holds Try.pinned (OpenSpec.upto leaseEndsSpec)

/-- 'drawbridgelaw25.LeaseServes', WHERE WHAT IT READS IS OF BULK AT MOST 1048576: true; the input reads as it did. -/
def leaseServesUptoRow : OpenClaim := { program := "ytmmaojclfggioaa", sum := "989c90f7c696505fc73abfff4317d02c217a325afdab004d4c2bda8300c14eaf", func := "drawbridge/drawbridgelaw25.LeaseServes", spec := "leaseServes", unfollowed := true, recurses := true, apart := false, narrowed := true }
def LeaseServesUptoSaid : Prop := leaseServesUptoRow.holds Try.pinned (OpenSpec.upto leaseServesSpec)

/-- 'drawbridgelaw25.LeaseOne', WHERE WHAT IT READS IS OF BULK AT MOST 1048576: true; the input reads as it did. -/
def leaseOneUptoRow : OpenClaim := { program := "ytmmaojclfggioaa", sum := "989c90f7c696505fc73abfff4317d02c217a325afdab004d4c2bda8300c14eaf", func := "drawbridge/drawbridgelaw25.LeaseOne", spec := "leaseOne", unfollowed := true, recurses := true, apart := false, narrowed := true }
def LeaseOneUptoSaid : Prop := leaseOneUptoRow.holds Try.pinned (OpenSpec.upto leaseOneSpec)

/-- 'drawbridgelaw25.LeaseOffers', WHERE WHAT IT READS IS OF BULK AT MOST 1048576: true; the input reads as it did. -/
def leaseOffersUptoRow : OpenClaim := { program := "ytmmaojclfggioaa", sum := "989c90f7c696505fc73abfff4317d02c217a325afdab004d4c2bda8300c14eaf", func := "drawbridge/drawbridgelaw25.LeaseOffers", spec := "leaseOffers", unfollowed := true, recurses := true, apart := false, narrowed := true }
def LeaseOffersUptoSaid : Prop := leaseOffersUptoRow.holds Try.pinned (OpenSpec.upto leaseOffersSpec)

end Rows
end Go.Proofs.Ytmmaojclfggioaa
