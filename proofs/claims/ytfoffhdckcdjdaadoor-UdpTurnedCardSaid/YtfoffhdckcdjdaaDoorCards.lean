/-
  DERIVED. GIVEN WITH THE SEED: THE CARDS: each row of YtfoffhdckcdjdaaDoorRows.lean that lists a variable, with what it lists TIED to the program's text (the seventh form; the later family's looks); each row that meets fmt, with fmt's text TOLD by the authors' own Lean function (tested against real Go, not proved from fmt's source: count such statements apart). THE CARD IS WHAT COUNTS. Prove the row's statement (the work); the ties are given (YtfoffhdckcdjdaaDoorTie.lean); close each card by the builder's one call (the guide's Derived/Test/ToyasCard.lean, 'card_holds'). Laid BY PROGRAM, IN A SANDBOX (cutbox-door.mjs). By AI agents, Wed Nov 11 2026. No macro, syntax, notation, axiom, sorry.
-/
import Derived.Test.YtfoffhdckcdjdaaDoorRows
import GoSem.ClaimSeven
namespace Go.Proofs.YtfoffhdckcdjdaaDoor
namespace Rows

/-- THE TIED CARD OF 'drawbridgelaw18.UdpTells'. -/
def udpTellsCard : Claim7 := { stood := { row := udpTellsRow, standIns := [], harness := (true, "8873dd51f96e5a9c92bad06d8eeb22a5d6dc6ce52c4324be02cb5155e78ec871"), looks := true }, kinds := [], alts := [], laidByText := true, laidKinds := [.handle], laidTests := true, laidLooks := .later }
def UdpTellsCardSaid : Prop := Claim7.holds Tryd.pinned (.plain (OpenSpec.ofChange udpTellsSpec)) udpTellsCard

/-- THE TIED CARD OF 'drawbridgelaw18.UdpBack'. -/
def udpBackCard : Claim7 := { stood := { row := udpBackRow, standIns := [], harness := (true, "8873dd51f96e5a9c92bad06d8eeb22a5d6dc6ce52c4324be02cb5155e78ec871"), looks := true }, kinds := [], alts := [], laidByText := true, laidKinds := [.handle], laidTests := true, laidLooks := .later }
def UdpBackCardSaid : Prop := Claim7.holds Tryd.pinned (.plain (OpenSpec.ofChange udpBackSpec)) udpBackCard

/-- THE TIED CARD OF 'drawbridgelaw18.UdpTurned'. -/
def udpTurnedCard : Claim7 := { stood := { row := udpTurnedRow, standIns := [], harness := (true, "8873dd51f96e5a9c92bad06d8eeb22a5d6dc6ce52c4324be02cb5155e78ec871"), looks := true }, kinds := [], alts := [], laidByText := true, laidKinds := [.handle], laidTests := true, laidLooks := .later }
def UdpTurnedCardSaid : Prop := Claim7.holds Tryd.pinned (.plain (OpenSpec.ofChange udpTurnedSpec)) udpTurnedCard

/-- THE SECOND FORM's CARD OF 'drawbridgelaw18.UdpTells'. -/
def udpTellsUptoCard : Claim7 := { stood := { row := udpTellsUptoRow, standIns := [], harness := (true, "8873dd51f96e5a9c92bad06d8eeb22a5d6dc6ce52c4324be02cb5155e78ec871"), looks := true }, kinds := [], alts := [], laidByText := true, laidKinds := [.handle], laidTests := true, laidLooks := .later }
def UdpTellsUptoCardSaid : Prop := Claim7.holds Tryd.pinned (.plain (OpenSpec.upto udpTellsSpec)) udpTellsUptoCard

/-- THE SECOND FORM's CARD OF 'drawbridgelaw18.UdpBack'. -/
def udpBackUptoCard : Claim7 := { stood := { row := udpBackUptoRow, standIns := [], harness := (true, "8873dd51f96e5a9c92bad06d8eeb22a5d6dc6ce52c4324be02cb5155e78ec871"), looks := true }, kinds := [], alts := [], laidByText := true, laidKinds := [.handle], laidTests := true, laidLooks := .later }
def UdpBackUptoCardSaid : Prop := Claim7.holds Tryd.pinned (.plain (OpenSpec.upto udpBackSpec)) udpBackUptoCard

/-- THE SECOND FORM's CARD OF 'drawbridgelaw18.UdpTurned'. -/
def udpTurnedUptoCard : Claim7 := { stood := { row := udpTurnedUptoRow, standIns := [], harness := (true, "8873dd51f96e5a9c92bad06d8eeb22a5d6dc6ce52c4324be02cb5155e78ec871"), looks := true }, kinds := [], alts := [], laidByText := true, laidKinds := [.handle], laidTests := true, laidLooks := .later }
def UdpTurnedUptoCardSaid : Prop := Claim7.holds Tryd.pinned (.plain (OpenSpec.upto udpTurnedSpec)) udpTurnedUptoCard
end Rows
end Go.Proofs.YtfoffhdckcdjdaaDoor
