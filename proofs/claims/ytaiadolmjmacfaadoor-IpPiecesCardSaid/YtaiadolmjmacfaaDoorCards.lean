/-
  DERIVED. GIVEN WITH THE SEED: THE CARDS: each row of YtaiadolmjmacfaaDoorRows.lean that lists a variable, with what it lists TIED to the program's text (the seventh form; the later family's looks); each row that meets fmt, with fmt's text TOLD by the authors' own Lean function (tested against real Go, not proved from fmt's source: count such statements apart). THE CARD IS WHAT COUNTS. Prove the row's statement (the work); the ties are given (YtaiadolmjmacfaaDoorTie.lean); close each card by the builder's one call (the guide's Derived/Test/ToyasCard.lean, 'card_holds'). Laid BY PROGRAM, IN A SANDBOX (cutbox-door.mjs). By AI agents, Wed Nov 11 2026. No macro, syntax, notation, axiom, sorry.
-/
import Derived.Test.YtaiadolmjmacfaaDoorRows
import GoSem.ClaimSeven
namespace Go.Proofs.YtaiadolmjmacfaaDoor
namespace Rows

/-- THE TIED CARD OF 'drawbridgelaw17.IpTells'. -/
def ipTellsCard : Claim7 := { stood := { row := ipTellsRow, standIns := [], harness := (true, "434a6027e5d5a358c3258779e67e1ffcf45397b3d928463c0e5d130d1930707e"), looks := true }, kinds := [], alts := [], laidByText := true, laidKinds := [.handle], laidTests := true, laidLooks := .later }
def IpTellsCardSaid : Prop := Claim7.holds Tryd.pinned (.plain (OpenSpec.ofChange ipTellsSpec)) ipTellsCard

/-- THE TIED CARD OF 'drawbridgelaw17.IpBack'. -/
def ipBackCard : Claim7 := { stood := { row := ipBackRow, standIns := [], harness := (true, "434a6027e5d5a358c3258779e67e1ffcf45397b3d928463c0e5d130d1930707e"), looks := true }, kinds := [], alts := [], laidByText := true, laidKinds := [.handle], laidTests := true, laidLooks := .later }
def IpBackCardSaid : Prop := Claim7.holds Tryd.pinned (.plain (OpenSpec.ofChange ipBackSpec)) ipBackCard

/-- THE TIED CARD OF 'drawbridgelaw17.IpPieces'. -/
def ipPiecesCard : Claim7 := { stood := { row := ipPiecesRow, standIns := [], harness := (true, "434a6027e5d5a358c3258779e67e1ffcf45397b3d928463c0e5d130d1930707e"), looks := true }, kinds := [], alts := [], laidByText := true, laidKinds := [.handle], laidTests := true, laidLooks := .later }
def IpPiecesCardSaid : Prop := Claim7.holds Tryd.pinned (.plain (OpenSpec.ofChange ipPiecesSpec)) ipPiecesCard

/-- THE TIED CARD OF 'drawbridgelaw17.IpEchoes'. -/
def ipEchoesCard : Claim7 := { stood := { row := ipEchoesRow, standIns := [], harness := (true, "434a6027e5d5a358c3258779e67e1ffcf45397b3d928463c0e5d130d1930707e"), looks := true }, kinds := [], alts := [], laidByText := true, laidKinds := [.handle], laidTests := true, laidLooks := .later }
def IpEchoesCardSaid : Prop := Claim7.holds Tryd.pinned (.plain (OpenSpec.ofChange ipEchoesSpec)) ipEchoesCard

/-- THE SECOND FORM's CARD OF 'drawbridgelaw17.IpTells'. -/
def ipTellsUptoCard : Claim7 := { stood := { row := ipTellsUptoRow, standIns := [], harness := (true, "434a6027e5d5a358c3258779e67e1ffcf45397b3d928463c0e5d130d1930707e"), looks := true }, kinds := [], alts := [], laidByText := true, laidKinds := [.handle], laidTests := true, laidLooks := .later }
def IpTellsUptoCardSaid : Prop := Claim7.holds Tryd.pinned (.plain (OpenSpec.upto ipTellsSpec)) ipTellsUptoCard

/-- THE SECOND FORM's CARD OF 'drawbridgelaw17.IpBack'. -/
def ipBackUptoCard : Claim7 := { stood := { row := ipBackUptoRow, standIns := [], harness := (true, "434a6027e5d5a358c3258779e67e1ffcf45397b3d928463c0e5d130d1930707e"), looks := true }, kinds := [], alts := [], laidByText := true, laidKinds := [.handle], laidTests := true, laidLooks := .later }
def IpBackUptoCardSaid : Prop := Claim7.holds Tryd.pinned (.plain (OpenSpec.upto ipBackSpec)) ipBackUptoCard

/-- THE SECOND FORM's CARD OF 'drawbridgelaw17.IpPieces'. -/
def ipPiecesUptoCard : Claim7 := { stood := { row := ipPiecesUptoRow, standIns := [], harness := (true, "434a6027e5d5a358c3258779e67e1ffcf45397b3d928463c0e5d130d1930707e"), looks := true }, kinds := [], alts := [], laidByText := true, laidKinds := [.handle], laidTests := true, laidLooks := .later }
def IpPiecesUptoCardSaid : Prop := Claim7.holds Tryd.pinned (.plain (OpenSpec.upto ipPiecesSpec)) ipPiecesUptoCard

/-- THE SECOND FORM's CARD OF 'drawbridgelaw17.IpEchoes'. -/
def ipEchoesUptoCard : Claim7 := { stood := { row := ipEchoesUptoRow, standIns := [], harness := (true, "434a6027e5d5a358c3258779e67e1ffcf45397b3d928463c0e5d130d1930707e"), looks := true }, kinds := [], alts := [], laidByText := true, laidKinds := [.handle], laidTests := true, laidLooks := .later }
def IpEchoesUptoCardSaid : Prop := Claim7.holds Tryd.pinned (.plain (OpenSpec.upto ipEchoesSpec)) ipEchoesUptoCard
end Rows
end Go.Proofs.YtaiadolmjmacfaaDoor
