/-
  DERIVED. GIVEN WITH THE SEED: THE CARDS: each row of YtjjceikmimhpnaaDoorRows.lean that lists a variable, with what it lists TIED to the program's text (the seventh form; the later family's looks); each row that meets fmt, with fmt's text TOLD by the authors' own Lean function (tested against real Go, not proved from fmt's source: count such statements apart). THE CARD IS WHAT COUNTS. Prove the row's statement (the work); the ties are given (YtjjceikmimhpnaaDoorTie.lean); close each card by the builder's one call (the guide's Derived/Test/ToyasCard.lean, 'card_holds'). Laid BY PROGRAM, IN A SANDBOX (cutbox-door.mjs). By AI agents, Wed Nov 11 2026. No macro, syntax, notation, axiom, sorry.
-/
import Derived.Test.YtjjceikmimhpnaaDoorRows
import GoSem.ClaimSeven
namespace Go.Proofs.YtjjceikmimhpnaaDoor
namespace Rows

/-- THE TIED CARD OF 'drawbridgelaw21.DnsTells'. -/
def dnsTellsCard : Claim7 := { stood := { row := dnsTellsRow, standIns := [], harness := (true, "38bad3ea6b06043dee9e195609ae9be370d198011019af10e860b93fb58120e4"), looks := true }, kinds := [], alts := [], laidByText := true, laidKinds := [.data, .handle, .pinned], laidTests := true, laidLooks := .later }
def DnsTellsCardSaid : Prop := Claim7.holds Tryd.pinned (.plain (OpenSpec.ofChange dnsTellsSpec)) dnsTellsCard

/-- THE TIED CARD OF 'drawbridgelaw21.DnsBack'. -/
def dnsBackCard : Claim7 := { stood := { row := dnsBackRow, standIns := [], harness := (true, "38bad3ea6b06043dee9e195609ae9be370d198011019af10e860b93fb58120e4"), looks := true }, kinds := [], alts := [], laidByText := true, laidKinds := [.data, .handle, .pinned], laidTests := true, laidLooks := .later }
def DnsBackCardSaid : Prop := Claim7.holds Tryd.pinned (.plain (OpenSpec.ofChange dnsBackSpec)) dnsBackCard

/-- THE TIED CARD OF 'drawbridgelaw21.DnsWith'. -/
def dnsWithCard : Claim7 := { stood := { row := dnsWithRow, standIns := [], harness := (true, "38bad3ea6b06043dee9e195609ae9be370d198011019af10e860b93fb58120e4"), looks := true }, kinds := [], alts := [], laidByText := true, laidKinds := [.data, .handle, .pinned], laidTests := true, laidLooks := .later }
def DnsWithCardSaid : Prop := Claim7.holds Tryd.pinned (.plain (OpenSpec.ofChange dnsWithSpec)) dnsWithCard

/-- THE TIED CARD OF 'drawbridgelaw21.DnsFails'. -/
def dnsFailsCard : Claim7 := { stood := { row := dnsFailsRow, standIns := [], harness := (true, "38bad3ea6b06043dee9e195609ae9be370d198011019af10e860b93fb58120e4"), looks := true }, kinds := [], alts := [], laidByText := true, laidKinds := [.data, .handle, .pinned], laidTests := true, laidLooks := .later }
def DnsFailsCardSaid : Prop := Claim7.holds Tryd.pinned (.plain (OpenSpec.ofChange dnsFailsSpec)) dnsFailsCard

/-- THE SECOND FORM's CARD OF 'drawbridgelaw21.DnsTells'. -/
def dnsTellsUptoCard : Claim7 := { stood := { row := dnsTellsUptoRow, standIns := [], harness := (true, "38bad3ea6b06043dee9e195609ae9be370d198011019af10e860b93fb58120e4"), looks := true }, kinds := [], alts := [], laidByText := true, laidKinds := [.data, .handle, .pinned], laidTests := true, laidLooks := .later }
def DnsTellsUptoCardSaid : Prop := Claim7.holds Tryd.pinned (.plain (OpenSpec.upto dnsTellsSpec)) dnsTellsUptoCard

/-- THE SECOND FORM's CARD OF 'drawbridgelaw21.DnsBack'. -/
def dnsBackUptoCard : Claim7 := { stood := { row := dnsBackUptoRow, standIns := [], harness := (true, "38bad3ea6b06043dee9e195609ae9be370d198011019af10e860b93fb58120e4"), looks := true }, kinds := [], alts := [], laidByText := true, laidKinds := [.data, .handle, .pinned], laidTests := true, laidLooks := .later }
def DnsBackUptoCardSaid : Prop := Claim7.holds Tryd.pinned (.plain (OpenSpec.upto dnsBackSpec)) dnsBackUptoCard

/-- THE SECOND FORM's CARD OF 'drawbridgelaw21.DnsWith'. -/
def dnsWithUptoCard : Claim7 := { stood := { row := dnsWithUptoRow, standIns := [], harness := (true, "38bad3ea6b06043dee9e195609ae9be370d198011019af10e860b93fb58120e4"), looks := true }, kinds := [], alts := [], laidByText := true, laidKinds := [.data, .handle, .pinned], laidTests := true, laidLooks := .later }
def DnsWithUptoCardSaid : Prop := Claim7.holds Tryd.pinned (.plain (OpenSpec.upto dnsWithSpec)) dnsWithUptoCard

/-- THE SECOND FORM's CARD OF 'drawbridgelaw21.DnsFails'. -/
def dnsFailsUptoCard : Claim7 := { stood := { row := dnsFailsUptoRow, standIns := [], harness := (true, "38bad3ea6b06043dee9e195609ae9be370d198011019af10e860b93fb58120e4"), looks := true }, kinds := [], alts := [], laidByText := true, laidKinds := [.data, .handle, .pinned], laidTests := true, laidLooks := .later }
def DnsFailsUptoCardSaid : Prop := Claim7.holds Tryd.pinned (.plain (OpenSpec.upto dnsFailsSpec)) dnsFailsUptoCard
end Rows
end Go.Proofs.YtjjceikmimhpnaaDoor
