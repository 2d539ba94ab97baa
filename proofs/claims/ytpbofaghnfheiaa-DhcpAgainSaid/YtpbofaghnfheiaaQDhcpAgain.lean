/- Contracts of functions of the seat, written by a program of this session (with the kit's print) for the laws of this claim; no condition beside what each states. -/
import Derived.Test.YtpbofaghnfheiaaOpenT
import Derived.Test.YtpbofaghnfheiaaPx6
namespace Go.Proofs.Ytpbofaghnfheiaa.P
open Go.RowKit Go.Proofs.Ytpbofaghnfheiaa.Open Go.Proofs.Ytpbofaghnfheiaa.P Go.Proofs.YtpbofaghnfheiaaW.PrintWords
/-- THE ONE PURE STATEMENT of drawbridgelaw20_DhcpAgain. -/
def drawbridgelaw20_DhcpAgain.Pure : Prop := ∀ (l0 : List Int), l0.length * 1 ≤ 140737488351232 → (∀ x ∈ l0, (Lit.int .u8 x).wf = true) → ∃ k, drawbridgelaw20_DhcpAgain.f k l0 = some true
end Go.Proofs.Ytpbofaghnfheiaa.P
