/- Contracts of functions of the seat, written by a program of this session (with the kit's print) for the laws of this claim; no condition beside what each states. -/
import Derived.Test.YthfokiabneflpaaOpenT
import Derived.Test.YthfokiabneflpaaPx9
namespace Go.Proofs.Ythfokiabneflpaa.P
open Go.RowKit Go.Proofs.Ythfokiabneflpaa.Open Go.Proofs.Ythfokiabneflpaa.P Go.Proofs.YthfokiabneflpaaW.PrintWords
/-- THE ONE PURE STATEMENT of drawbridgelaw23_LinkOrder. -/
def drawbridgelaw23_LinkOrder.Pure : Prop := ∀ (l0 : List (List Int)), (l0.length ≤ maxLen ∧ ∀ x0 ∈ l0, (x0.length ≤ maxLen ∧ ∀ x1 ∈ x0, (Lit.int .u8 x1).wf = true)) → ∃ k, drawbridgelaw23_LinkOrder.f k l0 = some true
end Go.Proofs.Ythfokiabneflpaa.P
