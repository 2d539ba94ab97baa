/- Contracts of functions of the seat, written by a program of this session (with the kit's print) for the laws of this claim; no condition beside what each states. -/
import Derived.Test.YthfokiabneflpaaOpenT
import Derived.Test.YthfokiabneflpaaPx12
namespace Go.Proofs.Ythfokiabneflpaa.P
open Go.RowKit Go.Proofs.Ythfokiabneflpaa.Open Go.Proofs.Ythfokiabneflpaa.P Go.Proofs.YthfokiabneflpaaW.PrintWords
/-- THE ONE PURE STATEMENT of drawbridgelaw23_LinkStays. -/
def drawbridgelaw23_LinkStays.Pure : Prop := ∀ (l0_0 : List (List Int)) (a0_1 : Int) (l1 : List Int) (a2 : Int), (l0_0.length ≤ maxLen ∧ ∀ x0 ∈ l0_0, (x0.length ≤ maxLen ∧ ∀ x1 ∈ x0, (Lit.int .u8 x1).wf = true)) → (Lit.int .i64 a0_1).wf = true → l1.length * 1 ≤ 140737488351232 → (∀ x ∈ l1, (Lit.int .u8 x).wf = true) → (Lit.int .i64 a2).wf = true → ∃ k, drawbridgelaw23_LinkStays.f k l0_0 a0_1 l1 a2 = some true
end Go.Proofs.Ythfokiabneflpaa.P
