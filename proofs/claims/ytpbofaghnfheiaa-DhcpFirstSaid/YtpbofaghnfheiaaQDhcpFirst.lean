/- Contracts of functions of the seat, written by a program of this session (with the kit's print) for the laws of this claim; no condition beside what each states. -/
import Derived.Test.YtpbofaghnfheiaaOpenT
import Derived.Test.YtpbofaghnfheiaaPx11
namespace Go.Proofs.Ytpbofaghnfheiaa.P
open Go.RowKit Go.Proofs.Ytpbofaghnfheiaa.Open Go.Proofs.Ytpbofaghnfheiaa.P Go.Proofs.YtpbofaghnfheiaaW.PrintWords
/-- THE ONE PURE STATEMENT of drawbridgelaw20_DhcpFirst. -/
def drawbridgelaw20_DhcpFirst.Pure : Prop := ∀ (a0_0 : Int) (a0_1 : Int) (a0_2 : Int) (a0_3 : Int) (l0_4 : List Int) (a0_5 : Int) (a0_6 : Int) (a0_7 : Int) (a0_8 : Int) (a0_9 : Int) (a0_10 : Int) (a0_11 : Int) (a1 : Int) (l2 : List Int) (a3 : Int), (Lit.int .i64 a0_0).wf = true → (Lit.int .u32 a0_1).wf = true → (Lit.int .u32 a0_2).wf = true → (Lit.int .u32 a0_3).wf = true → (l0_4.length ≤ maxLen ∧ ∀ x0 ∈ l0_4, (Lit.int .u8 x0).wf = true) → (Lit.int .i64 a0_5).wf = true → (Lit.int .u32 a0_6).wf = true → (Lit.int .u32 a0_7).wf = true → (Lit.int .u32 a0_8).wf = true → (Lit.int .u32 a0_9).wf = true → (Lit.int .u32 a0_10).wf = true → (Lit.int .u32 a0_11).wf = true → (Lit.int .u32 a1).wf = true → l2.length * 1 ≤ 140737488351232 → (∀ x ∈ l2, (Lit.int .u8 x).wf = true) → (Lit.int .i64 a3).wf = true → ∃ k, drawbridgelaw20_DhcpFirst.f k a0_0 a0_1 a0_2 a0_3 l0_4 a0_5 a0_6 a0_7 a0_8 a0_9 a0_10 a0_11 a1 l2 a3 = some true
end Go.Proofs.Ytpbofaghnfheiaa.P
