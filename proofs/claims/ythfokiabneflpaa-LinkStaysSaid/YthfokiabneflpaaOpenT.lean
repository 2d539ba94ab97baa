/- Contracts of functions of the seat, written by a program of this session (with the kit's print) for the laws of this claim; no condition beside what each states. -/
import Derived.Test.YthfokiabneflpaaOpen
import Derived.Test.YthfokiabneflpaaPx0
namespace Go.Proofs.Ythfokiabneflpaa.OpenT
open Go.RowKit Go.Proofs.Ythfokiabneflpaa.Open Go.Proofs.Ythfokiabneflpaa.P Go.Proofs.YthfokiabneflpaaW.PrintWords
set_option linter.unusedVariables false
def g24 (x : S24) : Prop := ((x.f0.length ≤ maxLen ∧ ∀ x0 ∈ x.f0, (x0.length ≤ maxLen ∧ ∀ x1 ∈ x0, (Lit.int .u8 x1).wf = true)) ∧ (Lit.int .i64 x.f1).wf = true)
theorem open24 : Opens Try.prog 24 k24 g24 := Opens.weaken (Opens.struct [(22, 0), (3, 1)] (fun x : S24 => (x.f0, x.f1)) (fun a => (⟨a.1, a.2⟩ : S24)) (fun _ => rfl) Try.underlying23 (by kernel_rfl) (by kernel_rfl) (OpensAt.cons (Opens.slice Try.underlying22 (by kernel_rfl) (Opens.slice Try.underlying25 (by kernel_rfl) (Opens.int Try.underlying5 (by kernel_rfl)))) (OpensAt.one (Opens.int Try.underlying3 (by kernel_rfl))) (by first | rfl | kernel_rfl))) (fun x h => by
  exact ⟨h.1, h.2⟩)
end Go.Proofs.Ythfokiabneflpaa.OpenT
