/- Bytes, as numbers. -/
import Derived.Test.YtplkiompmjhdlaaPureBits
namespace Go.Proofs.Ytplkiompmjhdlaa.S
open Go Go.SL
set_option linter.unusedVariables false
set_option linter.unusedSimpArgs false
def Byt (l : List Int) : Prop := ∀ b ∈ l, 0 ≤ b ∧ b < 256
theorem Byt.of {l : List Int} (h : Bs l) : Byt l := fun b hb => by
  have := h b hb; unfold InR at this; rw [u8w] at this; omega
theorem Byt.app {a b : List Int} (h : Byt a) (k : Byt b) : Byt (a ++ b) := fun x hx => (List.mem_append.1 hx).elim (h x) (k x)
end Go.Proofs.Ytplkiompmjhdlaa.S
