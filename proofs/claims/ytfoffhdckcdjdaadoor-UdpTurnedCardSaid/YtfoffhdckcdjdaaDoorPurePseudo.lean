/- Plain facts on pseudo headers; each states its own conditions. -/
import Derived.Test.YtfoffhdckcdjdaaDoorPureNet
namespace Go.Proofs.YtfoffhdckcdjdaaDoor.S
open Go Go.SL
set_option linter.unusedVariables false
set_option linter.unusedSimpArgs false
def pseudoP (a b p n : Int) : List Int := by4 a ++ (by4 b ++ ([0, p] ++ by2 n))
theorem psp_len (a b p n : Int) : (pseudoP a b p n).length = 12 := rfl
theorem byt_psp (a b n : Int) {p : Int} (hp : 0 ≤ p ∧ p < 256) : Byt (pseudoP a b p n) := ((byt4 a).app ((byt4 b).app (Byt.app (fun x hx => by simp at hx; omega) (byt2 n))))
theorem pseudoP_is (a b p n : Int) (hn : 0 ≤ n ∧ n < 18446744073709551616) (hp : 0 ≤ p ∧ p < 256) : sum_Pseudo.f a b p n = some (pseudoP a b p n) := by
  unfold sum_Pseudo.f
  rw [put4, Option.bind_some, put4, Option.bind_some, u64w hn.1 hn.2, put2, Option.bind_some, concat_is _ (by simp) (by simp)]
  simp [pseudoP, by2, by4, u8w]; omega
theorem rpseudoP_is (a b p n : Int) (hn : 0 ≤ n ∧ n < 18446744073709551616) (hp : 0 ≤ p ∧ p < 256) : ref15_Pseudo.f a b p n = some (pseudoP a b p n) := by
  unfold ref15_Pseudo.f
  rw [rput4, Option.bind_some, rput4, Option.bind_some, app_ok _ _ (by simp), Option.bind_some, app_ok _ _ (by simp), Option.bind_some, u64w hn.1 hn.2, rput2, Option.bind_some, app_ok _ _ (by simp), Option.bind_some]
  simp [pseudoP, by2, by4, u8w]; omega
/-- Addresses turned round. -/
theorem sum_psp_turn (a b p n : Int) (l : List Int) : sumP (pseudoP a b p n ++ l) = sumP (pseudoP b a p n ++ l) := by
  rw [sumP_append _ _ (by rw [psp_len]), sumP_append _ _ (by rw [psp_len])]
  simp only [pseudoP, by2, by4, List.cons_append, List.nil_append, sumP]
  omega
end Go.Proofs.YtfoffhdckcdjdaaDoor.S
