/- Plain facts on the document's numbers as bytes; each states its own conditions. -/
import Derived.Test.YtplkiompmjhdlaaPureByt
namespace Go.Proofs.Ytplkiompmjhdlaa.S
open Go Go.SL
set_option linter.unusedVariables false
set_option linter.unusedSimpArgs false
theorem rput2_g (x : Int) : ref01_Put.g 20 x 2 true = some [IntKind.u8.wrap (x / 256), IntKind.u8.wrap (x / 1)] := by kernel_rfl
theorem rput4_g (x : Int) : ref01_Put.g 20 x 4 true = some [IntKind.u8.wrap (x / 16777216), IntKind.u8.wrap (x / 65536), IntKind.u8.wrap (x / 256), IntKind.u8.wrap (x / 1)] := by kernel_rfl
theorem rput2 (x : Int) : ref01_Put.f x 2 true = some [x / 256 % 256, x % 256] := by have := ref01_Put.le 20 _ _ _ _ (rput2_g x); simpa [u8w] using this
theorem rput4 (x : Int) : ref01_Put.f x 4 true = some [x / 16777216 % 256, x / 65536 % 256, x / 256 % 256, x % 256] := by have := ref01_Put.le 20 _ _ _ _ (rput4_g x); simpa [u8w] using this
theorem rget2_g (a b : Int) : ref01_Get.g 20 [a, b] true = some (IntKind.u64.wrap (IntKind.u64.wrap (IntKind.u64.wrap (IntKind.u64.wrap (0 * 256) + a) * 256) + b)) := by kernel_rfl
theorem rget4_g (a b c d : Int) : ref01_Get.g 20 [a, b, c, d] true = some (IntKind.u64.wrap (IntKind.u64.wrap (IntKind.u64.wrap (IntKind.u64.wrap (IntKind.u64.wrap (IntKind.u64.wrap (IntKind.u64.wrap (IntKind.u64.wrap (0 * 256) + a) * 256) + b) * 256) + c) * 256) + d)) := by kernel_rfl
theorem u64z : IntKind.u64.wrap (0 * 256) = 0 := by decide
theorem rget2 {a b : Int} (ha : 0 ≤ a ∧ a < 256) (hb : 0 ≤ b ∧ b < 256) : ref01_Get.f [a, b] true = some (a * 256 + b) := by
  have := ref01_Get.le 20 _ _ _ (rget2_g a b)
  rw [this, u64z, u64w (x := 0 + a) (by omega) (by omega), u64w (x := (0 + a) * 256) (by omega) (by omega), u64w (by omega) (by omega)]
  congr 1; omega
theorem rget4 {a b c d : Int} (ha : 0 ≤ a ∧ a < 256) (hb : 0 ≤ b ∧ b < 256) (hc : 0 ≤ c ∧ c < 256) (hd : 0 ≤ d ∧ d < 256) : ref01_Get.f [a, b, c, d] true = some (a * 16777216 + b * 65536 + c * 256 + d) := by
  have := ref01_Get.le 20 _ _ _ (rget4_g a b c d)
  rw [this, u64z, u64w (x := 0 + a) (by omega) (by omega), u64w (x := (0 + a) * 256) (by omega) (by omega), u64w (x := (0 + a) * 256 + b) (by omega) (by omega), u64w (x := ((0 + a) * 256 + b) * 256) (by omega) (by omega), u64w (x := ((0 + a) * 256 + b) * 256 + c) (by omega) (by omega), u64w (x := (((0 + a) * 256 + b) * 256 + c) * 256) (by omega) (by omega), u64w (by omega) (by omega)]
  congr 1; omega
theorem rsame (a b : List Int) : ref01_Same.f a b = some (decide (a = b)) := rfl
end Go.Proofs.Ytplkiompmjhdlaa.S
