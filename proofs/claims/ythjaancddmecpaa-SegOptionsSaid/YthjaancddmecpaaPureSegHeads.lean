/- The first test of the laws on segments, and which number is ahead; each fact states its own conditions. -/
import Derived.Test.YthjaancddmecpaaTAll
namespace Go.Proofs.Ythjaancddmecpaa.S
open Go Go.SL
set_option linter.unusedVariables false
set_option linter.unusedSimpArgs false
theorem heads_g : law19_heads.g 100 = some true := by kernel_rfl
theorem heads : law19_heads.f = some true := law19_heads.le 100 _ heads_g
theorem less (x y : Int) : seg_Less.f x y = some (decide (0 < IntKind.i32.wrap (IntKind.u32.wrap (y - x)))) := rfl
theorem u32w (x : Int) : IntKind.u32.wrap x = x % 4294967296 := by simp [IntKind.wrap, IntKind.bits, IntKind.signed]
theorem i32w (x : Int) : IntKind.i32.wrap x = if x % 4294967296 < 2147483648 then x % 4294967296 else x % 4294967296 - 4294967296 := by
  simp only [IntKind.wrap, IntKind.bits, IntKind.signed]
  simp
  split <;> split <;> omega
theorem inr32 {x : Int} (h : InR .u32 x) : 0 ≤ x ∧ x < 4294967296 := by
  unfold InR at h; rw [u32w] at h; omega
/-- ahead: the way on, less than half round. -/
theorem ahead (x y : Int) : (0 < IntKind.i32.wrap (IntKind.u32.wrap (y - x))) ↔ (0 < (y - x) % 4294967296 ∧ (y - x) % 4294967296 < 2147483648) := by
  rw [i32w, u32w]; split <;> omega
end Go.Proofs.Ythjaancddmecpaa.S
