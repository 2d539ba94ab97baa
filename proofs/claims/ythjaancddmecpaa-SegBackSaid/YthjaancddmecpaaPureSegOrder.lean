/- What the function of the law SegOrder answers: true, whatever the numbers of 32 bits. Its conditions: the three numbers are numbers of 32 bits. -/
import Derived.Test.YthjaancddmecpaaT7
namespace Go.Proofs.Ythjaancddmecpaa.S
open Go Go.SL
set_option linter.unusedVariables false
set_option linter.unusedSimpArgs false
theorem heads_g : law19_heads.g 100 = some true := by kernel_rfl
theorem heads : law19_heads.f = some true := law19_heads.le 100 _ heads_g
theorem less (x y : Int) : seg_Less.f x y = some (decide (0 < IntKind.i32.wrap (IntKind.u32.wrap (y - x)))) := rfl
theorem u32w (x : Int) : IntKind.u32.wrap x = x % 4294967296 := by simp [IntKind.wrap, IntKind.bits, IntKind.signed]
theorem i32w (x : Int) : IntKind.i32.wrap x = if x % 4294967296 < 2147483648 then x % 4294967296 else x % 4294967296 - 4294967296 := by
  simp only [IntKind.wrap, IntKind.bits, IntKind.signed]
  simp
  split <;> split <;> omega
theorem inr32 {x : Int} (h : InR .u32 x) : 0 ≤ x ∧ x < 4294967296 := by
  unfold InR at h; rw [u32w] at h; omega
/-- ahead: the way on, less than half round. -/
theorem ahead (x y : Int) : (0 < IntKind.i32.wrap (IntKind.u32.wrap (y - x))) ↔ (0 < (y - x) % 4294967296 ∧ (y - x) % 4294967296 < 2147483648) := by
  rw [i32w, u32w]; split <;> omega
theorem segOrder (a1 : Int) (h1 : InR .u32 a1) (a2 : Int) (h2 : InR .u32 a2) (a3 : Int) (h3 : InR .u32 a3) : law19_SegOrder.f a1 a2 a3 = some true := by
  have b1 := inr32 h1; have b2 := inr32 h2; have b3 := inr32 h3
  unfold law19_SegOrder.f
  simp only [less, heads, Option.bind_some, ahead]
  have e3 : (0 < (IntKind.u32.wrap (a1 + a3) - a1) % 4294967296 ∧ (IntKind.u32.wrap (a1 + a3) - a1) % 4294967296 < 2147483648) ↔ (1 ≤ a3 ∧ a3 < 2147483648) := by rw [u32w]; omega
  have e4 : (0 < (IntKind.u32.wrap (a2 + a3) - IntKind.u32.wrap (a1 + a3)) % 4294967296 ∧ (IntKind.u32.wrap (a2 + a3) - IntKind.u32.wrap (a1 + a3)) % 4294967296 < 2147483648) ↔ (0 < (a2 - a1) % 4294967296 ∧ (a2 - a1) % 4294967296 < 2147483648) := by rw [u32w, u32w]; omega
  simp only [e3, e4]
  simp only [u32w]
  by_cases p1 : 0 < (a2 - a1) % 4294967296 ∧ (a2 - a1) % 4294967296 < 2147483648
  · have p2 : ¬ (0 < (a1 - a2) % 4294967296 ∧ (a1 - a2) % 4294967296 < 2147483648) := by omega
    have p3 : ¬ a1 = a2 := by omega
    by_cases q : 1 ≤ a3 <;> by_cases q2 : a3 < 2147483648 <;> simp [p1, p2, p3, q, q2]
  · by_cases p2 : 0 < (a1 - a2) % 4294967296 ∧ (a1 - a2) % 4294967296 < 2147483648
    · have p3 : ¬ a1 = a2 := by omega
      by_cases q : 1 ≤ a3 <;> by_cases q2 : a3 < 2147483648 <;> simp [p1, p2, p3, q, q2]
    · by_cases p3 : a1 = a2
      · by_cases q : 1 ≤ a3 <;> by_cases q2 : a3 < 2147483648 <;> simp [p1, p2, p3, q, q2]
      · have p4 : (a2 - a1) % 4294967296 = 2147483648 := by omega
        by_cases q : 1 ≤ a3 <;> by_cases q2 : a3 < 2147483648 <;> simp [p1, p2, p3, p4, q, q2]
end Go.Proofs.Ythjaancddmecpaa.S
