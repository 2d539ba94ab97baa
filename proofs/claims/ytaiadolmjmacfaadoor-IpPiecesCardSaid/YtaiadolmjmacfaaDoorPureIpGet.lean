/- Reading a packet: parts. Each fact states its own conditions. -/
import Derived.Test.YtaiadolmjmacfaaDoorPureIpB
namespace Go.Proofs.YtaiadolmjmacfaaDoor.S
open Go Go.SL
set_option linter.unusedVariables false
set_option linter.unusedSimpArgs false
theorem get1_g (a : Int) : bits_Get.g 20 [a] true = some (bits .or .u64 0 (IntKind.u64.wrap (a * 1))) := by kernel_rfl
theorem get1 {a : Int} (ha : 0 ≤ a ∧ a < 256) : bits_Get.f [a] true = some a := by
  have := bits_Get.le 20 _ _ _ (get1_g a)
  rw [this, u64w (by omega) (by omega), or_add (x := 0) (n := 0) (by omega) (by decide) (by omega) (by omega) (by omega)]
  congr 1; omega
theorem and15 (x : Int) (h : 0 ≤ x ∧ x < 256) : bits .and .u8 x 15 = x % 16 := by
  have : ∀ k : Fin 256, bits .and .u8 (k.val : Int) 15 = (k.val : Int) % 16 := by decide +kernel
  have := this ⟨x.toNat, by omega⟩
  simpa [Int.toNat_of_nonneg h.1] using this
theorem shr4 (x : Int) : ishr .u8 x 4 = x / 16 := by unfold ishr; rw [show (2 : Int) ^ min (4 : Int).toNat IntKind.u8.bits = 16 by decide]
theorem shr5 (x : Int) : ishr .i64 x 5 = x / 32 := by unfold ishr; rw [show (2 : Int) ^ min (5 : Int).toNat IntKind.i64.bits = 32 by decide]
theorem gn (b x : List Int) (v lo n hi : Int) (hw : IntKind.i64.wrap (lo + n) = hi) (hc : cut b lo hi = some x) (hg : bits_Get.f x true = some v) (hv : 0 ≤ v ∧ v < 9223372036854775808) : ip_get_1.f lo n b = some v := by
  unfold ip_get_1.f
  rw [hw, hc, Option.bind_some, hg, Option.bind_some]
  simp only [lt]
  rw [i64w (by omega) (by omega)]
theorem cut1 (b : List Int) (hb : Byt b) (lo hi : Int) (h0 : 0 ≤ lo) (h1 : hi = lo + 1) (h2 : hi ≤ b.length) : ∃ z, cut b lo hi = some [z] ∧ (0 ≤ z ∧ z < 256) ∧ idx b lo = some z := by
  have hl1 : lo.toNat < b.length := by omega
  refine ⟨b[lo.toNat], ?_, hb _ (List.getElem_mem _), by unfold idx; rw [if_pos h0, List.getElem?_eq_getElem hl1]⟩
  unfold cut
  rw [if_pos ⟨h0, by omega, h2⟩, show hi.toNat = lo.toNat + 1 by omega, List.drop_take, show lo.toNat + 1 - lo.toNat = 1 by omega, List.drop_eq_getElem_cons hl1]
  rfl
end Go.Proofs.YtaiadolmjmacfaaDoor.S
