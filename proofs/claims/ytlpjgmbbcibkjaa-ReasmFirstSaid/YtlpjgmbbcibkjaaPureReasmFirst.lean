/- What the function of the law ReasmFirst answers: true, whatever the four contents: what the rows are behind each of the pieces. Its conditions: none. -/
import Derived.Test.YtlpjgmbbcibkjaaTAll
namespace Go.Proofs.Ytlpjgmbbcibkjaa.S
open Go Go.SL
set_option linter.unusedVariables false
set_option linter.unusedSimpArgs false
set_option maxRecDepth 100000
theorem heads_g : law24_heads.g 100 = some true := by kernel_rfl
theorem heads : law24_heads.f = some true := law24_heads.le 100 _ heads_g
theorem add1 (b0 b1 b2 b3 b4 b5 b6 b7 : Int) : reasm_Add.f [] 0 ⟨0, 0, 1, 1, 0, 0, 0, 0, [], [b0, b1, b2, b3, b4, b5, b6, b7]⟩ = some ([⟨0, 0, 0, 0, 30, [0, 0, 0, 0, 0, 0, 0, 0, b0, b1, b2, b3, b4, b5, b6, b7], [false, false, false, false, false, false, false, false, true, true, true, true, true, true, true, true], -1⟩], ⟨0, 0, 0, 0, 0, 0, 0, 0, [], []⟩, false) := reasm_Add.le 100 _ _ _ _ (by kernel_rfl)
theorem add2 (b0 b1 b2 b3 b4 b5 b6 b7 o0 o1 o2 o3 o4 o5 o6 o7 : Int) : reasm_Add.f [⟨0, 0, 0, 0, 30, [0, 0, 0, 0, 0, 0, 0, 0, b0, b1, b2, b3, b4, b5, b6, b7], [false, false, false, false, false, false, false, false, true, true, true, true, true, true, true, true], -1⟩] 1 ⟨0, 0, 1, 1, 0, 0, 0, 0, [], [o0, o1, o2, o3, o4, o5, o6, o7]⟩ = some ([⟨0, 0, 0, 0, 30, [0, 0, 0, 0, 0, 0, 0, 0, b0, b1, b2, b3, b4, b5, b6, b7], [false, false, false, false, false, false, false, false, true, true, true, true, true, true, true, true], -1⟩], ⟨0, 0, 0, 0, 0, 0, 0, 0, [], []⟩, false) := reasm_Add.le 100 _ _ _ _ (by kernel_rfl)
theorem add3 (b0 b1 b2 b3 b4 b5 b6 b7 c0 c1 c2 c3 c4 c5 c6 c7 : Int) : reasm_Add.f [⟨0, 0, 0, 0, 30, [0, 0, 0, 0, 0, 0, 0, 0, b0, b1, b2, b3, b4, b5, b6, b7], [false, false, false, false, false, false, false, false, true, true, true, true, true, true, true, true], -1⟩] 2 ⟨0, 0, 0, 2, 0, 0, 0, 0, [], [c0, c1, c2, c3, c4, c5, c6, c7]⟩ = some ([⟨0, 0, 0, 0, 30, [0, 0, 0, 0, 0, 0, 0, 0, b0, b1, b2, b3, b4, b5, b6, b7, c0, c1, c2, c3, c4, c5, c6, c7], [false, false, false, false, false, false, false, false, true, true, true, true, true, true, true, true, true, true, true, true, true, true, true, true], 24⟩], ⟨0, 0, 0, 0, 0, 0, 0, 0, [], []⟩, false) := reasm_Add.le 100 _ _ _ _ (by kernel_rfl)
theorem add4 (b0 b1 b2 b3 b4 b5 b6 b7 c0 c1 c2 c3 c4 c5 c6 c7 a0 a1 a2 a3 a4 a5 a6 a7 : Int) : reasm_Add.f [⟨0, 0, 0, 0, 30, [0, 0, 0, 0, 0, 0, 0, 0, b0, b1, b2, b3, b4, b5, b6, b7, c0, c1, c2, c3, c4, c5, c6, c7], [false, false, false, false, false, false, false, false, true, true, true, true, true, true, true, true, true, true, true, true, true, true, true, true], 24⟩] 3 ⟨0, 0, 1, 0, 0, 0, 0, 0, [], [a0, a1, a2, a3, a4, a5, a6, a7]⟩ = some ([], ⟨0, 0, 0, 0, 0, 0, 0, 0, [], [a0, a1, a2, a3, a4, a5, a6, a7, b0, b1, b2, b3, b4, b5, b6, b7, c0, c1, c2, c3, c4, c5, c6, c7]⟩, true) := reasm_Add.le 100 _ _ _ _ (by kernel_rfl)
theorem rput8_g (x : Int) : ref01_Put.g 20 x 8 true = some [IntKind.u8.wrap (x / 72057594037927936), IntKind.u8.wrap (x / 281474976710656), IntKind.u8.wrap (x / 1099511627776), IntKind.u8.wrap (x / 4294967296), IntKind.u8.wrap (x / 16777216), IntKind.u8.wrap (x / 65536), IntKind.u8.wrap (x / 256), IntKind.u8.wrap (x / 1)] := by kernel_rfl
theorem eight_is (x : Int) : ∃ b0 b1 b2 b3 b4 b5 b6 b7, law24_eight.f x = some [b0, b1, b2, b3, b4, b5, b6, b7] := by
  have h := ref01_Put.le 20 _ _ _ _ (rput8_g x)
  refine ⟨_, _, _, _, _, _, _, _, (?_ : _ = some [IntKind.u8.wrap (x / 72057594037927936), IntKind.u8.wrap (x / 281474976710656), IntKind.u8.wrap (x / 1099511627776), IntKind.u8.wrap (x / 4294967296), IntKind.u8.wrap (x / 16777216), IntKind.u8.wrap (x / 65536), IntKind.u8.wrap (x / 256), IntKind.u8.wrap (x / 1)])⟩
  unfold law24_eight.f
  rw [h]
  rfl
theorem reasmFirst (a : Int) (ha : InR .u64 a) (b : Int) (hb : InR .u64 b) (c : Int) (hc : InR .u64 c) (o : Int) (ho : InR .u64 o) : law24_ReasmFirst.f a b c o = some true := by
  obtain ⟨a0, a1, a2, a3, a4, a5, a6, a7, ea⟩ := eight_is a
  obtain ⟨b0, b1, b2, b3, b4, b5, b6, b7, eb⟩ := eight_is b
  obtain ⟨c0, c1, c2, c3, c4, c5, c6, c7, ec⟩ := eight_is c
  obtain ⟨o0, o1, o2, o3, o4, o5, o6, o7, eo⟩ := eight_is o
  unfold law24_ReasmFirst.f
  rw [ea, eb, ec, eo]
  simp only [Option.bind_some, add1, add2, add3, add4]
  unfold app
  rw [if_pos (by simp), Option.bind_some, if_pos (by simp), Option.bind_some]
  unfold ref01_Same.f
  simp [lt, heads]
end Go.Proofs.Ytlpjgmbbcibkjaa.S
