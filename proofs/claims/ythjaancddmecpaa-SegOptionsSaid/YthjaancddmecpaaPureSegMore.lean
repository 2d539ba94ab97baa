/- More plain facts on segments; each states its own conditions. -/
import Derived.Test.YthjaancddmecpaaPureSeg
import Derived.Test.YthjaancddmecpaaPureSegHeads
namespace Go.Proofs.Ythjaancddmecpaa.S
open Go Go.SL
set_option linter.unusedVariables false
set_option linter.unusedSimpArgs false
theorem xor1 {a : Int} (h : 0 ≤ a ∧ a < 4294967296) : (a % 2 = 0 ∧ bits .xor .u32 a 1 = a + 1) ∨ (a % 2 = 1 ∧ bits .xor .u32 a 1 = a - 1) := by
  obtain ⟨n, rfl⟩ := Int.eq_ofNat_of_zero_le h.1
  have e2 : bits .xor .u32 (n : Int) 1 = IntKind.u32.wrap ((BitVec.ofNat 32 n ^^^ BitVec.ofNat 32 1 : BitVec 32).toNat : Int) := by
    unfold bits
    show IntKind.u32.wrap ((BitVec.ofInt 32 (n : Int) ^^^ BitVec.ofInt 32 1 : BitVec 32).toNat : Int) = _
    rw [show BitVec.ofInt 32 (n : Int) = BitVec.ofNat 32 n from BitVec.ofInt_natCast _ _]; rfl
  rw [e2, BitVec.toNat_xor, BitVec.toNat_ofNat, BitVec.toNat_ofNat, Nat.mod_eq_of_lt (by omega), Nat.mod_eq_of_lt (by decide)]
  have d : (n ^^^ 1) / 2 = n / 2 := by rw [Nat.xor_div_two]; simp
  have m : (n ^^^ 1) % 2 = (n % 2) ^^^ 1 := by
    have := Nat.xor_mod_two_pow (a := n) (b := 1) (n := 1)
    simpa using this
  rcases Nat.mod_two_eq_zero_or_one n with e | e
  · left
    rw [e] at m
    have m' : (n ^^^ 1) % 2 = 1 := m
    refine ⟨by omega, ?_⟩
    rw [u32w']; omega
  · right
    rw [e] at m
    have m' : (n ^^^ 1) % 2 = 0 := m
    refine ⟨by omega, ?_⟩
    rw [u32w']; omega
theorem Same_self (s : TSeg) : ref19_Same.f [s] [s] = some true := by
  unfold ref19_Same.f
  rw [if_neg (by simp)]
  rw [loop_in (s' := 1) (by simp [idx, lt]; decide), loop_out (r := Sum.inl ()) (by simp)]
  rfl
theorem sum_ps (a a' b n : Int) (l : List Int) : sumP (pseudoOf a' b n ++ l) = sumP (pseudoOf a b n ++ l) + (a' / 65536 % 65536 - a / 65536 % 65536) + (a' % 65536 - a % 65536) := by
  rw [sumP_cat _ _ (by rw [ps_len]), sumP_cat _ _ (by rw [ps_len])]
  simp only [pseudoOf, by2, by4, List.cons_append, List.nil_append, sumP]
  omega
theorem put_not (s : TSeg) (a b : Int) (h : ¬ (hdOk s ∧ (0 ≤ s.Mss ∧ s.Mss < 65536))) : seg_Put.f s a b = some ([], 2) := by
  unfold seg_Put.f
  rw [same_is, Option.bind_some]
  by_cases hh : hdOk s
  · have e16 : ishr .i64 s.Mss 16 = s.Mss / 65536 := by unfold ishr; rw [show (2 : Int) ^ min (16 : Int).toNat IntKind.i64.bits = 65536 by decide]
    rw [if_neg (by simp [hh]), if_pos (by rw [e16]; simp; intro e; exact h ⟨hh, by omega, by omega⟩), Option.bind_some, if_pos rfl]
  · rw [if_pos (by simp [hh]), Option.bind_some, if_pos rfl]
end Go.Proofs.Ythjaancddmecpaa.S
