/- What the function of the law SegBack answers: true, whatever the segment and the addresses. Its conditions: what data of these types are. -/
import Derived.Test.YthjaancddmecpaaPureSeg
import Derived.Test.YthjaancddmecpaaPureSegOrder
namespace Go.Proofs.Ythjaancddmecpaa.S
open Go Go.SL
set_option linter.unusedVariables false
set_option linter.unusedSimpArgs false
theorem xor1 {a : Int} (h : 0 ≤ a ∧ a < 4294967296) : (a % 2 = 0 ∧ bits .xor .u32 a 1 = a + 1) ∨ (a % 2 = 1 ∧ bits .xor .u32 a 1 = a - 1) := by
  obtain ⟨n, rfl⟩ := Int.eq_ofNat_of_zero_le h.1
  have e2 : bits .xor .u32 (n : Int) 1 = IntKind.u32.wrap ((BitVec.ofNat 32 n ^^^ BitVec.ofNat 32 1 : BitVec 32).toNat : Int) := by
    unfold bits
    show IntKind.u32.wrap ((BitVec.ofInt 32 (n : Int) ^^^ BitVec.ofInt 32 1 : BitVec 32).toNat : Int) = _
    rw [show BitVec.ofInt 32 (n : Int) = BitVec.ofNat 32 n from BitVec.ofInt_natCast _ _]; rfl
  rw [e2, BitVec.toNat_xor, BitVec.toNat_ofNat, BitVec.toNat_ofNat, Nat.mod_eq_of_lt (by omega), Nat.mod_eq_of_lt (by decide)]
  have d : (n ^^^ 1) / 2 = n / 2 := by rw [Nat.xor_div_two]; simp
  have m : (n ^^^ 1) % 2 = (n % 2) ^^^ 1 := by
    have := Nat.xor_mod_two_pow (a := n) (b := 1) (n := 1)
    simpa using this
  rcases Nat.mod_two_eq_zero_or_one n with e | e
  · left
    rw [e] at m
    have m' : (n ^^^ 1) % 2 = 1 := m
    refine ⟨by omega, ?_⟩
    rw [u32w']; omega
  · right
    rw [e] at m
    have m' : (n ^^^ 1) % 2 = 0 := m
    refine ⟨by omega, ?_⟩
    rw [u32w']; omega
theorem Same_self (s : TSeg) : ref19_Same.f [s] [s] = some true := by
  unfold ref19_Same.f
  rw [if_neg (by simp)]
  rw [loop_in (s' := 1) (by simp [idx, lt]; decide), loop_out (r := Sum.inl ()) (by simp)]
  rfl
theorem sum_ps (a a' b n : Int) (l : List Int) : sumP (pseudoOf a' b n ++ l) = sumP (pseudoOf a b n ++ l) + (a' / 65536 % 65536 - a / 65536 % 65536) + (a' % 65536 - a % 65536) := by
  rw [sumP_cat _ _ (by rw [ps_len]), sumP_cat _ _ (by rw [ps_len])]
  simp only [pseudoOf, by2, by4, List.cons_append, List.nil_append, sumP]
  omega
theorem put_not (s : TSeg) (a b : Int) (h : ¬ (hdOk s ∧ (0 ≤ s.Mss ∧ s.Mss < 65536))) : seg_Put.f s a b = some ([], 2) := by
  unfold seg_Put.f
  rw [same_is, Option.bind_some]
  by_cases hh : hdOk s
  · have e16 : ishr .i64 s.Mss 16 = s.Mss / 65536 := by unfold ishr; rw [show (2 : Int) ^ min (16 : Int).toNat IntKind.i64.bits = 65536 by decide]
    rw [if_neg (by simp [hh]), if_pos (by rw [e16]; simp; intro e; exact h ⟨hh, by omega, by omega⟩), Option.bind_some, if_pos rfl]
  · rw [if_pos (by simp [hh]), Option.bind_some, if_pos rfl]
theorem segBack (s : TSeg) (g : gSeg s) (a : Int) (ha : InR .u32 a) (b : Int) (hb : InR .u32 b) : law19_SegBack.f s a b = some true := by
  obtain ⟨g1, g2, g3, g4, g5, g6, g7, g8, g9⟩ := g
  have hd : Byt s.Data := Byt.of g9
  unfold law19_SegBack.f
  by_cases c : (20000 : Int) < s.Data.length
  · rw [if_pos (by simpa using c), heads]; rfl
  rw [if_neg (by simpa using c)]
  have hl : s.Data.length ≤ 60000 := by omega
  by_cases h : hdOk s ∧ (0 ≤ s.Mss ∧ s.Mss < 65536)
  · obtain ⟨hh, hm⟩ := h
    rw [put_is s a b hh hm hl hd, Option.bind_some]
    have hq := inrU32 g3
    have hk := inrU32 g4
    have hcb : Byt (by2 (ckOf s a b) ++ [0, 0]) := (byt2 _).app fun x hx => by simp at hx; omega
    have hr := right_put s a b hd hl
    have r4 := get_is s a b (by2 (ckOf s a b) ++ [0, 0]) rfl hcb hh hm hq hk hl hd
    rw [if_pos hr] at r4
    have r5 := get_is s (bits .xor .u32 a 1) b (by2 (ckOf s a b) ++ [0, 0]) rfl hcb hh hm hq hk hl hd
    have hne : ¬ fold (sumP (pseudoOf (bits .xor .u32 a 1) b (headOf s (by2 (ckOf s a b) ++ [0, 0])).length ++ headOf s (by2 (ckOf s a b) ++ [0, 0]))) = 65535 := by
      rw [sum_ps a]
      have hba := inrU32 ha
      have hp := (sumP_bd _ ((byt_ps a b (headOf s (by2 (ckOf s a b) ++ [0, 0])).length).app (byt_head hd hcb))).1
      generalize sumP (pseudoOf a b (headOf s (by2 (ckOf s a b) ++ [0, 0])).length ++ headOf s (by2 (ckOf s a b) ++ [0, 0])) = S at *
      unfold fold at *
      rcases xor1 hba with ⟨e1, e2⟩ | ⟨e1, e2⟩ <;> rw [e2] <;> split at hr <;> split <;> omega
    rw [if_neg hne] at r5
    rw [if_neg (by simp), r4, Option.bind_some, r5, Option.bind_some, if_pos (by simp)]
    simp only [law19_one.f, Option.bind_some, Same_self]
    rw [if_pos trivial, if_pos (by simp), heads]; rfl
  · rw [put_not s a b h, Option.bind_some, if_pos (by simp), if_pos (by simp), heads]; rfl
end Go.Proofs.Ythjaancddmecpaa.S
