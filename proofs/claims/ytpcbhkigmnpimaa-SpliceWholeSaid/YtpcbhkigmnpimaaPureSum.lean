/- Plain facts on checksums; each states its own conditions. -/
import Derived.Test.YtpcbhkigmnpimaaPureBitsP
namespace Go.Proofs.Ytpcbhkigmnpimaa.S
open Go Go.SL
set_option linter.unusedVariables false
set_option linter.unusedSimpArgs false
/-- The pairs of bytes added up. -/
def sumP : List Int → Int
  | [] => 0
  | [x] => x * 256
  | x :: y :: t => x * 256 + y + sumP t
def Byt (l : List Int) : Prop := ∀ b ∈ l, 0 ≤ b ∧ b < 256
theorem Byt.of {l : List Int} (h : Bs l) : Byt l := fun b hb => by
  have := h b hb; unfold InR at this; rw [u8w] at this; omega
theorem Byt.app {a b : List Int} (h : Byt a) (k : Byt b) : Byt (a ++ b) := fun x hx => (List.mem_append.1 hx).elim (h x) (k x)
theorem sumP_append : ∀ (a b : List Int), a.length % 2 = 0 → sumP (a ++ b) = sumP a + sumP b
  | [], b, _ => by simp [sumP]
  | [x], b, h => by simp at h
  | x :: y :: t, b, h => by
    have := sumP_append t b (by simp at h; omega)
    simp only [List.cons_append, sumP, this]; omega
theorem sumP_bd : ∀ (a : List Int), Byt a → 0 ≤ sumP a ∧ sumP a ≤ 65535 * a.length
  | [], _ => by simp [sumP]
  | [x], h => by have := h x (by simp); simp only [sumP, List.length_singleton]; omega
  | x :: y :: t, h => by
    have h1 := h x (by simp)
    have h2 := h y (by simp)
    have := sumP_bd t fun z hz => h z (by simp [hz])
    simp only [sumP, List.length_cons]; omega
def fold (s : Int) : Int := if s = 0 then 0 else (s - 1) % 65535 + 1
theorem fold_bd {s : Int} (h : 0 ≤ s) : 0 ≤ fold s ∧ fold s ≤ 65535 := by unfold fold; split <;> omega
theorem and16 {s : Int} (h0 : 0 ≤ s) (h1 : s < 9223372036854775808) : bits .and .i64 s 65535 = s % 65536 := by
  obtain ⟨a, rfl⟩ := Int.eq_ofNat_of_zero_le h0
  have e2 : bits .and .i64 (a : Int) 65535 = IntKind.i64.wrap ((BitVec.ofNat 64 a &&& BitVec.ofNat 64 65535 : BitVec 64).toNat : Int) := by
    unfold bits
    show IntKind.i64.wrap ((BitVec.ofInt 64 (a : Int) &&& BitVec.ofInt 64 65535 : BitVec 64).toNat : Int) = _
    rw [show BitVec.ofInt 64 (a : Int) = BitVec.ofNat 64 a from BitVec.ofInt_natCast _ _]; rfl
  have e3 : a &&& 65535 = a % 65536 := Nat.and_two_pow_sub_one_eq_mod a 16
  rw [e2, BitVec.toNat_and, BitVec.toNat_ofNat, BitVec.toNat_ofNat, Nat.mod_eq_of_lt (by omega), Nat.mod_eq_of_lt (by decide), e3, i64w (by omega) (by omega)]
  omega
theorem xor16 {r : Int} (h0 : 0 ≤ r) (h1 : r ≤ 65535) : bits .xor .i64 r 65535 = 65535 - r := by
  obtain ⟨a, rfl⟩ := Int.eq_ofNat_of_zero_le h0
  have e2 : bits .xor .i64 (a : Int) 65535 = IntKind.i64.wrap ((BitVec.ofNat 64 a ^^^ BitVec.ofNat 64 65535 : BitVec 64).toNat : Int) := by
    unfold bits
    show IntKind.i64.wrap ((BitVec.ofInt 64 (a : Int) ^^^ BitVec.ofInt 64 65535 : BitVec 64).toNat : Int) = _
    rw [show BitVec.ofInt 64 (a : Int) = BitVec.ofNat 64 a from BitVec.ofInt_natCast _ _]; rfl
  have ha : a < 2 ^ 16 := by omega
  have e3 : a ^^^ 65535 = 65535 - a := by
    apply Nat.eq_of_testBit_eq
    intro i
    rw [Nat.testBit_xor, show (65535 : Nat) = 2 ^ 16 - 1 from rfl, Nat.testBit_two_pow_sub_one, show 2 ^ 16 - 1 - a = 2 ^ 16 - (a + 1) by omega, Nat.testBit_two_pow_sub_succ ha]
    by_cases hi : i < 16
    · simp [hi]
    · have : a.testBit i = false := Nat.testBit_lt_two_pow (Nat.lt_of_lt_of_le ha (Nat.pow_le_pow_right (by decide) (by omega)))
      simp [hi, this]
  rw [e2, BitVec.toNat_xor, BitVec.toNat_ofNat, BitVec.toNat_ofNat, Nat.mod_eq_of_lt (by omega), Nat.mod_eq_of_lt (by decide), e3, i64w (by omega) (by omega)]
  omega
theorem ori64 {x y : Int} (hx : 0 ≤ x ∧ x < 256) (hy : 0 ≤ y ∧ y < 256) : bits .or .i64 (ishl .i64 x 8) y = x * 256 + y := by
  have e1 : ishl .i64 x 8 = x * 256 := by
    unfold ishl
    rw [show (2 : Int) ^ min (8 : Int).toNat IntKind.i64.bits = 256 by decide, i64w (by omega) (by omega)]
  rw [e1]
  obtain ⟨a, rfl⟩ := Int.eq_ofNat_of_zero_le hx.1
  obtain ⟨b, rfl⟩ := Int.eq_ofNat_of_zero_le hy.1
  have hb : b < 2 ^ 8 := by omega
  have e2 : bits .or .i64 ((a : Int) * 256) (b : Int) = IntKind.i64.wrap ((BitVec.ofNat 64 (2 ^ 8 * a) ||| BitVec.ofNat 64 b : BitVec 64).toNat : Int) := by
    unfold bits
    show IntKind.i64.wrap ((BitVec.ofInt 64 ((a : Int) * 256) ||| BitVec.ofInt 64 (b : Int) : BitVec 64).toNat : Int) = _
    rw [show (a : Int) * 256 = ((2 ^ 8 * a : Nat) : Int) by omega]
    rw [show BitVec.ofInt 64 ((2 ^ 8 * a : Nat) : Int) = BitVec.ofNat 64 (2 ^ 8 * a) from BitVec.ofInt_natCast _ _, show BitVec.ofInt 64 (b : Int) = BitVec.ofNat 64 b from BitVec.ofInt_natCast _ _]
  rw [e2, BitVec.toNat_or, BitVec.toNat_ofNat, BitVec.toNat_ofNat, Nat.mod_eq_of_lt (by omega), Nat.mod_eq_of_lt (by omega), ← Nat.two_pow_add_eq_or_of_lt hb, i64w (by omega) (by omega)]
  omega
/-- The rounds that fold. -/
theorem fold_loop : ∀ (n : Nat) (s : Int), s.toNat = n → 0 ≤ s → s < 4611686018427387904 → loop (fun s2 : Int => (if decide (0 < (ishr .i64 s2 16)) = true then lt (IntKind.i64.wrap ((bits .and .i64 s2 65535) + (ishr .i64 s2 16))) fun y3 => some (.inl y3) else some (.inr (s2)))) s = some (fold s) := by
  intro n
  induction n using Nat.strongRecOn with
  | _ n ih =>
    intro s hn h0 h1
    have e : ishr .i64 s 16 = s / 65536 := by unfold ishr; rw [show (2 : Int) ^ min (16 : Int).toNat IntKind.i64.bits = 65536 by decide]
    rw [loop_eq]
    simp only [e, lt]
    by_cases hc : 0 < s / 65536
    · rw [if_pos (by simpa using hc), and16 h0 (by omega), i64w (by omega) (by omega), Option.bind_some]
      show loop _ (s % 65536 + s / 65536) = _
      have := ih (s % 65536 + s / 65536).toNat (by omega) (s % 65536 + s / 65536) rfl (by omega) (by omega)
      simp only [lt] at this
      rw [this]
      unfold fold
      rw [if_neg (by omega), if_neg (by omega)]
      congr 2; omega
    · rw [if_neg (by simpa using hc), Option.bind_some]
      show some s = _
      unfold fold
      split
      · congr 1
      · congr 1; omega
/-- The two bytes at the front, a nought where one is wanting. -/
theorem pair_is (l : List Int) (hl : l ≠ []) (hb : Byt l) : ∃ x y, ovr ([0, 0] : List Int) 0 2 l = [x, y] ∧ (0 ≤ x ∧ x < 256) ∧ (0 ≤ y ∧ y < 256) ∧ sumP (l.take 2) = x * 256 + y := by
  match l, hl with
  | [x], _ => exact ⟨x, 0, rfl, hb x (by simp), by omega, by simp [sumP]⟩
  | x :: y :: t, _ => exact ⟨x, y, rfl, hb x (by simp), hb y (by simp), by simp [sumP]⟩
theorem sum_is {b : List Int} (hb : Byt b) (hl : b.length ≤ 1099511627776) : sum_Sum.f b = some (65535 - fold (sumP b)) := by
  have hbd := sumP_bd b hb
  have tk : ∀ i, sumP (b.take i) ≤ 65535 * b.length ∧ 0 ≤ sumP (b.take i) := fun i => by
    have := sumP_bd (b.take i) fun x hx => hb x (List.mem_of_mem_take hx)
    rw [List.length_take] at this; omega
  have e0 : IntKind.i64.wrap (Int.tdiv (IntKind.i64.wrap ((b.length : Int) + 1)) 2) = (((b.length + 1) / 2 : Nat) : Int) := by
    rw [i64w (x := (b.length : Int) + 1) (by omega) (by omega)]
    rw [Int.tdiv_eq_ediv_of_nonneg (by omega), i64w (by omega) (by omega)]; omega
  unfold sum_Sum.f
  rw [e0]
  have l1 := loop_run (B := fun s1 : Int × Int => (if decide (s1.2 < (((b.length + 1) / 2 : Nat) : Int)) = true then (cut b (IntKind.i64.wrap (2 * s1.2)) (b.length : Int)).bind fun x1 => lt (ovr (List.replicate 2 0 : List Int) 0 ((List.replicate 2 0 : List Int).length : Int) x1) fun y1 => (idx y1 0).bind fun x2 => (idx y1 1).bind fun x3 => lt (IntKind.i64.wrap (s1.1 + (bits .or .i64 (ishl .i64 x2 8) x3))) fun y2 => some (.inl (y2, IntKind.i64.wrap (s1.2 + 1))) else some (.inr (s1.1)))) (fun i => (sumP (b.take (2 * i)), (i : Int))) ((b.length + 1) / 2) (fun i hi => by
    have hlt : 2 * i < b.length := by omega
    have hne : b.drop (2 * i) ≠ [] := by intro h; have := congrArg List.length h; simp at this; omega
    obtain ⟨x, y, h1, h2, h3, h4⟩ := pair_is (b.drop (2 * i)) hne fun z hz => hb z (List.mem_of_mem_drop hz)
    have hs : sumP (b.take (2 * (i + 1))) = sumP (b.take (2 * i)) + (x * 256 + y) := by
      rw [show 2 * (i + 1) = 2 * i + 2 by omega, List.take_add, sumP_append _ _ (by rw [List.length_take]; omega), h4]
    have t1 := tk (2 * i)
    have hc : cut b (IntKind.i64.wrap (2 * (i : Int))) (b.length : Int) = some (b.drop (2 * i)) := by
      rw [i64w (by omega) (by omega)]
      unfold cut
      rw [if_pos ⟨by omega, by omega, by omega⟩]
      congr 1
      rw [show (2 * (i : Int)).toNat = 2 * i by omega]
      simp
    have hov : ovr (List.replicate 2 0 : List Int) 0 ((List.replicate 2 0 : List Int).length : Int) (b.drop (2 * i)) = [x, y] := h1
    simp only [hi, Int.ofNat_lt, decide_true, if_true, hc, Option.bind_some, lt, hov]
    rw [show idx [x, y] 0 = some x from rfl, Option.bind_some, show idx [x, y] 1 = some y from rfl, Option.bind_some, ori64 h2 h3, hs]
    rw [i64w (x := (i : Int) + 1) (by omega) (by omega), i64w (by omega) (by omega)]
    push_cast; rfl) (r := sumP b) (by
      have : b.take (2 * ((b.length + 1) / 2)) = b := List.take_of_length_le (by omega)
      simp [this])
  simp only [Nat.mul_zero, List.take_zero, sumP] at l1
  have l1' := l1
  rw [show ((0 : Nat) : Int) = 0 from rfl] at l1'
  rw [l1', Option.bind_some, fold_loop _ _ rfl (by omega) (by omega), Option.bind_some]
  have := fold_bd (s := sumP b) (by omega)
  simp only [lt]
  rw [xor16 this.1 this.2]
end Go.Proofs.Ytpcbhkigmnpimaa.S
