/- Plain facts on numbers written as bytes, on slices joined, and on rounds that count; each states its own conditions. -/
import Derived.Test.YtmmaojclfggioaaTAll
namespace Go.Proofs.Ytmmaojclfggioaa.S
open Go Go.SL
set_option linter.unusedVariables false
set_option linter.unusedSimpArgs false
theorem loop_run {σ ρ : Type} {B : σ → Option (σ ⊕ ρ)} (st : Nat → σ) (n : Nat) (hs : ∀ i, i < n → B (st i) = some (.inl (st (i + 1)))) {r : ρ} (hr : B (st n) = some (.inr r)) : loop B (st 0) = some r := by
  have : ∀ k, k ≤ n → loop B (st (n - k)) = some r := by
    intro k
    induction k with
    | zero => intro _; exact loop_out hr
    | succ k ih =>
      intro hk
      rw [loop_in (hs (n - (k + 1)) (by omega)), show n - (k + 1) + 1 = n - k by omega]
      exact ih (by omega)
  have := this n (Nat.le_refl n)
  rwa [Nat.sub_self] at this
theorem i64w {x : Int} (h0 : -9223372036854775808 ≤ x) (h1 : x ≤ 9223372036854775807) : IntKind.i64.wrap x = x := by
  simp only [IntKind.wrap, IntKind.bits, IntKind.signed]
  simp
  omega
theorem u64w {x : Int} (h0 : 0 ≤ x) (h1 : x < 18446744073709551616) : IntKind.u64.wrap x = x := by
  simp only [IntKind.wrap, IntKind.bits, IntKind.signed]
  simp
  omega
theorem put1_g (x : Int) : bits_Put.g 20 x 1 true = some [IntKind.u8.wrap (x / 1)] := by kernel_rfl
theorem put2_g (x : Int) : bits_Put.g 20 x 2 true = some [IntKind.u8.wrap (x / 256), IntKind.u8.wrap (x / 1)] := by kernel_rfl
theorem put4_g (x : Int) : bits_Put.g 20 x 4 true = some [IntKind.u8.wrap (x / 16777216), IntKind.u8.wrap (x / 65536), IntKind.u8.wrap (x / 256), IntKind.u8.wrap (x / 1)] := by kernel_rfl
theorem u8w (x : Int) : IntKind.u8.wrap x = x % 256 := by simp [IntKind.wrap, IntKind.bits, IntKind.signed]
theorem put1 (x : Int) : bits_Put.f x 1 true = some [x % 256] := by have := bits_Put.le 20 _ _ _ _ (put1_g x); simpa [u8w] using this
theorem put2 (x : Int) : bits_Put.f x 2 true = some [x / 256 % 256, x % 256] := by have := bits_Put.le 20 _ _ _ _ (put2_g x); simpa [u8w] using this
theorem put4 (x : Int) : bits_Put.f x 4 true = some [x / 16777216 % 256, x / 65536 % 256, x / 256 % 256, x % 256] := by have := bits_Put.le 20 _ _ _ _ (put4_g x); simpa [u8w] using this
/-- or of what does not meet. -/
theorem or_add {x y : Int} {n : Nat} (hx0 : 0 ≤ x) (hx : x < 2 ^ n) (hy0 : 0 ≤ y) (hd : y % 2 ^ n = 0) (hs : x + y < 18446744073709551616) : bits .or .u64 x y = x + y := by
  obtain ⟨a, rfl⟩ := Int.eq_ofNat_of_zero_le hx0
  obtain ⟨b, rfl⟩ := Int.eq_ofNat_of_zero_le hy0
  have ha : a < 2 ^ n := by exact_mod_cast hx
  have hb : b % 2 ^ n = 0 := by exact_mod_cast hd
  obtain ⟨c, rfl⟩ : 2 ^ n ∣ b := Nat.dvd_of_mod_eq_zero hb
  have e : a ||| (2 ^ n * c) = a + 2 ^ n * c := by rw [Nat.or_comm, ← Nat.two_pow_add_eq_or_of_lt ha, Nat.add_comm]
  generalize 2 ^ n * c = q at *
  have hs' : a + q < 18446744073709551616 := by omega
  have e2 : bits .or .u64 (a : Int) (q : Int) = IntKind.u64.wrap ((BitVec.ofNat 64 a ||| BitVec.ofNat 64 q : BitVec 64).toNat : Int) := by
    unfold bits
    show IntKind.u64.wrap ((BitVec.ofInt 64 (a : Int) ||| BitVec.ofInt 64 (q : Int) : BitVec 64).toNat : Int) = _
    rw [show BitVec.ofInt 64 (a : Int) = BitVec.ofNat 64 a from BitVec.ofInt_natCast _ _, show BitVec.ofInt 64 (q : Int) = BitVec.ofNat 64 q from BitVec.ofInt_natCast _ _]
  rw [e2, BitVec.toNat_or, BitVec.toNat_ofNat, BitVec.toNat_ofNat, Nat.mod_eq_of_lt (by omega), Nat.mod_eq_of_lt (by omega), e]
  rw [u64w (by omega) (by omega)]
  omega
theorem grow_is (n : Int) (h0 : 0 ≤ n) (h1 : n ≤ 68719476736) : slices_Grow_s_byte_byte.f n = some [] := by
  unfold slices_Grow_s_byte_byte.f
  have e : IntKind.i64.wrap (0 - 0) = 0 := by decide
  rw [if_neg (by simp; omega)]
  simp only [lt, e]
  rw [i64w (by omega) (by omega)]
  by_cases h : 0 < n - 0
  · rw [if_pos (by simpa using h)]
    simp [mk, h0, h1, cut]
  · rw [if_neg (by simpa using h)]; rfl
theorem flat_take {α : Type} (xs : List (List α)) (i : Nat) (h : i < xs.length) : (xs.take (i + 1)).flatten = (xs.take i).flatten ++ xs[i] := by
  rw [List.take_add_one, List.getElem?_eq_getElem h, Option.toList_some, List.flatten_append, List.flatten_singleton]
theorem concat_is (xs : List (List Int)) (h : xs.flatten.length ≤ 68719476736) (hn : xs.length ≤ 68719476736) : slices_Concat_s_byte_byte.f xs = some xs.flatten := by
  have bd : ∀ i, (xs.take i).flatten.length ≤ xs.flatten.length := fun i => by
    have := congrArg List.length (congrArg List.flatten (List.take_append_drop i xs))
    rw [List.flatten_append, List.length_append] at this; omega
  have ix : ∀ i (hi : i < xs.length), idx xs (i : Int) = some xs[i] := fun i hi => by simp [idx, hi]
  unfold slices_Concat_s_byte_byte.f
  have l1 := loop_run (B := fun s1 : Int × Int => (if decide (s1.2 < (xs.length : Int)) = true then (idx xs s1.2).bind fun x1 => lt (IntKind.i64.wrap (s1.1 + (x1.length : Int))) fun y1 => (if decide (y1 < 0) = true then none else some (.inl (y1, IntKind.i64.wrap (s1.2 + 1)))) else some (.inr (s1.1)))) (fun i => (((xs.take i).flatten.length : Int), (i : Int))) xs.length (fun i hi => by
    have b1 := bd (i + 1)
    rw [flat_take xs i hi, List.length_append] at b1
    simp only [hi, Int.ofNat_lt, decide_true, if_true, ix i hi, Option.bind_some, lt]
    rw [i64w (by omega) (by omega), i64w (by omega) (by omega), if_neg (by simp; omega), flat_take xs i hi, List.length_append]
    push_cast; rfl) (r := ((xs.flatten.length : Nat) : Int)) (by simp)
  simp only [List.take_zero, List.flatten_nil, List.length_nil, Int.ofNat_zero] at l1
  rw [l1, Option.bind_some, grow_is _ (by omega) (by omega), Option.bind_some]
  have l2 := loop_run (B := fun s2 : List Int × Int => (if decide (s2.2 < (xs.length : Int)) = true then (idx xs s2.2).bind fun x2 => (app s2.1 x2).bind fun x3 => some (.inl (x3, IntKind.i64.wrap (s2.2 + 1))) else some (.inr (s2.1)))) (fun i => ((xs.take i).flatten, (i : Int))) xs.length (fun i hi => by
    have b1 := bd (i + 1)
    rw [flat_take xs i hi, List.length_append] at b1
    simp only [hi, Int.ofNat_lt, decide_true, if_true, ix i hi, Option.bind_some]
    rw [app, if_pos (by omega), Option.bind_some, i64w (by omega) (by omega), flat_take xs i hi]
    push_cast; rfl) (r := xs.flatten) (by simp)
  simp only [List.take_zero, List.flatten_nil] at l2
  rw [show ((0 : Nat) : Int) = 0 from rfl] at l2
  rw [l2]; rfl
end Go.Proofs.Ytmmaojclfggioaa.S
