/- Plain facts on the document's numbers as bytes and its checksums; each states its own conditions. -/
import Derived.Test.YtaiadolmjmacfaaDoorPureCheck
namespace Go.Proofs.YtaiadolmjmacfaaDoor.S
open Go Go.SL
set_option linter.unusedVariables false
set_option linter.unusedSimpArgs false
theorem rput2_g (x : Int) : ref01_Put.g 20 x 2 true = some [IntKind.u8.wrap (x / 256), IntKind.u8.wrap (x / 1)] := by kernel_rfl
theorem rput4_g (x : Int) : ref01_Put.g 20 x 4 true = some [IntKind.u8.wrap (x / 16777216), IntKind.u8.wrap (x / 65536), IntKind.u8.wrap (x / 256), IntKind.u8.wrap (x / 1)] := by kernel_rfl
theorem rput2 (x : Int) : ref01_Put.f x 2 true = some [x / 256 % 256, x % 256] := by have := ref01_Put.le 20 _ _ _ _ (rput2_g x); simpa [u8w] using this
theorem rput4 (x : Int) : ref01_Put.f x 4 true = some [x / 16777216 % 256, x / 65536 % 256, x / 256 % 256, x % 256] := by have := ref01_Put.le 20 _ _ _ _ (rput4_g x); simpa [u8w] using this
theorem rget2_g (a b : Int) : ref01_Get.g 20 [a, b] true = some (IntKind.u64.wrap (IntKind.u64.wrap (IntKind.u64.wrap (IntKind.u64.wrap (0 * 256) + a) * 256) + b)) := by kernel_rfl
theorem rget4_g (a b c d : Int) : ref01_Get.g 20 [a, b, c, d] true = some (IntKind.u64.wrap (IntKind.u64.wrap (IntKind.u64.wrap (IntKind.u64.wrap (IntKind.u64.wrap (IntKind.u64.wrap (IntKind.u64.wrap (IntKind.u64.wrap (0 * 256) + a) * 256) + b) * 256) + c) * 256) + d)) := by kernel_rfl
theorem u64z : IntKind.u64.wrap (0 * 256) = 0 := by decide
theorem rget2 {a b : Int} (ha : 0 ≤ a ∧ a < 256) (hb : 0 ≤ b ∧ b < 256) : ref01_Get.f [a, b] true = some (a * 256 + b) := by
  have := ref01_Get.le 20 _ _ _ (rget2_g a b)
  rw [this, u64z, u64w (x := 0 + a) (by omega) (by omega), u64w (x := (0 + a) * 256) (by omega) (by omega), u64w (by omega) (by omega)]
  congr 1; omega
theorem rget4 {a b c d : Int} (ha : 0 ≤ a ∧ a < 256) (hb : 0 ≤ b ∧ b < 256) (hc : 0 ≤ c ∧ c < 256) (hd : 0 ≤ d ∧ d < 256) : ref01_Get.f [a, b, c, d] true = some (a * 16777216 + b * 65536 + c * 256 + d) := by
  have := ref01_Get.le 20 _ _ _ (rget4_g a b c d)
  rw [this, u64z, u64w (x := 0 + a) (by omega) (by omega), u64w (x := (0 + a) * 256) (by omega) (by omega), u64w (x := (0 + a) * 256 + b) (by omega) (by omega), u64w (x := ((0 + a) * 256 + b) * 256) (by omega) (by omega), u64w (x := ((0 + a) * 256 + b) * 256 + c) (by omega) (by omega), u64w (x := (((0 + a) * 256 + b) * 256 + c) * 256) (by omega) (by omega), u64w (by omega) (by omega)]
  congr 1; omega
theorem rsame (a b : List Int) : ref01_Same.f a b = some (decide (a = b)) := rfl
theorem fold_add {s v : Int} (hs : 0 ≤ s) (h0 : 0 ≤ v) (h1 : v ≤ 65535) : (if 65535 < fold s + v then fold s + v - 65535 else fold s + v) = fold (s + v) := by
  by_cases e : s = 0
  · subst e
    have h1 : fold 0 = 0 := rfl
    have h2 : fold (0 + v) = v := by
      unfold fold; split <;> omega
    rw [h1, h2, if_neg (by omega)]; omega
  · have h1 : fold s = (s - 1) % 65535 + 1 := by unfold fold; rw [if_neg e]
    have h2 : fold (s + v) = (s + v - 1) % 65535 + 1 := by unfold fold; rw [if_neg (by omega)]
    rw [h1, h2]
    split <;> omega
theorem sumP_two (l : List Int) (i : Nat) (x : Int) (t : List Int) (h : l.drop (2 * i) = x :: t) : sumP (l.take (2 * (i + 1))) = sumP (l.take (2 * i)) + (x * 256 + t.headD 0) := by
  have hlt : 2 * i < l.length := by
    have := congrArg List.length h
    simp at this; omega
  rw [show 2 * (i + 1) = 2 * i + 2 by omega, List.take_add, sumP_append _ _ (by rw [List.length_take]; omega), h]
  cases t with
  | nil => simp [sumP]
  | cons y t => simp [sumP]
theorem rsum_is {b : List Int} (hb : Byt b) (hl : b.length ≤ 1099511627776) : ref15_Sum.f b = some (65535 - fold (sumP b)) := by
  unfold ref15_Sum.f
  have tk : ∀ i, 0 ≤ sumP (b.take i) := fun i => (sumP_bd (b.take i) fun x hx => hb x (List.mem_of_mem_take hx)).1
  have l1 := loop_run (B := fun s1 : Int × Int => (if decide (s1.2 < (b.length : Int)) = true then (((idx b s1.2).bind fun x1 => lt (IntKind.i64.wrap (s1.1 + (IntKind.i64.wrap (256 * x1)))) fun y1 => ((if decide ((IntKind.i64.wrap (s1.2 + 1)) < (b.length : Int)) = true then (idx b (IntKind.i64.wrap (s1.2 + 1))).bind fun x2 => lt (IntKind.i64.wrap (y1 + x2)) fun y2 => some (y2) else some (y1))).bind (fun j1 => (if decide (65535 < j1) = true then lt (IntKind.i64.wrap (j1 - 65535)) fun y3 => some (y3) else some (j1)))).bind (fun j2 => some (j2))).bind (fun j3 => lt (IntKind.i64.wrap (s1.2 + 2)) fun y4 => some (.inl (j3, y4))) else some (.inr (s1.1)))) (fun i => (fold (sumP (b.take (2 * i))), ((2 * i : Nat) : Int))) ((b.length + 1) / 2) (fun i hi => by
    have hlt : 2 * i < b.length := by omega
    obtain ⟨x, t, hd⟩ : ∃ x t, b.drop (2 * i) = x :: t := ⟨_, _, List.drop_eq_getElem_cons hlt⟩
    have hx : idx b ((2 * i : Nat) : Int) = some x := by
      have : b[2 * i]? = some x := by
        have := congrArg (fun l => l[0]?) hd
        simpa using this
      unfold idx
      rw [if_pos (by omega), show ((2 * i : Nat) : Int).toNat = 2 * i by omega, this]
    have hxb : 0 ≤ x ∧ x < 256 := hb x (List.mem_of_mem_drop (i := 2 * i) (by rw [hd]; simp))
    have hf := fold_bd (tk (2 * i))
    have hs := sumP_two b i x t hd
    simp only [show ((2 * i : Nat) : Int) < (b.length : Int) by omega, decide_true, if_true, hx, Option.bind_some, lt]
    rw [i64w (x := 256 * x) (by omega) (by omega), i64w (x := fold (sumP (b.take (2 * i))) + 256 * x) (by omega) (by omega), i64w (x := ((2 * i : Nat) : Int) + 1) (by omega) (by omega), i64w (x := ((2 * i : Nat) : Int) + 2) (by omega) (by omega), hs]
    have fin : ∀ v : Int, 0 ≤ v → v < 256 → ((if decide (65535 < fold (sumP (b.take (2 * i))) + 256 * x + v) = true then some (IntKind.i64.wrap (fold (sumP (b.take (2 * i))) + 256 * x + v - 65535)) else some (fold (sumP (b.take (2 * i))) + 256 * x + v)) : Option Int) = some (fold (sumP (b.take (2 * i)) + (x * 256 + v))) := fun v h0 h1 => by
      have := fold_add (tk (2 * i)) (v := x * 256 + v) (by omega) (by omega)
      rw [← this, i64w (by omega) (by omega)]
      by_cases c : 65535 < fold (sumP (b.take (2 * i))) + 256 * x + v
      · rw [if_pos (by simpa using c), if_pos (by omega)]; congr 1; omega
      · rw [if_neg (by simpa using c), if_neg (by omega)]; congr 1; omega
    cases t with
    | nil =>
      have hl2 : b.length = 2 * i + 1 := by have := congrArg List.length hd; simp at this; omega
      rw [if_neg (by simp; omega)]
      have := fin 0 (by omega) (by omega)
      simp only [Int.add_zero] at this
      simp only [Option.bind_some, this, List.headD_nil, Int.add_zero]
      push_cast; rw [Int.mul_add]; rfl
    | cons y t =>
      have hl2 : 2 * i + 1 < b.length := by have := congrArg List.length hd; simp at this; omega
      have hy : idx b (((2 * i : Nat) : Int) + 1) = some y := by
        have : b[2 * i + 1]? = some y := by
          have := congrArg (fun l => l[1]?) hd
          simpa using this
        unfold idx
        rw [if_pos (by omega), show (((2 * i : Nat) : Int) + 1).toNat = 2 * i + 1 by omega, this]
      have hyb : 0 ≤ y ∧ y < 256 := hb y (List.mem_of_mem_drop (i := 2 * i) (by rw [hd]; simp))
      rw [if_pos (by simp; omega), hy, Option.bind_some, i64w (x := fold (sumP (b.take (2 * i))) + 256 * x + y) (by omega) (by omega)]
      have := fin y (by omega) (by omega)
      simp only [Option.bind_some, this, List.headD_cons]
      push_cast; rw [Int.mul_add]; rfl) (r := fold (sumP b)) (by
      have : b.take (2 * ((b.length + 1) / 2)) = b := List.take_of_length_le (by omega)
      rw [if_neg (by simp; omega), this])
  simp only [Nat.mul_zero, List.take_zero] at l1
  rw [show ((0 : Nat) : Int) = 0 from rfl, show fold (sumP []) = 0 from rfl] at l1
  rw [l1, Option.bind_some]
  have := fold_bd (tk b.length)
  rw [List.take_length] at this
  simp only [lt]
  rw [i64w (by omega) (by omega)]
theorem rright_is {b : List Int} (hb : Byt b) (hl : b.length ≤ 1099511627776) : ref15_Right.f b = some (decide (fold (sumP b) = 65535)) := by
  unfold ref15_Right.f
  rw [rsum_is hb hl, Option.bind_some]
  simp only [lt]
  congr 2
  exact propext (by omega)
end Go.Proofs.YtaiadolmjmacfaaDoor.S
