/- Plain facts on checksums, numbers written as bytes, and pseudo headers; each states its own conditions. -/
import Derived.OpenShut
import Derived.Test.YtchldakooabdbaaPx1
import Derived.Test.YtchldakooabdbaaPx2
import Derived.Test.YtchldakooabdbaaPx3
namespace Go.Proofs.Ytchldakooabdbaa.Pure
set_option linter.unusedVariables false
open Go.RowKit Go.Proofs.Ytchldakooabdbaa.Aux Go.Proofs.Ytchldakooabdbaa.P Go.Proofs.YtchldakooabdbaaW.PrintWords Go.Proofs.YtchldakooabdbaaW.PrintLast Go.Proofs.YtchldakooabdbaaW.PrintMore
theorem okBytes_of {l : List Int} (h : ∀ x ∈ l, (Lit.int .u8 x).wf = true) : okBytes l = true := by
  refine List.all_eq_true.2 fun x hx => ?_
  have := bounds_u8 (h x hx)
  simp; omega
theorem okBytes_append {a b : List Int} (ha : okBytes a = true) (hb : okBytes b = true) : okBytes (a ++ b) = true := by
  simp only [okBytes, List.all_append, Bool.and_eq_true] at *
  exact ⟨ha, hb⟩
theorem okBytes_cons {a : Int} {b : List Int} (h0 : 0 ≤ a) (h1 : a ≤ 255) (hb : okBytes b = true) : okBytes (a :: b) = true := by
  simp only [okBytes, List.all_cons, Bool.and_eq_true] at *
  exact ⟨by simp; omega, hb⟩
theorem okBytes_sub {a b : List Int} (h : ∀ x ∈ a, x ∈ b) (hb : okBytes b = true) : okBytes a = true :=
  List.all_eq_true.2 fun x hx => List.all_eq_true.1 hb x (h x hx)
theorem sumAdd_append : ∀ (a b : List Int), a.length % 2 = 0 → sumAdd (a ++ b) = sumAdd a + sumAdd b
  | [], b, _ => by simp [sumAdd]
  | [x], b, h => by simp at h
  | x :: y :: t, b, h => by
    have := sumAdd_append t b (by simp at h; omega)
    simp only [List.cons_append, sumAdd, this]; omega
theorem sumAdd_pos : ∀ (a : List Int), okBytes a = true → 0 ≤ sumAdd a
  | [], _ => by simp [sumAdd]
  | [x], h => by have := okBytes_at h x (by simp); simp only [sumAdd]; omega
  | x :: y :: t, h => by
    have h1 := okBytes_at h x (by simp)
    have h2 := okBytes_at h y (by simp)
    have := sumAdd_pos t (by simp only [okBytes, List.all_cons, Bool.and_eq_true] at h ⊢; exact h.2.2)
    simp only [sumAdd]; omega
theorem sum_is {l : List Int} (h : okBytes l = true) (hl : l.length < 140737488355328) : sum_Sum.f l = some (65535 - sumFold (sumAdd l)) := by
  unfold sum_Sum.f
  rw [if_pos hl, if_pos h]
theorem sumFold_bd (n : Int) (h : 0 ≤ n) : 0 ≤ sumFold n ∧ sumFold n ≤ 65535 := by
  unfold sumFold
  split <;> omega
theorem sumFold_add (a b : Int) (ha : 0 ≤ a) (hb : 0 ≤ b) : sumFold (a + b) = if sumFold a + sumFold b > 65535 then sumFold a + sumFold b - 65535 else sumFold a + sumFold b := by
  unfold sumFold
  repeat' split
  all_goals omega
theorem w64 {x : Int} (h0 : -9223372036854775808 ≤ x) (h1 : x ≤ 9223372036854775807) : wrap64 x = x := by unfold wrap64; omega
theorem wu64 {x : Int} (h0 : 0 ≤ x) (h1 : x < 18446744073709551616) : IntKind.u64.wrap x = x := wraps_u64 x h0 h1
theorem same_self (l : List Int) : drawbridgeref01_Same.f l l = some true := by unfold drawbridgeref01_Same.f; simp
theorem bits_Put_1 (x : Int) : bits_Put.f 20 x 1 true = some [x / 1 % 256] := by kernel_rfl
theorem bits_Put_2 (x : Int) : bits_Put.f 20 x 2 true = some [x / 256 % 256, x / 1 % 256] := by kernel_rfl
theorem bits_Put_4 (x : Int) : bits_Put.f 20 x 4 true = some [x / 16777216 % 256, x / 65536 % 256, x / 256 % 256, x / 1 % 256] := by kernel_rfl
theorem ref01_Put_1 (x : Int) : drawbridgeref01_Put.f 20 x 1 true = some [x / 1 % 256] := by kernel_rfl
theorem ref01_Put_2 (x : Int) : drawbridgeref01_Put.f 20 x 2 true = some [x / 256 % 256, x / 1 % 256] := by kernel_rfl
theorem ref01_Put_4 (x : Int) : drawbridgeref01_Put.f 20 x 4 true = some [x / 16777216 % 256, x / 65536 % 256, x / 256 % 256, x / 1 % 256] := by kernel_rfl
theorem bits_Put_at {k : Nat} (hk : 20 ≤ k) {x n : Int} {b : Bool} {r : List Int} (h : bits_Put.f 20 x n b = some r) : bits_Put.f k x n b = some r := at_rounds (g := fun k => bits_Put.f k x n b) (fun k => bits_Put.mono x n b k) hk h
theorem ref01_Put_at {k : Nat} (hk : 20 ≤ k) {x n : Int} {b : Bool} {r : List Int} (h : drawbridgeref01_Put.f 20 x n b = some r) : drawbridgeref01_Put.f k x n b = some r := at_rounds (g := fun k => drawbridgeref01_Put.f k x n b) (fun k => drawbridgeref01_Put.mono x n b k) hk h
theorem rd_append (pre : List Int) (x : Int) (t : List Int) (i : Int) (hi : i = pre.length) : rd (pre ++ x :: t) i = x := by
  subst hi
  simp [rd, List.getD_eq_getElem?_getD]
theorem two_at (l : List Int) : ∀ (m : Nat), m + 2 ≤ l.length → ∃ pre x y t, l = pre ++ x :: y :: t ∧ pre.length = m := by
  intro m h
  have e := List.take_append_drop m l
  match hd : l.drop m with
  | [] => have := congrArg List.length hd; simp at this; omega
  | [x] => have := congrArg List.length hd; simp at this; omega
  | x :: y :: t => exact ⟨l.take m, x, y, t, by rw [← hd]; exact e.symm, by rw [List.length_take]; omega⟩
theorem splice_two (l : List Int) (m : Nat) (a b : Int) (h : m + 2 ≤ l.length) : splice l m [a, b] = (l.set m a).set (m + 1) b := by
  obtain ⟨pre, x, y, t, rfl, rfl⟩ := two_at l m h
  unfold splice
  simp [List.set_append_right, List.take_append, List.drop_append]
theorem sumAdd_splice (l : List Int) (m : Nat) (a b : Int) (h : m + 2 ≤ l.length) (hm : m % 2 = 0) : sumAdd (splice l m [a, b]) = sumAdd (l.take m) + (a * 256 + b) + sumAdd (l.drop (m + 2)) := by
  unfold splice
  rw [sumAdd_append _ _ (by rw [List.length_take]; omega)]
  rw [show m + [a, b].length = m + 2 from rfl]
  simp only [List.cons_append, List.nil_append, sumAdd]
  omega
theorem okBytes_splice (l : List Int) (m : Nat) (a b : Int) (h : okBytes l = true) (ha0 : 0 ≤ a) (ha1 : a ≤ 255) (hb0 : 0 ≤ b) (hb1 : b ≤ 255) : okBytes (splice l m [a, b]) = true := by
  unfold splice
  refine okBytes_append (okBytes_sub (fun x hx => List.mem_of_mem_take hx) h) (okBytes_cons ha0 ha1 (okBytes_cons hb0 hb1 (okBytes_sub (fun x hx => List.mem_of_mem_drop hx) h)))
/-- Where bytes are patched: at an even place with two bytes. -/
theorem patch_is {l : List Int} {m : Nat} (h : okBytes l = true) (hl : l.length < 140737488355328) (hm : m + 2 ≤ l.length) (hev : m % 2 = 0) {k : Nat} (hk : 20 ≤ k) :
    ∃ s, sum_Sum.f (splice l m [0, 0]) = some s ∧ 0 ≤ s ∧ s ≤ 65535 ∧ s = 65535 - sumFold (sumAdd (splice l m [0, 0])) ∧ sum_Patch.f k l (m : Int) = some (splice l m [s / 256, s % 256]) := by
  have ok0 := okBytes_splice l m 0 0 h (by omega) (by omega) (by omega) (by omega)
  have e := sum_is ok0 (by rw [length_splice _ _ _ (by simp; omega)]; exact hl)
  have bd := sumFold_bd _ (sumAdd_pos _ ok0)
  refine ⟨_, e, by omega, by omega, rfl, ?_⟩
  unfold sum_Patch.f
  have hodd : ¬ Go.bits .and .i64 (m : Int) 1 = 1 := by
    have : Go.bits .and .i64 (m : Int) 1 = (m : Int) % 2 := bits_mask .i64 63 (by decide) wraps_i64 1 (by decide) (m : Int) (by omega) (by show (m : Int) < 9223372036854775808; omega)
    rw [this]; omega
  rw [if_pos hl, if_neg (by omega), if_neg hodd, if_neg (by omega), Int.toNat_natCast, e]
  simp only [Option.bind_some]
  have b0 : 0 ≤ 65535 - sumFold (sumAdd (splice l m [0, 0])) := by omega
  have b1 : 65535 - sumFold (sumAdd (splice l m [0, 0])) ≤ 65535 := by omega
  generalize 65535 - sumFold (sumAdd (splice l m [0, 0])) = s at *
  rw [bits_Put_at hk (bits_Put_2 _)]
  simp only [Option.bind_some, List.length_cons, List.length_nil, if_true]
  rw [wu64 (by omega) (by omega), Int.ediv_one, Int.emod_eq_of_lt (a := s / 256) (by omega) (by omega)]
/-- What is patched is right. -/
theorem patch_right {l : List Int} {m : Nat} (h : okBytes l = true) (hl : l.length < 140737488355328) (hm : m + 2 ≤ l.length) (hev : m % 2 = 0) {s : Int} (hs : s = 65535 - sumFold (sumAdd (splice l m [0, 0]))) :
    sum_Sum.f (splice l m [s / 256, s % 256]) = some 0 := by
  have ok0 := okBytes_splice l m 0 0 h (by omega) (by omega) (by omega) (by omega)
  have bd := sumFold_bd _ (sumAdd_pos _ ok0)
  rw [sum_is (okBytes_splice l m _ _ h (by omega) (by omega) (by omega) (by omega)) (by rw [length_splice _ _ _ (by simp; omega)]; exact hl)]
  have p0 := sumAdd_pos _ ok0
  have e0 := sumAdd_splice l m 0 0 hm hev
  rw [sumAdd_splice l m _ _ hm hev]
  rw [e0] at hs p0 bd
  generalize sumAdd (l.take m) = x at *
  generalize sumAdd (l.drop (m + 2)) = y at *
  congr 1
  have : x + (s / 256 * 256 + s % 256) + y = (x + (0 * 256 + 0) + y) + s := by omega
  rw [this]
  generalize x + (0 * 256 + 0) + y = z at *
  unfold sumFold at *
  split at hs <;> rw [if_neg (by omega)] <;> omega
theorem ref_sum_loop (l : List Int) (hl : l.length ≤ 140737488351232) : ∀ (t pre : List Int) (n : Int), l = pre ++ t → okBytes t = true → 0 ≤ n → n ≤ 65535 → ∀ k, t.length < k → drawbridgeref15_Sum.l0 k l n (pre.length : Int) = some (65535 - sumFold (n + sumAdd t))
  | [], pre, n, e, _, h0, h1, k, hk => by
    obtain ⟨k, rfl⟩ : ∃ m, k = m + 1 := ⟨k - 1, by omega⟩
    simp only [drawbridgeref15_Sum.l0]
    rw [if_neg (by rw [e]; simp), w64 (by omega) (by omega)]
    simp only [sumAdd, Int.add_zero]
    unfold sumFold
    split <;> congr 1 <;> omega
  | [a], pre, n, e, hb, h0, h1, k, hk => by
    obtain ⟨k, rfl⟩ : ∃ m, k = m + 1 := ⟨k - 1, by omega⟩
    have ha := okBytes_at hb a (by simp)
    have hlen : l.length = pre.length + 1 := by rw [e]; simp
    have r0 : rd l (pre.length : Int) = a := by rw [e]; exact rd_append _ _ _ _ rfl
    simp only [drawbridgeref15_Sum.l0]
    rw [if_pos (by omega), if_pos (by omega), w64 (x := (pre.length : Int) + 1) (by omega) (by omega), if_neg (by omega), r0, w64 (x := a) (by omega) (by omega), w64 (x := 256 * a) (by omega) (by omega), w64 (x := n + 256 * a) (by omega) (by omega), w64 (x := (pre.length : Int) + 2) (by omega) (by omega)]
    obtain ⟨k, rfl⟩ : ∃ m, k = m + 1 := ⟨k - 1, by simp at hk; omega⟩
    by_cases h : n + 256 * a > 65535
    · rw [if_pos h, w64 (x := n + 256 * a - 65535) (by omega) (by omega)]
      simp only [drawbridgeref15_Sum.l0]
      rw [if_neg (by omega), w64 (by omega) (by omega)]
      simp only [sumAdd]
      unfold sumFold
      split <;> congr 1 <;> omega
    · rw [if_neg h]
      simp only [drawbridgeref15_Sum.l0]
      rw [if_neg (by omega), w64 (by omega) (by omega)]
      simp only [sumAdd]
      unfold sumFold
      split <;> congr 1 <;> omega
  | a :: b :: t, pre, n, e, hb, h0, h1, k, hk => by
    obtain ⟨k, rfl⟩ : ∃ m, k = m + 1 := ⟨k - 1, by omega⟩
    have ha := okBytes_at hb a (by simp)
    have hb' := okBytes_at hb b (by simp)
    have hbt : okBytes t = true := by simp only [okBytes, List.all_cons, Bool.and_eq_true] at hb ⊢; exact hb.2.2
    have hlen : l.length = pre.length + 2 + t.length := by rw [e]; simp; omega
    have r0 : rd l (pre.length : Int) = a := by rw [e]; exact rd_append _ _ _ _ rfl
    have r1 : rd l ((pre.length : Int) + 1) = b := by rw [e, show pre ++ a :: b :: t = (pre ++ [a]) ++ b :: t by simp]; exact rd_append _ _ _ _ (by simp)
    simp only [drawbridgeref15_Sum.l0]
    rw [if_pos (by omega), if_pos (by omega), w64 (x := (pre.length : Int) + 1) (by omega) (by omega), if_pos (by omega), if_pos (by omega), r0, r1, w64 (x := a) (by omega) (by omega), w64 (x := b) (by omega) (by omega), w64 (x := 256 * a) (by omega) (by omega), w64 (x := n + 256 * a) (by omega) (by omega), w64 (x := n + 256 * a + b) (by omega) (by omega), w64 (x := (pre.length : Int) + 2) (by omega) (by omega)]
    have hp : (pre.length : Int) + 2 = ((pre ++ [a, b]).length : Int) := by simp
    have pt := sumAdd_pos t hbt
    rw [hp]
    by_cases h : n + 256 * a + b > 65535
    · rw [if_pos h, w64 (x := n + 256 * a + b - 65535) (by omega) (by omega), ref_sum_loop l hl t (pre ++ [a, b]) _ (by rw [e]; simp) hbt (by omega) (by omega) k (by simp at hk; omega)]
      simp only [sumAdd]
      unfold sumFold
      rw [if_neg (by omega), if_neg (by omega)]
      congr 1; omega
    · rw [if_neg h, ref_sum_loop l hl t (pre ++ [a, b]) _ (by rw [e]; simp) hbt (by omega) (by omega) k (by simp at hk; omega)]
      simp only [sumAdd]
      rw [show n + 256 * a + b + sumAdd t = n + (a * 256 + b + sumAdd t) by omega]
theorem ref_sum_is {l : List Int} (h : okBytes l = true) (hl : l.length ≤ 140737488351232) {k : Nat} (hk : l.length < k) : drawbridgeref15_Sum.f k l = some (65535 - sumFold (sumAdd l)) := by
  have := ref_sum_loop l hl l [] 0 rfl h (by omega) (by omega) k hk
  simpa [drawbridgeref15_Sum.f] using this
end Go.Proofs.Ytchldakooabdbaa.Pure
