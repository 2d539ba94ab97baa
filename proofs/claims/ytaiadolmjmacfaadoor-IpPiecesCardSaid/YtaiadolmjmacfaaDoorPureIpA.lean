/- Plain facts for layer 17: rounds that look for one, rows put together, which packets may be. Each states its own conditions. -/
import Derived.Test.YtaiadolmjmacfaaDoorPureNet
namespace Go.Proofs.YtaiadolmjmacfaaDoor.S
open Go Go.SL
set_option linter.unusedVariables false
set_option linter.unusedSimpArgs false
theorem find_run {σ ρ : Type} {B : σ → Option (σ ⊕ ρ)} (f : Nat → Bool) (n : Nat) (st : Nat → σ) (out : Nat → ρ) (h1 : ∀ i, i < n → f i = false → B (st i) = some (.inl (st (i + 1)))) (h2 : ∀ i, i < n → f i = true → B (st i) = some (.inr (out i))) (h3 : B (st n) = some (.inr (out n))) :
    ∃ k, k ≤ n ∧ (∀ i, i < k → f i = false) ∧ (k < n → f k = true) ∧ loop B (st 0) = some (out k) := by
  have key : ∀ m i, i + m = n → ∃ k, i ≤ k ∧ k ≤ n ∧ (∀ j, i ≤ j → j < k → f j = false) ∧ (k < n → f k = true) ∧ loop B (st i) = some (out k) := by
    intro m
    induction m with
    | zero =>
      intro i hi
      have e : i = n := by omega
      subst e
      exact ⟨i, Nat.le_refl _, Nat.le_refl _, fun j a b => by omega, fun h => by omega, loop_out h3⟩
    | succ m ih =>
      intro i hi
      cases c : f i with
      | true => exact ⟨i, Nat.le_refl _, by omega, fun j a b => by omega, fun _ => c, loop_out (h2 i (by omega) c)⟩
      | false =>
        obtain ⟨k, a, b, d, e, g⟩ := ih (i + 1) (by omega)
        refine ⟨k, by omega, b, fun j q1 q2 => ?_, e, by rw [loop_in (h1 i (by omega) c)]; exact g⟩
        by_cases hj : j = i
        · rw [hj]; exact c
        · exact d j (by omega) q2
  obtain ⟨k, _, b, d, e, g⟩ := key n 0 (by omega)
  exact ⟨k, b, fun i hi => d i (by omega) hi, e, g⟩
theorem ix {α : Type} (l : List α) (i : Nat) (h : i < l.length) : idx l (i : Int) = some l[i] := by
  unfold idx
  simp [h]
theorem app_k {α : Type} (a b : List α) (h : a.length + b.length ≤ 68719476736) : app a b = some (a ++ b) := if_pos h
theorem stepw {i n : Nat} (h : i < n) (hn : n ≤ 4611686018427387904) : IntKind.i64.wrap ((i : Int) + 1) = ((i + 1 : Nat) : Int) := by rw [i64w (by omega) (by omega)]; rfl
def InI (x : Int) : Prop := -9223372036854775808 ≤ x ∧ x < 9223372036854775808
theorem InI.of {x : Int} (h : InR .i64 x) : InI x := by
  unfold InR at h
  unfold InI
  simp only [IntKind.wrap, IntKind.bits, IntKind.signed] at h
  simp at h
  omega
theorem shr13 (x : Int) : ishr .i64 x 13 = x / 8192 := by unfold ishr; rw [show (2 : Int) ^ min (13 : Int).toNat IntKind.i64.bits = 8192 by decide]
theorem shr3 (x : Int) : ishr .i64 x 3 = x / 8 := by unfold ishr; rw [show (2 : Int) ^ min (3 : Int).toNat IntKind.i64.bits = 8 by decide]
/-- A packet that may be. -/
def IR (p : TIp) : Prop := (ishr .i64 p.Tos 8 = 0 ∧ ishr .i64 p.Ttl 8 = 0 ∧ ishr .i64 p.Proto 8 = 0) ∧ ishr .i64 p.Id 16 = 0 ∧ ishr .i64 p.Flags 3 = 0 ∧ ishr .i64 p.Off 13 = 0 ∧ p.Options.length ≤ 40 ∧ bits .and .i64 (p.Options.length : Int) 3 = 0 ∧ (p.Data.length : Int) ≤ 65515 - p.Options.length
instance (p : TIp) : Decidable (IR p) := inferInstanceAs (Decidable (_ ∧ _))
theorem any3 (t u v : Int) : slices_ContainsFunc_s_int_int_at_ip_right_1.f [t, u, v] = some (decide (¬ (ishr .i64 t 8 = 0 ∧ ishr .i64 u 8 = 0 ∧ ishr .i64 v 8 = 0))) := by
  unfold slices_ContainsFunc_s_int_int_at_ip_right_1.f slices_IndexFunc_s_int_int_at_ip_right_1.f
  obtain ⟨k, hk, h1, h2, hlp⟩ := find_run (B := fun s1 : Int => (if decide (s1 < (([t, u, v] : List Int).length : Int)) = true then (idx [t, u, v] s1).bind fun x1 => (ip_right_1.f x1).bind fun r1 => (if r1 = true then some (.inr (.inr (s1))) else some (.inl (IntKind.i64.wrap (s1 + 1)))) else some (.inr (.inl (())))))
    (fun i => if h : i < ([t, u, v] : List Int).length then !decide (ishr .i64 [t, u, v][i] 8 = 0) else false) ([t, u, v] : List Int).length (fun i => (i : Int)) (fun i => if i < ([t, u, v] : List Int).length then (.inr (i : Int) : Unit ⊕ Int) else .inl ())
    (fun i hi hf => by
      rw [dif_pos hi] at hf
      have c : ((i : Int) < (([t, u, v] : List Int).length : Int)) := by omega
      simp only [c, decide_true, if_true, ix [t, u, v] i hi, Option.bind_some, ip_right_1.f, lt, hf, Bool.false_eq_true, if_false]
      rw [stepw hi (by simp)])
    (fun i hi hf => by
      rw [dif_pos hi] at hf
      have c : ((i : Int) < (([t, u, v] : List Int).length : Int)) := by omega
      simp only [c, decide_true, if_true, ix [t, u, v] i hi, Option.bind_some, ip_right_1.f, lt, hf]
      rw [if_pos hi])
    (by simp)
  rw [show loop _ (0 : Int) = _ from hlp, Option.bind_some]
  have e : ([t, u, v] : List Int).length = 3 := rfl
  rw [e] at hk ⊢
  have f0 := h1 0
  have f1 := h1 1
  have f2 := h1 2
  simp at f0 f1 f2
  by_cases c : k < 3
  · rw [if_pos c]
    simp only [Sum.elim_inr, Option.bind_some, lt]
    have c0 : (0 : Int) ≤ (k : Int) := by omega
    simp only [c0, decide_true]
    have h3 := h2 (by rw [e]; exact c)
    have : ¬ (ishr .i64 t 8 = 0 ∧ ishr .i64 u 8 = 0 ∧ ishr .i64 v 8 = 0) := by
      rintro ⟨a, b, d⟩
      have hk3 : k = 0 ∨ k = 1 ∨ k = 2 := by omega
      rcases hk3 with rfl | rfl | rfl <;> simp [a, b, d] at h3
    simp only [this, not_false_eq_true, decide_true]
  · rw [if_neg c]
    have hk3 : k = 3 := by omega
    subst hk3
    have a := f0 (by omega)
    have b := f1 (by omega)
    have d := f2 (by omega)
    simp only [Sum.elim_inl, Option.bind_some, lt, a, b, d, and_self, not_true, decide_false]
    rfl
theorem ipright_is (p : TIp) (hl : p.Options.length ≤ 9223372036854775807) : ip_right.f p = some (decide (IR p)) := by
  unfold ip_right.f IR lt
  rw [any3, Option.bind_some]
  rw [i64w (by omega) (by omega)]
  by_cases c0 : ishr .i64 p.Tos 8 = 0 ∧ ishr .i64 p.Ttl 8 = 0 ∧ ishr .i64 p.Proto 8 = 0
  · by_cases c1 : ishr .i64 p.Id 16 = 0
    · by_cases c2 : ishr .i64 p.Flags 3 = 0
      · by_cases c3 : ishr .i64 p.Off 13 = 0
        · by_cases c4 : (p.Options.length : Int) ≤ 40
          · have c4' : p.Options.length ≤ 40 := by omega
            by_cases c5 : bits .and .i64 (p.Options.length : Int) 3 = 0
            · simp [c0, c1, c2, c3, c4, c4', c5]
            · simp [c0, c1, c2, c3, c4, c4', c5]
          · have c4' : ¬ p.Options.length ≤ 40 := by omega
            simp [c0, c1, c2, c3, c4, c4']
        · simp [c0, c1, c2, c3]
      · simp [c0, c1, c2]
    · simp [c0, c1]
  · simp [c0]
theorem cloneB (l : List Int) (h : l.length ≤ 68719476736) : slices_Clone_s_byte_byte.f l = some l := by
  unfold slices_Clone_s_byte_byte.f
  rw [app_k _ _ (by simp; omega)]; rfl
end Go.Proofs.YtaiadolmjmacfaaDoor.S
