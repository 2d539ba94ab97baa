/- Plain facts on a packet written: that it is answered, and what the right ones are. Each states its own conditions. -/
import Derived.Test.YtlpjgmbbcibkjaaPureLoop
import Derived.Test.YtlpjgmbbcibkjaaPureSum
namespace Go.Proofs.Ytlpjgmbbcibkjaa.S
open Go Go.SL
set_option linter.unusedVariables false
set_option linter.unusedSimpArgs false
def InI (x : Int) : Prop := -9223372036854775808 ≤ x ∧ x < 9223372036854775808
theorem InI.of {x : Int} (h : InR .i64 x) : InI x := by
  unfold InR at h
  unfold InI
  simp only [IntKind.wrap, IntKind.bits, IntKind.signed] at h
  simp at h
  omega
theorem shr13 (x : Int) : ishr .i64 x 13 = x / 8192 := by unfold ishr; rw [show (2 : Int) ^ min (13 : Int).toNat IntKind.i64.bits = 8192 by decide]
theorem shr3 (x : Int) : ishr .i64 x 3 = x / 8 := by unfold ishr; rw [show (2 : Int) ^ min (3 : Int).toNat IntKind.i64.bits = 8 by decide]
/-- A packet that may be. -/
def IR (p : TIp) : Prop := (ishr .i64 p.Tos 8 = 0 ∧ ishr .i64 p.Ttl 8 = 0 ∧ ishr .i64 p.Proto 8 = 0) ∧ ishr .i64 p.Id 16 = 0 ∧ ishr .i64 p.Flags 3 = 0 ∧ ishr .i64 p.Off 13 = 0 ∧ p.Options.length ≤ 40 ∧ bits .and .i64 (p.Options.length : Int) 3 = 0 ∧ (p.Data.length : Int) ≤ 65515 - p.Options.length
instance (p : TIp) : Decidable (IR p) := inferInstanceAs (Decidable (_ ∧ _))
theorem any3 (t u v : Int) : slices_ContainsFunc_s_int_int_at_ip_right_1.f [t, u, v] = some (decide (¬ (ishr .i64 t 8 = 0 ∧ ishr .i64 u 8 = 0 ∧ ishr .i64 v 8 = 0))) := by
  unfold slices_ContainsFunc_s_int_int_at_ip_right_1.f slices_IndexFunc_s_int_int_at_ip_right_1.f
  obtain ⟨k, hk, h1, h2, hlp⟩ := find_run (B := fun s1 : Int => (if decide (s1 < (([t, u, v] : List Int).length : Int)) = true then (idx [t, u, v] s1).bind fun x1 => (ip_right_1.f x1).bind fun r1 => (if r1 = true then some (.inr (.inr (s1))) else some (.inl (IntKind.i64.wrap (s1 + 1)))) else some (.inr (.inl (())))))
    (fun i => if h : i < ([t, u, v] : List Int).length then !decide (ishr .i64 [t, u, v][i] 8 = 0) else false) ([t, u, v] : List Int).length (fun i => (i : Int)) (fun i => if i < ([t, u, v] : List Int).length then (.inr (i : Int) : Unit ⊕ Int) else .inl ())
    (fun i hi hf => by
      rw [dif_pos hi] at hf
      have c : ((i : Int) < (([t, u, v] : List Int).length : Int)) := by omega
      simp only [c, decide_true, if_true, ix [t, u, v] i hi, Option.bind_some, ip_right_1.f, lt, hf, Bool.false_eq_true, if_false]
      rw [stepw hi (by simp)])
    (fun i hi hf => by
      rw [dif_pos hi] at hf
      have c : ((i : Int) < (([t, u, v] : List Int).length : Int)) := by omega
      simp only [c, decide_true, if_true, ix [t, u, v] i hi, Option.bind_some, ip_right_1.f, lt, hf]
      rw [if_pos hi])
    (by simp)
  rw [show loop _ (0 : Int) = _ from hlp, Option.bind_some]
  have e : ([t, u, v] : List Int).length = 3 := rfl
  rw [e] at hk ⊢
  have f0 := h1 0
  have f1 := h1 1
  have f2 := h1 2
  simp at f0 f1 f2
  by_cases c : k < 3
  · rw [if_pos c]
    simp only [Sum.elim_inr, Option.bind_some, lt]
    have c0 : (0 : Int) ≤ (k : Int) := by omega
    simp only [c0, decide_true]
    have h3 := h2 (by rw [e]; exact c)
    have : ¬ (ishr .i64 t 8 = 0 ∧ ishr .i64 u 8 = 0 ∧ ishr .i64 v 8 = 0) := by
      rintro ⟨a, b, d⟩
      have hk3 : k = 0 ∨ k = 1 ∨ k = 2 := by omega
      rcases hk3 with rfl | rfl | rfl <;> simp [a, b, d] at h3
    simp only [this, not_false_eq_true, decide_true]
  · rw [if_neg c]
    have hk3 : k = 3 := by omega
    subst hk3
    have a := f0 (by omega)
    have b := f1 (by omega)
    have d := f2 (by omega)
    simp only [Sum.elim_inl, Option.bind_some, lt, a, b, d, and_self, not_true, decide_false]
    rfl
theorem ipright_is (p : TIp) (hl : p.Options.length ≤ 9223372036854775807) : ip_right.f p = some (decide (IR p)) := by
  unfold ip_right.f IR lt
  rw [any3, Option.bind_some]
  rw [i64w (by omega) (by omega)]
  by_cases c0 : ishr .i64 p.Tos 8 = 0 ∧ ishr .i64 p.Ttl 8 = 0 ∧ ishr .i64 p.Proto 8 = 0
  · by_cases c1 : ishr .i64 p.Id 16 = 0
    · by_cases c2 : ishr .i64 p.Flags 3 = 0
      · by_cases c3 : ishr .i64 p.Off 13 = 0
        · by_cases c4 : (p.Options.length : Int) ≤ 40
          · have c4' : p.Options.length ≤ 40 := by omega
            by_cases c5 : bits .and .i64 (p.Options.length : Int) 3 = 0
            · simp [c0, c1, c2, c3, c4, c4', c5]
            · simp [c0, c1, c2, c3, c4, c4', c5]
          · have c4' : ¬ p.Options.length ≤ 40 := by omega
            simp [c0, c1, c2, c3, c4, c4']
        · simp [c0, c1, c2, c3]
      · simp [c0, c1, c2]
    · simp [c0, c1]
  · simp [c0]
theorem cloneB (l : List Int) (h : l.length ≤ 68719476736) : slices_Clone_s_byte_byte.f l = some l := by
  unfold slices_Clone_s_byte_byte.f
  rw [app_k _ _ (by simp; omega)]; rfl
theorem patch_ok (b : List Int) (hb : Byt b) (h1 : 12 ≤ b.length) (h2 : b.length ≤ 100000) : ∃ r, sum_Patch.f b 10 = some r ∧ r.length = b.length := by
  unfold sum_Patch.f
  rw [cloneB _ (by omega), Option.bind_some]
  have c1 : ¬ ((10 : Int) < 0) := by omega
  have c2 : ¬ (bits .and .i64 10 1 = 1) := by decide
  have c3 : ¬ (IntKind.i64.wrap ((b.length : Int) - 2) < 10) := by rw [i64w (by omega) (by omega)]; omega
  have e12 : IntKind.i64.wrap (10 + 2) = 12 := by decide
  simp only [c1, c2, c3, decide_false, Bool.false_eq_true, if_false, Option.bind_some, e12]
  rw [if_pos ⟨by omega, by omega, by omega⟩]
  simp only [lt]
  have hsl : (Go.splice b (10 : Int).toNat (List.replicate ((12 : Int).toNat - (10 : Int).toNat) (0 : Int))).length = b.length := by
    rw [length_splice _ _ _ (by simp; omega)]
  have hsb : Byt (Go.splice b (10 : Int).toNat (List.replicate ((12 : Int).toNat - (10 : Int).toNat) (0 : Int))) := fun x hx => by
    unfold Go.splice at hx
    simp only [List.mem_append] at hx
    rcases hx with hx | hx | hx
    · exact hb x (List.mem_of_mem_take hx)
    · have := (List.mem_replicate.1 hx).2; omega
    · exact hb x (List.mem_of_mem_drop hx)
  rw [if_pos ⟨by omega, by omega, by omega⟩, sum_is hsb (by omega), Option.bind_some, put2, Option.bind_some]
  refine ⟨_, rfl, ?_⟩
  unfold ovr
  rw [length_splice _ _ _ (by rw [hsl]; simp; omega), hsl]
theorem num1 (x : Int) : ∃ l, ip_Put_1.f x 1 = some l ∧ l.length = 1 ∧ Byt l := by
  unfold ip_Put_1.f
  rw [put1]
  exact ⟨_, rfl, rfl, fun z hz => by simp at hz; omega⟩
theorem num2 (x : Int) : ∃ l, ip_Put_1.f x 2 = some l ∧ l.length = 2 ∧ Byt l := by
  unfold ip_Put_1.f
  rw [put2]
  exact ⟨_, rfl, rfl, fun z hz => by simp at hz; omega⟩
theorem num4 (x : Int) : ∃ l, ip_Put_1.f x 4 = some l ∧ l.length = 4 ∧ Byt l := by
  unfold ip_Put_1.f
  rw [put4]
  exact ⟨_, rfl, rfl, fun z hz => by simp at hz; omega⟩
theorem ipput_is (p : TIp) (hl : p.Options.length ≤ 9223372036854775807) (hb : Byt p.Options) : ∃ b c, ip_Put.f p = some (b, c) ∧ (c = 0 ↔ IR p) := by
  unfold ip_Put.f
  rw [ipright_is p hl, Option.bind_some]
  by_cases c : IR p
  · have h40 := c.2.2.2.2.1
    have hd := c.2.2.2.2.2.2
    simp only [c, decide_true, Bool.not_true, Bool.false_eq_true, if_false, lt]
    obtain ⟨l1, e1, n1, b1⟩ := num1 (bits .or .i64 64 (IntKind.i64.wrap (Int.tdiv (IntKind.i64.wrap (20 + (p.Options.length : Int))) 4)))
    obtain ⟨l2, e2, n2, b2⟩ := num1 p.Tos
    obtain ⟨l3, e3, n3, b3⟩ := num2 (IntKind.i64.wrap (IntKind.i64.wrap (20 + (p.Options.length : Int)) + (p.Data.length : Int)))
    obtain ⟨l4, e4, n4, b4⟩ := num2 p.Id
    obtain ⟨l5, e5, n5, b5⟩ := num2 (bits .or .i64 (ishl .i64 p.Flags 13) p.Off)
    obtain ⟨l6, e6, n6, b6⟩ := num1 p.Ttl
    obtain ⟨l7, e7, n7, b7⟩ := num1 p.Proto
    obtain ⟨l8, e8, n8, b8⟩ := num2 0
    obtain ⟨l9, e9, n9, b9⟩ := num4 p.Src
    obtain ⟨l10, e10, n10, b10⟩ := num4 p.Dst
    have hfl : [l1, l2, l3, l4, l5, l6, l7, l8, l9, l10, p.Options].flatten.length = 20 + p.Options.length := by simp [n1, n2, n3, n4, n5, n6, n7, n8, n9, n10]; omega
    have hall : ∀ l ∈ [l1, l2, l3, l4, l5, l6, l7, l8, l9, l10, p.Options], Byt l := fun l hm => by
      simp only [List.mem_cons, List.not_mem_nil, or_false] at hm
      rcases hm with rfl | rfl | rfl | rfl | rfl | rfl | rfl | rfl | rfl | rfl | rfl <;> assumption
    have hbl : Byt [l1, l2, l3, l4, l5, l6, l7, l8, l9, l10, p.Options].flatten := fun x hx => by
      obtain ⟨l, hm, hx⟩ := List.mem_flatten.1 hx
      exact hall l hm x hx
    obtain ⟨r, hr, hrl⟩ := patch_ok _ hbl (by omega) (by omega)
    rw [e1, Option.bind_some, e2, Option.bind_some, e3, Option.bind_some, e4, Option.bind_some, e5, Option.bind_some, e6, Option.bind_some, e7, Option.bind_some, e8, Option.bind_some, e9, Option.bind_some, e10, Option.bind_some, concat_is _ (by omega) (by simp), Option.bind_some, hr, Option.bind_some, app_k _ _ (by omega), Option.bind_some]
    exact ⟨_, _, rfl, by simp⟩
  · simp only [c, decide_false, Bool.not_false, if_true]
    exact ⟨_, _, rfl, by simp⟩
end Go.Proofs.Ytlpjgmbbcibkjaa.S
