/- More plain facts on messages about addresses; each states its own conditions. -/
import Derived.Test.YtplkiompmjhdlaaPureEther
namespace Go.Proofs.Ytplkiompmjhdlaa.S
open Go Go.SL
set_option linter.unusedVariables false
set_option linter.unusedSimpArgs false
def aOk (a : TArp) : Prop := a.Smac.length = 6 ∧ a.Tmac.length = 6 ∧ (a.Op = 1 ∨ a.Op = 2)
instance (a : TArp) : Decidable (aOk a) := inferInstanceAs (Decidable (_ ∧ _))
def apB (a : TArp) : List Int := [0, 1, 8, 0, 6, 4, 0, a.Op] ++ (a.Smac ++ (by4 a.Sip ++ (a.Tmac ++ by4 a.Tip)))
theorem apB_len (a : TArp) (h : aOk a) : (apB a).length = 28 := by simp [apB, by4, h.1, h.2.1]
theorem putArp_no (a : TArp) (h : ¬ aOk a) : ether_PutArp.f a = some ([], 2) ∧ ref16_PutArp.f a = some ([], 2) := by
  unfold ether_PutArp.f ref16_PutArp.f
  by_cases c1 : (a.Smac.length : Int) = 6
  · by_cases c2 : (a.Tmac.length : Int) = 6
    · have c3 : ¬ (a.Op = 1 ∨ a.Op = 2) := fun e => h ⟨by omega, by omega, e⟩
      by_cases c4 : a.Op < 1
      · have c5 : ¬ a.Op = 1 := by omega
        have c6 : ¬ a.Op = 2 := by omega
        simp [c1, c2, c4, c5, c6]
      · have c5 : ¬ a.Op = 1 := by omega
        have c6 : ¬ a.Op = 2 := by omega
        have c7 : 2 < a.Op := by omega
        simp [c1, c2, c4, c5, c6, c7]
    · simp [c1, c2]
  · simp [c1]
theorem putArp_is (a : TArp) (h : aOk a) : ether_PutArp.f a = some (apB a, 0) ∧ ref16_PutArp.f a = some (apB a, 0) := by
  obtain ⟨h1, h2, h3⟩ := h
  have c1 : (a.Smac.length : Int) = 6 := by omega
  have c2 : (a.Tmac.length : Int) = 6 := by omega
  have c3 : ¬ a.Op < 1 := by omega
  have c4 : ¬ 2 < a.Op := by omega
  have c5 : IntKind.u8.wrap a.Op = a.Op := by rw [u8w]; omega
  constructor
  · unfold ether_PutArp.f ether_lead.f
    simp only [c1, c2, c3, c4, decide_true, decide_false, Bool.not_true, Bool.false_eq_true, if_false, Option.bind_some, put4, c5]
    rw [concat_is _ (by simp [h1, h2]) (by simp)]
    simp [apB, by4]
  · unfold ref16_PutArp.f ref16_number.f
    have e : (if (!decide (a.Op = 1)) = true then some (!decide (a.Op = 2)) else some false : Option Bool) = some false := by
      rcases h3 with h3 | h3 <;> rw [h3] <;> rfl
    simp only [c1, c2, decide_true, Bool.not_true, Bool.false_eq_true, if_false, e, Option.bind_some, rput4, c5]
    rw [app_ok _ _ (by simp; omega), Option.bind_some, app_ok _ _ (by simp; omega), Option.bind_some, app_ok _ _ (by simp; omega), Option.bind_some, app_ok _ _ (by simp; omega), Option.bind_some]
    simp [apB, by4]
/-- What is read as a message. -/
def arOf (b : List Int) (op sip tip : Int) : TArp := ⟨op, (b.drop 8).take 6, sip, (b.drop 18).take 6, tip⟩
theorem prefix_is (b l : List Int) (h : l.length ≤ b.length) : bytes_HasPrefix.f b l = some (decide (b.take l.length = l)) := by
  unfold bytes_HasPrefix.f
  have c : (l.length : Int) ≤ b.length := by omega
  simp only [c, decide_true, if_true]
  rw [cut_take _ _ (by omega) (by omega), Option.bind_some]
  unfold bytes_Equal.f
  simp [lt]
/-- Four bytes as a number, and back. -/
theorem by4_of {p q r s : Int} (hp : 0 ≤ p ∧ p < 256) (hq : 0 ≤ q ∧ q < 256) (hr : 0 ≤ r ∧ r < 256) (hs : 0 ≤ s ∧ s < 256) : by4 (p * 16777216 + q * 65536 + r * 256 + s) = [p, q, r, s] := by
  simp only [by4, List.cons.injEq, and_true]
  omega
theorem getArp_short (b : List Int) (h : b.length < 28) : ether_GetArp.f b = some (⟨0, [], 0, [], 0⟩, 160) ∧ ref16_GetArp.f b = some (⟨0, [], 0, [], 0⟩, 160) := by
  have c : (b.length : Int) < 28 := by omega
  constructor
  · unfold ether_GetArp.f
    rw [beside_is, if_pos c, Option.bind_some, if_pos (by simp), errno_short]; rfl
  · unfold ref16_GetArp.f
    rw [if_pos (by simpa using c)]
theorem getArp_is (b : List Int) (hb : Byt b) (h : 28 ≤ b.length) (hl : b.length ≤ 100000) : ∃ b0 b1 b2 b3 b4 b5 b6 b7 sip tip, b.take 28 = [b0, b1, b2, b3, b4, b5, b6, b7] ++ ((b.drop 8).take 6 ++ (by4 sip ++ ((b.drop 18).take 6 ++ by4 tip))) ∧ (0 ≤ sip ∧ sip < 4294967296) ∧ (0 ≤ tip ∧ tip < 4294967296) ∧
    ether_GetArp.f b = some (if [b0, b1, b2, b3, b4, b5, b6] = [0, 1, 8, 0, 6, 4, 0] ∧ (b7 = 1 ∨ b7 = 2) then (arOf b b7 sip tip, 0) else (⟨0, [], 0, [], 0⟩, 161)) ∧
    ref16_GetArp.f b = some (if [b0, b1, b2, b3, b4, b5, b6] = [0, 1, 8, 0, 6, 4, 0] ∧ (b7 = 1 ∨ b7 = 2) then (arOf b b7 sip tip, 0) else (⟨0, [], 0, [], 0⟩, 161)) := by
  obtain ⟨b0, b1, b2, b3, d0, hb0, hb1, hb2, hb3⟩ := drop4 b hb 0 (by omega)
  obtain ⟨b4, b5, b6, b7, d4, hb4, hb5, hb6, hb7⟩ := drop4 b hb 4 (by omega)
  obtain ⟨p, q, r, s, d14, hp, hq, hr, hs⟩ := drop4 b hb 14 (by omega)
  obtain ⟨p', q', r', s', d24, hp', hq', hr', hs'⟩ := drop4 b hb 24 (by omega)
  rw [List.drop_zero] at d0
  have hbe : b = [b0, b1, b2, b3, b4, b5, b6, b7] ++ b.drop 8 := by
    have e : b.drop 4 = b4 :: b5 :: b6 :: b7 :: b.drop 8 := d4
    calc b = b0 :: b1 :: b2 :: b3 :: b.drop 4 := d0
      _ = _ := by rw [e]; rfl
  have hd8 : ∀ n, b.drop (8 + n) = (b.drop 8).drop n := fun n => by rw [List.drop_drop]
  have t28 : b.take 28 = [b0, b1, b2, b3, b4, b5, b6, b7] ++ ((b.drop 8).take 6 ++ (by4 (p * 16777216 + q * 65536 + r * 256 + s) ++ ((b.drop 18).take 6 ++ by4 (p' * 16777216 + q' * 65536 + r' * 256 + s')))) := by
    rw [by4_of hp hq hr hs, by4_of hp' hq' hr' hs']
    have e1 : b.take 28 = b.take 8 ++ (b.drop 8).take 20 := by rw [← List.take_add]
    have e2 : (b.drop 8).take 20 = (b.drop 8).take 6 ++ (b.drop 14).take 14 := by
      rw [show (20 : Nat) = 6 + 14 from rfl, List.take_add, List.drop_drop]
    have e3 : (b.drop 14).take 14 = (b.drop 14).take 4 ++ (b.drop 18).take 10 := by
      rw [show (14 : Nat) = 4 + 10 from rfl, List.take_add, List.drop_drop]
    have e4 : (b.drop 18).take 10 = (b.drop 18).take 6 ++ (b.drop 24).take 4 := by
      rw [show (10 : Nat) = 6 + 4 from rfl, List.take_add, List.drop_drop]
    have e5 : b.take 8 = [b0, b1, b2, b3, b4, b5, b6, b7] := by
      rw [hbe, List.take_append_of_le_length (by simp)]; rfl
    rw [e1, e2, e3, e4, e5, d14, d24]; rfl
  refine ⟨b0, b1, b2, b3, b4, b5, b6, b7, p * 16777216 + q * 65536 + r * 256 + s, p' * 16777216 + q' * 65536 + r' * 256 + s', t28, by omega, by omega, ?_, ?_⟩
  · unfold ether_GetArp.f ether_lead.f
    rw [beside_is, if_neg (by omega), if_neg (by omega), Option.bind_some, if_neg (by simp), Option.bind_some, prefix_is _ _ (by simp; omega), Option.bind_some]
    have e7 : b.take ([0, 1, 8, 0, 6, 4, 0] : List Int).length = [b0, b1, b2, b3, b4, b5, b6] := by
      rw [hbe, List.take_append_of_le_length (by simp)]; rfl
    have x7 : idx b 7 = some b7 := by rw [hbe]; rfl
    rw [e7, x7]
    by_cases c1 : [b0, b1, b2, b3, b4, b5, b6] = [0, 1, 8, 0, 6, 4, 0]
    · simp only [c1, decide_true, Bool.not_true, Bool.false_eq_true, if_false, Option.bind_some, true_and]
      by_cases c2 : b7 = 1 ∨ b7 = 2
      · have c3 : ¬ b7 < 1 := by omega
        have c4 : ¬ 2 < b7 := by omega
        simp only [c2, c3, c4, decide_false, Bool.false_eq_true, if_false, Option.bind_some, if_true]
        rw [cut_to_end _ _ (by omega) (by omega), Option.bind_some, show (8 : Int).toNat = 8 from rfl, take_is _ 6 (by omega) (by simp; omega) (by simp; omega), Option.bind_some]
        simp only [show (6 : Int).toNat = 6 from rfl, List.drop_drop]
        rw [num4_is _ p q r s _ d14 hp hq hr hs (by simp; omega), Option.bind_some]
        simp only []
        rw [take_is _ 6 (by omega) (by simp; omega) (by simp; omega), Option.bind_some]
        simp only [show (6 : Int).toNat = 6 from rfl, List.drop_drop]
        rw [num4_is _ p' q' r' s' _ d24 hp' hq' hr' hs' (by simp; omega), Option.bind_some]
        simp only [u32w']
        rw [show (p * 16777216 + q * 65536 + r * 256 + s) % 4294967296 = p * 16777216 + q * 65536 + r * 256 + s by omega, show (p' * 16777216 + q' * 65536 + r' * 256 + s') % 4294967296 = p' * 16777216 + q' * 65536 + r' * 256 + s' by omega]
        rfl
      · by_cases c3 : b7 < 1
        · simp [c2, c3]
        · have c4 : 2 < b7 := by omega
          simp [c2, c3, c4]
    · simp [c1]
  · unfold ref16_GetArp.f ref16_own.f
    have k6 : cut b 6 8 = some [b6, b7] := by
      have := cut_at [b0, b1, b2, b3, b4, b5] [b6, b7] (b.drop 8) 6 8 rfl rfl
      rw [← this]; congr 1
    have k8 : cut b 8 14 = some ((b.drop 8).take 6) := by unfold cut; rw [if_pos ⟨by omega, by omega, by omega⟩, show (14 : Int).toNat = 14 from rfl, show (8 : Int).toNat = 8 from rfl, List.drop_take]
    have k14 : cut b 14 18 = some [p, q, r, s] := by unfold cut; rw [if_pos ⟨by omega, by omega, by omega⟩, show (18 : Int).toNat = 18 from rfl, show (14 : Int).toNat = 14 from rfl, List.drop_take, d14]; rfl
    have k18 : cut b 18 24 = some ((b.drop 18).take 6) := by unfold cut; rw [if_pos ⟨by omega, by omega, by omega⟩, show (24 : Int).toNat = 24 from rfl, show (18 : Int).toNat = 18 from rfl, List.drop_take]
    have k24 : cut b 24 28 = some [p', q', r', s'] := by unfold cut; rw [if_pos ⟨by omega, by omega, by omega⟩, show (28 : Int).toNat = 28 from rfl, show (24 : Int).toNat = 24 from rfl, List.drop_take, d24]; rfl
    have k0 : cut b 0 28 = some (b.take 28) := cut_take _ _ (by omega) (by omega)
    rw [if_neg (by simp; omega), k6, k8, k14, k18, k24, k0]
    simp only [Option.bind_some, rget2 hb6 hb7, rget4 hp hq hr hs, rget4 hp' hq' hr' hs']
    rw [app1_ok _ _ (by simp; omega), app1_ok _ _ (by simp; omega)]
    simp only [Option.bind_some, List.nil_append]
    rw [i64w (by omega) (by omega), u32w', u32w', show (p * 16777216 + q * 65536 + r * 256 + s) % 4294967296 = p * 16777216 + q * 65536 + r * 256 + s by omega, show (p' * 16777216 + q' * 65536 + r' * 256 + s') % 4294967296 = p' * 16777216 + q' * 65536 + r' * 256 + s' by omega]
    have l8 : ((b.drop 8).take 6).length = 6 := by rw [List.length_take, List.length_drop]; omega
    have l18 : ((b.drop 18).take 6).length = 6 := by rw [List.length_take, List.length_drop]; omega
    by_cases c2 : b6 * 256 + b7 = 1 ∨ b6 * 256 + b7 = 2
    · have hok : aOk ⟨b6 * 256 + b7, (b.drop 8).take 6, p * 16777216 + q * 65536 + r * 256 + s, (b.drop 18).take 6, p' * 16777216 + q' * 65536 + r' * 256 + s'⟩ := ⟨l8, l18, c2⟩
      rw [(putArp_is _ hok).2]
      have z6 : b6 = 0 := by omega
      have c3 : b7 = 1 ∨ b7 = 2 := by omega
      subst z6
      simp only [Option.bind_some, decide_true, Bool.not_true, Bool.false_eq_true, if_false, rsame, c3, and_true]
      have heq : (apB ⟨0 * 256 + b7, (b.drop 8).take 6, p * 16777216 + q * 65536 + r * 256 + s, (b.drop 18).take 6, p' * 16777216 + q' * 65536 + r' * 256 + s'⟩ = b.take 28) ↔ [b0, b1, b2, b3, b4, b5, 0] = [0, 1, 8, 0, 6, 4, 0] := by
        rw [t28]
        unfold apB
        simp only [Int.zero_mul, Int.zero_add, List.cons_append, List.nil_append, List.cons.injEq, and_true]
        constructor
        · rintro ⟨h0, h1, h2, h3, h4, h5⟩
          exact ⟨h0.symm, h1.symm, h2.symm, h3.symm, h4.symm, h5.symm⟩
        · rintro ⟨h0, h1, h2, h3, h4, h5⟩
          exact ⟨h0.symm, h1.symm, h2.symm, h3.symm, h4.symm, h5.symm⟩
      by_cases c1 : [b0, b1, b2, b3, b4, b5, 0] = [0, 1, 8, 0, 6, 4, 0]
      · have := heq.2 c1
        simp only [this, c1, decide_true, Bool.not_true, Bool.false_eq_true, if_false, if_true]
        congr 2
        unfold arOf
        congr 1
        omega
      · have : ¬ apB ⟨0 * 256 + b7, (b.drop 8).take 6, p * 16777216 + q * 65536 + r * 256 + s, (b.drop 18).take 6, p' * 16777216 + q' * 65536 + r' * 256 + s'⟩ = b.take 28 := fun e => c1 (heq.1 e)
        simp only [this, c1, decide_false, Bool.not_false, if_true, if_false]
    · rw [(putArp_no _ (fun e => c2 e.2.2)).2]
      have hn : ¬ ([b0, b1, b2, b3, b4, b5, b6] = [0, 1, 8, 0, 6, 4, 0] ∧ (b7 = 1 ∨ b7 = 2)) := by
        rintro ⟨e, e7⟩
        simp only [List.cons.injEq, and_true] at e
        omega
      rw [if_neg hn]
      simp
theorem answer_eq (a : TArp) (mac : List Int) (ip : Int) (hm : mac.length ≤ maxLen) (ha : a.Smac.length ≤ 140737488355328) : ∃ r, ether_Answer.f a mac ip = some r ∧ ref16_Answer.f a mac ip = some r ∧ r = (if a.Op = 1 ∧ a.Tip = ip ∧ mac.length = 6 then (⟨2, mac, ip, a.Smac, a.Sip⟩, true) else (⟨0, [], 0, [], 0⟩, false)) := by
  refine ⟨_, ?_, ?_, rfl⟩
  · unfold ether_Answer.f
    by_cases c1 : a.Op = 1
    · by_cases c2 : a.Tip = ip
      · by_cases c3 : mac.length = 6
        · have c3' : (mac.length : Int) = 6 := by omega
          simp [c1, c2, c3, c3', clone_is _ (show mac.length ≤ 140737488355328 by omega), clone_is _ ha]
        · have c3' : ¬ (mac.length : Int) = 6 := by omega
          simp [c1, c2, c3, c3']
      · simp [c1, c2]
    · simp [c1]
  · unfold ref16_Answer.f ref16_own.f
    by_cases c1 : a.Op = 1
    · by_cases c2 : a.Tip = ip
      · by_cases c3 : mac.length = 6
        · have c3' : (mac.length : Int) = 6 := by omega
          simp [c1, c2, c3, c3', app1_ok [] mac (by simp; omega), app1_ok [] a.Smac (by simpa using ha)]
        · have c3' : ¬ (mac.length : Int) = 6 := by omega
          simp [c1, c2, c3, c3']
      · simp [c1, c2]
    · simp [c1]
end Go.Proofs.Ytplkiompmjhdlaa.S
