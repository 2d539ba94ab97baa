/- What the function of the law EtherAgain answers: true, whatever the bytes. Its conditions: what data of this type are. -/
import Derived.Test.YtplkiompmjhdlaaPureArp
namespace Go.Proofs.Ytplkiompmjhdlaa.S
open Go Go.SL
set_option linter.unusedVariables false
set_option linter.unusedSimpArgs false
theorem etherAgain (b : List Int) (hb : b.length ≤ maxLen ∧ ∀ z ∈ b, InR .u8 z) : law16_EtherAgain.f b = some true := by
  have hbb : Byt b := Byt.of hb.2
  unfold law16_EtherAgain.f
  by_cases c1 : (3000 : Int) < b.length
  · rw [if_pos (by simpa using c1), heads]; rfl
  rw [if_neg (by simpa using c1)]
  have first : ∃ r2, ether_Get.f b = some r2 ∧ ((if decide (r2.2 = 0) = true then (ether_Put.f r2.1).bind fun r3 => ((if (!decide (r3.2 = 0)) = true then some (true) else (ref01_Same.f r3.1 b).bind fun r4 => some ((!r4)))).bind (fun j1 => (if j1 = true then some (.inr (false)) else some (.inl (())))) else some (.inl (()))) : Option (Unit ⊕ Bool)) = some (.inl ()) := by
    by_cases h : 14 ≤ b.length ∧ b.length ≤ 1514
    · obtain ⟨p, q, hd, hp, hq, e1, _⟩ := get_is b hbb h.1 h.2
      refine ⟨_, e1, ?_⟩
      have hok : fOk (frOf b p q) := ⟨by simp [frOf]; omega, by simp [frOf]; omega, ⟨by simp [frOf]; omega, by simp [frOf]; omega⟩, by simp [frOf]; omega⟩
      have hback : frB (frOf b p q) = b := by
        have e2 : by2 (p * 256 + q) = [p, q] := by simp only [by2, List.cons.injEq, and_true]; omega
        have e3 : b.drop 6 = (b.drop 6).take 6 ++ b.drop 12 := by
          conv => lhs; rw [← List.take_append_drop 6 (b.drop 6)]
          rw [List.drop_drop]
        show b.take 6 ++ ((b.drop 6).take 6 ++ (by2 (p * 256 + q) ++ b.drop 14)) = b
        rw [e2]
        have : [p, q] ++ b.drop 14 = b.drop 12 := by rw [hd]; rfl
        rw [this, ← e3, List.take_append_drop]
      rw [if_pos (by simp), put_is _ hok, Option.bind_some, hback, rsame]
      simp
    · refine ⟨_, (get_bad b h).1, ?_⟩
      rw [if_neg (by simp; split <;> decide)]
  obtain ⟨r2, e2, k2⟩ := first
  rw [e2, Option.bind_some, k2, Option.bind_some]
  simp only [Sum.elim_inl]
  have second : ∃ r5, ether_GetArp.f b = some r5 ∧ ((if decide (r5.2 = 0) = true then (ether_PutArp.f r5.1).bind fun r6 => ((if (!decide (r6.2 = 0)) = true then some (true) else (if (!decide ((r6.1.length : Int) = 28)) = true then some (true) else (if decide ((b.length : Int) < 28) = true then some (true) else (cut b 0 28).bind fun x1 => (ref01_Same.f r6.1 x1).bind fun r7 => some ((!r7)))))).bind (fun j3 => (if j3 = true then some (.inr (false)) else some (.inl (())))) else some (.inl (()))) : Option (Unit ⊕ Bool)) = some (.inl ()) := by
    by_cases h : b.length < 28
    · refine ⟨_, (getArp_short b h).1, ?_⟩
      rw [if_neg (by simp)]
    · obtain ⟨b0, b1, b2, b3, b4, b5, b6, b7, sip, tip, t28, hs, ht, e1, _⟩ := getArp_is b hbb (by omega) (by omega)
      refine ⟨_, e1, ?_⟩
      by_cases c : [b0, b1, b2, b3, b4, b5, b6] = [0, 1, 8, 0, 6, 4, 0] ∧ (b7 = 1 ∨ b7 = 2)
      · rw [if_pos c, if_pos (by simp)]
        have hok : aOk (arOf b b7 sip tip) := ⟨by simp [arOf]; omega, by simp [arOf]; omega, c.2⟩
        have hback : apB (arOf b b7 sip tip) = b.take 28 := by
          rw [t28]
          have := c.1
          simp only [List.cons.injEq, and_true] at this
          obtain ⟨q0, q1, q2, q3, q4, q5, q6⟩ := this
          subst q0 q1 q2 q3 q4 q5 q6
          rfl
        have hl : (b.take 28).length = 28 := by rw [List.length_take]; omega
        rw [(putArp_is _ hok).1, Option.bind_some, hback, cut_take _ _ (by omega) (by omega), show (28 : Int).toNat = 28 from rfl, hl]
        have hn : ¬ (b.length : Int) < 28 := by omega
        simp [rsame, hn]
      · rw [if_neg c, if_neg (by simp)]
  obtain ⟨r5, e5, k5⟩ := second
  rw [e5, Option.bind_some, k5, Option.bind_some]
  simp only [Sum.elim_inl, heads, Option.bind_some]
end Go.Proofs.Ytplkiompmjhdlaa.S
