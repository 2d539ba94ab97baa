/- What the function of the law EtherAnswers answers: true, whatever the message and the address. Its conditions: what data of these types are, and that what is held lies in the machine's reach. -/
import Derived.Test.YtplkiompmjhdlaaPureArp
namespace Go.Proofs.Ytplkiompmjhdlaa.S
open Go Go.SL
set_option linter.unusedVariables false
set_option linter.unusedSimpArgs false
theorem etherAnswers (a : TArp) (ga : gArp a) (wa : True ∧ a.Smac.length ≤ reachBytes ∧ True ∧ a.Tmac.length ≤ reachBytes ∧ True) (mac : List Int) (hm : mac.length ≤ maxLen ∧ ∀ z ∈ mac, InR .u8 z) (ip : Int) (hi : InR .u32 ip) : law16_EtherAnswers.f a mac ip = some true := by
  unfold law16_EtherAnswers.f
  obtain ⟨r, p, _, e⟩ := answer_eq a mac ip hm.1 (Nat.le_trans wa.2.1 (by decide))
  rw [p, Option.bind_some]
  by_cases c : a.Op = 1 ∧ a.Tip = ip ∧ mac.length = 6
  · rw [if_pos c] at e
    subst e
    obtain ⟨c1, c2, c3⟩ := c
    have c3' : (mac.length : Int) = 6 := by omega
    obtain ⟨r', p', _, e'⟩ := answer_eq ⟨2, mac, ip, a.Smac, a.Sip⟩ mac ip hm.1 (by show mac.length ≤ _; omega)
    rw [if_neg (by rintro ⟨h, _⟩; cases h)] at e'
    subst e'
    simp only [c1, c2, c3', decide_true, if_true, beq_self_eq_true, Bool.not_true, Option.bind_some, Bool.false_eq_true, if_false, p', Bool.not_false, rsame, heads]
  · rw [if_neg c] at e
    subst e
    have j : (if decide (a.Op = 1) = true then (if decide (a.Tip = ip) = true then some ((!(false == (decide ((mac.length : Int) = 6))))) else some ((!(false == false)))) else some ((!(false == false))) : Option Bool) = some false := by
      by_cases c1 : a.Op = 1
      · by_cases c2 : a.Tip = ip
        · have c3 : ¬ (mac.length : Int) = 6 := fun h => c ⟨c1, c2, by omega⟩
          simp [c1, c2, c3]
        · simp [c1, c2]
      · simp [c1]
    simp only [j, Option.bind_some, Bool.false_eq_true, if_false, Bool.not_false, if_true, arps_self, heads]
end Go.Proofs.Ytplkiompmjhdlaa.S
