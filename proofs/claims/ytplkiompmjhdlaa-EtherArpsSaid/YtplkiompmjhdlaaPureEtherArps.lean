/- What the function of the law EtherArps answers: true, whatever the message, the bytes and the address. Its conditions: what data of these types are, and that what is held lies in the machine's reach. -/
import Derived.Test.YtplkiompmjhdlaaPureArp
namespace Go.Proofs.Ytplkiompmjhdlaa.S
open Go Go.SL
set_option linter.unusedVariables false
set_option linter.unusedSimpArgs false
theorem putArp_both (a : TArp) : ∃ r, ether_PutArp.f a = some r ∧ ref16_PutArp.f a = some r := by
  by_cases h : aOk a
  · exact ⟨_, (putArp_is a h).1, (putArp_is a h).2⟩
  · exact ⟨_, (putArp_no a h).1, (putArp_no a h).2⟩
theorem getArp_both (b : List Int) (hb : Byt b) (hl : b.length ≤ 3000) : ∃ r, ether_GetArp.f b = some r ∧ ref16_GetArp.f b = some r := by
  by_cases h : b.length < 28
  · exact ⟨_, (getArp_short b h).1, (getArp_short b h).2⟩
  · obtain ⟨b0, b1, b2, b3, b4, b5, b6, b7, sip, tip, _, _, _, e1, e2⟩ := getArp_is b hb (by omega) (by omega)
    exact ⟨_, e1, e2⟩
theorem etherArps (a : TArp) (ga : gArp a) (wa : True ∧ a.Smac.length ≤ reachBytes ∧ True ∧ a.Tmac.length ≤ reachBytes ∧ True) (b : List Int) (hb : b.length ≤ maxLen ∧ ∀ z ∈ b, InR .u8 z) (mac : List Int) (hm : mac.length ≤ maxLen ∧ ∀ z ∈ mac, InR .u8 z) (ip : Int) (hi : InR .u32 ip) : law16_EtherArps.f a b mac ip = some true := by
  have hbb : Byt b := Byt.of hb.2
  unfold law16_EtherArps.f
  by_cases c1 : (3000 : Int) < b.length
  · rw [if_pos (by simpa using c1), heads]; rfl
  rw [if_neg (by simpa using c1)]
  obtain ⟨r1, p1, q1⟩ := putArp_both a
  obtain ⟨r2, p2, q2⟩ := getArp_both b hbb (by omega)
  obtain ⟨r3, p3, q3, _⟩ := answer_eq a mac ip hm.1 (Nat.le_trans wa.2.1 (by decide))
  rw [p1, Option.bind_some, q1, Option.bind_some, p2, Option.bind_some, q2, Option.bind_some, p3, Option.bind_some, q3, Option.bind_some, rsame]
  simp only [decide_true, Option.bind_some, if_true, arps_self, heads, beq_self_eq_true]
end Go.Proofs.Ytplkiompmjhdlaa.S
