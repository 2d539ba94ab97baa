/- What the function of the law EtherTells answers: true, whatever the frame and the bytes. Its conditions: what data of these types are. -/
import Derived.Test.YtplkiompmjhdlaaPureEther
namespace Go.Proofs.Ytplkiompmjhdlaa.S
open Go Go.SL
set_option linter.unusedVariables false
set_option linter.unusedSimpArgs false
theorem etherTells (f : TFrm) (g : gFrm f) (b : List Int) (hb : b.length ≤ maxLen ∧ ∀ z ∈ b, InR .u8 z) : law16_EtherTells.f f b = some true := by
  have hbb : Byt b := Byt.of hb.2
  unfold law16_EtherTells.f
  by_cases c1 : (3000 : Int) < b.length
  · rw [if_pos (by simpa using c1), Option.bind_some, if_pos rfl, heads]; rfl
  rw [if_neg (by simpa using c1), Option.bind_some]
  by_cases c2 : (3000 : Int) < f.Data.length
  · rw [if_pos (by simpa using c2), heads]; rfl
  rw [if_neg (by simpa using c2)]
  have hp : ∃ r, ether_Put.f f = some r ∧ ref16_Put.f f = some r := by
    by_cases h : fOk f
    · exact ⟨_, put_is f h, rput_is f h⟩
    · exact ⟨_, put_no f h, rput_no f h⟩
  have hg : ∃ r, ether_Get.f b = some r ∧ ref16_Get.f b = some r := by
    by_cases h : 14 ≤ b.length ∧ b.length ≤ 1514
    · obtain ⟨p, q, _, _, _, e1, e2⟩ := get_is b hbb h.1 h.2
      exact ⟨_, e1, e2⟩
    · exact ⟨_, (get_bad b h).1, (get_bad b h).2⟩
  obtain ⟨r1, p1, q1⟩ := hp
  obtain ⟨r2, p2, q2⟩ := hg
  rw [p1, Option.bind_some, q1, Option.bind_some, p2, Option.bind_some, q2, Option.bind_some, rsame]
  simp only [decide_true, Option.bind_some, if_true, same_self, heads]
end Go.Proofs.Ytplkiompmjhdlaa.S
