/- What the function of the law SegTells answers: true, whatever the segment, the addresses and the bytes. Its conditions: what data of these types are. -/
import Derived.Test.YthjaancddmecpaaPureSegBoth
namespace Go.Proofs.Ythjaancddmecpaa.S
open Go Go.SL
set_option linter.unusedVariables false
set_option linter.unusedSimpArgs false
theorem segTells (s : TSeg) (g : gSeg s) (a : Int) (ha : InR .u32 a) (b : Int) (hb : InR .u32 b) (l : List Int) (hl : l.length ≤ maxLen ∧ ∀ z ∈ l, InR .u8 z) : law19_SegTells.f s a b l = some true := by
  obtain ⟨g1, g2, g3, g4, g5, g6, g7, g8, g9⟩ := g
  have hd : Byt s.Data := Byt.of g9
  have hbl : Byt l := Byt.of hl.2
  unfold law19_SegTells.f
  by_cases c1 : (70000 : Int) < l.length
  · rw [if_pos (by simpa using c1), Option.bind_some, if_pos rfl, heads]; rfl
  rw [if_neg (by simpa using c1), Option.bind_some]
  by_cases c2 : (70000 : Int) < s.Data.length
  · rw [if_pos (by simpa using c2), heads]; rfl
  rw [if_neg (by simpa using c2)]
  obtain ⟨r1, p1, q1⟩ := put_eq s hd a b
  obtain ⟨r2, p2, q2⟩ := get_eq l hbl (by omega) a b
  obtain ⟨r3, p3, q3⟩ := len_eq s (by omega)
  obtain ⟨r4, p4, q4⟩ := less_eq a b
  rw [p1, Option.bind_some, q1, Option.bind_some, p2, Option.bind_some, q2, Option.bind_some, rsame]
  simp only [decide_true, Option.bind_some, if_true, law19_one.f, Same_self, p3, q3, p4, q4, beq_self_eq_true, heads]
end Go.Proofs.Ythjaancddmecpaa.S
