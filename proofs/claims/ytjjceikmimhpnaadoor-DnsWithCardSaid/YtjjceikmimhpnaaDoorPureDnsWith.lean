/- What the law DnsWith answers: true; another number changes just that. Its conditions: what the data are. -/
import Derived.Test.YtjjceikmimhpnaaDoorPureDnsTells
namespace Go.Proofs.YtjjceikmimhpnaaDoor.S
open Go Go.SL
set_option linter.unusedVariables false
set_option linter.unusedSimpArgs false
theorem w2_by (x : Int) : Byl (w2 x) := fun b hb => by
  simp [w2] at hb
  unfold By
  omega
theorem withd_cons (x y : Int) (r : List Int) (id : Int) (h : 12 ≤ (x :: y :: r).length) : withd (x :: y :: r) id = (id / 256 % 256) :: (id % 256) :: r := by
  unfold withd
  rw [if_pos h]; rfl
theorem withd_qn {b : List Int} (id : Int) (h : 12 ≤ b.length) : qn (withd b id) = qn b := by
  obtain ⟨x, y, r, rfl⟩ := two_of (show 2 ≤ b.length by omega)
  rw [withd_cons _ _ _ _ h]
  unfold qn
  have hd : ∀ (n : Nat), ((id / 256 % 256) :: (id % 256) :: r).drop (12 + n) = (x :: y :: r).drop (12 + n) := fun n => by
    rw [show 12 + n = (10 + n) + 1 + 1 by omega]; rfl
  have h4 : ((id / 256 % 256) :: (id % 256) :: r).drop 4 = (x :: y :: r).drop 4 := rfl
  have h12 : ((id / 256 % 256) :: (id % 256) :: r).drop 12 = (x :: y :: r).drop 12 := rfl
  have hl : ((id / 256 % 256) :: (id % 256) :: r).length = (x :: y :: r).length := rfl
  simp only [hd, h4, h12, hl]
theorem dnsWith (b : List Int) (gb : b.length ≤ maxLen ∧ ∀ z ∈ b, InR .u8 z) (id : Int) (gi : InR .i64 id) : law21_DnsWith.f b id = some true := by
  unfold law21_DnsWith.f
  by_cases c1 : 2000 < (b.length : Int)
  · simp [c1, heads]
  by_cases c2 : id < 0
  · simp [c1, c2, heads]
  by_cases c3 : 65535 < id
  · simp [c1, c2, c3, heads]
  have hb : Byl b := Byl.of gb.2
  simp only [c1, c2, c3, decide_false, Bool.false_eq_true, if_false, Option.bind_some]
  rw [with_is b id (by omega), id_is b hb]
  by_cases c : b.length < 12
  · have e : withd b id = b := if_neg (by omega)
    simp only [c, if_true, Option.bind_some, Bool.not_false, e, same_self, heads]
  · have h12 : 12 ≤ b.length := by omega
    simp only [c, if_false, Option.bind_some, Bool.not_true, Bool.false_eq_true]
    have hq := withd_qn id h12
    obtain ⟨x, y, r, rfl⟩ := two_of (show 2 ≤ b.length by omega)
    have hx := hb x (by simp)
    have hy := hb y (by simp)
    unfold By at hx hy
    have hwc := withd_cons x y r id h12
    have hbc : Byl (withd (x :: y :: r) id) := by
      rw [hwc]
      intro z hz
      rcases List.mem_cons.1 hz with rfl | hz
      · unfold By; omega
      rcases List.mem_cons.1 hz with rfl | hz
      · unfold By; omega
      · exact hb z (by simp [hz])
    have hlc : (withd (x :: y :: r) id).length = (x :: y :: r).length := by rw [hwc]; rfl
    have hn : num2 (withd (x :: y :: r) id) = id := by
      rw [hwc]
      show id / 256 % 256 * 256 + id % 256 = id
      omega
    have hback : withd (withd (x :: y :: r) id) (num2 (x :: y :: r)) = x :: y :: r := by
      rw [hwc, withd_cons _ _ _ _ (by simpa using h12)]
      have e : num2 (x :: y :: r) = x * 256 + y := rfl
      rw [e]
      have e1 : (x * 256 + y) / 256 % 256 = x := by omega
      have e2 : (x * 256 + y) % 256 = y := by omega
      rw [e1, e2]
    have hqy : qry (withd (x :: y :: r) id) = qry (x :: y :: r) := by
      rw [hwc]; rfl
    have haf : askf (withd (x :: y :: r) id) = askf (x :: y :: r) := by
      unfold askf; rw [hq]
    have hl2 : ¬ (withd (x :: y :: r) id).length < 12 := by rw [hlc]; omega
    rw [id_is _ hbc, if_neg hl2, Option.bind_some, question_is _ (by omega) hb, Option.bind_some, question_is _ (by omega) hbc, Option.bind_some, haf, hn, with_is _ _ (by omega), hback]
    simp only [if_true, decide_true, Option.bind_some, same_self]
    rw [query_is _ hb, query_is _ hbc, hqy]
    simp only [Option.bind_some, beq_self_eq_true, if_true, heads]
end Go.Proofs.YtjjceikmimhpnaaDoor.S
