/- LinkOrder: frames come in the order in which they went; no condition beside the statement's own. -/
import Derived.Test.YthfokiabneflpaaPureLink
import Derived.Test.YthfokiabneflpaaQLinkOrder
import Derived.Test.YthfokiabneflpaaPx9
namespace Go.Proofs.Ythfokiabneflpaa.Pure
set_option linter.unusedVariables false
open Go.RowKit Go.Proofs.Ythfokiabneflpaa.Aux Go.Proofs.Ythfokiabneflpaa.P Go.Proofs.YthfokiabneflpaaW.PrintWords Go.Proofs.YthfokiabneflpaaW.PrintLast Go.Proofs.YthfokiabneflpaaW.PrintMore
/-- The frames that may be, among the first ones. -/
def good (l : List (List Int)) : List (List Int) := l.filter fun x => frameOk x
theorem good_ok {l : List (List Int)} : ∀ x ∈ good l, frameOk x = true := fun x hx => by simpa [good] using (List.mem_filter.1 hx).2
theorem good_snoc (l : List (List Int)) (i : Nat) (h : i < l.length) : good (l.take (i + 1)) = if frameOk l[i] = true then good (l.take i) ++ [l[i]] else good (l.take i) := by
  rw [← take_snoc l i h, good, List.filter_append]
  by_cases hf : frameOk l[i] = true
  · rw [if_pos hf]; simp [good, hf]
  · rw [if_neg hf]; simp [good, hf]
/-- What is on the wire after so many frames, and how many were lost. -/
def wire (l : List (List Int)) : List (List Int) := (good l).take 32
def lost (l : List (List Int)) : Int := ((good l).length : Int) - ((wire l).length : Int)
theorem wire_chk {l : List (List Int)} (h : l.length ≤ 60) : chk (wire l) (lost l) = true := by
  have h1 : (good l).length ≤ l.length := List.length_filter_le _ _
  have h2 : (wire l).length ≤ 32 := by simp [wire]; omega
  have h3 : (wire l).length ≤ (good l).length := by simp [wire]; omega
  refine chk_iff.2 ⟨h2, by simp only [lost]; omega, by simp only [lost]; omega, fun x hx => ?_⟩
  exact good_ok x (List.mem_of_mem_take hx)
theorem wire_push (l : List (List Int)) (i : Nat) (h : i < l.length) (hl : l.length ≤ 60) :
    push (wire (l.take i)) (lost (l.take i)) l[i] = (wire (l.take (i + 1)), lost (l.take (i + 1)), frameOk l[i] && decide ((wire (l.take i)).length ≠ 32)) := by
  have hc := wire_chk (l := l.take i) (by simp; omega)
  unfold push
  rw [if_pos hc]
  have hs := good_snoc l i h
  by_cases hf : frameOk l[i] = true
  case neg =>
    rw [if_neg hf] at hs ⊢
    simp [wire, lost, hs, hf]
  rw [if_pos hf] at hs ⊢
  have hg : (good (l.take i)).length ≤ 60 := by
    have h1 : (good (l.take i)).length ≤ (l.take i).length := List.length_filter_le _ _
    have h2 : (l.take i).length ≤ l.length := by simp; omega
    omega
  by_cases h32 : (wire (l.take i)).length = 32
  · rw [if_pos h32]
    have h3 : 32 ≤ (good (l.take i)).length := by simp [wire] at h32; omega
    have e1 : wire (l.take (i + 1)) = wire (l.take i) := by
      simp only [wire, hs]
      rw [List.take_append_of_le_length h3]
    have e2 : lost (l.take (i + 1)) = lost (l.take i) + 1 := by
      simp only [lost, e1, hs, List.length_append, List.length_singleton]; omega
    rw [e1, e2, if_pos (by simp only [lost, h32]; omega)]
    simp [h32, hf]
  · rw [if_neg h32]
    have h3 : (good (l.take i)).length < 32 := by
      simp [wire] at h32; omega
    have e1 : wire (l.take i) = good (l.take i) := by simp only [wire]; exact List.take_of_length_le (by omega)
    have e2 : wire (l.take (i + 1)) = wire (l.take i) ++ [l[i]] := by
      rw [e1]; simp only [wire, hs]; exact List.take_of_length_le (by simp; omega)
    have e3 : lost (l.take (i + 1)) = lost (l.take i) := by
      simp only [lost, e2, hs, e1, List.length_append, List.length_singleton]; omega
    rw [e2, e3]
    simp [h32, hf]
theorem pop_wire {q : List (List Int)} {a : Int} (h : chk q a = true) : pop q a = if q.length = 0 then (q, a, [], false) else (q.drop 1, a, rd_L1 q 0, true) := by
  unfold pop
  rw [if_pos h]
theorem good_loop (x0 x4 x9 : List (List Int)) (x8 : Int) (hl : x0.length ≤ 60) (h4 : x4 = x9) (h4l : x4 = wire x0) (h8 : x8 = lost x0) (m : Int) : ∀ (d i k : Nat), i + d = x0.length → d + 1200 ≤ k →
    drawbridgelaw23_LinkOrder.l2 k x0 x4 x8 x9 ((good (x0.take i)).length : Int) (i : Int) [] m = some true := by
  intro d
  induction d with
  | zero =>
    intro i k hi hk
    obtain ⟨k, rfl⟩ : ∃ m, k = m + 1 := ⟨k - 1, by omega⟩
    simp only [drawbridgelaw23_LinkOrder.l2]
    have hw : x4.length ≤ 32 := by rw [h4l]; simp [wire]; omega
    have hg : (good x0).length ≤ x0.length := List.length_filter_le _ _
    have hwl : x4.length = min 32 (good x0).length := by rw [h4l]; simp [wire]
    rw [if_neg (by omega), ← h4, lists_is x4 (by omega) (by omega), List.take_of_length_le (show x0.length ≤ i by omega)]
    simp only [Option.bind_some, if_true]
    rw [if_pos (by simp only [mn]; split <;> omega), w64 (by omega) (by omega), if_pos (by rw [h8, h4l]; rfl), if_pos (by simp), heads23_at (by omega)]
    rfl
  | succ d ih =>
    intro i k hi hk
    obtain ⟨k, rfl⟩ : ∃ m, k = m + 1 := ⟨k - 1, by omega⟩
    have hlt : i < x0.length := by omega
    have e := ih (i + 1) k (by omega) (by omega)
    rw [show ((i + 1 : Nat) : Int) = (i : Int) + 1 by omega, good_snoc x0 i hlt] at e
    have hg : (good (x0.take i)).length ≤ 60 := by
      have h1 : (good (x0.take i)).length ≤ (x0.take i).length := List.length_filter_le _ _
      have h2 : (x0.take i).length ≤ x0.length := by simp; omega
      omega
    simp only [drawbridgelaw23_LinkOrder.l2, rd_L1_nat x0 i hlt]
    rw [if_pos (by omega), if_pos (by omega), w64 (x := (i : Int) + 1) (by omega) (by omega), w64 (x := ((good (x0.take i)).length : Int) + 1) (by omega) (by omega)]
    by_cases hf : frameOk x0[i] = true
    · have hf' := frameOk_iff.1 hf
      rw [if_pos hf] at e
      rw [if_pos (by omega), if_pos (by omega)]
      simpa using e
    · rw [if_neg hf] at e
      by_cases h1 : (x0[i].length : Int) ≥ 14
      · rw [if_pos h1, if_neg (by intro h2; exact hf (frameOk_iff.2 ⟨by omega, by omega⟩))]; exact e
      · rw [if_neg h1]; exact e
theorem pops_loop (x0 : List (List Int)) (hl : x0.length ≤ 60) : ∀ (d i k : Nat), i + d = (wire x0).length → d + 1500 ≤ k →
    drawbridgelaw23_LinkOrder.l1 k x0 (wire x0) (lost x0) ((wire x0).take i) (i : Int) ((wire x0).drop i) (lost x0) = some true := by
  have hc := wire_chk hl
  obtain ⟨c1, c2, c3, c4⟩ := chk_iff.1 hc
  have hdc : ∀ i, chk ((wire x0).drop i) (lost x0) = true := fun i => chk_iff.2 ⟨by simp; omega, c2, c3, fun x hx => c4 x (List.mem_of_mem_drop hx)⟩
  intro d
  induction d with
  | zero =>
    intro i k hi hk
    obtain ⟨k, rfl⟩ : ∃ m, k = m + 1 := ⟨k - 1, by omega⟩
    simp only [drawbridgelaw23_LinkOrder.l1]
    have hd : (wire x0).drop i = [] := List.drop_eq_nil_of_le (by omega)
    rw [if_pos (by omega), pop_is _ _ (by omega), pop_wire (hdc i), hd, if_pos (show ([] : List (List Int)).length = 0 from rfl)]
    simp only [Option.bind_some]
    rw [if_neg (by decide), List.take_of_length_le (by omega)]
    obtain ⟨k, rfl⟩ : ∃ m, k = m + 1 := ⟨k - 1, by omega⟩
    simp only [drawbridgelaw23_LinkOrder.j2]
    have := good_loop x0 (wire x0) (wire x0) (lost x0) hl rfl rfl rfl (lost x0) x0.length 0 k (by omega) (by omega)
    simpa [good] using this
  | succ d ih =>
    intro i k hi hk
    obtain ⟨k, rfl⟩ : ∃ m, k = m + 1 := ⟨k - 1, by omega⟩
    simp only [drawbridgelaw23_LinkOrder.l1]
    have hlt : i < (wire x0).length := by omega
    have hne : ((wire x0).drop i).length ≠ 0 := by simp; omega
    rw [if_pos (by omega), pop_is _ _ (by omega), pop_wire (hdc i), if_neg hne]
    simp only [Option.bind_some, if_true]
    have h0 : rd_L1 ((wire x0).drop i) 0 = (wire x0)[i] := by
      have := rd_L1_nat ((wire x0).drop i) 0 (by omega)
      rw [show ((0 : Nat) : Int) = 0 from rfl] at this
      rw [this]; simp
    have e := ih (i + 1) k (by omega) (by omega)
    rw [show ((i + 1 : Nat) : Int) = (i : Int) + 1 by omega] at e
    rw [if_pos (by simp; omega), h0, take_snoc (wire x0) i hlt, List.drop_drop, w64 (by omega) (by omega)]
    first | exact e | (rw [Nat.add_comm 1 i] ; exact e)
theorem pushes_loop (x0 : List (List Int)) (hl : x0.length ≤ 60) : ∀ (d i k : Nat), i + d = x0.length → d + 1700 ≤ k →
    drawbridgelaw23_LinkOrder.l0 k x0 (wire (x0.take i)) (i : Int) (wire (x0.take i)) (lost (x0.take i)) = some true := by
  intro d
  induction d with
  | zero =>
    intro i k hi hk
    obtain ⟨k, rfl⟩ : ∃ m, k = m + 1 := ⟨k - 1, by omega⟩
    simp only [drawbridgelaw23_LinkOrder.l0]
    rw [if_neg (by omega), List.take_of_length_le (show x0.length ≤ i by omega)]
    have hw : (wire x0).length ≤ 32 := by simp [wire]; omega
    have := pops_loop x0 hl (wire x0).length 0 k (by omega) (by omega)
    simpa using this
  | succ d ih =>
    intro i k hi hk
    obtain ⟨k, rfl⟩ : ∃ m, k = m + 1 := ⟨k - 1, by omega⟩
    have hlt : i < x0.length := by omega
    simp only [drawbridgelaw23_LinkOrder.l0, rd_L1_nat x0 i hlt]
    rw [if_pos (by omega), if_pos (by omega), push_is _ _ _ (by omega), wire_push x0 i hlt hl]
    simp only [Option.bind_some]
    have e := ih (i + 1) k (by omega) (by omega)
    rw [show ((i + 1 : Nat) : Int) = (i : Int) + 1 by omega] at e
    have hw : (wire (x0.take i)).length ≤ 32 := by simp [wire]; omega
    rw [w64 (by omega) (by omega)]
    by_cases hb : (frameOk x0[i] && decide ((wire (x0.take i)).length ≠ 32)) = true
    · rw [if_pos hb, if_pos (by omega)]
      have hs : wire (x0.take i) ++ [x0[i]] = wire (x0.take (i + 1)) := by
        simp only [Bool.and_eq_true, decide_eq_true_eq] at hb
        have h1 := wire_push x0 i hlt hl
        unfold push at h1
        rw [if_pos (wire_chk (by simp; omega)), if_pos hb.1, if_neg hb.2] at h1
        exact (Prod.mk.inj h1).1
      rw [hs]; exact e
    · rw [if_neg hb]
      have hs : wire (x0.take (i + 1)) = wire (x0.take i) := by
        have h1 := wire_push x0 i hlt hl
        unfold push at h1
        rw [if_pos (wire_chk (by simp; omega))] at h1
        by_cases hf : frameOk x0[i] = true
        · rw [if_pos hf] at h1
          by_cases h32 : (wire (x0.take i)).length = 32
          · rw [if_pos h32] at h1; exact (Prod.mk.inj h1).1.symm
          · exact absurd (by simp [hf, h32]) hb
        · rw [if_neg hf] at h1; exact (Prod.mk.inj h1).1.symm
      rw [hs] at e ⊢; exact e
theorem LinkOrder : drawbridgelaw23_LinkOrder.Pure := by
  intro l h
  refine ⟨2000, ?_⟩
  unfold drawbridgelaw23_LinkOrder.f
  by_cases h1 : (l.length : Int) > 60
  · rw [if_pos h1, heads23_at (by omega)]; rfl
  rw [if_neg h1]
  have := pushes_loop l (by omega) l.length 0 2000 (by omega) (by omega)
  simpa [wire, lost, good] using this
end Go.Proofs.Ythfokiabneflpaa.Pure
