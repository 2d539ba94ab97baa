/- SumPatches: what is patched is right, and nothing else is another; no condition beside the statement's own. -/
import Derived.Test.YtchldakooabdbaaPureSum
import Derived.Test.YtchldakooabdbaaPx4
namespace Go.Proofs.Ytchldakooabdbaa.Pure
set_option linter.unusedVariables false
open Go.RowKit Go.Proofs.Ytchldakooabdbaa.Aux Go.Proofs.Ytchldakooabdbaa.P Go.Proofs.YtchldakooabdbaaW.PrintWords Go.Proofs.YtchldakooabdbaaW.PrintLast Go.Proofs.YtchldakooabdbaaW.PrintMore
theorem heads15_ok : drawbridgelaw15_heads.f 100 = some true := by decide +kernel
theorem heads15_at {k : Nat} (hk : 100 ≤ k) : drawbridgelaw15_heads.f k = some true := at_rounds (g := fun k => drawbridgelaw15_heads.f k) (fun k => drawbridgelaw15_heads.mono k) hk heads15_ok
theorem rd_splice_other (l : List Int) (m : Nat) (a b : Int) (h : m + 2 ≤ l.length) (i : Nat) (h1 : i ≠ m) (h2 : i ≠ m + 1) : rd (splice l m [a, b]) (i : Int) = rd l (i : Int) := by
  rw [splice_two l m a b h]
  simp only [rd, Int.toNat_natCast, List.getD_eq_getElem?_getD, List.getElem?_set]
  rw [if_neg (by omega), if_neg (by omega)]
theorem patches_loop (l : List Int) (m : Nat) (a b : Int) (h : m + 2 ≤ l.length) (hl : l.length ≤ 70000) : ∀ (d i k : Nat), i + d = l.length → d + 100 < k → drawbridgelaw15_SumPatches.l0 k l (m : Int) (splice l m [a, b]) (i : Int) = some true := by
  intro d
  induction d with
  | zero =>
    intro i k hi hk
    obtain ⟨k, rfl⟩ : ∃ m, k = m + 1 := ⟨k - 1, by omega⟩
    simp only [drawbridgelaw15_SumPatches.l0]
    rw [if_neg (by omega), heads15_at (by omega)]; rfl
  | succ d ih =>
    intro i k hi hk
    obtain ⟨k, rfl⟩ : ∃ m, k = m + 1 := ⟨k - 1, by omega⟩
    have e := ih (i + 1) k (by omega) (by omega)
    have hs : (splice l m [a, b]).length = l.length := length_splice _ _ _ (by simpa using h)
    simp only [drawbridgelaw15_SumPatches.l0]
    rw [if_pos (by omega), w64 (x := (i : Int) + 1) (by omega) (by omega), w64 (x := (m : Int) + 1) (by omega) (by omega)]
    rw [show ((i + 1 : Nat) : Int) = (i : Int) + 1 by omega] at e
    by_cases h1 : (i : Int) = m
    · rw [if_pos h1]; exact e
    · rw [if_neg h1]
      by_cases h2 : (i : Int) = (m : Int) + 1
      · rw [if_pos h2]; exact e
      · rw [if_neg h2, if_pos (by omega), if_pos (by omega), if_pos (rd_splice_other l m a b h i (by omega) (by omega))]; exact e
theorem SumPatches : drawbridgelaw15_SumPatches.Pure := by
  intro l a1 hl1 hl2 hw ha
  have ok := okBytes_of hw
  refine ⟨l.length + 200, ?_⟩
  have key : drawbridgelaw15_SumPatches.j0 (l.length + 200) l a1 true = some true := by
    simp only [drawbridgelaw15_SumPatches.j0, if_true]
    rw [heads15_at (by omega)]; rfl
  unfold drawbridgelaw15_SumPatches.f
  by_cases h1 : (l.length : Int) > 70000
  · rw [if_pos h1]; exact key
  rw [if_neg h1]
  by_cases h2 : a1 < 0
  · rw [if_pos h2]; exact key
  rw [if_neg h2]
  obtain ⟨m, rfl⟩ := Int.eq_ofNat_of_zero_le (show 0 ≤ a1 by omega)
  by_cases h3 : Int.tmod (m : Int) 2 = 0
  case neg => rw [if_neg h3]; exact key
  rw [if_pos h3, w64 (by omega) (by omega)]
  by_cases h4 : (m : Int) > (l.length : Int) - 2
  · rw [decide_eq_true h4]; exact key
  rw [decide_eq_false h4]
  have hev : m % 2 = 0 := by
    rw [Int.tmod_eq_emod_of_nonneg (by omega)] at h3; omega
  obtain ⟨s, _, s0, s1, hs, hp⟩ := patch_is ok (by omega) (show m + 2 ≤ l.length by omega) hev (show 20 ≤ l.length + 199 by omega)
  have hr := patch_right ok (by omega) (show m + 2 ≤ l.length by omega) hev hs
  have hlen : (splice l m [s / 256, s % 256]).length = l.length := length_splice _ _ _ (by simp; omega)
  simp only [drawbridgelaw15_SumPatches.j0, Bool.false_eq_true, if_false]
  rw [hp]
  simp only [Option.bind_some]
  rw [if_pos (by rw [hlen])]
  unfold sum_Right.f
  rw [hr]
  simp only [Option.bind_some, beq_self_eq_true, Bool.not_true]
  simp only [drawbridgelaw15_SumPatches.j1, Bool.false_eq_true, if_false]
  exact patches_loop l m _ _ (by omega) (by omega) l.length 0 (l.length + 198) (by omega) (by omega)
end Go.Proofs.Ytchldakooabdbaa.Pure
