/- More plain facts on wires: the document's answers and link's; each states its own conditions. -/
import Derived.Test.YthfokiabneflpaaPureLink
import Derived.Test.YthfokiabneflpaaPx1
import Derived.Test.YthfokiabneflpaaPx4
import Derived.Test.YthfokiabneflpaaPx5
import Derived.Test.YthfokiabneflpaaPx8
namespace Go.Proofs.Ythfokiabneflpaa.Pure
set_option linter.unusedVariables false
open Go.RowKit Go.Proofs.Ythfokiabneflpaa.Aux Go.Proofs.Ythfokiabneflpaa.P Go.Proofs.YthfokiabneflpaaW.PrintWords Go.Proofs.YthfokiabneflpaaW.PrintLast Go.Proofs.YthfokiabneflpaaW.PrintMore
theorem same_is (l : List (List Int)) (a : Int) (hl : l.length ≤ 1000) {k : Nat} (hk : 1002 ≤ k) : drawbridgeref23_Same.f k l a l a = some true := by
  unfold drawbridgeref23_Same.f
  rw [lists_is l hl hk]
  simp
def has (l : List (List Int)) (a at_ n : Int) : Bool := chk l a && (decide (0 ≤ at_) && decide (at_ ≤ (l.length : Int) - n))
theorem has_is (l : List (List Int)) (a at_ n : Int) (h0 : 0 ≤ n) (h1 : n ≤ 10) : link_has.f l a at_ n = some (has l a at_ n) := by
  unfold link_has.f has
  rw [chk_is]
  simp only [Option.bind_some]
  by_cases h : chk l a = true
  case neg => rw [if_neg h]; simp [Bool.not_eq_true _ ▸ h]
  have hl := (chk_iff.1 h).1
  rw [if_pos h, h]
  by_cases h2 : at_ ≥ 0
  · rw [if_pos h2, w64 (by omega) (by omega), decide_eq_true (show 0 ≤ at_ from h2)]; rfl
  · rw [if_neg h2, decide_eq_false (show ¬ 0 ≤ at_ from h2)]; rfl
theorem has_iff {l : List (List Int)} {a at_ n : Int} : has l a at_ n = true ↔ chk l a = true ∧ 0 ≤ at_ ∧ at_ ≤ (l.length : Int) - n := by simp [has]
/-! slices.Concat of two rows -/
theorem rd_L2_0 (a b : List (List Int)) : rd_L2 [a, b] 0 = a := rfl
theorem rd_L2_1 (a b : List (List Int)) : rd_L2 [a, b] 1 = b := rfl
theorem ww1 : wrap64 ((0 : Int) + 1) = 1 := by rw [w64 (by decide) (by decide)]; rfl
theorem ww2 : wrap64 ((1 : Int) + 1) = 2 := by rw [w64 (by decide) (by decide)]; rfl
theorem concat_is (a b : List (List Int)) (ha : a.length ≤ 1000) (hb : b.length ≤ 1000) {k : Nat} (hk : 10 ≤ k) : slices_Concat_byte_byte.f k [a, b] = some (a ++ b) := by
  obtain ⟨k, rfl⟩ : ∃ m, k = m + 6 := ⟨k - 6, by omega⟩
  unfold slices_Concat_byte_byte.f
  simp only [slices_Concat_byte_byte.l0, List.length_cons, List.length_nil, slices_Grow_byte_byte.f]
  simp only [show ((0 + 1 + 1 : Nat) : Int) = 2 from rfl, ww1, ww2, rd_L2_0, rd_L2_1, show wrap64 (0 + (a.length : Int)) = (a.length : Int) from by rw [w64 (by omega) (by omega)]; omega, show wrap64 ((a.length : Int) + (b.length : Int)) = (a.length : Int) + (b.length : Int) from w64 (by omega) (by omega)]
  rw [if_pos (by decide), if_pos (by decide), if_pos (by decide), if_neg (by omega), if_pos (by decide), if_pos (by decide), if_pos (by decide), if_neg (by omega), if_neg (by decide), if_pos (by constructor <;> omega)]
  simp only [Option.bind_some, slices_Concat_byte_byte.l1, List.length_cons, List.length_nil, show ((0 + 1 + 1 : Nat) : Int) = 2 from rfl, ww1, ww2, rd_L2_0, rd_L2_1]
  rw [if_pos (by decide), if_pos (by decide), if_pos (by decide), if_pos (by simp; omega), if_pos (by decide), if_pos (by decide), if_pos (by decide), if_pos (by simp; omega), if_neg (by decide)]
  simp
def drop (l : List (List Int)) (a at_ : Int) : List (List Int) × Int := if has l a at_ 1 = true then (l.eraseIdx at_.toNat, a) else (l, a)
theorem drop_is (l : List (List Int)) (a at_ : Int) {k : Nat} (hk : 400 ≤ k) : link_Drop.f k l a at_ = some (drop l a at_) := by
  unfold link_Drop.f drop
  rw [has_is _ _ _ _ (by omega) (by omega)]
  simp only [Option.bind_some]
  by_cases h : has l a at_ 1 = true
  case neg => rw [if_neg h, if_neg h]
  obtain ⟨h1, h2, h3⟩ := has_iff.1 h
  have hc := (chk_iff.1 h1).1
  have hS := chk_Sm h1
  obtain ⟨m, rfl⟩ := Int.eq_ofNat_of_zero_le h2
  rw [if_pos h, if_pos h, w64 (by omega) (by omega), if_pos (by omega), if_pos (by omega), if_pos (by omega), if_pos (by omega), concat_is _ _ (by simp; omega) (by simp; omega) (by omega)]
  simp only [Option.bind_some]
  rw [show (((m : Int) + 1)).toNat = m + 1 by omega, Int.toNat_natCast, ← List.eraseIdx_eq_take_drop_succ, with_is (⟨Nat.le_trans (List.length_eraseIdx_le l m) hS.1, fun x hx => hS.2 x (List.mem_of_mem_eraseIdx hx)⟩) _ _ (by omega)]
  rfl
def twice (l : List (List Int)) (a at_ : Int) : List (List Int) × Int := if has l a at_ 1 = true then (if l.length = 32 then (l, a) else (l.take (at_.toNat + 1) ++ l.drop at_.toNat, a)) else (l, a)
theorem twice_is (l : List (List Int)) (a at_ : Int) {k : Nat} (hk : 400 ≤ k) : link_Twice.f k l a at_ = some (twice l a at_) := by
  obtain ⟨k, rfl⟩ : ∃ m, k = m + 1 := ⟨k - 1, by omega⟩
  unfold link_Twice.f twice
  rw [has_is _ _ _ _ (by omega) (by omega)]
  simp only [Option.bind_some]
  by_cases h : has l a at_ 1 = true
  case neg => rw [if_neg h, if_neg h]; simp [link_Twice.j0]
  obtain ⟨h1, h2, h3⟩ := has_iff.1 h
  have hc := (chk_iff.1 h1).1
  have hS := chk_Sm h1
  obtain ⟨m, rfl⟩ := Int.eq_ofNat_of_zero_le h2
  rw [if_pos h, if_pos h]
  by_cases h4 : l.length = 32
  · rw [if_pos h4, show ((l.length : Int) == 32) = true by simp [h4]]; simp [link_Twice.j0]
  rw [if_neg h4, show ((l.length : Int) == 32) = false by simp; omega]
  simp only [link_Twice.j0, if_neg (show ¬ (false = true) by decide)]
  rw [w64 (by omega) (by omega), if_pos (by omega), if_pos (by omega), if_pos (by omega), if_pos (by omega), concat_is _ _ (by simp; omega) (by simp; omega) (by omega)]
  simp only [Option.bind_some]
  rw [show (((m : Int) + 1)).toNat = m + 1 by omega, Int.toNat_natCast, with_is (⟨by simp; omega, fun x hx => ?_⟩) _ _ (by omega)]
  · rfl
  · rcases List.mem_append.1 hx with hx | hx
    · exact hS.2 x (List.mem_of_mem_take hx)
    · exact hS.2 x (List.mem_of_mem_drop hx)
def swapped (l : List (List Int)) (m : Nat) : List (List Int) := (l.set m (rd_L1 l ((m : Int) + 1))).set (m + 1) (rd_L1 l (m : Int))
def swap (l : List (List Int)) (a at_ : Int) : List (List Int) × Int := if has l a at_ 2 = true then (swapped l at_.toNat, a) else (l, a)
theorem swap_is (l : List (List Int)) (a at_ : Int) {k : Nat} (hk : 400 ≤ k) : link_Swap.f k l a at_ = some (swap l a at_) := by
  unfold link_Swap.f swap
  rw [has_is _ _ _ _ (by omega) (by omega)]
  simp only [Option.bind_some]
  by_cases h : has l a at_ 2 = true
  case neg => rw [if_neg h, if_neg h]
  obtain ⟨h1, h2, h3⟩ := has_iff.1 h
  have hc := (chk_iff.1 h1).1
  have hS := chk_Sm h1
  obtain ⟨m, rfl⟩ := Int.eq_ofNat_of_zero_le h2
  rw [if_pos h, if_pos h, with_is hS l a (show 300 ≤ k by omega), Option.bind_some]
  dsimp only
  rw [w64 (by omega) (by omega), if_pos (by omega), if_pos (by omega), if_pos (by omega), if_pos (by omega), show (((m : Int) + 1)).toNat = m + 1 by omega, Int.toNat_natCast]
  rfl
theorem small_loop (l : List (List Int)) (a : Int) (hl : l.length ≤ 100) : ∀ (d i k : Nat), i + d = l.length → d + 1 ≤ k → ∃ b, drawbridgelaw23_small.l0 k (i : Int) l a = some b ∧ (b = true → ∀ j, i ≤ j → (hj : j < l.length) → l[j].length ≤ 3000) := by
  intro d
  induction d with
  | zero =>
    intro i k hi hk
    obtain ⟨k, rfl⟩ : ∃ m, k = m + 1 := ⟨k - 1, by omega⟩
    simp only [drawbridgelaw23_small.l0]
    rw [if_neg (by omega)]
    exact ⟨true, rfl, fun _ j h1 h2 => by omega⟩
  | succ d ih =>
    intro i k hi hk
    obtain ⟨k, rfl⟩ : ∃ m, k = m + 1 := ⟨k - 1, by omega⟩
    have hlt : i < l.length := by omega
    simp only [drawbridgelaw23_small.l0, rd_L1_nat l i hlt]
    rw [if_pos (by omega), if_pos (by omega)]
    by_cases h : (l[i].length : Int) > 3000
    · rw [if_pos h]; exact ⟨false, rfl, fun h => by cases h⟩
    rw [if_neg h, w64 (by omega) (by omega)]
    obtain ⟨b, hb, hall⟩ := ih (i + 1) k (by omega) (by omega)
    rw [show ((i + 1 : Nat) : Int) = (i : Int) + 1 by omega] at hb
    refine ⟨b, hb, fun ht j h1 h2 => ?_⟩
    rcases Nat.eq_or_lt_of_le h1 with rfl | h3
    · omega
    · exact hall ht j (by omega) h2
theorem small_is (l : List (List Int)) (a : Int) {k : Nat} (hk : 200 ≤ k) : ∃ b, drawbridgelaw23_small.f k l a = some b ∧ (b = true → Sm l) := by
  unfold drawbridgelaw23_small.f
  by_cases h : (l.length : Int) > 100
  · rw [if_pos h]; exact ⟨false, rfl, fun h => by cases h⟩
  rw [if_neg h]
  obtain ⟨b, hb, hall⟩ := small_loop l a (by omega) l.length 0 k (by omega) (by omega)
  refine ⟨b, by simpa using hb, fun ht => ⟨by omega, fun x hx => ?_⟩⟩
  obtain ⟨j, hj, rfl⟩ := List.mem_iff_getElem.1 hx
  have := hall ht j (by omega) hj
  omega
end Go.Proofs.Ythfokiabneflpaa.Pure
