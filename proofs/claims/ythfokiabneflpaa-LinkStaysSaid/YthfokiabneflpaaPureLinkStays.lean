/- LinkStays: a wire that may be stays so; no condition beside the statement's own. -/
import Derived.Test.YthfokiabneflpaaPureLinkMore
import Derived.Test.YthfokiabneflpaaQLinkStays
import Derived.Test.YthfokiabneflpaaPx12
namespace Go.Proofs.Ythfokiabneflpaa.Pure
set_option linter.unusedVariables false
open Go.RowKit Go.Proofs.Ythfokiabneflpaa.Aux Go.Proofs.Ythfokiabneflpaa.P Go.Proofs.YthfokiabneflpaaW.PrintWords Go.Proofs.YthfokiabneflpaaW.PrintLast Go.Proofs.YthfokiabneflpaaW.PrintMore
theorem push_chk {l : List (List Int)} {a : Int} (h : chk l a = true) (f : List Int) : chk (push l a f).1 (push l a f).2.1 = true := by
  obtain ⟨c1, c2, c3, c4⟩ := chk_iff.1 h
  unfold push
  rw [if_pos h]
  by_cases hf : frameOk f = true
  case neg => rw [if_neg hf]; exact h
  rw [if_pos hf]
  by_cases h32 : l.length = 32
  · rw [if_pos h32]
    refine chk_iff.2 ⟨c1, ?_, ?_, c4⟩ <;> dsimp only <;> split <;> omega
  · rw [if_neg h32]
    refine chk_iff.2 ⟨by simp; omega, c2, c3, fun x hx => ?_⟩
    rcases List.mem_append.1 hx with hx | hx
    · exact c4 x hx
    · simp at hx; subst hx; exact hf
theorem pop_chk {l : List (List Int)} {a : Int} (h : chk l a = true) : chk (pop l a).1 (pop l a).2.1 = true := by
  obtain ⟨c1, c2, c3, c4⟩ := chk_iff.1 h
  unfold pop
  rw [if_pos h]
  split
  · exact h
  · exact chk_iff.2 ⟨by simp; omega, c2, c3, fun x hx => c4 x (List.mem_of_mem_drop hx)⟩
theorem drop_chk {l : List (List Int)} {a : Int} (h : chk l a = true) (m : Int) : chk (drop l a m).1 (drop l a m).2 = true := by
  obtain ⟨c1, c2, c3, c4⟩ := chk_iff.1 h
  unfold drop
  split
  · exact chk_iff.2 ⟨Nat.le_trans (List.length_eraseIdx_le _ _) c1, c2, c3, fun x hx => c4 x (List.mem_of_mem_eraseIdx hx)⟩
  · exact h
theorem twice_chk {l : List (List Int)} {a : Int} (h : chk l a = true) (m : Int) : chk (twice l a m).1 (twice l a m).2 = true := by
  obtain ⟨c1, c2, c3, c4⟩ := chk_iff.1 h
  unfold twice
  split
  · rename_i hh
    obtain ⟨_, h2, h3⟩ := has_iff.1 hh
    split
    · exact h
    · refine chk_iff.2 ⟨by simp; omega, c2, c3, fun x hx => ?_⟩
      rcases List.mem_append.1 hx with hx | hx
      · exact c4 x (List.mem_of_mem_take hx)
      · exact c4 x (List.mem_of_mem_drop hx)
  · exact h
theorem swapped_swapped (l : List (List Int)) (m : Nat) (h : m + 1 < l.length) : swapped (swapped l m) m = l := by
  unfold swapped
  have e1 : rd_L1 l (m : Int) = l[m] := rd_L1_nat l m (by omega)
  have e2 : rd_L1 l ((m : Int) + 1) = l[m + 1] := by
    have := rd_L1_nat l (m + 1) h
    rwa [show ((m + 1 : Nat) : Int) = (m : Int) + 1 by omega] at this
  rw [e1, e2]
  have f1 : rd_L1 ((l.set m l[m + 1]).set (m + 1) l[m]) (m : Int) = l[m + 1] := by
    rw [rd_L1_nat _ m (by simp; omega)]
    simp
  have f2 : rd_L1 ((l.set m l[m + 1]).set (m + 1) l[m]) ((m : Int) + 1) = l[m] := by
    have := rd_L1_nat ((l.set m l[m + 1]).set (m + 1) l[m]) (m + 1) (by simpa using h)
    rw [show ((m + 1 : Nat) : Int) = (m : Int) + 1 by omega] at this
    rw [this]; simp
  rw [f1, f2]
  apply List.ext_getElem
  · simp
  intro j h1 h2
  simp only [List.getElem_set]
  split
  · rename_i hj; subst hj; rfl
  · split
    · rename_i hj; subst hj; rfl
    · rfl
theorem swapped_mem {l : List (List Int)} {m : Nat} (h : m + 1 < l.length) {x : List Int} (hx : x ∈ swapped l m) : x ∈ l := by
  unfold swapped at hx
  have e1 : rd_L1 l (m : Int) = l[m] := rd_L1_nat l m (by omega)
  have e2 : rd_L1 l ((m : Int) + 1) = l[m + 1] := by
    have := rd_L1_nat l (m + 1) h
    rwa [show ((m + 1 : Nat) : Int) = (m : Int) + 1 by omega] at this
  rw [e1, e2] at hx
  rcases List.mem_or_eq_of_mem_set hx with hx | rfl
  · rcases List.mem_or_eq_of_mem_set hx with hx | rfl
    · exact hx
    · exact List.getElem_mem _
  · exact List.getElem_mem _
theorem swap_swap {l : List (List Int)} {a : Int} (h : chk l a = true) (m : Int) : swap (swap l a m).1 (swap l a m).2 m = (l, a) := by
  obtain ⟨c1, c2, c3, c4⟩ := chk_iff.1 h
  by_cases hh : has l a m 2 = true
  case neg => simp [swap, hh]
  obtain ⟨_, h2, h3⟩ := has_iff.1 hh
  obtain ⟨n, rfl⟩ := Int.eq_ofNat_of_zero_le h2
  have hlen : (swapped l n).length = l.length := by simp [swapped]
  have hh2 : has (swapped l n) a (n : Int) 2 = true := has_iff.2 ⟨chk_iff.2 ⟨by omega, c2, c3, fun x hx => c4 x (swapped_mem (by omega) hx)⟩, h2, by rw [hlen]; exact h3⟩
  simp only [swap, hh, if_true, Int.toNat_natCast, hh2, swapped_swapped l n (by omega)]
theorem twice_drop {l : List (List Int)} {a : Int} (m : Int) (h : (twice l a m).1.length ≠ l.length) : drop (twice l a m).1 (twice l a m).2 m = (l, a) := by
  unfold twice at *
  by_cases hh : has l a m 1 = true
  case neg => rw [if_neg hh] at h; exact absurd rfl h
  rw [if_pos hh] at *
  by_cases h32 : l.length = 32
  · rw [if_pos h32] at h; exact absurd rfl h
  rw [if_neg h32] at *
  obtain ⟨h1, h2, h3⟩ := has_iff.1 hh
  obtain ⟨c1, c2, c3, c4⟩ := chk_iff.1 h1
  obtain ⟨n, rfl⟩ := Int.eq_ofNat_of_zero_le h2
  simp only [Int.toNat_natCast]
  have hc : chk (l.take (n + 1) ++ l.drop n) a = true := by
    refine chk_iff.2 ⟨by simp; omega, c2, c3, fun x hx => ?_⟩
    rcases List.mem_append.1 hx with hx | hx
    · exact c4 x (List.mem_of_mem_take hx)
    · exact c4 x (List.mem_of_mem_drop hx)
  unfold drop
  rw [if_pos (has_iff.2 ⟨hc, by omega, by simp; omega⟩)]
  simp only [Int.toNat_natCast, Prod.mk.injEq, and_true]
  rw [List.eraseIdx_append_of_lt_length (by simp; omega), List.eraseIdx_eq_take_drop_succ, List.take_take, List.drop_take]
  simp
theorem LinkStays : drawbridgelaw23_LinkStays.Pure := by
  intro l a f m hl ha hf hw hm
  refine ⟨2000, ?_⟩
  have hj : ∀ k, 200 ≤ k → drawbridgelaw23_LinkStays.j0 k f m true l a = some true := by
    intro k hk
    obtain ⟨k, rfl⟩ : ∃ q, k = q + 1 := ⟨k - 1, by omega⟩
    simp only [drawbridgelaw23_LinkStays.j0, if_true]
    rw [heads23_at (by omega)]; rfl
  unfold drawbridgelaw23_LinkStays.f
  obtain ⟨b, hb, hS⟩ := small_is l a (show 200 ≤ 2000 by omega)
  rw [hb]
  simp only [Option.bind_some]
  cases b with
  | false => rw [if_neg (by decide)]; exact hj 2000 (by omega)
  | true =>
    rw [if_pos rfl]
    by_cases h1 : (f.length : Int) > 3000
    · rw [if_pos h1]; exact hj 2000 (by omega)
    rw [if_neg h1, chk_is]
    simp only [Option.bind_some]
    cases hc : chk l a with
    | false => exact hj 2000 (by omega)
    | true =>
      have hlen := (chk_iff.1 hc).1
      simp only [drawbridgelaw23_LinkStays.j0, Bool.not_true, if_neg (show ¬ (false = true) by decide)]
      rw [push_is _ _ _ (by omega), pop_is _ _ (by omega)]
      simp only [Option.bind_some]
      rw [chk_is, push_chk hc f]
      simp only [Option.bind_some, if_true]
      rw [chk_is, pop_chk hc]
      simp only [Option.bind_some, if_true]
      rw [drop_is _ _ _ (by omega)]
      simp only [Option.bind_some]
      rw [chk_is, drop_chk hc m]
      simp only [Option.bind_some, if_true]
      rw [twice_is _ _ _ (by omega)]
      simp only [Option.bind_some]
      rw [chk_is, twice_chk hc m]
      simp only [Option.bind_some, if_true]
      rw [swap_is _ _ _ (by omega)]
      simp only [Option.bind_some]
      rw [swap_is _ _ _ (by omega), swap_swap hc m]
      simp only [Option.bind_some]
      rw [same_is l a (by omega) (by omega)]
      simp only [Option.bind_some, drawbridgelaw23_LinkStays.j1, Bool.not_true, if_neg (show ¬ (false = true) by decide)]
      rw [twice_is _ _ _ (by omega)]
      simp only [Option.bind_some]
      by_cases ht : ((twice l a m).1.length : Int) = (l.length : Int)
      · rw [if_pos ht, heads23_at (by omega)]; rfl
      rw [if_neg ht, drop_is _ _ _ (by omega), twice_drop m (by omega)]
      simp only [Option.bind_some]
      rw [same_is l a (by omega) (by omega)]
      simp only [Option.bind_some, if_true]
      rw [heads23_at (by omega)]; rfl
end Go.Proofs.Ythfokiabneflpaa.Pure
