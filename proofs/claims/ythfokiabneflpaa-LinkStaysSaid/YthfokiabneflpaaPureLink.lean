/- Plain facts on wires: what each of link's functions answers; each states its own conditions. -/
import Derived.OpenShut
import Derived.Test.YthfokiabneflpaaPx1
import Derived.Test.YthfokiabneflpaaPx2
import Derived.Test.YthfokiabneflpaaPx3
import Derived.Test.YthfokiabneflpaaPx5
import Derived.Test.YthfokiabneflpaaPx8
namespace Go.Proofs.Ythfokiabneflpaa.Pure
set_option linter.unusedVariables false
open Go.RowKit Go.Proofs.Ythfokiabneflpaa.Aux Go.Proofs.Ythfokiabneflpaa.P Go.Proofs.YthfokiabneflpaaW.PrintWords Go.Proofs.YthfokiabneflpaaW.PrintLast Go.Proofs.YthfokiabneflpaaW.PrintMore
theorem w64 {x : Int} (h0 : -9223372036854775808 ≤ x) (h1 : x ≤ 9223372036854775807) : wrap64 x = x := by unfold wrap64; omega
theorem heads23_ok : drawbridgelaw23_heads.f 100 = some true := by decide +kernel
theorem heads23_at {k : Nat} (hk : 100 ≤ k) : drawbridgelaw23_heads.f k = some true := at_rounds (g := fun k => drawbridgelaw23_heads.f k) (fun k => drawbridgelaw23_heads.mono k) hk heads23_ok
/-- Few frames, and short ones. -/
def Sm (q : List (List Int)) : Prop := q.length ≤ 200 ∧ ∀ x ∈ q, x.length ≤ 4000
def chk (l : List (List Int)) (a : Int) : Bool := decide (l.length ≤ 32) && (decide (0 ≤ a) && (decide (a ≤ 2147483648) && !(l.any fun x => !(frameOk x))))
theorem chk_is (l : List (List Int)) (a : Int) : link_Check.f l a = some (chk l a) := rfl
theorem frameOk_iff {x : List Int} : frameOk x = true ↔ 14 ≤ x.length ∧ x.length ≤ 1514 := by simp [frameOk]
theorem chk_iff {l : List (List Int)} {a : Int} : chk l a = true ↔ l.length ≤ 32 ∧ 0 ≤ a ∧ a ≤ 2147483648 ∧ ∀ x ∈ l, frameOk x = true := by
  simp [chk, List.any_eq_false]
theorem chk_Sm {l : List (List Int)} {a : Int} (h : chk l a = true) : Sm l := by
  obtain ⟨h1, _, _, h4⟩ := chk_iff.1 h
  exact ⟨by omega, fun x hx => by have := frameOk_iff.1 (h4 x hx); omega⟩
theorem Sm_of {l q : List (List Int)} (h : ∀ x ∈ l, x.length ≤ 4000) (hq : ∀ x ∈ q, x ∈ l) (hl : q.length ≤ 200) : Sm q := ⟨hl, fun x hx => h x (hq x hx)⟩
theorem fits_is (f : List Int) : link_fits.f f = some (frameOk f) := by
  unfold link_fits.f frameOk
  by_cases h : (f.length : Int) ≥ 14
  · rw [if_pos h, decide_eq_true (show 14 ≤ f.length by omega)]; simp; omega
  · rw [if_neg h, decide_eq_false (show ¬ 14 ≤ f.length by omega)]; rfl
theorem rd_L1_nat (l : List (List Int)) (i : Nat) (h : i < l.length) : rd_L1 l (i : Int) = l[i] := by
  simp [rd_L1, List.getD_eq_getElem?_getD, h]
theorem take_snoc (l : List (List Int)) (i : Nat) (h : i < l.length) : l.take i ++ [l[i]] = l.take (i + 1) := by
  rw [List.take_succ_eq_append_getElem h]
theorem with_loop (q : List (List Int)) (hq : Sm q) (a : Int) : ∀ (d i k : Nat), i + d = q.length → d + 1 ≤ k → link_with.l0 k q (q.length : Int) (i : Int) (q.take i) a = some (q, a) := by
  obtain ⟨h1, h2⟩ := hq
  intro d
  induction d with
  | zero =>
    intro i k hi hk
    obtain ⟨k, rfl⟩ : ∃ m, k = m + 1 := ⟨k - 1, by omega⟩
    simp only [link_with.l0]
    rw [if_neg (by omega), List.take_of_length_le (by omega)]
  | succ d ih =>
    intro i k hi hk
    obtain ⟨k, rfl⟩ : ∃ m, k = m + 1 := ⟨k - 1, by omega⟩
    have hlt : i < q.length := by omega
    have h3 := h2 q[i] (List.getElem_mem hlt)
    simp only [link_with.l0, rd_L1_nat q i hlt, slices_Clone_byte_byte.f]
    rw [if_pos (by omega), if_pos (by omega), if_pos (by omega), if_pos (by omega)]
    simp only [Option.bind_some]
    rw [if_pos (by simp; omega), w64 (by omega) (by omega), take_snoc q i hlt]
    have := ih (i + 1) k (by omega) (by omega)
    rw [show ((i + 1 : Nat) : Int) = (i : Int) + 1 by omega] at this
    exact this
theorem with_is {q : List (List Int)} (hq : Sm q) (l : List (List Int)) (a : Int) {k : Nat} (hk : 300 ≤ k) : link_with.f k l a q = some (q, a) := by
  unfold link_with.f
  have := with_loop q hq a q.length 0 k (by omega) (by have := hq.1; omega)
  simpa using this
def push (l : List (List Int)) (a : Int) (f : List Int) : List (List Int) × Int × Bool :=
  if chk l a = true then (if frameOk f = true then (if l.length = 32 then (l, (if a + 1 < 2147483648 then a + 1 else 2147483648), false) else (l ++ [f], a, true)) else (l, a, false)) else (l, a, false)
theorem push_is (l : List (List Int)) (a : Int) (f : List Int) {k : Nat} (hk : 302 ≤ k) : link_Push.f k l a f = some (push l a f) := by
  obtain ⟨k, rfl⟩ : ∃ m, k = m + 1 := ⟨k - 1, by omega⟩
  unfold link_Push.f push
  rw [chk_is]
  simp only [Option.bind_some]
  by_cases h1 : chk l a = true
  case neg => rw [if_neg h1, if_neg h1]; simp [link_Push.j0]
  obtain ⟨c1, c2, c3, c4⟩ := chk_iff.1 h1
  rw [if_pos h1, if_pos h1, fits_is]
  simp only [Option.bind_some]
  by_cases h2 : frameOk f = true
  case neg =>
    rw [Bool.not_eq_true] at h2
    rw [h2]; simp [link_Push.j0]
  rw [h2]
  simp only [link_Push.j0, Bool.not_true, if_neg (show ¬ (false = true) by decide), if_true]
  by_cases h3 : l.length = 32
  · rw [if_pos (by omega), if_pos h3, w64 (by omega) (by omega)]
    simp only [mn]
  rw [if_neg (by omega), if_neg h3]
  simp only [Option.bind_some]
  rw [if_pos (by omega), with_is ⟨by simp; omega, fun x hx => ?_⟩ _ _ (by omega)]
  · simp
  rcases List.mem_append.1 hx with hx | hx
  · have := frameOk_iff.1 (c4 x hx); omega
  · have := frameOk_iff.1 h2; simp at hx; subst hx; omega
def pop (l : List (List Int)) (a : Int) : List (List Int) × Int × List Int × Bool :=
  if chk l a = true then (if l.length = 0 then (l, a, [], false) else (l.drop 1, a, rd_L1 l 0, true)) else (l, a, [], false)
theorem pop_is (l : List (List Int)) (a : Int) {k : Nat} (hk : 302 ≤ k) : link_Pop.f k l a = some (pop l a) := by
  obtain ⟨k, rfl⟩ : ∃ m, k = m + 1 := ⟨k - 1, by omega⟩
  unfold link_Pop.f pop
  rw [chk_is]
  simp only [Option.bind_some]
  by_cases h1 : chk l a = true
  case neg => rw [if_neg h1, if_neg h1]; simp [link_Pop.j0]
  obtain ⟨c1, c2, c3, c4⟩ := chk_iff.1 h1
  rw [if_pos h1, if_pos h1]
  by_cases h2 : l.length = 0
  · have : ((l.length : Int) == 0) = true := by simp [h2]
    rw [this, if_pos h2]; simp [link_Pop.j0]
  have : ((l.length : Int) == 0) = false := by simp; intro h; simp [h] at h2
  rw [this, if_neg h2]
  have hS := chk_Sm h1
  have hd : Sm (l.drop 1) := ⟨by simp; omega, fun x hx => hS.2 x (List.mem_of_mem_drop hx)⟩
  have h0 := hS.2 (l[0]'(by omega)) (List.getElem_mem _)
  simp only [link_Pop.j0, if_neg (show ¬ (false = true) by decide)]
  rw [if_pos (by omega), with_is hd _ _ (by omega)]
  simp only [Option.bind_some]
  rw [if_pos (by omega)]
  have e := rd_L1_nat l 0 (by omega)
  simp only [slices_Clone_byte_byte.f]
  rw [show ((0 : Nat) : Int) = 0 from rfl] at e
  rw [e, if_pos (by omega)]
  rfl
theorem lists_loop (l : List (List Int)) (hl : l.length ≤ 100000) : ∀ (d i k : Nat), i + d = l.length → d + 1 ≤ k → drawbridgeref23_Lists.l0 k l l (i : Int) = some true := by
  intro d
  induction d with
  | zero =>
    intro i k hi hk
    obtain ⟨k, rfl⟩ : ∃ m, k = m + 1 := ⟨k - 1, by omega⟩
    simp only [drawbridgeref23_Lists.l0]
    rw [if_neg (by omega)]
  | succ d ih =>
    intro i k hi hk
    obtain ⟨k, rfl⟩ : ∃ m, k = m + 1 := ⟨k - 1, by omega⟩
    simp only [drawbridgeref23_Lists.l0]
    rw [if_pos (by omega), if_pos (by omega), if_pos (by omega), if_pos (by first | trivial | rfl), w64 (by omega) (by omega)]
    have := ih (i + 1) k (by omega) (by omega)
    rw [show ((i + 1 : Nat) : Int) = (i : Int) + 1 by omega] at this
    exact this
theorem lists_is (l : List (List Int)) (hl : l.length ≤ 1000) {k : Nat} (hk : 1002 ≤ k) : drawbridgeref23_Lists.f k l l = some true := by
  unfold drawbridgeref23_Lists.f
  rw [if_pos rfl]
  exact lists_loop l (by omega) l.length 0 k (by omega) (by omega)
end Go.Proofs.Ythfokiabneflpaa.Pure
