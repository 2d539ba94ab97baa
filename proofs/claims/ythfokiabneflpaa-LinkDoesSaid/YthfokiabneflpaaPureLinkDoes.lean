/- LinkDoes: what becomes of a wire is what the document says; no condition beside the statement's own. -/
import Derived.Test.YthfokiabneflpaaPureLinkMore
import Derived.Test.YthfokiabneflpaaQLinkDoes
import Derived.Test.YthfokiabneflpaaPx7
import Derived.Test.YthfokiabneflpaaPx8
import Derived.Test.YthfokiabneflpaaPx9
import Derived.Test.YthfokiabneflpaaPx10
namespace Go.Proofs.Ythfokiabneflpaa.Pure
set_option linter.unusedVariables false
open Go.RowKit Go.Proofs.Ythfokiabneflpaa.Aux Go.Proofs.Ythfokiabneflpaa.P Go.Proofs.YthfokiabneflpaaW.PrintWords Go.Proofs.YthfokiabneflpaaW.PrintLast Go.Proofs.YthfokiabneflpaaW.PrintMore
theorem rfits_is (f : List Int) : drawbridgeref23_fits.f f = some (frameOk f) := fits_is f
theorem rcheck_loop (l : List (List Int)) (a : Int) (hl : l.length ≤ 32) : ∀ (d i k : Nat), i + d = l.length → d + 1 ≤ k → drawbridgeref23_Check.l0 k (i : Int) l a = some (!((l.drop i).any fun x => !(frameOk x))) := by
  intro d
  induction d with
  | zero =>
    intro i k hi hk
    obtain ⟨k, rfl⟩ : ∃ m, k = m + 1 := ⟨k - 1, by omega⟩
    simp only [drawbridgeref23_Check.l0]
    rw [if_neg (by omega), List.drop_eq_nil_of_le (by omega)]; rfl
  | succ d ih =>
    intro i k hi hk
    obtain ⟨k, rfl⟩ : ∃ m, k = m + 1 := ⟨k - 1, by omega⟩
    have hlt : i < l.length := by omega
    simp only [drawbridgeref23_Check.l0, rd_L1_nat l i hlt, rfits_is]
    rw [if_pos (by omega), if_pos (by omega), List.drop_eq_getElem_cons hlt]
    simp only [Option.bind_some, List.any_cons]
    cases hf : frameOk l[i] with
    | false => simp
    | true =>
      have e := ih (i + 1) k (by omega) (by omega)
      rw [show ((i + 1 : Nat) : Int) = (i : Int) + 1 by omega] at e
      rw [if_pos rfl, w64 (by omega) (by omega), e]; simp
theorem rcheck_is (l : List (List Int)) (a : Int) {k : Nat} (hk : 50 ≤ k) : drawbridgeref23_Check.f k l a = some (chk l a) := by
  obtain ⟨k, rfl⟩ : ∃ m, k = m + 1 := ⟨k - 1, by omega⟩
  unfold drawbridgeref23_Check.f chk
  by_cases h1 : (l.length : Int) > 32
  · rw [if_pos h1, decide_eq_false (show ¬ l.length ≤ 32 by omega)]; simp [drawbridgeref23_Check.j0]
  rw [if_neg h1, decide_eq_true (show l.length ≤ 32 by omega)]
  by_cases h2 : a < 0
  · rw [if_pos h2, decide_eq_false (show ¬ 0 ≤ a by omega)]; simp [drawbridgeref23_Check.j0]
  rw [if_neg h2, decide_eq_true (show 0 ≤ a by omega)]
  by_cases h3 : a > 2147483648
  · rw [decide_eq_true h3, decide_eq_false (show ¬ a ≤ 2147483648 by omega)]; simp [drawbridgeref23_Check.j0]
  rw [decide_eq_false h3, decide_eq_true (show a ≤ 2147483648 by omega)]
  simp only [drawbridgeref23_Check.j0, if_neg (show ¬ (false = true) by decide)]
  have := rcheck_loop l a (by omega) l.length 0 k (by omega) (by omega)
  rw [show ((0 : Nat) : Int) = 0 from rfl] at this
  rw [this]; simp
theorem own_loop (q : List (List Int)) (hq : Sm q) : ∀ (d i k : Nat), i + d = q.length → d + 1 ≤ k → drawbridgeref23_own.l0 k q (q.take i) (i : Int) = some q := by
  obtain ⟨h1, h2⟩ := hq
  intro d
  induction d with
  | zero =>
    intro i k hi hk
    obtain ⟨k, rfl⟩ : ∃ m, k = m + 1 := ⟨k - 1, by omega⟩
    simp only [drawbridgeref23_own.l0]
    rw [if_neg (by omega), List.take_of_length_le (by omega)]
  | succ d ih =>
    intro i k hi hk
    obtain ⟨k, rfl⟩ : ∃ m, k = m + 1 := ⟨k - 1, by omega⟩
    have hlt : i < q.length := by omega
    have h3 := h2 q[i] (List.getElem_mem hlt)
    simp only [drawbridgeref23_own.l0, rd_L1_nat q i hlt, Option.bind_some]
    rw [if_pos (by omega), if_pos (by omega), if_pos (by simp; omega), if_pos (by simp; omega), List.nil_append, w64 (by omega) (by omega), take_snoc q i hlt]
    have := ih (i + 1) k (by omega) (by omega)
    rw [show ((i + 1 : Nat) : Int) = (i : Int) + 1 by omega] at this
    exact this
theorem own_is {q : List (List Int)} (hq : Sm q) {k : Nat} (hk : 300 ≤ k) : drawbridgeref23_own.f k q = some q := by
  unfold drawbridgeref23_own.f
  have := own_loop q hq q.length 0 k (by omega) (by have := hq.1; omega)
  simpa using this
theorem rpush_is (l : List (List Int)) (a : Int) (f : List Int) {k : Nat} (hk : 302 ≤ k) : drawbridgeref23_Push.f k l a f = some (push l a f) := by
  obtain ⟨k, rfl⟩ : ∃ m, k = m + 1 := ⟨k - 1, by omega⟩
  unfold drawbridgeref23_Push.f push
  rw [rcheck_is _ _ (by omega)]
  simp only [Option.bind_some]
  by_cases h1 : chk l a = true
  case neg => rw [if_neg h1, if_neg h1]; simp [drawbridgeref23_Push.j0]
  obtain ⟨c1, c2, c3, c4⟩ := chk_iff.1 h1
  rw [if_pos h1, if_pos h1, rfits_is]
  simp only [Option.bind_some]
  by_cases h2 : frameOk f = true
  case neg =>
    rw [Bool.not_eq_true] at h2
    rw [h2]; simp [drawbridgeref23_Push.j0]
  rw [h2]
  simp only [drawbridgeref23_Push.j0, Bool.not_true, if_neg (show ¬ (false = true) by decide), if_true]
  by_cases h3 : l.length = 32
  · rw [if_pos (by omega), if_pos h3, w64 (by omega) (by omega)]
    have : mn (a + 1) 2147483648 = (if a + 1 < 2147483648 then a + 1 else 2147483648) := by simp only [mn]; split <;> split <;> omega
    rw [this]
  rw [if_neg (by omega), if_neg h3, own_is (chk_Sm h1) (by omega)]
  have hf := frameOk_iff.1 h2
  simp only [Option.bind_some]
  rw [if_pos (by simp; omega), if_pos (by omega), List.nil_append]
theorem rpop_is (l : List (List Int)) (a : Int) {k : Nat} (hk : 302 ≤ k) : drawbridgeref23_Pop.f k l a = some (pop l a) := by
  unfold drawbridgeref23_Pop.f pop
  rw [rcheck_is _ _ (by omega)]
  simp only [Option.bind_some]
  by_cases h1 : chk l a = true
  case neg => rw [if_neg h1, if_neg h1]
  rw [if_pos h1, if_pos h1]
  by_cases h2 : l.length = 0
  · rw [if_pos (by omega), if_pos h2]
  rw [if_neg (by omega), if_neg h2, own_is (chk_Sm h1) (by omega)]
  simp only [Option.bind_some]
  rw [if_pos (by omega), if_pos (by omega)]
theorem rhas_is (l : List (List Int)) (a at_ : Int) {k : Nat} (hk : 50 ≤ k) : drawbridgeref23_has.f k l a at_ = some (has l a at_ 1) := by
  unfold drawbridgeref23_has.f has
  rw [rcheck_is _ _ hk]
  simp only [Option.bind_some]
  by_cases h : chk l a = true
  case neg => rw [if_neg h]; simp [Bool.not_eq_true _ ▸ h]
  rw [if_pos h, h]
  by_cases h2 : at_ ≥ 0
  · rw [if_pos h2, decide_eq_true (show 0 ≤ at_ from h2)]
    simp only [Bool.true_and, Option.some.injEq]
    exact decide_eq_decide.2 (by omega)
  · rw [if_neg h2, decide_eq_false (show ¬ 0 ≤ at_ from h2)]; rfl
theorem rdrop_is (l : List (List Int)) (a at_ : Int) {k : Nat} (hk : 400 ≤ k) : drawbridgeref23_Drop.f k l a at_ = some (drop l a at_) := by
  unfold drawbridgeref23_Drop.f drop
  rw [rhas_is _ _ _ (by omega)]
  simp only [Option.bind_some]
  by_cases h : has l a at_ 1 = true
  case neg => rw [if_neg h, if_neg h]
  obtain ⟨h1, h2, h3⟩ := has_iff.1 h
  have hc := (chk_iff.1 h1).1
  rw [if_pos h, if_pos h, own_is (chk_Sm h1) (by omega)]
  simp only [Option.bind_some]
  rw [w64 (by omega) (by omega), if_pos (by omega), if_pos (by omega), if_pos (by omega), if_pos (by omega)]
theorem rtwice_is (l : List (List Int)) (a at_ : Int) {k : Nat} (hk : 400 ≤ k) : drawbridgeref23_Twice.f k l a at_ = some (twice l a at_) := by
  obtain ⟨k, rfl⟩ : ∃ m, k = m + 1 := ⟨k - 1, by omega⟩
  unfold drawbridgeref23_Twice.f twice
  rw [rhas_is _ _ _ (by omega)]
  simp only [Option.bind_some]
  by_cases h : has l a at_ 1 = true
  case neg => rw [if_neg h, if_neg h]; simp [drawbridgeref23_Twice.j0]
  obtain ⟨h1, h2, h3⟩ := has_iff.1 h
  have hc := (chk_iff.1 h1).1
  have hS := chk_Sm h1
  obtain ⟨m, rfl⟩ := Int.eq_ofNat_of_zero_le h2
  rw [if_pos h, if_pos h]
  by_cases h4 : l.length = 32
  · rw [if_pos h4, show ((l.length : Int) == 32) = true by simp [h4]]; simp [drawbridgeref23_Twice.j0]
  rw [if_neg h4, show ((l.length : Int) == 32) = false by simp; omega]
  simp only [drawbridgeref23_Twice.j0, if_neg (show ¬ (false = true) by decide)]
  rw [w64 (by omega) (by omega), if_pos (by omega), if_pos (by omega), show (((m : Int) + 1)).toNat = m + 1 by omega, Int.toNat_natCast, own_is ⟨by simp; omega, fun x hx => hS.2 x (List.mem_of_mem_take hx)⟩ (by omega)]
  simp only [Option.bind_some]
  rw [if_pos (by omega), if_pos (by omega), own_is ⟨by simp; omega, fun x hx => hS.2 x (List.mem_of_mem_drop hx)⟩ (by omega)]
  simp only [Option.bind_some]
  rw [if_pos (by simp; omega)]
theorem rswap_is (l : List (List Int)) (a at_ : Int) {k : Nat} (hk : 400 ≤ k) : drawbridgeref23_Swap.f k l a at_ = some (swap l a at_) := by
  unfold drawbridgeref23_Swap.f swap
  rw [rhas_is _ _ _ (by omega)]
  simp only [Option.bind_some]
  by_cases h : has l a at_ 1 = true
  case neg =>
    have h' : has l a at_ 2 ≠ true := fun h2 => h (by obtain ⟨h3, h4, h5⟩ := has_iff.1 h2; exact has_iff.2 ⟨h3, h4, by omega⟩)
    rw [if_neg h, if_neg h']
  obtain ⟨h1, h2, h3⟩ := has_iff.1 h
  have hc := (chk_iff.1 h1).1
  have hS := chk_Sm h1
  rw [if_pos h, w64 (x := (l.length : Int) - 1) (by omega) (by omega)]
  by_cases h4 : at_ = (l.length : Int) - 1
  · have h' : has l a at_ 2 ≠ true := fun h2 => by obtain ⟨h3, h4, h5⟩ := has_iff.1 h2; omega
    rw [if_pos h4, if_neg h']
  have h' : has l a at_ 2 = true := has_iff.2 ⟨h1, h2, by omega⟩
  rw [if_neg h4, if_pos h', own_is hS (by omega)]
  obtain ⟨m, rfl⟩ := Int.eq_ofNat_of_zero_le h2
  simp only [Option.bind_some]
  rw [w64 (by omega) (by omega), if_pos (by omega), if_pos (by omega), if_pos (by omega), if_pos (by omega), show (((m : Int) + 1)).toNat = m + 1 by omega, Int.toNat_natCast]
  rfl
theorem same01_is (l : List Int) : drawbridgeref01_Same.f l l = some true := by unfold drawbridgeref01_Same.f; simp
theorem push_len {l : List (List Int)} {a : Int} (f : List Int) (h : l.length ≤ 200) : (push l a f).1.length ≤ 1000 := by
  unfold push; split
  · split
    · split
      · exact Nat.le_trans h (by decide)
      · simp; omega
    · exact Nat.le_trans h (by decide)
  · exact Nat.le_trans h (by decide)
theorem pop_len {l : List (List Int)} {a : Int} (h : l.length ≤ 200) : (pop l a).1.length ≤ 1000 := by
  unfold pop; split
  · split
    · exact Nat.le_trans h (by decide)
    · simp; omega
  · exact Nat.le_trans h (by decide)
theorem drop_len {l : List (List Int)} {a : Int} (m : Int) (h : l.length ≤ 200) : (drop l a m).1.length ≤ 1000 := by
  unfold drop; split
  · have := List.length_eraseIdx_le l m.toNat; dsimp only; omega
  · exact Nat.le_trans h (by decide)
theorem twice_len {l : List (List Int)} {a : Int} (m : Int) (h : l.length ≤ 200) : (twice l a m).1.length ≤ 1000 := by
  unfold twice; split
  · split
    · exact Nat.le_trans h (by decide)
    · simp; omega
  · exact Nat.le_trans h (by decide)
theorem swap_len {l : List (List Int)} {a : Int} (m : Int) (h : l.length ≤ 200) : (swap l a m).1.length ≤ 1000 := by
  unfold swap; split
  · simp [swapped]; omega
  · exact Nat.le_trans h (by decide)
theorem does_end (l : List (List Int)) (a : Int) (f : List Int) (m : Int) (hS : Sm l) {k : Nat} (hk : 1500 ≤ k) : drawbridgelaw23_LinkDoes.j2 k m false l a l a = some true := by
  obtain ⟨k, rfl⟩ : ∃ q, k = q + 1 := ⟨k - 1, by omega⟩
  have hl := hS.1
  simp only [drawbridgelaw23_LinkDoes.j2, if_neg (show ¬ (false = true) by decide)]
  rw [drop_is _ _ _ (by omega), rdrop_is _ _ _ (by omega)]
  simp only [Option.bind_some]
  rw [same_is _ _ (drop_len m hl) (by omega)]
  simp only [Option.bind_some, if_true]
  rw [twice_is _ _ _ (by omega), rtwice_is _ _ _ (by omega)]
  simp only [Option.bind_some]
  rw [same_is _ _ (twice_len m hl) (by omega)]
  simp only [Option.bind_some, if_true]
  rw [swap_is _ _ _ (by omega), rswap_is _ _ _ (by omega)]
  simp only [Option.bind_some]
  rw [same_is _ _ (swap_len m hl) (by omega)]
  simp only [Option.bind_some, if_true]
  rw [chk_is, rcheck_is _ _ (by omega)]
  simp only [Option.bind_some, beq_self_eq_true, if_true]
  rw [same_is _ _ (by omega) (by omega)]
  simp only [Option.bind_some, if_true]
  rw [heads23_at (by omega)]; rfl
theorem does_loop (l : List (List Int)) (a : Int) (f : List Int) (m : Int) (hS : Sm l) : ∀ (d i k : Nat), i + d = l.length → d + 1600 ≤ k → drawbridgelaw23_LinkDoes.l0 k f m (i : Int) l a (l.take i) a = some true := by
  obtain ⟨h1, h2⟩ := hS
  intro d
  induction d with
  | zero =>
    intro i k hi hk
    obtain ⟨k, rfl⟩ : ∃ m, k = m + 1 := ⟨k - 1, by omega⟩
    simp only [drawbridgelaw23_LinkDoes.l0]
    rw [if_neg (by omega), List.take_of_length_le (by omega), push_is _ _ _ (by omega), rpush_is _ _ _ (by omega), pop_is _ _ (by omega), rpop_is _ _ (by omega)]
    simp only [Option.bind_some]
    rw [same_is _ _ (push_len f h1) (by omega)]
    simp only [Option.bind_some, if_true, bne_self_eq_false]
    rw [if_neg (by decide), same_is _ _ (pop_len h1) (by omega)]
    simp only [Option.bind_some, if_true]
    rw [same01_is]
    simp only [Option.bind_some, if_true]
    exact does_end l a f m ⟨h1, h2⟩ (by omega)
  | succ d ih =>
    intro i k hi hk
    obtain ⟨k, rfl⟩ : ∃ m, k = m + 1 := ⟨k - 1, by omega⟩
    have hlt : i < l.length := by omega
    have h3 := h2 l[i] (List.getElem_mem hlt)
    simp only [drawbridgelaw23_LinkDoes.l0, rd_L1_nat l i hlt, Option.bind_some]
    rw [if_pos (by omega), if_pos (by omega), if_pos (by simp; omega), if_pos (by simp; omega), List.nil_append, w64 (by omega) (by omega), take_snoc l i hlt]
    have := ih (i + 1) k (by omega) (by omega)
    rw [show ((i + 1 : Nat) : Int) = (i : Int) + 1 by omega] at this
    exact this
theorem LinkDoes : drawbridgelaw23_LinkDoes.Pure := by
  intro l a f m hl ha hf hw hm
  refine ⟨2000, ?_⟩
  have hj : ∀ k, 200 ≤ k → drawbridgelaw23_LinkDoes.j0 k f m true l a = some true := by
    intro k hk
    obtain ⟨k, rfl⟩ : ∃ q, k = q + 1 := ⟨k - 1, by omega⟩
    simp only [drawbridgelaw23_LinkDoes.j0, if_true]
    rw [heads23_at (by omega)]; rfl
  unfold drawbridgelaw23_LinkDoes.f
  obtain ⟨b, hb, hS⟩ := small_is l a (show 200 ≤ 2000 by omega)
  rw [hb]
  simp only [Option.bind_some]
  cases b with
  | false => rw [if_neg (by decide)]; exact hj 2000 (by omega)
  | true =>
    rw [if_pos rfl]
    by_cases h1 : (f.length : Int) > 3000
    · rw [decide_eq_true h1]; exact hj 2000 (by omega)
    rw [decide_eq_false h1]
    simp only [drawbridgelaw23_LinkDoes.j0, if_neg (show ¬ (false = true) by decide)]
    have := does_loop l a f m (hS rfl) l.length 0 1999 (by omega) (by have := (hS rfl).1; omega)
    simpa using this
end Go.Proofs.Ythfokiabneflpaa.Pure
