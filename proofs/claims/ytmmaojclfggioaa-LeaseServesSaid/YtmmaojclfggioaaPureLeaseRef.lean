/- What the document says of leases, told like the program's; each states its own conditions. -/
import Derived.Test.YtmmaojclfggioaaPureLeaseDisc
namespace Go.Proofs.Ytmmaojclfggioaa.S
open Go Go.SL
set_option linter.unusedVariables false
set_option linter.unusedSimpArgs false
theorem rpool_is (ip : Int) : ref25_pool.f ip = some (decide (Pool ip)) := by
  unfold ref25_pool.f Pool lt
  by_cases c : 167772687 ≤ ip <;> simp [c]
theorem rtick_is (now : Int) : ref25_tick.f now = some (decide (Tk now)) := by
  unfold ref25_tick.f Tk lt
  by_cases c : 0 ≤ now <;> simp [c]
theorem rcheck_is (l : List TLease) : ref25_Check.f l = some (decide (Cks l)) := by
  unfold ref25_Check.f
  by_cases c8 : 8 < (l.length : Int)
  · rw [if_pos (by simpa using c8), decide_eq_false (fun h => by have := h.1; omega)]
  · rw [if_neg (by simpa using c8)]
    refine loop_exit (fun o => o = some (decide (Cks l))) (fun (i : Nat) (s : Int) => s = (i : Int) ∧ Cp (l.take i)) (fun r => (r = .inl () ∧ Cp l) ∨ (r = .inr false ∧ ¬ Cp l)) l.length ?_ ?_ ?_ ?_
    · exact ⟨rfl, ⟨fun x hx => by simp at hx, by simp⟩⟩
    · rintro i i' hi ⟨q0, q1⟩
      subst q0
      have c : ((i : Int) < (l.length : Int)) := by omega
      obtain ⟨j, hj, hj2⟩ : ∃ j, ((ref25_pool.f l[i].Ip).bind fun r1 => (if (!r1) = true then some (true) else (if (!decide ((l[i].Mac.length : Int) = 6)) = true then some (true) else (if decide (l[i].Until < 0) = true then some (true) else (if decide (1099511627776 < l[i].Until) = true then some (true) else (if decide (0 < (i : Int)) = true then (idx l (IntKind.i64.wrap ((i : Int) - 1))).bind fun x2 => some (decide (l[i].Ip ≤ x2.Ip)) else some (false))))))) = some j ∧ (j = false ↔ (Lok l[i] ∧ ∀ h : 0 < i, (l[i - 1]'(by omega)).Ip < l[i].Ip)) := by
        rw [rpool_is, Option.bind_some]
        unfold Lok
        by_cases d1 : Pool l[i].Ip
        case neg => exact ⟨true, by simp only [d1, decide_false, Bool.not_false, if_true], by simp [d1]⟩
        by_cases d3 : (l[i].Mac.length : Int) = 6
        case neg => exact ⟨true, by simp only [d1, d3, decide_true, decide_false, Bool.not_true, Bool.not_false, Bool.false_eq_true, if_false, if_true], by simp; omega⟩
        by_cases d5 : l[i].Until < 0
        · exact ⟨true, by simp only [d1, d3, d5, decide_true, decide_false, Bool.not_true, Bool.false_eq_true, if_false, if_true], by simp; omega⟩
        by_cases d6 : 1099511627776 < l[i].Until
        · exact ⟨true, by simp only [d1, d3, d5, d6, decide_true, decide_false, Bool.not_true, Bool.false_eq_true, if_false, if_true], by simp; omega⟩
        have d3' : l[i].Mac.length = 6 := by omega
        by_cases d7 : 0 < i
        · have e1 : IntKind.i64.wrap ((i : Int) - 1) = ((i - 1 : Nat) : Int) := by rw [i64w (by omega) (by omega)]; omega
          have d7' : (0 : Int) < (i : Int) := by omega
          refine ⟨decide (l[i].Ip ≤ (l[i - 1]'(by omega)).Ip), by simp only [d1, d3, d5, d6, d7', decide_true, decide_false, Bool.not_true, Bool.false_eq_true, if_false, if_true, e1, ix l (i - 1) (by omega), Option.bind_some], ?_⟩
          rw [decide_eq_false_iff_not]
          exact ⟨fun h => ⟨⟨d1, d3', by omega, by omega⟩, fun _ => by omega⟩, fun h => by have := h.2 d7; omega⟩
        · have d7' : ¬ (0 : Int) < (i : Int) := by omega
          exact ⟨false, by simp only [d1, d3, d5, d6, d7', decide_true, decide_false, Bool.not_true, Bool.false_eq_true, if_false], fun _ => ⟨⟨d1, d3', by omega, by omega⟩, fun h => absurd h d7⟩, fun _ => rfl⟩
      simp only [c, decide_true, if_true, ix l i hi, Option.bind_some] at hj ⊢
      rw [hj, Option.bind_some]
      cases j with
      | true =>
        right
        refine ⟨_, rfl, .inr ⟨rfl, fun hcp => ?_⟩⟩
        obtain ⟨a1, a2⟩ := hcp.at_ i hi
        have : true = false := hj2.2 ⟨a1, fun h => List.pairwise_iff_getElem.1 hcp.2 (i - 1) i (by omega) hi (by omega) |>.1⟩
        cases this
      | false =>
        obtain ⟨a1, a2⟩ := hj2.1 rfl
        rw [if_neg (by simp)]
        have hlow : ∀ y ∈ l.take i, y.Ip < l[i].Ip := fun y hy => by
          obtain ⟨k, hk, rfl⟩ := List.getElem_of_mem hy
          rw [List.length_take] at hk
          have h0 : 0 < i := by omega
          have h2 := a2 h0
          rw [List.getElem_take]
          by_cases e : k = i - 1
          · subst e; exact h2
          · have := List.pairwise_iff_getElem.1 q1.2 k (i - 1) (by rw [List.length_take]; omega) (by rw [List.length_take]; omega) (by omega)
            have h3 := this.1
            rw [List.getElem_take, List.getElem_take] at h3
            omega
        refine loop_exit (fun (o : Option (Int ⊕ (Unit ⊕ Bool))) => (∃ s', o = some (.inl s') ∧ s' = ((i + 1 : Nat) : Int) ∧ Cp (l.take (i + 1))) ∨ (∃ r, o = some (.inr r) ∧ ((r = .inl () ∧ Cp l) ∨ (r = .inr false ∧ ¬ Cp l)))) (fun (k : Nat) (s : Int) => s = (k : Int) ∧ ∀ y ∈ (l.take i).take k, y.Mac ≠ l[i].Mac) (fun r => (r = .inl () ∧ ∀ y ∈ l.take i, y.Mac ≠ l[i].Mac) ∨ (r = .inr false ∧ ¬ Cp l)) i ?_ ?_ ?_ ?_
        · exact ⟨rfl, fun y hy => by simp at hy⟩
        · rintro k k' hk ⟨p0, p1⟩
          subst p0
          have ck : ((k : Int) < (i : Int)) := by omega
          have hkl : k < l.length := by omega
          simp only [ck, decide_true, if_true, ix l k hkl, Option.bind_some]
          by_cases e : l[k].Mac = l[i].Mac
          · right
            simp only [e, decide_true, if_true]
            exact ⟨_, rfl, .inr ⟨rfl, fun hcp => (List.pairwise_iff_getElem.1 hcp.2 k i hkl hi hk).2 e⟩⟩
          · left
            simp only [e, decide_false, Bool.false_eq_true, if_false, lt]
            rw [stepw hk (by omega)]
            refine ⟨_, rfl, rfl, fun y hy => ?_⟩
            rw [List.take_succ_eq_append_getElem (by rw [List.length_take]; omega)] at hy
            rcases List.mem_append.1 hy with hy | hy
            · exact p1 y hy
            · rw [List.mem_singleton.1 hy, List.getElem_take]; exact e
        · rintro k' ⟨p0, p1⟩
          subst p0
          have ck : ¬ ((i : Int) < (i : Int)) := by omega
          simp only [ck, decide_false, Bool.false_eq_true, if_false]
          rw [List.take_of_length_le (by rw [List.length_take]; omega)] at p1
          exact ⟨_, rfl, .inl ⟨rfl, p1⟩⟩
        · rintro r (⟨rfl, h⟩ | ⟨rfl, h⟩)
          · left
            simp only [Sum.elim_inl, lt]
            rw [stepw hi (by omega)]
            refine ⟨_, rfl, rfl, ?_⟩
            rw [List.take_succ_eq_append_getElem hi]
            exact q1.snoc a1 fun y hy => ⟨hlow y hy, h y hy⟩
          · right
            exact ⟨_, rfl, .inr ⟨rfl, h⟩⟩
    · rintro i' ⟨q0, q1⟩
      subst q0
      have c : ¬ (((l.length : Nat) : Int) < (l.length : Int)) := by omega
      simp only [c, decide_false, Bool.false_eq_true, if_false]
      rw [List.take_length] at q1
      exact ⟨_, rfl, .inl ⟨rfl, q1⟩⟩
    · rintro r (⟨rfl, h⟩ | ⟨rfl, h⟩)
      · rw [decide_eq_true (show Cks l from ⟨by omega, h⟩)]; rfl
      · rw [decide_eq_false (fun e : Cks l => h e.2)]; rfl
theorem rFind_is (l : List TLease) (hl : l.length ≤ 1000) (now : Int) (v : List Int) : ref25_Find.f l now v = some (((hold l now (fun x => decide (x.Mac = v))).map (·.Ip)).getD 0, (hold l now (fun x => decide (x.Mac = v))).isSome) := by
  unfold ref25_Find.f
  by_cases hct : Cks l ∧ Tk now
  case neg =>
    have e0 : ((if decide ((0 : Int) < (l.length : Int)) = true then (ref25_Check.f l).bind fun r1 => (if r1 = true then (ref25_tick.f now).bind fun r2 => some (r2) else some (false)) else some (false))) = some false := by
      by_cases c0 : (0 : Int) < (l.length : Int)
      · rw [if_pos (by simpa using c0), rcheck_is, Option.bind_some, rtick_is]
        by_cases hc : Cks l
        · have hn : ¬ Tk now := fun h => hct ⟨hc, h⟩
          simp [hc, hn]
        · simp [hc]
      · rw [if_neg (by simpa using c0)]
    rw [loop_out (r := .inl ()) (by simp only [e0, Option.bind_some, Bool.false_eq_true, if_false])]
    have : hold l now (fun x => decide (x.Mac = v)) = none := if_neg hct
    rw [this]; rfl
  have hh : hold l now (fun x => decide (x.Mac = v)) = l.find? (fun x => decide (now < x.Until) && decide (x.Mac = v)) := if_pos hct
  have h8 := hct.1.1
  refine loop_exit (fun o => o = some (((hold l now (fun x => decide (x.Mac = v))).map (·.Ip)).getD 0, (hold l now (fun x => decide (x.Mac = v))).isSome)) (fun (i : Nat) (s : Int) => s = (i : Int) ∧ ∀ k (hk : k < l.length), k < i → (decide (now < l[k].Until) && decide (l[k].Mac = v)) = false) (fun r => (r = .inl () ∧ hold l now (fun x => decide (x.Mac = v)) = none) ∨ ∃ y, r = .inr (y.Ip, true) ∧ hold l now (fun x => decide (x.Mac = v)) = some y) l.length ?_ ?_ ?_ ?_
  · exact ⟨rfl, fun k _ h => by omega⟩
  · rintro i i' hi ⟨q0, q1⟩
    subst q0
    have c : ((i : Int) < (l.length : Int)) := by omega
    simp only [c, decide_true, if_true, rcheck_is, rtick_is, Option.bind_some, hct.1, hct.2, ix l i hi]
    cases hb : (decide (now < l[i].Until) && decide (l[i].Mac = v)) with
    | true =>
      right
      have hf := find_at (fun x : TLease => decide (now < x.Until) && decide (x.Mac = v)) l i hi (fun k hk hki => q1 k hk hki) hb
      rw [Bool.and_eq_true, decide_eq_true_eq, decide_eq_true_eq] at hb
      simp only [hb.1, hb.2, decide_true, if_true, Option.bind_some]
      exact ⟨_, rfl, .inr ⟨l[i], rfl, by rw [hh]; exact hf⟩⟩
    | false =>
      left
      have hj : (if decide (now < l[i].Until) = true then some (decide (l[i].Mac = v)) else some (false)) = some false := by
        by_cases d : now < l[i].Until
        · simp [d] at hb ⊢; exact hb
        · simp [d]
      rw [hj, Option.bind_some, if_neg (by simp)]
      simp only [lt]
      rw [stepw hi (by omega)]
      refine ⟨_, rfl, rfl, fun k hk hki => ?_⟩
      by_cases e : k = i
      · subst e; exact hb
      · exact q1 k hk (by omega)
  · rintro i' ⟨q0, q1⟩
    subst q0
    have c : ¬ (((l.length : Nat) : Int) < (l.length : Int)) := by omega
    simp only [c, decide_false, Bool.false_eq_true, if_false, Option.bind_some]
    refine ⟨_, rfl, .inl ⟨rfl, ?_⟩⟩
    rw [hh]
    refine List.find?_eq_none.2 fun x hx => ?_
    obtain ⟨k, hk, rfl⟩ := List.getElem_of_mem hx
    rw [q1 k hk hk]; simp
  · rintro r (⟨rfl, h⟩ | ⟨y, rfl, h⟩) <;> rw [h] <;> rfl
theorem rOwner_is (l : List TLease) (hl : l.length ≤ 1000) (now : Int) (v : Int) : ref25_Owner.f l now v = some (((hold l now (fun x => decide (x.Ip = v))).map (·.Mac)).getD [], (hold l now (fun x => decide (x.Ip = v))).isSome) := by
  unfold ref25_Owner.f
  by_cases hct : Cks l ∧ Tk now
  case neg =>
    have e0 : ((if decide ((0 : Int) < (l.length : Int)) = true then (ref25_Check.f l).bind fun r1 => (if r1 = true then (ref25_tick.f now).bind fun r2 => some (r2) else some (false)) else some (false))) = some false := by
      by_cases c0 : (0 : Int) < (l.length : Int)
      · rw [if_pos (by simpa using c0), rcheck_is, Option.bind_some, rtick_is]
        by_cases hc : Cks l
        · have hn : ¬ Tk now := fun h => hct ⟨hc, h⟩
          simp [hc, hn]
        · simp [hc]
      · rw [if_neg (by simpa using c0)]
    rw [loop_out (r := .inl ()) (by simp only [e0, Option.bind_some, Bool.false_eq_true, if_false])]
    have : hold l now (fun x => decide (x.Ip = v)) = none := if_neg hct
    rw [this]; rfl
  have hh : hold l now (fun x => decide (x.Ip = v)) = l.find? (fun x => decide (now < x.Until) && decide (x.Ip = v)) := if_pos hct
  have h8 := hct.1.1
  refine loop_exit (fun o => o = some (((hold l now (fun x => decide (x.Ip = v))).map (·.Mac)).getD [], (hold l now (fun x => decide (x.Ip = v))).isSome)) (fun (i : Nat) (s : Int) => s = (i : Int) ∧ ∀ k (hk : k < l.length), k < i → (decide (now < l[k].Until) && decide (l[k].Ip = v)) = false) (fun r => (r = .inl () ∧ hold l now (fun x => decide (x.Ip = v)) = none) ∨ ∃ y, r = .inr (y.Mac, true) ∧ hold l now (fun x => decide (x.Ip = v)) = some y) l.length ?_ ?_ ?_ ?_
  · exact ⟨rfl, fun k _ h => by omega⟩
  · rintro i i' hi ⟨q0, q1⟩
    subst q0
    have c : ((i : Int) < (l.length : Int)) := by omega
    simp only [c, decide_true, if_true, rcheck_is, rtick_is, Option.bind_some, hct.1, hct.2, ix l i hi]
    cases hb : (decide (now < l[i].Until) && decide (l[i].Ip = v)) with
    | true =>
      right
      have hf := find_at (fun x : TLease => decide (now < x.Until) && decide (x.Ip = v)) l i hi (fun k hk hki => q1 k hk hki) hb
      rw [Bool.and_eq_true, decide_eq_true_eq, decide_eq_true_eq] at hb
      simp only [hb.1, hb.2, decide_true, if_true, Option.bind_some]
      have hml := (hct.1.2.1 _ (List.getElem_mem hi)).2.1
      rw [app_k _ _ (by simp; omega), Option.bind_some, List.nil_append]
      exact ⟨_, rfl, .inr ⟨l[i], rfl, by rw [hh]; exact hf⟩⟩
    | false =>
      left
      have hj : (if decide (now < l[i].Until) = true then some (decide (l[i].Ip = v)) else some (false)) = some false := by
        by_cases d : now < l[i].Until
        · simp [d] at hb ⊢; exact hb
        · simp [d]
      rw [hj, Option.bind_some, if_neg (by simp)]
      simp only [lt]
      rw [stepw hi (by omega)]
      refine ⟨_, rfl, rfl, fun k hk hki => ?_⟩
      by_cases e : k = i
      · subst e; exact hb
      · exact q1 k hk (by omega)
  · rintro i' ⟨q0, q1⟩
    subst q0
    have c : ¬ (((l.length : Nat) : Int) < (l.length : Int)) := by omega
    simp only [c, decide_false, Bool.false_eq_true, if_false, Option.bind_some]
    refine ⟨_, rfl, .inl ⟨rfl, ?_⟩⟩
    rw [hh]
    refine List.find?_eq_none.2 fun x hx => ?_
    obtain ⟨k, hk, rfl⟩ := List.getElem_of_mem hx
    rw [q1 k hk hk]; simp
  · rintro r (⟨rfl, h⟩ | ⟨y, rfl, h⟩) <;> rw [h] <;> rfl
end Go.Proofs.Ytmmaojclfggioaa.S
