/- What may be, and who holds what; each states its own conditions. -/
import Derived.Test.YtmmaojclfggioaaPureLease
namespace Go.Proofs.Ytmmaojclfggioaa.S
open Go Go.SL
set_option linter.unusedVariables false
set_option linter.unusedSimpArgs false
theorem loop_exit {σ ρ τ : Type} {B : σ → Option (σ ⊕ ρ)} {s0 : σ} {K : ρ → Option τ} (G : Option τ → Prop) (I : Nat → σ → Prop) (Q : ρ → Prop) (N : Nat) (h0 : I 0 s0) (hs : ∀ i s, i < N → I i s → (∃ s', B s = some (.inl s') ∧ I (i + 1) s') ∨ (∃ r, B s = some (.inr r) ∧ Q r)) (hN : ∀ s, I N s → ∃ r, B s = some (.inr r) ∧ Q r) (hk : ∀ r, Q r → G (K r)) : G ((loop B s0).bind K) := by
  have key : ∀ k i s, i + k = N → I i s → ∃ r, loop B s = some r ∧ Q r := by
    intro k
    induction k with
    | zero =>
      intro i s hi h
      have e : i = N := by omega
      subst e
      obtain ⟨r, h1, h2⟩ := hN s h
      exact ⟨r, loop_out h1, h2⟩
    | succ k ih =>
      intro i s hi h
      rcases hs i s (by omega) h with ⟨s', h1, h2⟩ | ⟨r, h1, h2⟩
      · obtain ⟨r, h3, h4⟩ := ih (i + 1) s' (by omega) h2
        exact ⟨r, by rw [loop_in h1]; exact h3, h4⟩
      · exact ⟨r, loop_out h1, h2⟩
  obtain ⟨r, h1, h2⟩ := key N 0 s0 (by omega) h0
  rw [h1]
  exact hk r h2
theorem Cp.at_ {l : List TLease} (h : Cp l) (i : Nat) (hi : i < l.length) : Lok l[i] ∧ ∀ y ∈ l.take i, Lx y l[i] := by
  refine ⟨h.1 _ (List.getElem_mem hi), fun y hy => ?_⟩
  obtain ⟨j, hj, rfl⟩ := List.getElem_of_mem hy
  rw [List.length_take] at hj
  rw [List.getElem_take]
  exact List.pairwise_iff_getElem.1 h.2 j i (by omega) hi (by omega)
theorem check_is (l : List TLease) (hg : ∀ x ∈ l, gLease x) : lease_Check.f l = some (decide (Cks l)) := by
  unfold lease_Check.f
  by_cases c8 : 8 < (l.length : Int)
  · rw [if_pos (by simpa using c8), decide_eq_false (fun h => by have := h.1; omega)]
  · rw [if_neg (by simpa using c8)]
    refine loop_exit (fun o => o = some (decide (Cks l))) (fun (i : Nat) (s : List (List Int × Bool) × Int × Int) => s.2.2 = (i : Int) ∧ Cp (l.take i) ∧ (∀ y ∈ l.take i, y.Ip ≤ s.2.1) ∧ (s.2.1 = 0 ∨ ∃ y ∈ l.take i, y.Ip = s.2.1) ∧ ∀ m, (mget s.1 m).getD false = true ↔ ∃ y ∈ l.take i, y.Mac = m) (fun r => (r = .inl () ∧ Cp l) ∨ (r = .inr false ∧ ¬ Cp l)) l.length ?_ ?_ ?_ ?_
    · exact ⟨rfl, ⟨fun x hx => by simp at hx, by simp⟩, fun y hy => by simp at hy, .inl rfl, fun m => by simp [mget, mfind]⟩
    · rintro i ⟨ms, last, i'⟩ hi ⟨q0, q1, q2, q3, q4⟩
      dsimp only at q0 q2 q3 q4
      subst q0
      have c : ((i : Int) < (l.length : Int)) := by omega
      have hgi := hg _ (List.getElem_mem hi)
      have hip := inrU32 hgi.2.1
      obtain ⟨j, hj, hj2⟩ : ∃ j, ((lease_pool.f l[i].Ip).bind fun r1 => (if (!r1) = true then some (true) else (if decide (l[i].Ip ≤ last) = true then some (true) else (if (!decide ((l[i].Mac.length : Int) = 6)) = true then some (true) else (if (mget ms l[i].Mac).getD false = true then some (true) else (if decide (l[i].Until < 0) = true then some (true) else some (decide (1099511627776 < l[i].Until)))))))) = some j ∧ (j = false ↔ (Lok l[i] ∧ last < l[i].Ip ∧ ¬ ∃ y ∈ l.take i, y.Mac = l[i].Mac)) := by
        rw [pool_is _ hip, Option.bind_some, ← q4]
        unfold Lok
        by_cases d1 : Pool l[i].Ip
        case neg => exact ⟨true, by simp only [d1, decide_false, Bool.not_false, if_true], by simp [d1]⟩
        by_cases d2 : l[i].Ip ≤ last
        · exact ⟨true, by simp only [d1, d2, decide_true, Bool.not_true, Bool.false_eq_true, if_false, if_true], by simp; omega⟩
        by_cases d3 : (l[i].Mac.length : Int) = 6
        case neg => exact ⟨true, by simp only [d1, d2, d3, decide_true, decide_false, Bool.not_true, Bool.not_false, Bool.false_eq_true, if_false, if_true], by simp; omega⟩
        cases d4 : (mget ms l[i].Mac).getD false with
        | true => exact ⟨true, by simp only [d1, d2, d3, decide_true, decide_false, Bool.not_true, Bool.false_eq_true, if_false, if_true], by simp⟩
        | false =>
          by_cases d5 : l[i].Until < 0
          · exact ⟨true, by simp only [d1, d2, d3, d5, decide_true, decide_false, Bool.not_true, Bool.false_eq_true, if_false, if_true], by simp; omega⟩
          · refine ⟨decide (1099511627776 < l[i].Until), by simp only [d1, d2, d3, d5, decide_true, decide_false, Bool.not_true, Bool.false_eq_true, if_false, if_true], ?_⟩
            have d3' : l[i].Mac.length = 6 := by omega
            simp [d1, d3']
            omega
      simp only [c, decide_true, if_true, ix l i hi, Option.bind_some]
      rw [hj, Option.bind_some]
      cases j with
      | true =>
        right
        refine ⟨_, rfl, .inr ⟨rfl, fun hcp => ?_⟩⟩
        obtain ⟨a1, a2⟩ := hcp.at_ i hi
        have : true = false := hj2.2 ⟨a1, ?_, fun ⟨y, hy, e⟩ => (a2 y hy).2 e⟩
        · cases this
        · rcases q3 with q3 | ⟨y, hy, q3⟩
          · rw [q3]; have := a1.1.1; omega
          · rw [← q3]; exact (a2 y hy).1
      | false =>
        left
        obtain ⟨a1, a2, a3⟩ := hj2.1 rfl
        rw [if_neg (by simp), stepw hi (by omega)]
        have et : l.take (i + 1) = l.take i ++ [l[i]] := List.take_succ_eq_append_getElem hi
        refine ⟨_, rfl, rfl, ?_, ?_, .inr ⟨l[i], by rw [et]; exact List.mem_append_right _ (List.mem_singleton.2 rfl), rfl⟩, fun m => ?_⟩
        · rw [et]
          exact q1.snoc a1 fun y hy => ⟨by have := q2 y hy; omega, fun e => a3 ⟨y, hy, e⟩⟩
        · intro y hy
          rw [et] at hy
          rcases List.mem_append.1 hy with hy | hy
          · have := q2 y hy; show y.Ip ≤ l[i].Ip; omega
          · rw [List.mem_singleton.1 hy]; exact Int.le_refl _
        · show (mget (mput ms l[i].Mac true) m).getD false = true ↔ _
          rw [mget_mput, et]
          by_cases e : m = l[i].Mac
          · rw [if_pos e]
            exact ⟨fun _ => ⟨l[i], List.mem_append_right _ (List.mem_singleton.2 rfl), e.symm⟩, fun _ => rfl⟩
          · rw [if_neg e, q4]
            constructor
            · rintro ⟨y, hy, e2⟩; exact ⟨y, List.mem_append_left _ hy, e2⟩
            · rintro ⟨y, hy, e2⟩
              rcases List.mem_append.1 hy with hy | hy
              · exact ⟨y, hy, e2⟩
              · rw [List.mem_singleton.1 hy] at e2; exact absurd e2.symm e
    · rintro ⟨ms, last, i'⟩ ⟨q0, q1, q2, q3, q4⟩
      dsimp only at q0
      subst q0
      have c : ¬ (((l.length : Nat) : Int) < (l.length : Int)) := by omega
      simp only [c, decide_false, Bool.false_eq_true, if_false]
      rw [List.take_length] at q1
      exact ⟨_, rfl, .inl ⟨rfl, q1⟩⟩
    · rintro r (⟨rfl, h⟩ | ⟨rfl, h⟩)
      · rw [decide_eq_true (show Cks l from ⟨by omega, h⟩)]; rfl
      · rw [decide_eq_false (fun e : Cks l => h e.2)]; rfl
theorem find_at {α : Type} (p : α → Bool) : ∀ (l : List α) (k : Nat) (h : k < l.length), (∀ i (hi : i < l.length), i < k → p l[i] = false) → p l[k] = true → l.find? p = some l[k]
  | [], k, h, _, _ => absurd h (by simp)
  | x :: t, 0, h, _, hp => by
    have hp' : p x = true := hp
    rw [List.find?_cons_of_pos hp']; rfl
  | x :: t, k + 1, h, hn, hp => by
    have h0 : p x = false := hn 0 (by simp) (by omega)
    rw [List.find?_cons_of_neg (by simp [h0])]
    exact find_at p t k (by simpa using h) (fun i hi hk => hn (i + 1) (by simp; omega) (by omega)) hp
/-- Who holds. -/
def hold (l : List TLease) (now : Int) (p : TLease → Bool) : Option TLease := if Cks l ∧ Tk now then l.find? (fun x => decide (now < x.Until) && p x) else none
theorem testFind_is (x : TLease) (now : Int) (v : List Int) : lease_held_1_at_lease_Find_1.f x now v = some (decide (now < x.Until) && decide (x.Mac = v)) := by
  unfold lease_held_1_at_lease_Find_1.f lease_Find_1.f
  by_cases c : now < x.Until <;> simp [c, bytes_Equal.f, lt]
theorem heldFind_is (l : List TLease) (hg : ∀ x ∈ l, gLease x) (now : Int) (v : List Int) (hl : l.length ≤ 100000) : ∃ y, lease_held_at_lease_Find_1.f l now v = some (y, (hold l now (fun x => decide (x.Mac = v))).isSome) ∧ (hold l now (fun x => decide (x.Mac = v)) = some y ∨ (hold l now (fun x => decide (x.Mac = v)) = none ∧ y = ⟨[], 0, 0⟩)) := by
  unfold lease_held_at_lease_Find_1.f hold
  rw [check_is l hg, Option.bind_some, tick_is, Option.bind_some]
  by_cases c1 : Cks l
  case neg => simp only [c1, decide_false, Bool.not_false, if_true, Option.bind_some, false_and, if_false]; exact ⟨_, rfl, .inr ⟨trivial, rfl⟩⟩
  by_cases c2 : Tk now
  case neg => simp only [c1, c2, decide_true, decide_false, Bool.not_true, Bool.not_false, Bool.false_eq_true, if_true, Option.bind_some, and_false, if_false]; exact ⟨_, rfl, .inr ⟨trivial, rfl⟩⟩
  simp only [c1, c2, decide_true, Bool.not_true, Bool.false_eq_true, if_false, Option.bind_some, and_self, if_true]
  unfold lease_first_api_Lease_at_lease_held_1_of_lease_Find_1.f slices_IndexFunc_s_api_Lease_api_Lease_at_lease_held_1_of_lease_Find_1.f
  obtain ⟨k, hk, h1, h2, hlp⟩ := find_run (B := fun s1 : Int => (if decide (s1 < (l.length : Int)) = true then (idx l s1).bind fun x1 => (lease_held_1_at_lease_Find_1.f x1 now v).bind fun r1 => (if r1 = true then some (.inr (.inr (s1))) else some (.inl (IntKind.i64.wrap (s1 + 1)))) else some (.inr (.inl (())))))
    (fun i => if h : i < l.length then (decide (now < l[i].Until) && decide (l[i].Mac = v)) else false) l.length (fun i => (i : Int)) (fun i => if i < l.length then (.inr (i : Int) : Unit ⊕ Int) else .inl ())
    (fun i hi hf => by
      rw [dif_pos hi] at hf
      have c : ((i : Int) < (l.length : Int)) := by omega
      simp only [c, decide_true, if_true, ix l i hi, Option.bind_some, testFind_is, hf, Bool.false_eq_true, if_false]
      rw [stepw hi (by omega)])
    (fun i hi hf => by
      rw [dif_pos hi] at hf
      have c : ((i : Int) < (l.length : Int)) := by omega
      simp only [c, decide_true, if_true, ix l i hi, Option.bind_some, testFind_is, hf]
      rw [if_pos hi])
    (by simp)
  rw [show loop _ (0 : Int) = _ from hlp, Option.bind_some]
  have hn : ∀ i (hi : i < l.length), i < k → (decide (now < l[i].Until) && decide (l[i].Mac = v)) = false := fun i hi hik => by
    have := h1 i hik
    rwa [dif_pos hi] at this
  by_cases ck : k < l.length
  · rw [if_pos ck]
    have hh := h2 ck
    rw [dif_pos ck] at hh
    have hf := find_at (fun x : TLease => decide (now < x.Until) && decide (x.Mac = v)) l k ck hn hh
    rw [hf]
    have c3 : ¬ ((k : Int) < 0) := by omega
    simp only [Sum.elim_inr, Option.bind_some, c3, decide_false, Bool.false_eq_true, if_false, ix l k ck]
    exact ⟨_, rfl, .inl rfl⟩
  · rw [if_neg ck]
    have hf : l.find? (fun x : TLease => decide (now < x.Until) && decide (x.Mac = v)) = none := List.find?_eq_none.2 fun x hx => by
      obtain ⟨i, hi, rfl⟩ := List.getElem_of_mem hx
      rw [hn i hi (by omega)]; simp
    rw [hf]
    have c3 : ((-1 : Int) < 0) := by decide
    simp only [Sum.elim_inl, Option.bind_some, c3, decide_true, if_true]
    exact ⟨_, rfl, .inr ⟨trivial, rfl⟩⟩
theorem testOwner_is (x : TLease) (now : Int) (v : Int) : lease_held_1_at_lease_Owner_1.f x now v = some (decide (now < x.Until) && decide (x.Ip = v)) := by
  unfold lease_held_1_at_lease_Owner_1.f lease_Owner_1.f
  by_cases c : now < x.Until <;> simp [c, lt]
theorem heldOwner_is (l : List TLease) (hg : ∀ x ∈ l, gLease x) (now : Int) (v : Int) (hl : l.length ≤ 100000) : ∃ y, lease_held_at_lease_Owner_1.f l now v = some (y, (hold l now (fun x => decide (x.Ip = v))).isSome) ∧ (hold l now (fun x => decide (x.Ip = v)) = some y ∨ (hold l now (fun x => decide (x.Ip = v)) = none ∧ y = ⟨[], 0, 0⟩)) := by
  unfold lease_held_at_lease_Owner_1.f hold
  rw [check_is l hg, Option.bind_some, tick_is, Option.bind_some]
  by_cases c1 : Cks l
  case neg => simp only [c1, decide_false, Bool.not_false, if_true, Option.bind_some, false_and, if_false]; exact ⟨_, rfl, .inr ⟨trivial, rfl⟩⟩
  by_cases c2 : Tk now
  case neg => simp only [c1, c2, decide_true, decide_false, Bool.not_true, Bool.not_false, Bool.false_eq_true, if_true, Option.bind_some, and_false, if_false]; exact ⟨_, rfl, .inr ⟨trivial, rfl⟩⟩
  simp only [c1, c2, decide_true, Bool.not_true, Bool.false_eq_true, if_false, Option.bind_some, and_self, if_true]
  unfold lease_first_api_Lease_at_lease_held_1_of_lease_Owner_1.f slices_IndexFunc_s_api_Lease_api_Lease_at_lease_held_1_of_lease_Owner_1.f
  obtain ⟨k, hk, h1, h2, hlp⟩ := find_run (B := fun s1 : Int => (if decide (s1 < (l.length : Int)) = true then (idx l s1).bind fun x1 => (lease_held_1_at_lease_Owner_1.f x1 now v).bind fun r1 => (if r1 = true then some (.inr (.inr (s1))) else some (.inl (IntKind.i64.wrap (s1 + 1)))) else some (.inr (.inl (())))))
    (fun i => if h : i < l.length then (decide (now < l[i].Until) && decide (l[i].Ip = v)) else false) l.length (fun i => (i : Int)) (fun i => if i < l.length then (.inr (i : Int) : Unit ⊕ Int) else .inl ())
    (fun i hi hf => by
      rw [dif_pos hi] at hf
      have c : ((i : Int) < (l.length : Int)) := by omega
      simp only [c, decide_true, if_true, ix l i hi, Option.bind_some, testOwner_is, hf, Bool.false_eq_true, if_false]
      rw [stepw hi (by omega)])
    (fun i hi hf => by
      rw [dif_pos hi] at hf
      have c : ((i : Int) < (l.length : Int)) := by omega
      simp only [c, decide_true, if_true, ix l i hi, Option.bind_some, testOwner_is, hf]
      rw [if_pos hi])
    (by simp)
  rw [show loop _ (0 : Int) = _ from hlp, Option.bind_some]
  have hn : ∀ i (hi : i < l.length), i < k → (decide (now < l[i].Until) && decide (l[i].Ip = v)) = false := fun i hi hik => by
    have := h1 i hik
    rwa [dif_pos hi] at this
  by_cases ck : k < l.length
  · rw [if_pos ck]
    have hh := h2 ck
    rw [dif_pos ck] at hh
    have hf := find_at (fun x : TLease => decide (now < x.Until) && decide (x.Ip = v)) l k ck hn hh
    rw [hf]
    have c3 : ¬ ((k : Int) < 0) := by omega
    simp only [Sum.elim_inr, Option.bind_some, c3, decide_false, Bool.false_eq_true, if_false, ix l k ck]
    exact ⟨_, rfl, .inl rfl⟩
  · rw [if_neg ck]
    have hf : l.find? (fun x : TLease => decide (now < x.Until) && decide (x.Ip = v)) = none := List.find?_eq_none.2 fun x hx => by
      obtain ⟨i, hi, rfl⟩ := List.getElem_of_mem hx
      rw [hn i hi (by omega)]; simp
    rw [hf]
    have c3 : ((-1 : Int) < 0) := by decide
    simp only [Sum.elim_inl, Option.bind_some, c3, decide_true, if_true]
    exact ⟨_, rfl, .inr ⟨trivial, rfl⟩⟩
theorem find_is (l : List TLease) (hg : ∀ x ∈ l, gLease x) (now : Int) (v : List Int) (hl : l.length ≤ 100000) : lease_Find.f l now v = some (((hold l now (fun x => decide (x.Mac = v))).map (·.Ip)).getD 0, (hold l now (fun x => decide (x.Mac = v))).isSome) := by
  unfold lease_Find.f
  obtain ⟨y, h1, h2⟩ := heldFind_is l hg now v hl
  rw [h1, Option.bind_some]
  rcases h2 with h2 | ⟨h2, rfl⟩ <;> rw [h2] <;> rfl
theorem hold_ck {l : List TLease} {now : Int} {p : TLease → Bool} {y : TLease} (h : hold l now p = some y) : Cks l ∧ Tk now ∧ y ∈ l ∧ now < y.Until ∧ p y = true := by
  unfold hold at h
  split at h
  · rename_i c
    have h3 := List.find?_some h
    simp at h3
    exact ⟨c.1, c.2, List.mem_of_find?_eq_some h, h3.1, h3.2⟩
  · cases h
theorem owner_is (l : List TLease) (hg : ∀ x ∈ l, gLease x) (now : Int) (v : Int) (hl : l.length ≤ 100000) : lease_Owner.f l now v = some (((hold l now (fun x => decide (x.Ip = v))).map (·.Mac)).getD [], (hold l now (fun x => decide (x.Ip = v))).isSome) := by
  unfold lease_Owner.f
  obtain ⟨y, h1, h2⟩ := heldOwner_is l hg now v hl
  rw [h1, Option.bind_some]
  rcases h2 with h2 | ⟨h2, rfl⟩
  · have hm := (hold_ck h2).1.2.1 y (hold_ck h2).2.2.1
    dsimp only
    rw [cloneB y.Mac (by have := hm.2.1; omega), h2]; rfl
  · dsimp only
    rw [cloneB [] (by simp), h2]; rfl
end Go.Proofs.Ytmmaojclfggioaa.S
