/- What the law LeaseServes answers: true; the document's server makes the same. Its conditions: what the data are. -/
import Derived.Test.YtmmaojclfggioaaPureLeaseRef
namespace Go.Proofs.Ytmmaojclfggioaa.S
open Go Go.SL
set_option linter.unusedVariables false
set_option linter.unusedSimpArgs false
theorem rput4_g (x : Int) : ref01_Put.g 20 x 4 true = some [IntKind.u8.wrap (x / 16777216), IntKind.u8.wrap (x / 65536), IntKind.u8.wrap (x / 256), IntKind.u8.wrap (x / 1)] := by kernel_rfl
theorem four_k (x : Int) : ∃ r, ref20_four.f x = some r ∧ r.length = 4 := by
  unfold ref20_four.f
  rw [ref01_Put.le 20 _ _ _ _ (rput4_g x)]
  exact ⟨_, rfl, rfl⟩
theorem ropt_k (k x : Int) : ∃ r, ref20_option.f k x = some r ∧ r.length ≤ 6 := by
  unfold ref20_option.f
  by_cases c : x = 0
  · simp only [c, decide_true, if_true]; exact ⟨_, rfl, by simp⟩
  · obtain ⟨r, h1, h2⟩ := four_k x
    simp only [c, decide_false, Bool.false_eq_true, if_false, h1, Option.bind_some]
    rw [app_k _ _ (by simp; omega), Option.bind_some]
    exact ⟨_, rfl, by simp; omega⟩
theorem rput_k (d : TDhcp) : ∃ b, ref20_Put.f d = some (b, if POk d then 0 else 2) := by
  unfold ref20_Put.f
  obtain ⟨j, hj, hj2⟩ : ∃ j, (if (!decide (d.Op = 1)) = true then (if (!decide (d.Op = 2)) = true then some (true) else (if (!decide ((d.Mac.length : Int) = 6)) = true then some (true) else (if decide (d.Type_ < 1) = true then some (true) else some (decide (8 < d.Type_))))) else (if (!decide ((d.Mac.length : Int) = 6)) = true then some (true) else (if decide (d.Type_ < 1) = true then some (true) else some (decide (8 < d.Type_))))) = some j ∧ j = !decide (POk d) := by
    have rest : (d.Op = 1 ∨ d.Op = 2) → ∃ j, (if (!decide ((d.Mac.length : Int) = 6)) = true then some (true) else (if decide (d.Type_ < 1) = true then some (true) else some (decide (8 < d.Type_)))) = some j ∧ j = !decide (POk d) := fun ho => by
      have no : (POk d → False) → true = !decide (POk d) := fun h => by rw [decide_eq_false h]; rfl
      by_cases c3 : (d.Mac.length : Int) = 6
      case neg => exact ⟨true, by simp only [c3, decide_false, Bool.not_false, if_true], no fun h => by have h2 := h.2.1; omega⟩
      by_cases c4 : d.Type_ < 1
      · exact ⟨true, by simp only [c3, c4, decide_true, Bool.not_true, Bool.false_eq_true, if_false, if_true], no fun h => by have h2 := h.2.2; omega⟩
      by_cases c5 : 8 < d.Type_
      · exact ⟨true, by simp only [c3, c4, c5, decide_true, decide_false, Bool.not_true, Bool.false_eq_true, if_false], no fun h => by have h2 := h.2.2; omega⟩
      · exact ⟨false, by simp only [c3, c4, c5, decide_true, decide_false, Bool.not_true, Bool.false_eq_true, if_false], by rw [decide_eq_true (show POk d from ⟨by omega, by omega, by omega⟩)]; rfl⟩
    by_cases c1 : d.Op = 1
    · rw [if_neg (by simp [c1])]; exact rest (.inl c1)
    · rw [if_pos (by simp [c1])]
      by_cases c2 : d.Op = 2
      · rw [if_neg (by simp [c2])]; exact rest (.inr c2)
      · rw [if_pos (by simp [c2])]
        exact ⟨true, rfl, by rw [decide_eq_false (fun h : POk d => by have h1 := h.1; omega)]; rfl⟩
  rw [hj, Option.bind_some, hj2]
  by_cases hp : POk d
  case neg => rw [decide_eq_false hp, if_pos (by simp), if_neg hp]; exact ⟨_, rfl⟩
  rw [decide_eq_true hp, if_neg (by simp), if_pos hp]
  have hm := hp.2.1
  obtain ⟨r1, e1, l1⟩ := four_k d.Xid
  obtain ⟨r2, e2, l2⟩ := four_k d.Ci
  obtain ⟨r3, e3, l3⟩ := four_k d.Yi
  have m8 : mk 8 (0 : Int) = some (List.replicate 8 0) := by unfold mk; rw [if_pos (by decide)]; rfl
  have m2 : mk 202 (0 : Int) = some (List.replicate 202 0) := by unfold mk; rw [if_pos (by decide)]; rfl
  rw [e1, Option.bind_some, app_k _ _ (by simp; omega), Option.bind_some, app_k _ _ (by simp; omega), Option.bind_some, e2, Option.bind_some, app_k _ _ (by simp; omega), Option.bind_some, e3, Option.bind_some, app_k _ _ (by simp; omega), Option.bind_some, m8, Option.bind_some, app_k _ _ (by simp; omega), Option.bind_some, app_k _ _ (by simp; omega), Option.bind_some, m2, Option.bind_some]
  generalize hA : (([IntKind.u8.wrap d.Op, 1, 6, 0] : List Int) ++ r1 ++ [0, 0, 0, 0] ++ r2 ++ r3 ++ List.replicate 8 0 ++ d.Mac) = A
  have lA : A.length ≤ 100 := by rw [← hA]; simp; omega
  generalize hR : (List.replicate 202 (0 : Int)) = R
  have lR : R.length = 202 := by rw [← hR, List.length_replicate]
  rw [app_k _ _ (by omega), Option.bind_some, app_k _ _ (by simp; omega), Option.bind_some]
  refine loop_exit (fun (o : Option (List Int × Int)) => ∃ b, o = some (b, 0)) (fun (i : Nat) (s : List Int × Int) => s.2 = (i : Int) ∧ s.1.length ≤ 400 + 6 * i) (fun r => r.length ≤ 1000) 6 ?_ ?_ ?_ ?_
  · exact ⟨rfl, by simp; omega⟩
  · rintro i ⟨q, i'⟩ hi ⟨q0, q1⟩
    dsimp only at q0 q1
    subst q0
    left
    have c : ((i : Int) < (([50, 54, 51, 1, 3, 6] : List Int).length : Int)) := by show (i : Int) < 6; omega
    obtain ⟨u, hu⟩ : ∃ u, idx ([50, 54, 51, 1, 3, 6] : List Int) (i : Int) = some u := ⟨_, ix ([50, 54, 51, 1, 3, 6] : List Int) i hi⟩
    obtain ⟨v, hv⟩ : ∃ v, idx ([d.Want, d.Server, d.Lease, d.Mask, d.Router, d.Dns] : List Int) (i : Int) = some v := ⟨_, ix [d.Want, d.Server, d.Lease, d.Mask, d.Router, d.Dns] i hi⟩
    obtain ⟨r, hr, lr⟩ := ropt_k u v
    simp only [c, decide_true, if_true, hu, hv, hr, Option.bind_some]
    rw [app_k _ _ (by omega), Option.bind_some]
    simp only [lt]
    rw [stepw hi (by omega)]
    exact ⟨_, rfl, rfl, by show (q ++ r).length ≤ _; rw [List.length_append]; omega⟩
  · rintro ⟨q, i'⟩ ⟨q0, q1⟩
    dsimp only at q0 q1
    subst q0
    have c : ¬ (((6 : Nat) : Int) < (([50, 54, 51, 1, 3, 6] : List Int).length : Int)) := by decide
    simp only [c, decide_false, Bool.false_eq_true, if_false]
    exact ⟨_, rfl, by show q.length ≤ _; omega⟩
  · rintro z hz
    rw [app_k _ _ (by simp; omega), Option.bind_some]
    exact ⟨_, rfl⟩
theorem rans_is (d : TDhcp) (k : Int) (h : d.Mac.length ≤ 100000) : ref25_answer.f d k = some (ansD d k) := by
  unfold ref25_answer.f
  rw [app_k _ _ (by simp; omega), Option.bind_some, List.nil_append]; rfl
theorem rful_is (d : TDhcp) (k ip : Int) (h : d.Mac.length ≤ 100000) : ref25_full.f d k ip = some (fulD d k ip) := by
  unfold ref25_full.f
  rw [rans_is _ _ h]; rfl
theorem rfree_is (l : List TLease) (hl : l.length ≤ 1000) (now ip : Int) (m : List Int) : ref25_free.f l now ip m = some (decide (Pool ip) && (!(hold l now (fun x => decide (x.Ip = ip))).isSome || decide (((hold l now (fun x => decide (x.Ip = ip))).map (·.Mac)).getD [] = m))) := by
  unfold ref25_free.f
  rw [rOwner_is l hl, Option.bind_some, rpool_is, Option.bind_some]
  by_cases c : Pool ip
  · cases hh : hold l now (fun x => decide (x.Ip = ip)) with
    | none => simp [c]
    | some y => simp [c, lt]
  · simp [c]
theorem rfree_nil (l : List TLease) (hl : l.length ≤ 1000) (now ip : Int) : ref25_free.f l now ip [] = some (fb l now ip) := by
  rw [rfree_is l hl]
  unfold fb
  cases hh : hold l now (fun x => decide (x.Ip = ip)) with
  | none => simp
  | some y =>
    have h6 := ((hold_ck hh).1.2.1 y (hold_ck hh).2.2.1).2.1
    have : ¬ y.Mac = [] := fun e => by rw [e] at h6; simp at h6
    simp [this]
theorem rfree_d (l : List TLease) (hl : l.length ≤ 1000) (now : Int) (d : TDhcp) : ∃ b, ref25_free.f l now (wanted d) d.Mac = some b ∧ (b = true ↔ free l now d) := by
  refine ⟨_, rfree_is l hl now (wanted d) d.Mac, ?_⟩
  unfold free
  cases hh : hold l now (fun x => decide (x.Ip = wanted d)) with
  | none => simp
  | some z => simp
theorem rdisc_is (l : List TLease) (hl : l.length ≤ 1000) (now : Int) (d : TDhcp) (hm : d.Mac.length = 6) : ref25_discover.f l now d = some (match offer l now d with | some ip => (fulD d 2 ip, true) | none => (zD, false)) := by
  unfold ref25_discover.f offer
  rw [rFind_is l hl, Option.bind_some]
  cases hh : hold l now (fun x => decide (x.Mac = d.Mac)) with
  | some y =>
    simp only [Option.isSome_some, if_true, Option.map_some, Option.getD_some]
    rw [rful_is _ _ _ (by omega)]; rfl
  | none =>
    simp only [Option.isSome_none, Bool.false_eq_true, if_false]
    rw [rfree_nil l hl, Option.bind_some]
    unfold wl
    cases hw : fb l now d.Want with
    | true =>
      rw [if_pos rfl, rful_is _ _ _ (by omega), List.find?_cons_of_pos hw]; rfl
    | false =>
      rw [if_neg (by simp), List.find?_cons_of_neg (by simp [hw])]
      refine loop_exit (fun (o : Option (TDhcp × Bool)) => o = some (match ((List.range 8).map fun (k : Nat) => (167772687 + (k : Int))).find? (fb l now) with | some ip => (fulD d 2 ip, true) | none => (zD, false))) (fun (i : Nat) (s : Int) => s = (i : Int) ∧ ∀ k : Nat, k < i → fb l now (167772687 + (k : Int)) = false) (fun r => (r = .inl () ∧ ∀ k : Nat, k < 8 → fb l now (167772687 + (k : Int)) = false) ∨ ∃ i : Nat, i < 8 ∧ r = .inr (fulD d 2 (167772687 + (i : Int)), true) ∧ fb l now (167772687 + (i : Int)) = true ∧ ∀ k : Nat, k < i → fb l now (167772687 + (k : Int)) = false) 8 ⟨rfl, fun k h => by omega⟩ ?_ ?_ ?_
      · rintro i i' hi ⟨q0, q1⟩
        subst q0
        have c : ((i : Int) < 8) := by omega
        have e1 : IntKind.u32.wrap ((i : Int) + 1) = ((i + 1 : Nat) : Int) := by rw [u32w']; omega
        have e2 : IntKind.u32.wrap (167772687 + (i : Int)) = 167772687 + (i : Int) := by rw [u32w']; omega
        simp only [c, decide_true, if_true, e1, e2, rfree_nil l hl, Option.bind_some]
        cases hf : fb l now (167772687 + (i : Int)) with
        | true =>
          right
          rw [if_pos rfl, rful_is _ _ _ (by omega)]
          exact ⟨_, rfl, .inr ⟨i, hi, rfl, hf, q1⟩⟩
        | false =>
          left
          rw [if_neg (by simp)]
          refine ⟨_, rfl, rfl, fun k hk => ?_⟩
          by_cases e : k = i
          · subst e; exact hf
          · exact q1 k (by omega)
      · rintro i' ⟨q0, q1⟩
        subst q0
        have c : ¬ (((8 : Nat) : Int) < 8) := by decide
        simp only [c, decide_false, Bool.false_eq_true, if_false]
        exact ⟨_, rfl, .inl ⟨rfl, q1⟩⟩
      · rintro r (⟨rfl, h⟩ | ⟨i, hi, rfl, h1, h2⟩)
        · have : ((List.range 8).map fun (k : Nat) => (167772687 + (k : Int))).find? (fb l now) = none := List.find?_eq_none.2 fun x hx => by
            obtain ⟨k, hk, rfl⟩ := List.mem_map.1 hx
            rw [h k (List.mem_range.1 hk)]; simp
          rw [this]; rfl
        · have := find_at (fb l now) ((List.range 8).map fun (k : Nat) => (167772687 + (k : Int))) i (by simp; omega) (fun k hk hki => by simp; exact h2 k hki) (by simp; exact h1)
          rw [this]; simp
/-- Another's lease? -/
def oth (d : TDhcp) (x : TLease) : Bool := !(decide (x.Ip = wanted d) || decide (x.Mac = d.Mac))
theorem with_is (l : List TLease) (now : Int) (d : TDhcp) (hc : Cks l) : ref25_with.f l (lease1 now d) = some (putr l now d) := by
  unfold ref25_with.f
  have h8 := hc.1
  have hIp : (lease1 now d).Ip = wanted d := rfl
  have hMac : (lease1 now d).Mac = d.Mac := rfl
  rw [hIp, hMac]
  generalize hx : lease1 now d = x
  have hfl : ∀ (t : List TLease) (p : TLease → Bool), (t.filter p).length ≤ t.length := fun t p => List.length_filter_le _ _
  have hput : putr l now d = (l.filter (oth d)).filter (fun y => decide (y.Ip < wanted d)) ++ x :: (l.filter (oth d)).filter (fun y => decide (wanted d < y.Ip)) := by rw [← hx]; rfl
  rw [hput]
  refine loop_exit (fun (o : Option (List TLease)) => o = some ((l.filter (oth d)).filter (fun y => decide (y.Ip < wanted d)) ++ x :: (l.filter (oth d)).filter (fun y => decide (wanted d < y.Ip)))) (fun (i : Nat) (s : List TLease × Bool × Int) => s.2.2 = (i : Int) ∧ ((s.2.1 = false ∧ (∀ y ∈ l.take i, y.Ip < wanted d) ∧ s.1 = ((l.take i).filter (oth d)).filter (fun y => decide (y.Ip < wanted d))) ∨ (s.2.1 = true ∧ (∃ y ∈ l.take i, wanted d ≤ y.Ip) ∧ s.1 = ((l.take i).filter (oth d)).filter (fun y => decide (y.Ip < wanted d)) ++ x :: ((l.take i).filter (oth d)).filter (fun y => decide (wanted d < y.Ip)))))
    (fun r => (r.2 = false ∧ (∀ y ∈ l, y.Ip < wanted d) ∧ r.1 = (l.filter (oth d)).filter (fun y => decide (y.Ip < wanted d))) ∨ (r.2 = true ∧ r.1 = (l.filter (oth d)).filter (fun y => decide (y.Ip < wanted d)) ++ x :: (l.filter (oth d)).filter (fun y => decide (wanted d < y.Ip)))) l.length ?_ ?_ ?_ ?_
  · exact ⟨rfl, .inl ⟨rfl, fun y hy => by simp at hy, by simp⟩⟩
  · rintro i ⟨out, done, i'⟩ hi ⟨q0, q1⟩
    dsimp only at q0 q1
    subst q0
    left
    have c : ((i : Int) < (l.length : Int)) := by omega
    obtain ⟨a1, a2⟩ := hc.2.at_ i hi
    have et : l.take (i + 1) = l.take i ++ [l[i]] := List.take_succ_eq_append_getElem hi
    have ho : (if (!decide (l[i].Ip = wanted d)) = true then some (!decide (l[i].Mac = d.Mac)) else some false) = some (oth d l[i]) := by
      unfold oth
      by_cases e : l[i].Ip = wanted d <;> simp [e]
    simp only [c, decide_true, if_true, ix l i hi, Option.bind_some, ho]
    have step : ∀ (A : List TLease) (dn : Bool), A.length ≤ 100 → ((((some (A, dn) : Option (List TLease × Bool))).bind (fun j2 => ((some (oth d l[i]) : Option Bool)).bind (fun j3 => (if j3 = true then (app j2.1 ([l[i]] : List TLease)).bind fun x6 => some ((x6, j2.2)) else some ((j2.1, j2.2)))))).bind (fun j4 => some ((j4.1, j4.2)))).bind (fun j5 => lt (IntKind.i64.wrap ((i : Int) + 1)) fun y1 => some ((.inl (j5.1, j5.2, y1)) : (List TLease × Bool × Int) ⊕ (List TLease × Bool))) = some (.inl (A ++ (if oth d l[i] = true then [l[i]] else []), dn, ((i + 1 : Nat) : Int))) := fun A dn hA => by
      simp only [Option.bind_some, lt]
      rw [stepw hi (by omega)]
      cases oth d l[i] with
      | true => rw [if_pos rfl, app_k _ _ (by simp; omega)]; rfl
      | false => simp
    simp only [Option.bind_some] at step
    have lA : (((l.take i).filter (oth d)).filter (fun y => decide (y.Ip < wanted d))).length ≤ 8 := Nat.le_trans (hfl _ _) (Nat.le_trans (hfl _ _) (by rw [List.length_take]; omega))
    have lB : (((l.take i).filter (oth d)).filter (fun y => decide (wanted d < y.Ip))).length ≤ 8 := Nat.le_trans (hfl _ _) (Nat.le_trans (hfl _ _) (by rw [List.length_take]; omega))
    have fA : ∀ p : TLease → Bool, ((l.take (i + 1)).filter (oth d)).filter p = ((l.take i).filter (oth d)).filter p ++ (if oth d l[i] = true then (if p l[i] = true then [l[i]] else []) else []) := fun p => by
      rw [et, List.filter_append, List.filter_append]
      congr 1
      cases h1 : oth d l[i] with
      | true => cases h2 : p l[i] <;> simp [h1, h2]
      | false => simp [h1]
    have one : oth d l[i] = true → l[i].Ip ≠ wanted d := fun h e => by unfold oth at h; simp [e] at h
    rcases q1 with ⟨rfl, b1, rfl⟩ | ⟨rfl, ⟨z, hz, hzw⟩, rfl⟩
    · by_cases cw : wanted d ≤ l[i].Ip
      · simp only [Bool.not_false, if_true, cw, decide_true, Option.bind_some]
        rw [app_k _ _ (by rw [List.length_singleton]; omega), Option.bind_some]
        simp only [Option.bind_some]
        rw [step _ _ (by rw [List.length_append, List.length_singleton]; omega)]
        refine ⟨_, rfl, rfl, .inr ⟨rfl, ⟨l[i], by rw [et]; exact List.mem_append_right _ (List.mem_singleton.2 rfl), cw⟩, ?_⟩⟩
        have eB : ((l.take i).filter (oth d)).filter (fun y => decide (wanted d < y.Ip)) = [] := List.filter_eq_nil_iff.2 fun y hy => by have := b1 y (List.mem_filter.1 hy).1; simp; omega
        show _ = _
        rw [fA, fA, eB]
        have n1 : ¬ l[i].Ip < wanted d := by omega
        cases h1 : oth d l[i] with
        | true =>
          have n2 : wanted d < l[i].Ip := by have := one h1; omega
          simp [n1, n2]
        | false => simp
      · simp only [Bool.not_false, if_true, cw, decide_false, Option.bind_some, Bool.false_eq_true, if_false]
        rw [step _ _ (by omega)]
        refine ⟨_, rfl, rfl, .inl ⟨rfl, fun y hy => ?_, ?_⟩⟩
        · rw [et] at hy
          rcases List.mem_append.1 hy with hy | hy
          · exact b1 y hy
          · rw [List.mem_singleton.1 hy]; omega
        · show _ = _
          have n1 : l[i].Ip < wanted d := by omega
          rw [fA]
          simp [n1]
    · simp only [Bool.not_true, Bool.false_eq_true, if_false, Option.bind_some]
      rw [step _ _ (by rw [List.length_append, List.length_cons]; omega)]
      have hzi := (a2 z hz).1
      refine ⟨_, rfl, rfl, .inr ⟨rfl, ⟨z, by rw [et]; exact List.mem_append_left _ hz, hzw⟩, ?_⟩⟩
      show _ = _
      have n1 : ¬ l[i].Ip < wanted d := by omega
      have n2 : wanted d < l[i].Ip := by omega
      rw [fA, fA]
      simp [n1, n2]
  · rintro ⟨out, done, i'⟩ ⟨q0, q1⟩
    dsimp only at q0 q1
    subst q0
    have c : ¬ (((l.length : Nat) : Int) < (l.length : Int)) := by omega
    simp only [c, decide_false, Bool.false_eq_true, if_false]
    rw [List.take_length] at q1
    rcases q1 with ⟨h1, h2, h3⟩ | ⟨h1, h2, h3⟩
    · exact ⟨_, rfl, .inl ⟨h1, h2, h3⟩⟩
    · exact ⟨_, rfl, .inr ⟨h1, h3⟩⟩
  · rintro ⟨out, done⟩ h
    dsimp only at h
    rcases h with ⟨rfl, h2, rfl⟩ | ⟨rfl, rfl⟩
    · have lA : ((l.filter (oth d)).filter (fun y => decide (y.Ip < wanted d))).length ≤ 8 := Nat.le_trans (hfl _ _) (Nat.le_trans (hfl _ _) h8)
      have eB : (l.filter (oth d)).filter (fun y => decide (wanted d < y.Ip)) = [] := List.filter_eq_nil_iff.2 fun y hy => by have := h2 y (List.mem_filter.1 hy).1; simp; omega
      simp only [Bool.not_false, if_true]
      rw [app_k _ _ (by rw [List.length_singleton]; omega), eB]; rfl
    · simp
theorem without_is (l : List TLease) (d : TDhcp) (hl : l.length ≤ 1000) : ref25_without.f l d.Mac d.Ci = some (l.filter (fun x => !(decide (x.Ip = d.Ci) && decide (x.Mac = d.Mac)))) := by
  unfold ref25_without.f
  generalize hp : (fun x : TLease => !(decide (x.Ip = d.Ci) && decide (x.Mac = d.Mac))) = p
  refine loop_exit (fun (o : Option (List TLease)) => o = some (l.filter p)) (fun (i : Nat) (s : List TLease × Int) => s.2 = (i : Int) ∧ s.1 = (l.take i).filter p) (fun r => r = l.filter p) l.length ⟨rfl, by simp⟩ ?_ ?_ ?_
  · rintro i ⟨out, i'⟩ hi ⟨q0, q1⟩
    dsimp only at q0 q1
    subst q0 q1
    left
    have c : ((i : Int) < (l.length : Int)) := by omega
    have hj : (if (!decide (l[i].Ip = d.Ci)) = true then some true else some (!decide (l[i].Mac = d.Mac))) = some (p l[i]) := by
      rw [← hp]
      by_cases e : l[i].Ip = d.Ci <;> simp [e]
    simp only [c, decide_true, if_true, ix l i hi, Option.bind_some, hj]
    have hlen : ((l.take i).filter p).length ≤ 1000 := Nat.le_trans (List.length_filter_le _ _) (by rw [List.length_take]; omega)
    have et := filter_take_succ p l i hi
    cases h : p l[i] with
    | true =>
      rw [if_pos rfl, app_k _ _ (by simp; omega), Option.bind_some, Option.bind_some]
      simp only [Option.bind_some, lt]
      rw [stepw hi (by omega)]
      exact ⟨_, rfl, rfl, by show _ = _; rw [et, h]; simp⟩
    | false =>
      simp only [Bool.false_eq_true, if_false, Option.bind_some, lt]
      rw [stepw hi (by omega)]
      exact ⟨_, rfl, rfl, by show _ = _; rw [et, h]; simp⟩
  · rintro ⟨out, i'⟩ ⟨q0, q1⟩
    dsimp only at q0 q1
    subst q0 q1
    have c : ¬ (((l.length : Nat) : Int) < (l.length : Int)) := by omega
    simp only [c, decide_false, Bool.false_eq_true, if_false]
    exact ⟨_, rfl, by rw [List.take_length]⟩
  · rintro _ rfl; rfl
theorem serve_bad (l : List TLease) (now : Int) (d : TDhcp) (hg : ∀ x ∈ l, gLease x) (h : ¬ (POk d ∧ d.Op = 1 ∧ Cks l ∧ Tk now)) : lease_Serve.f l now d = some (l, zD, false) := by
  unfold lease_Serve.f
  obtain ⟨b, hb⟩ := put_k d
  rw [hb, Option.bind_some, check_is l hg, Option.bind_some, tick_is, Option.bind_some]
  by_cases hp : POk d
  case neg => rw [if_neg hp]; rfl
  rw [if_pos hp]
  by_cases ho : d.Op = 1
  case neg => simp only [ho, decide_true, decide_false, Bool.not_true, Bool.not_false, Bool.false_eq_true, if_false, if_true, Option.bind_some]; rfl
  by_cases hc : Cks l
  case neg => simp only [ho, hc, decide_true, decide_false, Bool.not_true, Bool.not_false, Bool.false_eq_true, if_false, if_true, Option.bind_some]; rfl
  by_cases hn : Tk now
  case neg => simp only [ho, hc, hn, decide_true, decide_false, Bool.not_true, Bool.not_false, Bool.false_eq_true, if_false, if_true, Option.bind_some]; rfl
  exact absurd ⟨hp, ho, hc, hn⟩ h
theorem rserve_bad (l : List TLease) (now : Int) (d : TDhcp) (h : ¬ (POk d ∧ d.Op = 1 ∧ Cks l ∧ Tk now)) : ref25_Serve.f l now d = some (l, zD, false) := by
  unfold ref25_Serve.f
  obtain ⟨b, hb⟩ := rput_k d
  rw [hb, Option.bind_some, rcheck_is l, Option.bind_some, rtick_is, Option.bind_some]
  by_cases hc : Cks l
  case neg => simp only [hc, decide_false, Bool.not_false, if_true, Option.bind_some]; rfl
  by_cases hn : Tk now
  case neg => simp only [hc, hn, decide_true, decide_false, Bool.not_true, Bool.not_false, Bool.false_eq_true, if_false, if_true, Option.bind_some]; rfl
  by_cases ho : d.Op = 1
  case neg => simp only [hc, hn, ho, decide_true, decide_false, Bool.not_true, Bool.not_false, Bool.false_eq_true, if_false, if_true, Option.bind_some]; rfl
  by_cases hp : POk d
  case neg =>
    have n2 : ¬ ((2 : Int) = 0) := by decide
    simp only [hc, hn, ho, hp, n2, decide_true, decide_false, Bool.not_true, Bool.not_false, Bool.false_eq_true, if_false, if_true, Option.bind_some]; rfl
  exact absurd ⟨hp, ho, hc, hn⟩ h
theorem both (l : List TLease) (now : Int) (d : TDhcp) (hg : ∀ x ∈ l, gLease x) (hd : gDhcp d) : ∃ (l' : List TLease) (a : TDhcp) (ok : Bool), lease_Serve.f l now d = some (l', a, ok) ∧ ref25_Serve.f l now d = some (l', a, ok) ∧ l'.length ≤ l.length + 9 := by
  by_cases hall : POk d ∧ d.Op = 1 ∧ Cks l ∧ Tk now
  case neg => exact ⟨l, zD, false, serve_bad l now d hg hall, rserve_bad l now d hall, by omega⟩
  obtain ⟨hp, ho, hc, hn⟩ := hall
  have h8 := hc.1
  have hm := hp.2.1
  have hr : ref25_Serve.f l now d = ((ref20_Put.f d).bind fun r1 => ((ref25_Check.f l).bind fun r2 => (if (!r2) = true then some (true) else (ref25_tick.f now).bind fun r3 => (if (!r3) = true then some (true) else (if (!decide (d.Op = 1)) = true then some (true) else some ((!decide (r1.2 = 0))))))).bind (fun j1 => (if j1 = true then some ((l, (⟨0, 0, 0, 0, [], 0, 0, 0, 0, 0, 0, 0⟩ : TDhcp), false)) else lt (decide (d.Type_ = 1)) fun y1 => (if y1 = true then (ref25_discover.f l now d).bind fun r4 => some ((l, r4.1, r4.2)) else lt (decide (d.Type_ = 3)) fun y2 => (if y2 = true then ((if decide (d.Want = 0) = true then some (d.Ci) else some (d.Want))).bind (fun j2 => ((if (!decide (d.Server = 0)) = true then some ((!decide (d.Server = 167772674))) else some (false))).bind (fun j3 => (if j3 = true then some ((l, (⟨0, 0, 0, 0, [], 0, 0, 0, 0, 0, 0, 0⟩ : TDhcp), false)) else (ref25_free.f l now j2 d.Mac).bind fun r5 => (if (!r5) = true then (ref25_answer.f d 6).bind fun r6 => some ((l, r6, true)) else (app ([] : List Int) d.Mac).bind fun x1 => (ref25_with.f l (⟨x1, j2, IntKind.i64.wrap (now + 3600)⟩ : TLease)).bind fun r7 => (ref25_full.f d 5 j2).bind fun r8 => some ((r7, r8, true)))))) else lt (decide (d.Type_ = 7)) fun y3 => (if y3 = true then (ref25_without.f l d.Mac d.Ci).bind fun r9 => some ((r9, (⟨0, 0, 0, 0, [], 0, 0, 0, 0, 0, 0, 0⟩ : TDhcp), false)) else some ((l, (⟨0, 0, 0, 0, [], 0, 0, 0, 0, 0, 0, 0⟩ : TDhcp), false)))))))) := rfl
  obtain ⟨b, hb⟩ := rput_k d
  rw [if_pos hp] at hb
  rw [hb, Option.bind_some, rcheck_is l, Option.bind_some, rtick_is, Option.bind_some] at hr
  simp only [hc, hn, ho, decide_true, Bool.not_true, Bool.false_eq_true, if_false, Option.bind_some] at hr
  simp only [lt] at hr
  by_cases t1 : d.Type_ = 1
  · rw [if_pos (by simpa using t1), rdisc_is l (by omega) now d hm] at hr
    have hs := serve_disc l now d hg hp ho hc hn t1 (inrU32 hd.2.2.2.2.2.2.1)
    cases hof : offer l now d with
    | some ip => rw [hof] at hs hr; exact ⟨_, _, _, hs, hr, by omega⟩
    | none => rw [hof] at hs hr; exact ⟨_, _, _, hs, hr, by omega⟩
  rw [if_neg (by simpa using t1)] at hr
  by_cases t3 : d.Type_ = 3
  · rw [if_pos (by simpa using t3)] at hr
    have hs := serve_req l now d hg hp ho hc hn t3
    have ew : (if decide (d.Want = 0) = true then some d.Ci else some d.Want) = some (wanted d) := by
      unfold wanted
      by_cases e : d.Want = 0 <;> simp [e]
    rw [ew, Option.bind_some] at hr
    by_cases hsv : d.Server = 0 ∨ d.Server = 167772674
    · have e1 : (if (!decide (d.Server = 0)) = true then some (!decide (d.Server = 167772674)) else some false) = some false := by
        rcases hsv with h | h
        · simp [h]
        · simp [h]
      rw [e1, Option.bind_some, if_neg (by simp)] at hr
      obtain ⟨f, hf1, hf2⟩ := rfree_d l (by omega) now d
      rw [hf1, Option.bind_some] at hr
      by_cases hf : free l now d
      · have hft := hf2.2 hf
        rw [hft, if_neg (by simp), app_k _ _ (by simp; omega), Option.bind_some, List.nil_append] at hr
        have e4 : IntKind.i64.wrap (now + 3600) = now + 3600 := i64w (by have := hn.1; omega) (by have := hn.2; omega)
        rw [e4, show ref25_with.f l ⟨d.Mac, wanted d, now + 3600⟩ = some (putr l now d) from with_is l now d hc, Option.bind_some, rful_is _ _ _ (by omega)] at hr
        rw [req_ack l now d hg (by omega) hm hsv (wanted_r hd) hn hf _ (putr_sort l now d hc)] at hs
        exact ⟨_, _, _, hs, hr, by have := (putr_ck hc hn hm hf.1).1; show (putr l now d).length ≤ _; omega⟩
      · have hft : f = false := by
          cases f with
          | false => rfl
          | true => exact absurd (hf2.1 rfl) hf
        rw [hft, if_pos (by simp), rans_is _ _ (by omega)] at hr
        rw [req_nak l now d hg (by omega) hm hsv (wanted_r hd) hf] at hs
        exact ⟨_, _, _, hs, hr, by show l.length ≤ _; omega⟩
    · have e1 : (if (!decide (d.Server = 0)) = true then some (!decide (d.Server = 167772674)) else some false) = some true := by
        have a1 : ¬ d.Server = 0 := fun e => hsv (.inl e)
        have a2 : ¬ d.Server = 167772674 := fun e => hsv (.inr e)
        simp [a1, a2]
      rw [e1, Option.bind_some, if_pos rfl] at hr
      rw [req_not ⟨l, now, d⟩ ⟨fun e => hsv (.inl e), fun e => hsv (.inr e)⟩] at hs
      exact ⟨_, _, _, hs, hr, by show l.length ≤ _; omega⟩
  rw [if_neg (by simpa using t3)] at hr
  have hs : lease_Serve.f l now d = ((dhcp_Put.f d).bind fun r1 => ((if (!decide (r1.2 = 0)) = true then some (true) else (if (!decide (d.Op = 1)) = true then some (true) else (lease_Check.f l).bind fun r2 => (if (!r2) = true then some (true) else (lease_tick.f now).bind fun r3 => some ((!r3)))))).bind (fun j1 => (if j1 = true then some ((l, (⟨0, 0, 0, 0, [], 0, 0, 0, 0, 0, 0, 0⟩ : TDhcp), false)) else lt (decide (d.Type_ = 1)) fun y1 => (if y1 = true then (lease_server_discover.f (⟨l, now, d⟩ : Tserver)).bind fun r4 => some ((r4.2.2.l, r4.1, r4.2.1)) else lt (decide (d.Type_ = 3)) fun y2 => (if y2 = true then (lease_server_request.f (⟨l, now, d⟩ : Tserver)).bind fun r5 => some ((r5.2.2.l, r5.1, r5.2.1)) else lt (decide (d.Type_ = 7)) fun y3 => (if y3 = true then (lease_server_release.f (⟨l, now, d⟩ : Tserver)).bind fun r6 => some ((r6.2.2.l, r6.1, r6.2.1)) else (lease_server_other.f (⟨l, now, d⟩ : Tserver)).bind fun r7 => some ((r7.2.2.l, r7.1, r7.2.1)))))))) := rfl
  obtain ⟨b2, hb2⟩ := put_k d
  rw [if_pos hp] at hb2
  rw [hb2, Option.bind_some, check_is l hg, Option.bind_some, tick_is, Option.bind_some] at hs
  simp only [hc, hn, ho, t1, t3, decide_true, decide_false, Bool.not_true, Bool.false_eq_true, if_false, Option.bind_some, lt] at hs
  by_cases t7 : d.Type_ = 7
  · rw [if_pos (by simpa using t7), without_is l d (by omega)] at hr
    rw [if_pos (by simpa using t7), rel_is l (by omega) now d] at hs
    exact ⟨_, _, _, hs, hr, Nat.le_trans (List.length_filter_le _ _) (by omega)⟩
  · rw [if_neg (by simpa using t7)] at hr
    rw [if_neg (by simpa using t7)] at hs
    exact ⟨_, _, _, hs, hr, by show l.length ≤ _; omega⟩
theorem same20 (a : TDhcp) : ref20_Same.f a a = some true := by
  unfold ref20_Same.f lt
  simp
theorem leaseServes (l : List TLease) (gl : l.length ≤ maxLen ∧ ∀ z ∈ l, gLease z) (now : Int) (hnow : InR .i64 now) (d : TDhcp) (hd : gDhcp d) (ip : Int) (hip : InR .u32 ip) : law25_LeaseServes.f l now d ip = some true := by
  unfold law25_LeaseServes.f
  have hg := gl.2
  by_cases c1 : 40 < (l.length : Int)
  · simp only [c1, decide_true, if_true, Option.bind_some, heads]
  rw [if_neg (by simpa using c1)]
  obtain ⟨l', a, ok, h1, h2, h3⟩ := both l now d hg hd
  rw [h1, Option.bind_some, h2, Option.bind_some, find_is l hg now _ (by omega), Option.bind_some, rFind_is l (by omega), Option.bind_some, owner_is l hg now _ (by omega), Option.bind_some, rOwner_is l (by omega), Option.bind_some]
  unfold ref01_Same.f
  simp only [same_is l' (by omega), same20, check_is l hg, rcheck_is, heads, lt, Option.bind_some, if_true, decide_true, beq_self_eq_true]
end Go.Proofs.Ytmmaojclfggioaa.S
