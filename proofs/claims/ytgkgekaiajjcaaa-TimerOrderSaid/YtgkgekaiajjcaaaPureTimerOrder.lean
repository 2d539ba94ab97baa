/- The law that says that all that was set comes due once, in order; each states its own conditions. -/
import Derived.Test.YtgkgekaiajjcaaaPureTimer
namespace Go.Proofs.Ytgkgekaiajjcaaa.S
open Go Go.SL
set_option linter.unusedVariables false
set_option linter.unusedSimpArgs false
/-- The alarms that no later one of the same id takes the place of. -/
def lasts : List TAlarm → List TAlarm
  | [] => []
  | a :: t => if a.Id ∈ ids t then lasts t else a :: lasts t
theorem dl_cons_ne {a : TAlarm} {y : List TAlarm} {id : Int} (h : a.Id ≠ id) : dl (a :: y) id = a :: dl y id := by
  unfold dl
  rw [List.filter_cons, if_pos (by simp [h])]
theorem lasts_snoc (a : TAlarm) : ∀ t : List TAlarm, (lasts (t ++ [a])).Perm (a :: dl (lasts t) a.Id)
  | [] => by simp [lasts, dl]
  | b :: t => by
    have ih := lasts_snoc a t
    have hm : ids (t ++ [a]) = ids t ++ [a.Id] := by simp [ids]
    show (if b.Id ∈ ids (t ++ [a]) then lasts (t ++ [a]) else b :: lasts (t ++ [a])).Perm (a :: dl (if b.Id ∈ ids t then lasts t else b :: lasts t) a.Id)
    rw [hm]
    by_cases h1 : b.Id ∈ ids t
    · rw [if_pos h1, if_pos (List.mem_append_left _ h1)]; exact ih
    · rw [if_neg h1]
      by_cases h2 : b.Id = a.Id
      · rw [if_pos (by simp [h2]), dl_cons_self h2]; exact ih
      · rw [if_neg (by simp only [List.mem_append, List.mem_singleton, not_or]; exact ⟨h1, h2⟩), dl_cons_ne h2]
        exact (ih.cons _).trans (.swap _ _ _)
theorem lasts_suf (z : List TAlarm) : ∀ (y : List TAlarm) {x : TAlarm}, x ∈ lasts z → x ∈ lasts (y ++ z)
  | [], _, h => h
  | b :: y, x, h => by
    have ih := lasts_suf z y h
    show x ∈ (if b.Id ∈ ids (y ++ z) then lasts (y ++ z) else b :: lasts (y ++ z))
    split
    · exact ih
    · exact List.mem_cons_of_mem _ ih
theorem tw_filter (now : Int) : ∀ {s : List TAlarm}, s.Pairwise (fun a b => ltA a b = true) → s.takeWhile (fun a => decide (a.At ≤ now)) = s.filter (fun a => decide (a.At ≤ now))
  | [], _ => rfl
  | a :: t, h => by
    have h' := List.pairwise_cons.1 h
    rw [List.takeWhile_cons, List.filter_cons]
    by_cases c : a.At ≤ now
    · simp only [c, decide_true, if_true]; rw [tw_filter now h'.2]
    · simp only [c, decide_false, Bool.false_eq_true, if_false]
      symm
      rw [List.filter_eq_nil_iff]
      intro b hb
      have := h'.1 b hb
      simp only [ltA, Bool.or_eq_true, Bool.and_eq_true, decide_eq_true_eq] at this ⊢
      omega
theorem tw_dw (now : Int) : ∀ s : List TAlarm, (s.dropWhile (fun a => decide (a.At ≤ now))).takeWhile (fun a => decide (a.At ≤ now)) = []
  | [] => rfl
  | a :: t => by
    rw [List.dropWhile_cons]
    by_cases c : a.At ≤ now
    · simp only [c, decide_true, if_true]; exact tw_dw now t
    · simp [c, List.takeWhile_cons]
theorem count_one {a : TAlarm} : ∀ {s : List TAlarm}, (ids s).Nodup → s.countP (fun x => decide (x.At = a.At) && decide (x.Id = a.Id)) = if a ∈ s then 1 else 0
  | [], _ => by simp
  | b :: t, h => by
    have h' := List.nodup_cons.1 h
    rw [List.countP_cons, count_one h'.2]
    by_cases e : b = a
    · subst e
      have : ¬ b ∈ t := fun hm => h'.1 (List.mem_map.2 ⟨b, hm, rfl⟩)
      simp [this]
    · have e2 : (decide (b.At = a.At) && decide (b.Id = a.Id)) = false := by
        obtain ⟨p, q⟩ := b
        obtain ⟨p', q'⟩ := a
        simp only [TAlarm.mk.injEq] at e
        simp only [Bool.and_eq_false_iff, decide_eq_false_iff_not]
        by_cases hq : p = p'
        · exact .inr fun h2 => e ⟨hq, h2⟩
        · exact .inl hq
      have e3 : (a ∈ b :: t) ↔ a ∈ t := by
        rw [List.mem_cons]
        exact ⟨fun h => h.resolve_left fun h2 => e h2.symm, .inr⟩
      simp [e2, e3]
theorem ids_take (t : List TAlarm) (j : Nat) (hj : j < t.length) : ids (t.take (j + 1)) = ids (t.take j) ++ [t[j].Id] := by
  rw [List.take_add_one, List.getElem?_eq_getElem hj]
  unfold ids
  rw [List.map_append]; rfl
theorem timerOrder (l : List TAlarm) {G : Prop} (gl : G) (now : Int) (hn : InR .i64 now) : law22_TimerOrder.f l now = some true := by
  unfold law22_TimerOrder.f
  by_cases c : 200 < (l.length : Int)
  · simp only [c, decide_true, if_true, heads, Option.bind_some]
  simp only [c, decide_false, Bool.false_eq_true, if_false, timer_New.f, Option.bind_some]
  refine loop_bind_inv (fun o => o = some true) (fun i st => st.1 = (i : Int) ∧ ∃ s, RW st.2 s ∧ s.Perm (lasts (l.take i)) ∧ s.length ≤ i) (fun x => ∃ s, RW x s ∧ s.Perm (lasts l) ∧ s.length ≤ l.length) l.length ⟨rfl, [], rw_nil, .refl _, Nat.le_refl _⟩ ?_ ?_ ?_
  · rintro i ⟨i', x⟩ hi ⟨h1, s, hR, hp, hls⟩
    dsimp only at h1 hR hp
    subst h1
    have ci : (i : Int) < (l.length : Int) := by omega
    have hd := dl_len (s := s) (id := l[i].Id)
    have e : sset s l[i].At l[i].Id = ins (dl s l[i].Id) l[i] := by unfold sset; rw [if_neg (by omega)]
    have hp2 : (ins (dl s l[i].Id) l[i]).Perm (lasts (l.take (i + 1))) := by
      rw [List.take_add_one, List.getElem?_eq_getElem hi]
      exact (ins_perm _ _).trans (((dl_perm hp _).cons _).trans (lasts_snoc _ _).symm)
    refine ⟨((i + 1 : Nat), setA x l[i].At l[i].Id), ?_, rfl, sset s l[i].At l[i].Id, rw_set hR _ _, e ▸ hp2, ?_⟩
    · simp only [ci, decide_true, if_true, ix l i hi, Option.bind_some, timer_Wheel_Set.f, lt, stepw hi (by omega)]
    · rw [e, (ins_perm _ _).length_eq]; simp; omega
  · rintro ⟨i', x⟩ ⟨h1, s, hR, hp, hls⟩
    dsimp only at h1 hR hp
    subst h1
    rw [List.take_length] at hp
    exact ⟨x, by simp, s, hR, hp, hls⟩
  rintro x ⟨s, hR, hp, hls⟩
  obtain ⟨d1, hR2⟩ := rw_due now x.length x s rfl hR
  obtain ⟨d2, _⟩ := rw_due now _ _ _ rfl hR2
  rw [tw_dw] at d2
  rw [tw_filter now hR.so] at d1
  simp only [timer_Wheel_Due.f, Option.bind_some, d1, d2]
  have hdso : (s.filter (fun a => decide (a.At ≤ now))).Pairwise (fun a b => ltA a b = true) := hR.so.filter _
  have hdnd : (ids (s.filter (fun a => decide (a.At ≤ now)))).Nodup := (List.filter_sublist.map _).nodup hR.nd
  have hdm : ∀ a, a ∈ s.filter (fun a => decide (a.At ≤ now)) ↔ a ∈ lasts l ∧ a.At ≤ now := fun a => by rw [List.mem_filter, hp.mem_iff]; simp
  have hdl : (s.filter (fun a => decide (a.At ≤ now))).length = ((lasts l).filter (fun a => decide (a.At ≤ now))).length := (hp.filter _).length_eq
  have hdle : (s.filter (fun a => decide (a.At ≤ now))).length ≤ 200 := by have := List.length_filter_le (fun a : TAlarm => decide (a.At ≤ now)) s; omega
  generalize s.filter (fun a => decide (a.At ≤ now)) = due at *
  have L2 : loop (σ := Int) (ρ := Unit ⊕ Bool) (fun s2 => (if decide (s2 < (due.length : Int)) = true then ((idx due (IntKind.i64.wrap (s2 - 1))).bind fun x3 => (idx due s2).bind fun x4 => (if decide (x4.At < x3.At) = true then some (true) else (idx due (IntKind.i64.wrap (s2 - 1))).bind fun x5 => (idx due s2).bind fun x6 => (if decide (x5.At = x6.At) = true then (idx due (IntKind.i64.wrap (s2 - 1))).bind fun x7 => (idx due s2).bind fun x8 => some (decide (x8.Id ≤ x7.Id)) else some (false)))).bind (fun j2 => (if j2 = true then some (.inr (.inr (false))) else lt (IntKind.i64.wrap (s2 + 1)) fun y3 => some (.inl y3))) else some (.inr (.inl (()))))) (1 : Int) = some (.inl ()) := by
    have := loop_run (σ := Int) (ρ := Unit ⊕ Bool) (B := (fun s2 => (if decide (s2 < (due.length : Int)) = true then ((idx due (IntKind.i64.wrap (s2 - 1))).bind fun x3 => (idx due s2).bind fun x4 => (if decide (x4.At < x3.At) = true then some (true) else (idx due (IntKind.i64.wrap (s2 - 1))).bind fun x5 => (idx due s2).bind fun x6 => (if decide (x5.At = x6.At) = true then (idx due (IntKind.i64.wrap (s2 - 1))).bind fun x7 => (idx due s2).bind fun x8 => some (decide (x8.Id ≤ x7.Id)) else some (false)))).bind (fun j2 => (if j2 = true then some (.inr (.inr (false))) else lt (IntKind.i64.wrap (s2 + 1)) fun y3 => some (.inl y3))) else some (.inr (.inl (())))))) (fun i => ((i + 1 : Nat) : Int)) (due.length - 1) (r := .inl ()) (fun i hi => by
      have h1 : i + 1 < due.length := by omega
      have c1 : ((i + 1 : Nat) : Int) < (due.length : Int) := by omega
      have e1 : IntKind.i64.wrap (((i + 1 : Nat) : Int) - 1) = (i : Int) := by rw [i64w (by omega) (by omega)]; omega
      have hs := List.pairwise_iff_getElem.1 hdso i (i + 1) (by omega) h1 (by omega)
      simp only [ltA, Bool.or_eq_true, Bool.and_eq_true, decide_eq_true_eq] at hs
      have c2 : ¬ due[i + 1].At < due[i].At := by omega
      simp only [c1, decide_true, if_true, e1, ix due i (by omega), ix due (i + 1) h1, Option.bind_some, c2, decide_false, Bool.false_eq_true, if_false]
      by_cases c3 : due[i].At = due[i + 1].At
      · have c4 : ¬ due[i + 1].Id ≤ due[i].Id := by omega
        simp only [c3, c4, decide_true, decide_false, if_true, Option.bind_some, Bool.false_eq_true, if_false, lt, stepw h1 (by omega)]
      · simp only [c3, decide_false, Option.bind_some, Bool.false_eq_true, if_false, lt, stepw h1 (by omega)]) (by
      have c1 : ¬ ((due.length - 1 + 1 : Nat) : Int) < (due.length : Int) := by omega
      simp only [c1, decide_false, Bool.false_eq_true, if_false])
    exact this
  rw [L2]
  simp only [Option.bind_some, Sum.elim_inl]
  refine loop_bind_inv (fun o => o = some true) (fun i st => st.2 = (i : Int) ∧ ∃ n : Nat, st.1 = (n : Int) ∧ n + ((lasts (l.drop i)).filter (fun a => decide (a.At ≤ now))).length = due.length) (fun r => r = .inl (due.length : Int)) l.length ⟨rfl, 0, rfl, by rw [List.drop_zero, hdl]; omega⟩ ?_ ?_ ?_
  · rintro i ⟨n', i'⟩ hi ⟨h1, n, h2, hcnt⟩
    dsimp only at h1 h2
    subst h1
    subst h2
    have ci : (i : Int) < (l.length : Int) := by omega
    have L4 : loop (σ := Bool × Int) (ρ := Bool) (fun s4 => (if decide (s4.2 < (l.length : Int)) = true then ((if s4.1 = true then (idx l s4.2).bind fun x9 => (idx l ((i:Int))).bind fun x10 => lt (!decide (x9.Id = x10.Id)) fun y5 => some (y5) else some (false))).bind (fun j4 => lt (IntKind.i64.wrap (s4.2 + 1)) fun y6 => some (.inl (j4, y6))) else some (.inr (s4.1)))) (true, ((i + 1 : Nat) : Int)) = some (decide (¬ l[i].Id ∈ ids (l.drop (i + 1)))) := by
      obtain ⟨r, hr1, hr2⟩ := loop_inv (σ := Bool × Int) (ρ := Bool) (B := (fun s4 => (if decide (s4.2 < (l.length : Int)) = true then ((if s4.1 = true then (idx l s4.2).bind fun x9 => (idx l ((i:Int))).bind fun x10 => lt (!decide (x9.Id = x10.Id)) fun y5 => some (y5) else some (false))).bind (fun j4 => lt (IntKind.i64.wrap (s4.2 + 1)) fun y6 => some (.inl (j4, y6))) else some (.inr (s4.1))))) (fun j st => st = (decide (¬ l[i].Id ∈ ids ((l.drop (i + 1)).take j)), ((i + 1 + j : Nat) : Int))) (fun r => r = decide (¬ l[i].Id ∈ ids (l.drop (i + 1)))) (l.length - (i + 1)) (true, ((i + 1 : Nat) : Int)) (by simp [ids]) (fun j st hj hst => by
        subst hst
        have hk : i + 1 + j < l.length := by omega
        have c1 : ((i + 1 + j : Nat) : Int) < (l.length : Int) := by omega
        have hjd : j < (l.drop (i + 1)).length := by rw [List.length_drop]; exact hj
        have hg : (l.drop (i + 1))[j] = l[i + 1 + j] := List.getElem_drop
        refine ⟨_, ?_, rfl⟩
        rw [ids_take _ j hjd, hg]
        by_cases c2 : l[i].Id ∈ ids ((l.drop (i + 1)).take j)
        · simp only [c1, c2, decide_true, decide_false, not_true_eq_false, if_true, Bool.false_eq_true, if_false, Option.bind_some, lt, stepw hk (by omega), List.mem_append, true_or]
          rfl
        · by_cases c3 : l[i + 1 + j].Id = l[i].Id
          · simp only [c1, c2, decide_true, decide_false, not_false_eq_true, if_true, ix l _ hk, ix l i hi, Option.bind_some, lt, stepw hk (by omega), List.mem_append, false_or, List.mem_singleton, c3, not_true_eq_false, Bool.not_true]
            rfl
          · have c4 : ¬ l[i].Id = l[i + 1 + j].Id := fun e => c3 e.symm
            simp only [c1, c2, decide_true, decide_false, not_false_eq_true, if_true, ix l _ hk, ix l i hi, Option.bind_some, lt, stepw hk (by omega), List.mem_append, false_or, List.mem_singleton, c3, c4, Bool.not_false]
            rfl) (fun st hst => by
        subst hst
        have c1 : ¬ ((i + 1 + (l.length - (i + 1)) : Nat) : Int) < (l.length : Int) := by omega
        refine ⟨decide (¬ l[i].Id ∈ ids ((l.drop (i + 1)).take (l.length - (i + 1)))), by simp only [c1, decide_false, Bool.false_eq_true, if_false], ?_⟩
        rw [List.take_of_length_le (by rw [List.length_drop]; exact Nat.le_refl _)])
      rw [hr1, hr2]
    have L5 : loop (σ := Int × Int) (ρ := Int) (fun s5 => (if decide (s5.2 < (due.length : Int)) = true then (((idx due s5.2).bind fun x11 => (idx l ((i:Int))).bind fun x12 => (if (decide (x11.At = x12.At) && (decide (x11.Id = x12.Id))) = true then lt (IntKind.i64.wrap (s5.1 + 1)) fun y7 => some (y7) else some (s5.1))).bind (fun j6 => some (j6))).bind (fun j7 => lt (IntKind.i64.wrap (s5.2 + 1)) fun y8 => some (.inl (j7, y8))) else some (.inr (s5.1)))) (0, 0) = some ((due.countP (fun x => decide (x.At = l[i].At) && decide (x.Id = l[i].Id)) : Nat) : Int) := by
      obtain ⟨r, hr1, hr2⟩ := loop_inv (σ := Int × Int) (ρ := Int) (B := (fun s5 => (if decide (s5.2 < (due.length : Int)) = true then (((idx due s5.2).bind fun x11 => (idx l ((i:Int))).bind fun x12 => (if (decide (x11.At = x12.At) && (decide (x11.Id = x12.Id))) = true then lt (IntKind.i64.wrap (s5.1 + 1)) fun y7 => some (y7) else some (s5.1))).bind (fun j6 => some (j6))).bind (fun j7 => lt (IntKind.i64.wrap (s5.2 + 1)) fun y8 => some (.inl (j7, y8))) else some (.inr (s5.1))))) (fun j st => st = ((((due.take j).countP (fun x => decide (x.At = l[i].At) && decide (x.Id = l[i].Id)) : Nat) : Int), (j : Int))) (fun r => r = ((due.countP (fun x => decide (x.At = l[i].At) && decide (x.Id = l[i].Id)) : Nat) : Int)) due.length (0, 0) (by simp) (fun j st hj hst => by
        subst hst
        have c1 : (j : Int) < (due.length : Int) := by omega
        have hle : (due.take j).countP (fun x => decide (x.At = l[i].At) && decide (x.Id = l[i].Id)) ≤ 200 := by
          have h1 := List.countP_le_length (p := fun x : TAlarm => decide (x.At = l[i].At) && decide (x.Id = l[i].Id)) (l := due.take j)
          have h2 := List.length_take_le j due
          have h3 : (due.take j).length ≤ due.length := by rw [List.length_take]; omega
          omega
        refine ⟨_, ?_, rfl⟩
        rw [List.take_add_one, List.getElem?_eq_getElem hj, Option.toList_some, List.countP_append, List.countP_singleton]
        by_cases c2 : (decide (due[j].At = l[i].At) && decide (due[j].Id = l[i].Id)) = true
        · have e2 : IntKind.i64.wrap ((((due.take j).countP (fun x => decide (x.At = l[i].At) && decide (x.Id = l[i].Id)) : Nat) : Int) + 1) = (((due.take j).countP (fun x => decide (x.At = l[i].At) && decide (x.Id = l[i].Id)) + 1 : Nat) : Int) := by rw [i64w (by omega) (by omega)]; rfl
          simp only [c1, decide_true, if_true, ix due j hj, ix l i hi, Option.bind_some, c2, lt, e2, stepw hj (by omega)]
        · simp only [c1, decide_true, if_true, ix due j hj, ix l i hi, Option.bind_some, c2, if_false, lt, stepw hj (by omega), Nat.add_zero, Bool.false_eq_true]) (fun st hst => by
        subst hst
        exact ⟨((((due.take due.length).countP (fun x => decide (x.At = l[i].At) && decide (x.Id = l[i].Id)) : Nat) : Int)), by simp only [show ¬ (due.length : Int) < (due.length : Int) by omega, decide_false, Bool.false_eq_true, if_false], by rw [List.take_length]⟩)
      rw [hr1, hr2]
    have hdrop : l.drop i = l[i] :: l.drop (i + 1) := List.drop_eq_getElem_cons hi
    rw [hdrop] at hcnt
    simp only [lt] at L4 L5
    simp only [ci, decide_true, if_true, lt, stepw hi (by omega), L4, Option.bind_some]
    by_cases c1 : l[i].Id ∈ ids (l.drop (i + 1))
    · have e1 : lasts (l[i] :: l.drop (i + 1)) = lasts (l.drop (i + 1)) := by show (if _ then _ else _) = _; rw [if_pos c1]
      rw [e1] at hcnt
      refine ⟨((n : Int), ((i + 1 : Nat) : Int)), ?_, rfl, n, rfl, hcnt⟩
      simp only [c1, not_true_eq_false, decide_false, Bool.not_false, if_true, Option.bind_some, Sum.elim_inl]
    · have e1 : lasts (l[i] :: l.drop (i + 1)) = l[i] :: lasts (l.drop (i + 1)) := by show (if _ then _ else _) = _; rw [if_neg c1]
      have hmem : l[i] ∈ lasts l := by
        have := lasts_suf (l.drop i) (l.take i) (x := l[i]) (by rw [hdrop, e1]; exact List.mem_cons_self ..)
        rwa [List.take_append_drop] at this
      rw [e1, List.filter_cons] at hcnt
      simp only [c1, not_false_eq_true, decide_true, Bool.not_true, Bool.false_eq_true, if_false, L5, count_one hdnd, hdm, hmem, true_and, Option.bind_some]
      by_cases c2 : l[i].At ≤ now
      · have c3 : ¬ now < l[i].At := by omega
        simp only [c2, decide_true, if_true, List.length_cons] at hcnt
        have e2 : IntKind.i64.wrap ((n : Int) + ((1 : Nat) : Int)) = ((n + 1 : Nat) : Int) := by rw [i64w (by omega) (by omega)]; rfl
        refine ⟨(((n + 1 : Nat) : Int), ((i + 1 : Nat) : Int)), ?_, rfl, n + 1, rfl, by omega⟩
        simp only [ix l i hi, c2, c3, decide_true, decide_false, if_true, Option.bind_some, Sum.elim_inl, show (((1 : Nat) : Int) = 1) = True from eq_self _, Bool.not_true, Bool.false_eq_true, if_false, e2]
      · have c3 : now < l[i].At := by omega
        simp only [c2, decide_false, Bool.false_eq_true, if_false] at hcnt
        have e2 : IntKind.i64.wrap ((n : Int) + ((0 : Nat) : Int)) = (n : Int) := by rw [i64w (by omega) (by omega)]; omega
        refine ⟨((n : Int), ((i + 1 : Nat) : Int)), ?_, rfl, n, rfl, by omega⟩
        simp only [ix l i hi, c2, c3, decide_true, decide_false, if_true, Option.bind_some, Sum.elim_inl, show (((0 : Nat) : Int) = 0) = True from eq_self _, Bool.not_true, Bool.false_eq_true, if_false, e2]
  · rintro ⟨n', i'⟩ ⟨h1, n, h2, hcnt⟩
    dsimp only at h1 h2
    subst h1
    subst h2
    have e : n = due.length := by rw [List.drop_length] at hcnt; simpa [lasts] using hcnt
    subst e
    exact ⟨_, by simp, rfl⟩
  · rintro r rfl
    simp only [Sum.elim_inl, decide_true, if_true, Option.bind_some, List.length_nil, Int.ofNat_zero, Int.natCast_zero, Int.cast_ofNat_Int, heads]
end Go.Proofs.Ytgkgekaiajjcaaa.S
