/- The document's wheel: what its functions do with a row in order; the heads; each states its own conditions. -/
import Derived.Test.YtgkgekaiajjcaaaPureTimerA
namespace Go.Proofs.Ytgkgekaiajjcaaa.S
open Go Go.SL
set_option linter.unusedVariables false
set_option linter.unusedSimpArgs false
theorem tw_of {α : Type} {p : α → Bool} : ∀ (s : List α) (k : Nat), k ≤ s.length → (∀ (i : Nat) (x : α), i < k → s[i]? = some x → p x = true) → (∀ x, s[k]? = some x → p x = false) → s.takeWhile p = s.take k ∧ s.dropWhile p = s.drop k
  | [], k, _, _, _ => by simp
  | a :: t, 0, _, _, h => by
    have := h a rfl
    simp [List.takeWhile_cons, List.dropWhile_cons, this]
  | a :: t, k + 1, hk, h1, h2 => by
    have ha := h1 0 a (by omega) rfl
    obtain ⟨e1, e2⟩ := tw_of t k (by simpa using hk) (fun i x hi hx => h1 (i + 1) x (by omega) (by simpa using hx)) (fun x hx => h2 x (by simpa using hx))
    simp [List.takeWhile_cons, List.dropWhile_cons, ha, e1, e2]
theorem cut0 {α : Type} (s : List α) (k : Nat) (h : k ≤ s.length) : cut s 0 (k : Int) = some (s.take k) := by
  unfold cut
  rw [if_pos ⟨by omega, by omega, by omega⟩]; rfl
theorem cut1 {α : Type} (s : List α) (k : Nat) (h : k ≤ s.length) : cut s (k : Int) (s.length : Int) = some (s.drop k) := by
  unfold cut
  rw [if_pos ⟨by omega, by omega, by omega⟩]; simp
theorem same_refl (a : List TAlarm) (h : a.length ≤ 100000) : ref22_Same.f a a = some true := by
  unfold ref22_Same.f
  simp only [decide_true, Bool.not_true, Bool.false_eq_true, if_false]
  have : loop (σ := Int) (ρ := Unit ⊕ Bool) (fun s1 => (if decide (s1 < (a.length : Int)) = true then (idx a s1).bind fun x1 => (idx a s1).bind fun x2 => (if (!(decide (x1.At = x2.At) && (decide (x1.Id = x2.Id)))) = true then some (.inr (.inr (false))) else lt (IntKind.i64.wrap (s1 + 1)) fun y1 => some (.inl y1)) else some (.inr (.inl (()))))) (0 : Int) = some (.inl ()) := by
    refine loop_run (fun i => (i : Int)) a.length (fun i hi => ?_) ?_
    · have c : (i : Int) < (a.length : Int) := by omega
      simp only [c, decide_true, if_true, ix a i hi, Option.bind_some, Bool.and_self, Bool.not_true, Bool.false_eq_true, if_false, lt, stepw hi (by omega)]
    · simp
  rw [this]; rfl
theorem ref_find (s : List TAlarm) (id : Int) (hs : s.length ≤ 100000) : ∃ k, k ≤ s.length ∧ (∀ (i : Nat) (x : TAlarm), i < k → s[i]? = some x → x.Id ≠ id) ∧ (∀ x, s[k]? = some x → x.Id = id) ∧ ref22_Wheel_find.f ⟨s⟩ id = some (if k < s.length then (k : Int) else -1, ⟨s⟩) := by
  obtain ⟨k, h1, h2, h3, h4⟩ := find_run (σ := Int) (ρ := Unit ⊕ (Int × TWheel)) (B := (fun s1 => (if decide (s1 < (((⟨s⟩:TWheel)).l.length : Int)) = true then (idx ((⟨s⟩:TWheel)).l s1).bind fun x1 => (if decide (x1.Id = id) = true then some (.inr (.inr ((s1, ((⟨s⟩:TWheel)))))) else lt (IntKind.i64.wrap (s1 + 1)) fun y1 => some (.inl y1)) else some (.inr (.inl (())))))) (fun i => decide ((s[i]?).map (·.Id) = some id)) s.length (fun i => (i : Int)) (fun i => if i < s.length then .inr ((i : Int), ⟨s⟩) else .inl ()) (fun i hi c => by
    have c1 : (i : Int) < (s.length : Int) := by omega
    rw [List.getElem?_eq_getElem hi] at c
    have c2 : ¬ s[i].Id = id := by simpa using c
    simp only [c1, decide_true, if_true, ix s i hi, Option.bind_some, c2, decide_false, Bool.false_eq_true, if_false, lt, stepw hi (by omega)]) (fun i hi c => by
    have c1 : (i : Int) < (s.length : Int) := by omega
    rw [List.getElem?_eq_getElem hi] at c
    have c2 : s[i].Id = id := by simpa using c
    simp only [c1, decide_true, if_true, ix s i hi, Option.bind_some, c2, hi]) (by
    simp)
  refine ⟨k, h1, fun i x hi hx e => ?_, fun x hx => ?_, ?_⟩
  · have := h2 i hi
    rw [hx] at this
    simp [e] at this
  · have := h3 (List.getElem?_eq_some_iff.1 hx).1
    rw [hx] at this
    simpa using this
  · unfold ref22_Wheel_find.f
    have e : ((0 : Nat) : Int) = 0 := rfl
    rw [← e, h4]
    by_cases hk : k < s.length
    · simp [hk]
    · simp [hk]
theorem ref_del (s : List TAlarm) (id : Int) (hs : s.length ≤ 5000) (nd : (ids s).Nodup) : ref22_Wheel_Del.f ⟨s⟩ id = some (decide (id ∈ ids s), ⟨dl s id⟩) := by
  obtain ⟨k, h1, h2, h3, h4⟩ := ref_find s id (by omega)
  unfold ref22_Wheel_Del.f
  rw [h4, Option.bind_some]
  by_cases hk : k < s.length
  · have hx : s[k]? = some s[k] := List.getElem?_eq_getElem hk
    have he := h3 _ hx
    have hin : id ∈ ids s := List.mem_map.2 ⟨s[k], List.getElem_mem hk, he⟩
    have c : ¬ (k : Int) < 0 := by omega
    have e1 : s = s.take k ++ s[k] :: s.drop (k + 1) := by rw [← List.drop_eq_getElem_cons hk, List.take_append_drop]
    have hd : dl s id = s.take k ++ s.drop (k + 1) := by
      have hp : (s[k] :: (s.take k ++ s.drop (k + 1))).Perm s := by
        have := (List.perm_middle (a := s[k]) (l₁ := s.take k) (l₂ := s.drop (k + 1))).symm
        rwa [← e1] at this
      have hn := (hp.map (·.Id)).nodup_iff.2 nd
      have hno : ∀ b ∈ s.take k ++ s.drop (k + 1), b.Id ≠ id := fun b hb e => (List.nodup_cons.1 hn).1 (List.mem_map.2 ⟨b, hb, e.trans he.symm⟩)
      have hq : dl (s.take k ++ s[k] :: s.drop (k + 1)) id = s.take k ++ s.drop (k + 1) := by
        unfold dl
        rw [List.filter_append, List.filter_cons, if_neg (by simp [he]), ← List.filter_append]
        exact dl_none hno
      rwa [← e1] at hq
    simp only [hk, if_true, c, decide_false, Bool.false_eq_true, if_false, cut0 s k h1, Option.bind_some, stepw hk (by omega), cut1 s (k + 1) (by omega), app_k _ _ (show ([] : List TAlarm).length + (s.take k).length ≤ 68719476736 by simp; omega), List.nil_append, app_k _ _ (show (s.take k).length + (s.drop (k + 1)).length ≤ 68719476736 by simp; omega), lt, hin, decide_true, hd]
  · have hno : ∀ b ∈ s, b.Id ≠ id := fun b hb => by
      obtain ⟨i, hi⟩ := List.mem_iff_getElem?.1 hb
      exact h2 i b (by have := (List.getElem?_eq_some_iff.1 hi).1; omega) hi
    have hin : ¬ id ∈ ids s := fun hm => by obtain ⟨b, hb, e⟩ := List.mem_map.1 hm; exact hno b hb e
    simp [hk, hin, dl_none hno]
theorem ref_set (s : List TAlarm) (at_ id : Int) (hs : s.length ≤ 5000) (nd : (ids s).Nodup) : ref22_Wheel_Set.f ⟨s⟩ at_ id = some ⟨sset s at_ id⟩ := by
  have hl : (dl s id).length ≤ s.length := dl_len
  unfold ref22_Wheel_Set.f sset
  rw [ref_del s id hs nd, Option.bind_some]
  generalize dl s id = q at hl
  dsimp only
  by_cases hq : 4096 ≤ q.length
  · have c : (4096 : Int) ≤ (q.length : Int) := by omega
    simp only [c, hq, decide_true, if_true]
  · have c : ¬ (4096 : Int) ≤ (q.length : Int) := by omega
    obtain ⟨k, h1, h2, h3, h4⟩ := find_run (σ := Int) (ρ := Int) (B := (fun s1 => ((if decide (s1 < (q.length : Int)) = true then (idx q s1).bind fun x1 => (if decide (x1.At < at_) = true then some (true) else (idx q s1).bind fun x2 => (if decide (x2.At = at_) = true then (idx q s1).bind fun x3 => some (decide (x3.Id < id)) else some (false))) else some (false))).bind (fun j1 => (if j1 = true then lt (IntKind.i64.wrap (s1 + 1)) fun y1 => some (.inl y1) else some (.inr (s1)))))) (fun i => match q[i]? with | some x => !ltA x ⟨at_, id⟩ | none => true) q.length (fun i => (i : Int)) (fun i => (i : Int)) (fun i hi c => by
      have c1 : (i : Int) < (q.length : Int) := by omega
      rw [List.getElem?_eq_getElem hi] at c
      simp only [ltA, Bool.not_eq_false', Bool.or_eq_true, Bool.and_eq_true, decide_eq_true_eq] at c
      by_cases c2 : q[i].At < at_
      · simp only [c1, decide_true, if_true, ix q i hi, Option.bind_some, c2, lt, stepw hi (by omega)]
      · have c3 : q[i].At = at_ := by omega
        have c4 : q[i].Id < id := by omega
        simp only [c1, decide_true, if_true, ix q i hi, Option.bind_some, c2, decide_false, Bool.false_eq_true, if_false, c3, c4, lt, stepw hi (by omega)]
        simp) (fun i hi c => by
      have c1 : (i : Int) < (q.length : Int) := by omega
      rw [List.getElem?_eq_getElem hi] at c
      simp only [ltA, Bool.not_eq_true', Bool.or_eq_false_iff, Bool.and_eq_false_iff, decide_eq_false_iff_not] at c
      have c2 : ¬ q[i].At < at_ := by omega
      by_cases c3 : q[i].At = at_
      · have c4 : ¬ q[i].Id < id := by omega
        simp only [c1, decide_true, if_true, ix q i hi, Option.bind_some, c2, decide_false, Bool.false_eq_true, if_false, c3, c4]
        simp [c4]
      · simp only [c1, decide_true, if_true, ix q i hi, Option.bind_some, c2, decide_false, Bool.false_eq_true, if_false, c3]) (by
      simp)
    obtain ⟨e1, e2⟩ := tw_of (p := fun b => ltA b ⟨at_, id⟩) q k h1 (fun i x hi hx => by
      have := h2 i hi
      rw [hx] at this
      simpa using this) (fun x hx => by
      have := h3 (List.getElem?_eq_some_iff.1 hx).1
      rw [hx] at this
      simpa using this)
    have e : ((0 : Nat) : Int) = 0 := rfl
    simp only [c, decide_false, Bool.false_eq_true, if_false, hq]
    rw [← e, h4]
    unfold ins
    rw [e1, e2]
    simp only [e, Option.bind_some, cut0 q k h1, cut1 q k h1, app_k _ _ (show ([] : List TAlarm).length + (q.take k).length ≤ 68719476736 by simp; omega), List.nil_append, app_k _ _ (show (q.take k).length + ([⟨at_, id⟩] : List TAlarm).length ≤ 68719476736 by simp; omega), app_k _ _ (show (q.take k ++ ([⟨at_, id⟩] : List TAlarm)).length + (q.drop k).length ≤ 68719476736 by simp; omega), lt]
    simp
theorem ref_due (s : List TAlarm) (now : Int) (hs : s.length ≤ 5000) : ref22_Wheel_Due.f ⟨s⟩ now = some (s.takeWhile (fun a => decide (a.At ≤ now)), ⟨s.dropWhile (fun a => decide (a.At ≤ now))⟩) := by
  obtain ⟨k, h1, h2, h3, h4⟩ := find_run (σ := Int) (ρ := Int) (B := (fun s1 => ((if decide (s1 < (((⟨s⟩:TWheel)).l.length : Int)) = true then (idx ((⟨s⟩:TWheel)).l s1).bind fun x1 => some (decide (x1.At ≤ now)) else some (false))).bind (fun j1 => (if j1 = true then lt (IntKind.i64.wrap (s1 + 1)) fun y1 => some (.inl y1) else some (.inr (s1)))))) (fun i => match s[i]? with | some x => !decide (x.At ≤ now) | none => true) s.length (fun i => (i : Int)) (fun i => (i : Int)) (fun i hi c => by
    have c1 : (i : Int) < (s.length : Int) := by omega
    rw [List.getElem?_eq_getElem hi] at c
    have c2 : s[i].At ≤ now := by simpa using c
    simp only [c1, decide_true, if_true, ix s i hi, Option.bind_some, c2, lt, stepw hi (by omega)]) (fun i hi c => by
    have c1 : (i : Int) < (s.length : Int) := by omega
    rw [List.getElem?_eq_getElem hi] at c
    have c2 : ¬ s[i].At ≤ now := by simpa using c
    simp only [c1, decide_true, if_true, ix s i hi, Option.bind_some, c2, decide_false, Bool.false_eq_true, if_false]) (by
    simp)
  obtain ⟨e1, e2⟩ := tw_of (p := fun a : TAlarm => decide (a.At ≤ now)) s k h1 (fun i x hi hx => by
    have := h2 i hi
    rw [hx] at this
    simpa using this) (fun x hx => by
    have := h3 (List.getElem?_eq_some_iff.1 hx).1
    rw [hx] at this
    simpa using this)
  unfold ref22_Wheel_Due.f
  have e : ((0 : Nat) : Int) = 0 := rfl
  rw [← e, h4, e1, e2]
  simp only [e, Option.bind_some, cut0 s k h1, cut1 s k h1, app_k _ _ (show ([] : List TAlarm).length + (s.take k).length ≤ 68719476736 by simp; omega), List.nil_append, app_k _ _ (show ([] : List TAlarm).length + (s.drop k).length ≤ 68719476736 by simp; omega), lt]
theorem ref_next (s : List TAlarm) : ref22_Wheel_Next.f ⟨s⟩ = some ((nextA s).1, (nextA s).2, ⟨s⟩) := by
  unfold ref22_Wheel_Next.f
  cases s with
  | nil => rfl
  | cons a t =>
    have c : ¬ ((t.length : Int) + 1 = 0) := by omega
    simp [nextA, idx, c]
theorem ref_all (s : List TAlarm) (hs : s.length ≤ 5000) : ref22_Wheel_All.f ⟨s⟩ = some (s, ⟨s⟩) := by
  unfold ref22_Wheel_All.f
  rw [app_k _ _ (by simp; omega)]; rfl
theorem heads : law22_heads.f = some true := by
  have h5 := rw_set (rw_set (rw_set (rw_set (rw_set rw_nil 5 1) 9 2) 5 0) 3 2) 7 4
  have e5 : sset (sset (sset (sset (sset [] 5 1) 9 2) 5 0) 3 2) 7 4 = [⟨3, 2⟩, ⟨5, 0⟩, ⟨5, 1⟩, ⟨7, 4⟩] := by rfl
  rw [e5] at h5
  unfold law22_heads.f timer_New.f timer_Wheel_Set.f timer_Wheel_Del.f timer_Wheel_Next.f timer_Wheel_Due.f timer_Wheel_Len.f
  simp only [Option.bind_some]
  generalize setA (setA (setA (setA (setA [] 5 1) 9 2) 5 0) 3 2) 7 4 = x5 at h5 ⊢
  obtain ⟨d1, h6⟩ := rw_del h5 4
  have e6 : dl [⟨3, 2⟩, ⟨5, 0⟩, ⟨5, 1⟩, ⟨7, 4⟩] 4 = [⟨3, 2⟩, ⟨5, 0⟩, ⟨5, 1⟩] := by rfl
  rw [e6] at h6
  have d1 : (delA x5 4).1 = true := by rw [d1]; rfl
  simp only [d1]
  generalize (delA x5 4).2 = x6 at h6 ⊢
  obtain ⟨d2, h7⟩ := rw_del h6 4
  have e7 : dl [⟨3, 2⟩, ⟨5, 0⟩, ⟨5, 1⟩] 4 = [⟨3, 2⟩, ⟨5, 0⟩, ⟨5, 1⟩] := by rfl
  rw [e7] at h7
  have d2 : (delA x6 4).1 = false := by rw [d2]; rfl
  simp only [d2]
  generalize (delA x6 4).2 = x7 at h7 ⊢
  have n1 := rw_next h7
  obtain ⟨u1, h8⟩ := rw_due 5 x7.length x7 _ rfl h7
  have t1 : ([⟨3, 2⟩, ⟨5, 0⟩, ⟨5, 1⟩] : List TAlarm).takeWhile (fun a => decide (a.At ≤ 5)) = [⟨3, 2⟩, ⟨5, 0⟩, ⟨5, 1⟩] := by rfl
  have t2 : ([⟨3, 2⟩, ⟨5, 0⟩, ⟨5, 1⟩] : List TAlarm).dropWhile (fun a => decide (a.At ≤ 5)) = [] := by rfl
  rw [t1] at u1
  rw [t2] at h8
  simp only [n1, u1]
  generalize (dueA x7.length x7 5).2 = x8 at h8 ⊢
  have hx8 : x8 = [] := List.eq_nil_of_length_eq_zero (by simpa using rw_len h8)
  subst hx8
  rw [same_refl _ (by simp)]
  rfl
end Go.Proofs.Ytgkgekaiajjcaaa.S
