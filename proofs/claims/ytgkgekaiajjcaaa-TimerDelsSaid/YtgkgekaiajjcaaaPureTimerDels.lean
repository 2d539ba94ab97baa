/- The law that says that an alarm that is deleted never comes due; each states its own conditions. -/
import Derived.Test.YtgkgekaiajjcaaaPureTimer
namespace Go.Proofs.Ytgkgekaiajjcaaa.S
open Go Go.SL
set_option linter.unusedVariables false
set_option linter.unusedSimpArgs false
theorem so_uniq {s t : List TAlarm} (h : s.Perm t) (hs : s.Pairwise (fun a b => ltA a b = true)) (ht : t.Pairwise (fun a b => ltA a b = true)) : s = t :=
  List.Perm.eq_of_pairwise (le := fun a b => ltA b a = false) (fun a b _ _ h1 h2 => ltA_eq h2 h1) (hs.imp fun h => totA.asym h) (ht.imp fun h => totA.asym h) h
theorem dl_comm (s : List TAlarm) (x y : Int) : dl (dl s x) y = dl (dl s y) x := by
  unfold dl
  rw [List.filter_filter, List.filter_filter]
  congr 1
  funext a
  rw [Bool.and_comm]
theorem dl_cons_ne {a : TAlarm} {y : List TAlarm} {id : Int} (h : a.Id ≠ id) : dl (a :: y) id = a :: dl y id := by
  unfold dl
  rw [List.filter_cons, if_pos (by simp [h])]
theorem dl_ins_ne {s : List TAlarm} {a : TAlarm} {id : Int} (h : a.Id ≠ id) (so : s.Pairwise (fun a b => ltA a b = true)) (hn : ∀ b ∈ s, b.Id ≠ a.Id) : dl (ins s a) id = ins (dl s id) a := by
  refine so_uniq ?_ ((ins_so so hn).filter _) (ins_so (so.filter _) fun b hb => hn b (List.mem_filter.1 hb).1)
  have := dl_perm (ins_perm a s) id
  rw [dl_cons_ne h] at this
  exact this.trans (ins_perm _ _).symm
theorem dl_ins_eq {s : List TAlarm} {a : TAlarm} {id : Int} (h : a.Id = id) (so : s.Pairwise (fun a b => ltA a b = true)) (hn : ∀ b ∈ s, b.Id ≠ id) : dl (ins s a) id = s := by
  refine so_uniq ?_ ((ins_so so (by rw [h]; exact hn)).filter _) so
  have := dl_perm (ins_perm a s) id
  rwa [dl_cons_self h, dl_none hn] at this
theorem dl_full (s : List TAlarm) (id : Int) : (s.length = (dl s id).length) ↔ ¬ id ∈ ids s := by
  constructor
  · intro h hm
    obtain ⟨a, ha, e⟩ := List.mem_map.1 hm
    have h2 := List.length_filter_eq_length_iff.1 h.symm a ha
    simp [e] at h2
  · intro h
    rw [dl_none fun b hb e => h (List.mem_map.2 ⟨b, hb, e⟩)]
theorem sset_len (s : List TAlarm) (at_ id : Int) : (sset s at_ id).length ≤ s.length + 1 := by
  have := dl_len (s := s) (id := id)
  unfold sset
  split
  · omega
  · rw [(ins_perm _ _).length_eq]; simp; omega
theorem sset_is {s : List TAlarm} {at_ id : Int} (h : s.length < 4096) : sset s at_ id = ins (dl s id) ⟨at_, id⟩ := by
  have := dl_len (s := s) (id := id)
  unfold sset
  rw [if_neg (by omega)]
theorem timerDels (l : List TAlarm) {G : Prop} (gl : G) (id : Int) (hid : InR .i64 id) (now : Int) (hn : InR .i64 now) : law22_TimerDels.f l id now = some true := by
  unfold law22_TimerDels.f
  by_cases c : 100 < (l.length : Int)
  · simp only [c, decide_true, if_true, heads, Option.bind_some]
  simp only [c, decide_false, Bool.false_eq_true, if_false, timer_New.f, Option.bind_some]
  refine loop_bind_inv (fun o => o = some true) (fun i st => st.1 = (i : Int) ∧ ∃ s, RW st.2.2 s ∧ RW st.2.1 (dl s id) ∧ s.length ≤ i) (fun r => ∃ s, RW r.2 s ∧ RW r.1 (dl s id) ∧ s.length ≤ l.length) l.length ⟨rfl, [], rw_nil, rw_nil, Nat.le_refl _⟩ ?_ ?_ ?_
  · rintro i ⟨i', v, w⟩ hi ⟨h1, s, hw, hv, hls⟩
    dsimp only at h1 hw hv
    subst h1
    have ci : (i : Int) < (l.length : Int) := by omega
    have hw' := rw_set hw l[i].At l[i].Id
    have hl' := sset_len s l[i].At l[i].Id
    have es : sset s l[i].At l[i].Id = ins (dl s l[i].Id) l[i] := sset_is (by omega)
    have hdl := dl_len (s := s) (id := id)
    simp only [ci, decide_true, if_true, ix l i hi, Option.bind_some, timer_Wheel_Set.f, lt, stepw hi (by omega)]
    by_cases c1 : l[i].Id = id
    · have e2 : dl (sset s l[i].At l[i].Id) id = dl s id := by
        rw [es, c1, dl_ins_eq (s := dl s id) c1 (hw.so.filter _) dl_ne]
      refine ⟨((i + 1 : Nat), v, setA w l[i].At l[i].Id), ?_, rfl, _, hw', by rw [e2]; exact hv, by omega⟩
      simp only [c1, decide_true, Bool.not_true, Bool.false_eq_true, if_false, Option.bind_some]
    · have hv' := rw_set hv l[i].At l[i].Id
      have e2 : dl (sset s l[i].At l[i].Id) id = sset (dl s id) l[i].At l[i].Id := by
        rw [es, sset_is (by omega), dl_ins_ne (s := dl s l[i].Id) c1 (hw.so.filter _) dl_ne, dl_comm]
      refine ⟨((i + 1 : Nat), setA v l[i].At l[i].Id, setA w l[i].At l[i].Id), ?_, rfl, _, hw', by rw [e2]; exact hv', by omega⟩
      simp only [c1, decide_false, Bool.not_false, if_true, Option.bind_some]
  · rintro ⟨i', v, w⟩ ⟨h1, s, hw, hv, hls⟩
    dsimp only at h1 hw hv
    subst h1
    exact ⟨(v, w), by simp, s, hw, hv, hls⟩
  rintro ⟨v, w⟩ ⟨s, hw, hv, hls⟩
  dsimp only at hw hv
  obtain ⟨d1, hw2⟩ := rw_del hw id
  have hdl := dl_len (s := s) (id := id)
  have eb : (decide (id ∈ ids s) == !decide ((s.length : Int) = ((dl s id).length : Int))) = true := by
    have h := dl_full s id
    by_cases c1 : id ∈ ids s
    · have : ¬ (s.length : Int) = ((dl s id).length : Int) := fun e => (h.1 (by omega)) c1
      simp [c1, this]
    · have : (s.length : Int) = ((dl s id).length : Int) := by have := h.2 c1; omega
      simp [c1, this]
  simp only [timer_Wheel_Len.f, timer_Wheel_Del.f, timer_Wheel_All.f, timer_Wheel_Due.f, Option.bind_some, rw_len hw, rw_len hv, d1, eb, rw_all hw2, rw_all hv, same_refl _ (show (dl s id).length ≤ 100000 by omega), Bool.not_true, Bool.false_eq_true, if_false]
  generalize (delA w id).2 = w2 at hw2 ⊢
  obtain ⟨u1, hw3⟩ := rw_due now w2.length w2 _ rfl hw2
  obtain ⟨u2, hv3⟩ := rw_due now v.length v _ rfl hv
  rw [rw_len hv] at u2 hv3
  simp only [u1, u2, rw_len hw3, rw_len hv3]
  have hno : ∀ b ∈ (dl s id).takeWhile (fun a => decide (a.At ≤ now)), b.Id ≠ id := fun b hb => dl_ne b ((List.takeWhile_sublist _).mem hb)
  have htl : ((dl s id).takeWhile (fun a => decide (a.At ≤ now))).length ≤ (dl s id).length := (List.takeWhile_sublist _).length_le
  generalize (dl s id).takeWhile (fun a => decide (a.At ≤ now)) = due at hno htl ⊢
  have L2 : loop (σ := Int) (ρ := Unit ⊕ Bool) (fun s2 => (if decide (s2 < (due.length : Int)) = true then (idx due s2).bind fun x6 => (if decide (x6.Id = id) = true then some (.inr (.inr (false))) else lt (IntKind.i64.wrap (s2 + 1)) fun y4 => some (.inl y4)) else some (.inr (.inl (()))))) (0 : Int) = some (.inl ()) := by
    refine loop_run (fun i => (i : Int)) due.length (fun i hi => ?_) ?_
    · have c1 : (i : Int) < (due.length : Int) := by omega
      have c2 : ¬ due[i].Id = id := hno _ (List.getElem_mem hi)
      simp only [c1, decide_true, if_true, ix due i hi, Option.bind_some, c2, decide_false, Bool.false_eq_true, if_false, lt, stepw hi (by omega)]
    · simp
  rw [L2]
  simp only [Option.bind_some, Sum.elim_inl, same_refl due (by omega), decide_true, if_true, heads]
end Go.Proofs.Ytgkgekaiajjcaaa.S
