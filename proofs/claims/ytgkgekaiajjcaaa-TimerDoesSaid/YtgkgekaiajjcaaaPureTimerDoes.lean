/- The law that says what is due behind every row of calls; each states its own conditions. -/
import Derived.Test.YtgkgekaiajjcaaaPureTimer
namespace Go.Proofs.Ytgkgekaiajjcaaa.S
open Go Go.SL
set_option linter.unusedVariables false
set_option linter.unusedSimpArgs false
theorem sset_len (s : List TAlarm) (at_ id : Int) : (sset s at_ id).length ≤ s.length + 1 := by
  have := dl_len (s := s) (id := id)
  unfold sset
  split
  · omega
  · rw [(ins_perm _ _).length_eq]; simp; omega
theorem dw_len (s : List TAlarm) (now : Int) : (s.dropWhile (fun a => decide (a.At ≤ now))).length ≤ s.length := (List.dropWhile_sublist _).length_le
theorem tw_len (s : List TAlarm) (now : Int) : (s.takeWhile (fun a => decide (a.At ≤ now))).length ≤ s.length := (List.takeWhile_sublist _).length_le
theorem timerDoes (l : List TOp) {G : Prop} (gl : G) : law22_TimerDoes.f l = some true := by
  unfold law22_TimerDoes.f
  by_cases c : 300 < (l.length : Int)
  · simp only [c, decide_true, if_true, heads, Option.bind_some]
  · simp only [c, decide_false, Bool.false_eq_true, if_false, timer_New.f, ref22_New.f, Option.bind_some]
    refine loop_bind_inv (fun o => o = some true) (fun i s => s.1 = (i : Int) ∧ RW s.2.2 s.2.1.l ∧ s.2.1.l.length ≤ i) (fun r => ∃ j, r = .inl j) l.length ⟨rfl, rw_nil, Nat.le_refl _⟩ ?_ ?_ ?_
    · rintro i ⟨i', ⟨s⟩, w⟩ hi ⟨h1, hR, hls⟩
      dsimp only at h1 hR hls
      subst h1
      have ci : (i : Int) < (l.length : Int) := by omega
      have tail : ∀ (w s : List TAlarm), RW w s → s.length ≤ 5000 → (timer_Wheel_Next.f w = some ((nextA s).1, (nextA s).2, w)) ∧ ref22_Wheel_Next.f ⟨s⟩ = some ((nextA s).1, (nextA s).2, ⟨s⟩) ∧ timer_Wheel_All.f w = some (s, w) ∧ ref22_Wheel_All.f ⟨s⟩ = some (s, ⟨s⟩) ∧ ref22_Same.f s s = some true ∧ timer_Wheel_Len.f w = some ((s.length : Int), w) := fun w s h hl =>
        ⟨by unfold timer_Wheel_Next.f; rw [rw_next h], ref_next s, by unfold timer_Wheel_All.f; rw [rw_all h], ref_all s hl, same_refl s (by omega), by unfold timer_Wheel_Len.f; rw [rw_len h]⟩
      simp only [ci, decide_true, if_true, ix l i hi, Option.bind_some, lt]
      by_cases k0 : l[i].Kind = 0
      · have hR' := rw_set hR l[i].At l[i].Id
        have hl' := sset_len s l[i].At l[i].Id
        obtain ⟨t1, t2, t3, t4, t5, t6⟩ := tail _ _ hR' (by omega)
        refine ⟨((i + 1 : Nat), ⟨sset s l[i].At l[i].Id⟩, setA w l[i].At l[i].Id), ?_, rfl, hR', by show (sset s l[i].At l[i].Id).length ≤ _; omega⟩
        simp only [k0, decide_true, if_true, timer_Wheel_Set.f, ref_set s _ _ (by omega) hR.nd, Option.bind_some, Sum.elim_inl, t1, t2, t3, t4, t5, t6, Bool.and_self, Bool.not_true, Bool.false_eq_true, if_false, beq_self_eq_true, stepw hi (by omega)]
      · by_cases k1 : l[i].Kind = 1
        · obtain ⟨d1, hR'⟩ := rw_del hR l[i].Id
          have hl' := dl_len (s := s) (id := l[i].Id)
          obtain ⟨t1, t2, t3, t4, t5, t6⟩ := tail _ _ hR' (by omega)
          refine ⟨((i + 1 : Nat), ⟨dl s l[i].Id⟩, (delA w l[i].Id).2), ?_, rfl, hR', by show (dl s l[i].Id).length ≤ _; omega⟩
          simp only [k1, show ¬ (1 : Int) = 0 by decide, decide_true, decide_false, if_true, timer_Wheel_Del.f, ref_del s _ (by omega) hR.nd, d1, Option.bind_some, Sum.elim_inl, t1, t2, t3, t4, t5, t6, Bool.and_self, Bool.not_true, Bool.false_eq_true, if_false, beq_self_eq_true, stepw hi (by omega)]
        · by_cases k2 : l[i].Kind = 2
          · obtain ⟨d1, hR'⟩ := rw_due l[i].At w.length w s rfl hR
            have hl' := dw_len s l[i].At
            have hl2 := tw_len s l[i].At
            obtain ⟨t1, t2, t3, t4, t5, t6⟩ := tail _ _ hR' (by omega)
            refine ⟨((i + 1 : Nat), ⟨s.dropWhile (fun a => decide (a.At ≤ l[i].At))⟩, (dueA w.length w l[i].At).2), ?_, rfl, hR', by show (s.dropWhile (fun a => decide (a.At ≤ l[i].At))).length ≤ _; omega⟩
            simp only [k2, show ¬ (2 : Int) = 0 by decide, show ¬ (2 : Int) = 1 by decide, decide_true, decide_false, if_true, timer_Wheel_Due.f, ref_due s _ (show s.length ≤ 5000 by omega), d1, same_refl _ (show (s.takeWhile (fun a => decide (a.At ≤ l[i].At))).length ≤ 100000 by omega), Option.bind_some, Sum.elim_inl, t1, t2, t3, t4, t5, t6, Bool.and_self, Bool.not_true, Bool.false_eq_true, if_false, beq_self_eq_true, stepw hi (by omega)]
          · obtain ⟨t1, t2, t3, t4, t5, t6⟩ := tail _ _ hR (by omega)
            refine ⟨((i + 1 : Nat), ⟨s⟩, w), ?_, rfl, hR, by show s.length ≤ _; omega⟩
            simp only [k0, k1, k2, decide_true, decide_false, if_true, Option.bind_some, Sum.elim_inl, t1, t2, t3, t4, t5, t6, Bool.and_self, Bool.not_true, Bool.false_eq_true, if_false, beq_self_eq_true, stepw hi (by omega)]
    · rintro ⟨i', m, w⟩ ⟨h1, hR, hls⟩
      dsimp only at h1
      subst h1
      exact ⟨.inl (m, w), by simp, _, rfl⟩
    · rintro r ⟨j, rfl⟩
      simp only [Sum.elim_inl, heads, Option.bind_some]
end Go.Proofs.Ytgkgekaiajjcaaa.S
