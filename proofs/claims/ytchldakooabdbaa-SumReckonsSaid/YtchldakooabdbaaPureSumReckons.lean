/- SumReckons: what checksums are, and where they are put; no condition beside the statement's own. -/
import Derived.Test.YtchldakooabdbaaPureSum
import Derived.Test.YtchldakooabdbaaPx3
namespace Go.Proofs.Ytchldakooabdbaa.Pure
set_option linter.unusedVariables false
open Go.RowKit Go.Proofs.Ytchldakooabdbaa.Aux Go.Proofs.Ytchldakooabdbaa.P Go.Proofs.YtchldakooabdbaaW.PrintWords Go.Proofs.YtchldakooabdbaaW.PrintLast Go.Proofs.YtchldakooabdbaaW.PrintMore
theorem headsR_ok : drawbridgelaw15_heads.f 100 = some true := by decide +kernel
theorem headsR_at {k : Nat} (hk : 100 ≤ k) : drawbridgelaw15_heads.f k = some true := at_rounds (g := fun k => drawbridgelaw15_heads.f k) (fun k => drawbridgelaw15_heads.mono k) hk headsR_ok
theorem pseudo_is (a b c d : Int) : ∃ r, sum_Pseudo.f 30 a b c d = some r ∧ drawbridgeref15_Pseudo.f 30 a b c d = some r := ⟨(sum_Pseudo.f 30 a b c d).getD [], by kernel_rfl, by kernel_rfl⟩
theorem tdiv_nonneg {a b : Int} (h : 0 ≤ a) : Int.tdiv a b = a / b := Int.tdiv_eq_ediv_of_nonneg h
/-- Both patches are one. -/
theorem patch_both {l : List Int} (a1 : Int) (ok : okBytes l = true) (hl : l.length ≤ 70000) (h0 : -9223372036854775808 ≤ a1) (h1 : a1 ≤ 9223372036854775807) : ∃ r, ∀ k, l.length + 30 ≤ k → sum_Patch.f k l a1 = some r ∧ drawbridgeref15_Patch.f k l a1 = some r := by
  by_cases h2 : a1 < 0
  · refine ⟨l, fun k hk => ⟨?_, ?_⟩⟩
    · unfold sum_Patch.f; rw [if_pos (by omega), if_pos h2]
    · unfold drawbridgeref15_Patch.f
      simp only [Option.bind_some, List.length_nil, Nat.zero_add, List.nil_append]
      rw [if_pos (by omega), if_pos h2]
  obtain ⟨m, rfl⟩ := Int.eq_ofNat_of_zero_le (show 0 ≤ a1 by omega)
  have hb : Go.bits .and .i64 (m : Int) 1 = (m : Int) % 2 := bits_mask .i64 63 (by decide) wraps_i64 1 (by decide) (m : Int) (by omega) (by show (m : Int) < 9223372036854775808; omega)
  have ht : Int.tmod (m : Int) 2 = (m : Int) % 2 := Int.tmod_eq_emod_of_nonneg (by omega)
  by_cases h3 : (m : Int) % 2 = 0
  case neg =>
    refine ⟨l, fun k hk => ⟨?_, ?_⟩⟩
    · unfold sum_Patch.f; rw [if_pos (by omega), if_neg h2, hb, if_pos (by omega)]
    · unfold drawbridgeref15_Patch.f
      simp only [Option.bind_some, List.length_nil, Nat.zero_add, List.nil_append]
      rw [if_pos (by omega), if_neg h2, ht, if_neg h3]
  by_cases h4 : (l.length : Int) - 2 < m
  · refine ⟨l, fun k hk => ⟨?_, ?_⟩⟩
    · unfold sum_Patch.f; rw [if_pos (by omega), if_neg h2, hb, if_neg (by omega), if_pos h4]
    · unfold drawbridgeref15_Patch.f
      simp only [Option.bind_some, List.length_nil, Nat.zero_add, List.nil_append]
      rw [if_pos (by omega), if_neg h2, ht, if_pos h3, w64 (x := (l.length : Int) - 1) (by omega) (by omega), if_pos (by omega)]
  obtain ⟨s, hs0, s0, s1, hs, _⟩ := patch_is ok (by omega) (show m + 2 ≤ l.length by omega) (by omega) (Nat.le_refl 20)
  refine ⟨splice l m [s / 256, s % 256], fun k hk => ?_⟩
  obtain ⟨s', hs0', _, _, hs', hp⟩ := patch_is ok (by omega) (show m + 2 ≤ l.length by omega) (by omega) (show 20 ≤ k by omega)
  obtain rfl : s' = s := by rw [hs, hs']
  refine ⟨hp, ?_⟩
  unfold drawbridgeref15_Patch.f
  simp only [Option.bind_some, List.length_nil, Nat.zero_add, List.nil_append]
  rw [if_pos (by omega), if_neg h2, ht, if_pos h3, w64 (x := (l.length : Int) - 1) (by omega) (by omega), if_neg (by omega), w64 (x := (m : Int) + 1) (by omega) (by omega), if_pos (by omega), if_pos (by omega), if_pos (by omega), if_pos (by omega)]
  simp only [Int.toNat_natCast, show ((m : Int) + 1).toNat = m + 1 by omega]
  rw [← splice_two l m 0 0 (by omega)]
  have hlen : (splice l m [0, 0]).length = l.length := length_splice _ _ _ (by simp; omega)
  rw [ref_sum_is (okBytes_splice l m 0 0 ok (by omega) (by omega) (by omega) (by omega)) (by omega) (by omega), ← hs]
  simp only [Option.bind_some]
  rw [← splice_two _ m _ _ (by omega), splice_splice _ _ _ _ (by simp) (by simp; omega), tdiv_nonneg s0, Int.tmod_eq_emod_of_nonneg s0, w64 (by omega) (by omega), Int.emod_eq_of_lt (a := s' / 256) (by omega) (by omega), Int.emod_eq_of_lt (a := s' % 256) (by omega) (by omega)]
theorem SumReckons : drawbridgelaw15_SumReckons.Pure := by
  intro l a1 a2 a3 a4 hl1 hl2 hw h1 h2 h3 h4
  have ok := okBytes_of hw
  have b1 := bounds_i64 h1
  refine ⟨l.length + 200, ?_⟩
  unfold drawbridgelaw15_SumReckons.f
  by_cases hg : (l.length : Int) > 70000
  · rw [if_pos hg, headsR_at (by omega)]; rfl
  rw [if_neg hg]
  have es := sum_is ok (by omega)
  have er := ref_sum_is (k := l.length + 200) ok (by omega) (by omega)
  obtain ⟨p, hp⟩ := patch_both a1 ok (by omega) b1.1 b1.2
  obtain ⟨hp1, hp2⟩ := hp (l.length + 200) (by omega)
  obtain ⟨q, hq1, hq2⟩ := pseudo_is a2 a3 a4 a1
  have hq1 := at_rounds (g := fun k => sum_Pseudo.f k a2 a3 a4 a1) (fun k => sum_Pseudo.mono a2 a3 a4 a1 k) (show 30 ≤ l.length + 200 by omega) hq1
  have hq2 := at_rounds (g := fun k => drawbridgeref15_Pseudo.f k a2 a3 a4 a1) (fun k => drawbridgeref15_Pseudo.mono a2 a3 a4 a1 k) (show 30 ≤ l.length + 200 by omega) hq2
  unfold sum_Right.f drawbridgeref15_Right.f
  rw [es, er]
  simp only [Option.bind_some, if_true, beq_self_eq_true]
  rw [hp1, hp2]
  simp only [Option.bind_some]
  rw [same_self]
  simp only [Option.bind_some, if_true]
  rw [hq1, hq2]
  simp only [Option.bind_some]
  rw [same_self]
  simp only [Option.bind_some, if_true]
  rw [headsR_at (by omega)]; rfl
end Go.Proofs.Ytchldakooabdbaa.Pure
