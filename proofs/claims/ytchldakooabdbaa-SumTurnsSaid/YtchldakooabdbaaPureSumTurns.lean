/- SumTurns: a checksum does not matter in which order pairs stand, and two texts behind one another, the first one even, add up; no condition beside the statement's own. -/
import Derived.Test.YtchldakooabdbaaPureSum
import Derived.Test.YtchldakooabdbaaPx4
namespace Go.Proofs.Ytchldakooabdbaa.Pure
set_option linter.unusedVariables false
open Go.RowKit Go.Proofs.Ytchldakooabdbaa.Aux Go.Proofs.Ytchldakooabdbaa.P Go.Proofs.YtchldakooabdbaaW.PrintWords Go.Proofs.YtchldakooabdbaaW.PrintLast Go.Proofs.YtchldakooabdbaaW.PrintMore
theorem headsT_ok : drawbridgelaw15_heads.f 100 = some true := by decide +kernel
theorem SumTurns : drawbridgelaw15_SumTurns.Pure := by
  intro a b ha1 ha2 ha hb1 hb2 hb
  have oa := okBytes_of ha
  have ob := okBytes_of hb
  refine ⟨101, ?_⟩
  have hh : (drawbridgelaw15_heads.f 100).bind (fun t226 => (some t226)) = some true := by rw [headsT_ok]; rfl
  have key : drawbridgelaw15_SumTurns.j0 101 a b true = some true := by
    simp only [drawbridgelaw15_SumTurns.j0, if_true]; exact hh
  unfold drawbridgelaw15_SumTurns.f
  by_cases h1 : ((a.length : Int) % 2) = 0
  · rw [if_pos h1]
    by_cases h2 : ((b.length : Int) % 2) = 0
    · rw [if_pos h2]
      by_cases h3 : (a.length : Int) > 30000
      · rw [if_pos h3]; exact key
      · rw [if_neg h3]
        by_cases h4 : (b.length : Int) > 30000
        · rw [decide_eq_true h4]; exact key
        · rw [decide_eq_false h4]
          have e1 := sum_is (okBytes_append oa ob) (by simp; omega)
          have e2 := sum_is (okBytes_append ob oa) (by simp; omega)
          have e3 := sum_is oa (by omega)
          have e4 := sum_is ob (by omega)
          rw [sumAdd_append _ _ (by omega)] at e1 e2
          have pa := sumAdd_pos a oa
          have pb := sumAdd_pos b ob
          have fa := sumFold_bd _ pa
          have fb := sumFold_bd _ pb
          have fab := sumFold_add _ _ pa pb
          rw [Int.add_comm] at e2
          simp only [drawbridgelaw15_SumTurns.j0, Bool.false_eq_true, if_false, Option.bind_some, List.nil_append, List.length_nil, Nat.zero_add, List.length_append]
          rw [if_pos (by omega), if_pos (by omega), e1]
          simp only [Option.bind_some]
          rw [if_pos (by omega), if_pos (by omega), e2, e3, e4]
          simp only [Option.bind_some]
          generalize sumFold (sumAdd a) = x at *
          generalize sumFold (sumAdd b) = y at *
          generalize sumFold (sumAdd a + sumAdd b) = z at *
          have w1 : wrap64 (65535 - (65535 - x)) = x := by rw [w64] <;> omega
          have w2 : wrap64 (65535 - (65535 - y)) = y := by rw [w64] <;> omega
          rw [w1, w2, w64 (x := x + y) (by omega) (by omega), w64 (x := x + y - 65535) (by omega) (by omega), w64 (x := 65535 - (x + y)) (by omega) (by omega), w64 (x := 65535 - (x + y - 65535)) (by omega) (by omega)]
          by_cases h5 : x + y > 65535
          · rw [if_pos h5] at fab ⊢
            rw [if_pos trivial, if_pos (by omega), if_pos (by omega), if_pos (by omega)]; exact hh
          · rw [if_neg h5] at fab ⊢
            rw [if_pos trivial, if_pos (by omega), if_pos (by omega), if_pos (by omega)]; exact hh
    · rw [if_neg h2]; exact key
  · rw [if_neg h1]; exact key

end Go.Proofs.Ytchldakooabdbaa.Pure
