/- A row of leases is the same as itself; its condition is its length. -/
import Derived.Test.YtmmaojclfggioaaPureLeaseServe
namespace Go.Proofs.Ytmmaojclfggioaa.S
open Go Go.SL
set_option linter.unusedVariables false
set_option linter.unusedSimpArgs false
theorem same_is (l : List TLease) (hl : l.length ≤ 100000) : ref25_Same.f l l = some true := by
  unfold ref25_Same.f
  rw [if_neg (by simp)]
  refine loop_exit (fun o => o = some true) (fun (i : Nat) (s : Int) => s = (i : Int)) (fun r => r = .inl ()) l.length rfl ?_ ?_ ?_
  · rintro i _ hi rfl
    left
    have c : ((i : Int) < (l.length : Int)) := by omega
    simp only [c, decide_true, if_true, ix l i hi, Option.bind_some, Bool.not_true, Bool.false_eq_true, if_false, lt]
    rw [stepw hi (by omega)]
    exact ⟨_, rfl, rfl⟩
  · rintro _ rfl
    have c : ¬ (((l.length : Nat) : Int) < (l.length : Int)) := by omega
    simp only [c, decide_false, Bool.false_eq_true, if_false]
    exact ⟨_, rfl, rfl⟩
  · rintro _ rfl; rfl
end Go.Proofs.Ytmmaojclfggioaa.S
