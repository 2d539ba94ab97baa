/- The law that says what a wheel that no call made answers; each states its own conditions. -/
import Derived.Test.YtgkgekaiajjcaaaPureTimer
namespace Go.Proofs.Ytgkgekaiajjcaaa.S
open Go Go.SL
set_option linter.unusedVariables false
set_option linter.unusedSimpArgs false
theorem timerNobody (x : Int) (hx : InR .i64 x) (id : Int) (hid : InR .i64 id) : law22_TimerNobody.f x id = some true := by
  unfold law22_TimerNobody.f
  rw [heads]; rfl
end Go.Proofs.Ytgkgekaiajjcaaa.S
