/- The law TimerDels: the statement of its row, by the pure statement and the walk; no condition beside the row's own. -/
import Derived.Test.YtgkgekaiajjcaaaRows
import Derived.Test.YtgkgekaiajjcaaaTAll
import Derived.Test.YtgkgekaiajjcaaaPureTimerA
import Derived.Test.YtgkgekaiajjcaaaPureTimer
import Derived.Test.YtgkgekaiajjcaaaPureTimerDels
import Derived.Test.YtgkgekaiajjcaaaSlWd
import Derived.WalkKit
import Derived.ProofKit
import Derived.OpenShut
import Derived.ShutString
import Derived.ChangeOld
import Derived.Below
import Derived.SizedLaws
namespace Go.Proofs.Ytgkgekaiajjcaaa.timerDels
open Go.ChangeShapes Go.WideShapes Go.ChangeAt Go.RowKit Go.SL Go.Proofs.Ytgkgekaiajjcaaa.S
open Go.ChangeMaps (open_string shut_string)
set_option linter.unusedVariables false
theorem own : ownKnob Try.prog.godebug = none := by kernel_rfl
theorem laidOut : laidOutB Try.prog = true := by kernel_rfl
theorem oKAlarm : Opens Try.prog 28 KAlarm := Opens.struct [(3, 0), (3, 1)] (fun x : TAlarm => (x.At, x.Id)) (fun a => (⟨a.1, a.2⟩ : TAlarm)) (fun _ => rfl) Try.underlying28 (by kernel_rfl) (by kernel_rfl) (OpensAt.cons (Opens.int Try.underlying3 (by kernel_rfl)) (OpensAt.one (Opens.int Try.underlying3 (by kernel_rfl))) (by first | rfl | kernel_rfl))
set_option maxRecDepth 100000 in
set_option maxHeartbeats 4000000 in
theorem lifted (os : Os) (started : os.Started) (H : Type) (enc : TypeId × Value → H) :
    ReturnsInHanded {} Try.checked os 4 .any (Rows.timerDelsSpec.pre6 enc Try.prog Try.f4 Rows.timerDelsRow.domain false) (Rows.timerDelsSpec.post enc Try.prog Try.f4 false true false false) := by
  refine returnsInHanded_of_change_sized (C := Try.checked) own started (by kernel_rfl) Try.func4
    (ChangeSpec.witness6 (enc := enc) (C := Try.checked) false ⟨#[], #[.slice none 0 0, .int .i64 0, .int .i64 0], []⟩ 8 (by kernel_rfl) (by kernel_rfl) (by kernel_rfl) (by kernel_rfl)) ?_
  intro W base args ds gs before hval0 hW hcnd hsz0 _
  have hval : ∀ (j : Nat) t v, Try.f4.params[j]? = some t → args[j]? = some v → Value.okWide Try.prog W .any base t v := hval0
  have hW' := hW
  obtain ⟨p, q, hA0, hV, rfl, hfz, hnd⟩ := hW
  have hA : DataW.TrodAll enc Try.prog W 0 (fun _ => true) true Try.f4.params.toList args.toList ds p := hA0
  rw [Try.params4] at hA hval
  obtain ⟨v0, vs0, d0, ds0, p0, q0, hargs, rfl, rfl, h0, r0⟩ := trodAll_cons hA
  obtain ⟨v1, vs1, d1, ds1, p1, q1, rfl, rfl, rfl, h1, r1⟩ := trodAll_cons r0
  obtain ⟨v2, vs2, d2, ds2, p2, q2, rfl, rfl, rfl, h2, r2⟩ := trodAll_cons r1
  obtain ⟨rfl, rfl, rfl⟩ := trodAll_nil r2
  obtain rfl : args = #[v0, v1, v2] := by cases args; simp_all
  obtain ⟨rfl, rfl⟩ := trodVars_none hV
  have k0 := h0
  have lt0 : ∀ x ∈ p0, x.block < W.heap.size := by obtain ⟨m, hm⟩ := k0; exact DataW.trod_lt m _ _ _ hm
  obtain ⟨A0, len0, cap0, rfl⟩ := okWide_slice Try.underlying22 (hval 0 22 v0 rfl rfl)
  obtain ⟨x0, hK0⟩ := (Opens.slice Try.underlying22 (by kernel_rfl) oKAlarm).trod h0
  have g0 := (gd_sl (gd_iso (gd_pair gd_int (gd_last gd_int)))) _ _ _ _ hK0
  obtain ⟨a1, rfl, rfl, rfl, w1⟩ := open_int Try.underlying3 (hval 1 3 v1 rfl rfl) h1
  obtain ⟨a2, rfl, rfl, rfl, w2⟩ := open_int Try.underlying3 (hval 2 3 v2 rfl rfl) h2
  clear hA0 hval0 hsz0
  have hP := timerDels x0 g0 a1 (inr_lit w1) a2 (inr_lit w2)
  refine ((law22_TimerDels.spc _ x0 a1 (inr_lit w1) a2 (inr_lit w2) true hP).calls W (own_cons (show (Val (Kd.sl KAlarm) _ x0).H (hp W) Frag.emp from ⟨_, hK0, rfl⟩) own_nil)).mono fun e W' ⟨_, he, bel0⟩ => ?_
  have bel : Below W.heap.size W W' := bel0
  subst he
  exact ⟨_, rfl, _, _, _, [], _, [], hW', trodAll_mk1 (shut_bool Try.underlying4 _), (trodAll_cons_mk (Below.trod laidOut (by kernel_rfl) (of_decide_eq_true (by kernel_rfl)) k0 bel lt0) (trodAll_cons_mk (shut_int Try.underlying3 w1) (trodAll_cons_mk (shut_int Try.underlying3 w2) trodAll_mk0))), rfl, bel.frame _, fun h => by cases h⟩
theorem over : Rows.timerDelsRow.holds Try.pinned (OpenSpec.ofChange Rows.timerDelsSpec) :=
  OpenClaim.holds_of_wide 4 Try.f4 rfl rfl rfl rfl rfl rfl rfl ⟨rfl, rfl, rfl, rfl, rfl⟩ rfl rfl rfl rfl rfl (by kernel_rfl) Try.func4 (by kernel_rfl)
    (of_decide_eq_true (by kernel_rfl)) (by unfold Func.isWrapper; first | (rw [if_pos (by decide +kernel)]; kernel_rfl) | (rw [if_neg (by decide +kernel)]; exact ⟨rfl, rfl⟩))
    (fun os started H enc _ => lifted os started H enc)
theorem proved : Rows.TimerDelsSaid := over
#print axioms proved
end Go.Proofs.Ytgkgekaiajjcaaa.timerDels
namespace Go.Proofs.Ytgkgekaiajjcaaa
/-- The row, under a short name, for the claim. -/
theorem timerDels_holds : Rows.TimerDelsSaid := timerDels.proved
end Go.Proofs.Ytgkgekaiajjcaaa
