/- The law SpliceResets: the statement of its row, by the pure statement and the walk; no condition beside the row's own. -/
import Derived.Test.YtpcbhkigmnpimaaRows
import Derived.Test.YtpcbhkigmnpimaaTAll
import Derived.Test.YtpcbhkigmnpimaaPureBitsP
import Derived.Test.YtpcbhkigmnpimaaPureLoop
import Derived.Test.YtpcbhkigmnpimaaPureSum
import Derived.Test.YtpcbhkigmnpimaaPureSegPut
import Derived.Test.YtpcbhkigmnpimaaPureSpliceResets
import Derived.Test.YtpcbhkigmnpimaaSlZ
import Derived.WalkKit
import Derived.ProofKit
import Derived.OpenShut
import Derived.ShutString
import Derived.ChangeOld
import Derived.Below
import Derived.SizedLaws
namespace Go.Proofs.Ytpcbhkigmnpimaa.spliceResets
open Go.ChangeShapes Go.WideShapes Go.ChangeAt Go.RowKit Go.SL Go.Proofs.Ytpcbhkigmnpimaa.S
open Go.ChangeMaps (open_string shut_string)
set_option linter.unusedVariables false
theorem own : ownKnob Try.prog.godebug = none := by kernel_rfl
theorem laidOut : laidOutB Try.prog = true := by kernel_rfl
theorem oKEarly : Opens Try.prog 58 KEarly := Opens.struct [(22, 0), (23, 1)] (fun x : TEarly => (x.Seq, x.Data)) (fun a => (⟨a.1, a.2⟩ : TEarly)) (fun _ => rfl) Try.underlying58 (by kernel_rfl) (by kernel_rfl) (OpensAt.cons (Opens.int Try.underlying22 (by kernel_rfl)) (OpensAt.one (Opens.slice Try.underlying23 (by kernel_rfl) (Opens.int Try.underlying5 (by kernel_rfl)))) (by first | rfl | kernel_rfl))
theorem oKConn : Opens Try.prog 26 KConn := Opens.struct [(3, 0), (22, 1), (3, 2), (22, 3), (3, 4), (4, 5), (4, 6), (4, 7), (22, 8), (22, 9), (22, 10), (22, 11), (3, 12), (3, 13), (23, 14), (23, 15), (24, 16), (4, 17), (4, 18), (4, 19), (3, 20), (3, 21), (3, 22)] (fun x : TConn => (x.Id, x.Guest, x.Gport, x.Remote, x.Rport, x.Opening, x.Up, x.Done, x.Begin, x.Una, x.Next, x.Want, x.Win, x.Mss, x.ToHost, x.ToGuest, x.Early, x.Fin, x.Eof, x.Shut, x.At, x.Wait, x.Tries)) (fun a => (⟨a.1, a.2.1, a.2.2.1, a.2.2.2.1, a.2.2.2.2.1, a.2.2.2.2.2.1, a.2.2.2.2.2.2.1, a.2.2.2.2.2.2.2.1, a.2.2.2.2.2.2.2.2.1, a.2.2.2.2.2.2.2.2.2.1, a.2.2.2.2.2.2.2.2.2.2.1, a.2.2.2.2.2.2.2.2.2.2.2.1, a.2.2.2.2.2.2.2.2.2.2.2.2.1, a.2.2.2.2.2.2.2.2.2.2.2.2.2.1, a.2.2.2.2.2.2.2.2.2.2.2.2.2.2.1, a.2.2.2.2.2.2.2.2.2.2.2.2.2.2.2.1, a.2.2.2.2.2.2.2.2.2.2.2.2.2.2.2.2.1, a.2.2.2.2.2.2.2.2.2.2.2.2.2.2.2.2.2.1, a.2.2.2.2.2.2.2.2.2.2.2.2.2.2.2.2.2.2.1, a.2.2.2.2.2.2.2.2.2.2.2.2.2.2.2.2.2.2.2.1, a.2.2.2.2.2.2.2.2.2.2.2.2.2.2.2.2.2.2.2.2.1, a.2.2.2.2.2.2.2.2.2.2.2.2.2.2.2.2.2.2.2.2.2.1, a.2.2.2.2.2.2.2.2.2.2.2.2.2.2.2.2.2.2.2.2.2.2⟩ : TConn)) (fun _ => rfl) Try.underlying26 (by kernel_rfl) (by kernel_rfl) (OpensAt.cons (Opens.int Try.underlying3 (by kernel_rfl)) (OpensAt.cons (Opens.int Try.underlying22 (by kernel_rfl)) (OpensAt.cons (Opens.int Try.underlying3 (by kernel_rfl)) (OpensAt.cons (Opens.int Try.underlying22 (by kernel_rfl)) (OpensAt.cons (Opens.int Try.underlying3 (by kernel_rfl)) (OpensAt.cons (Opens.bool Try.underlying4 (by kernel_rfl)) (OpensAt.cons (Opens.bool Try.underlying4 (by kernel_rfl)) (OpensAt.cons (Opens.bool Try.underlying4 (by kernel_rfl)) (OpensAt.cons (Opens.int Try.underlying22 (by kernel_rfl)) (OpensAt.cons (Opens.int Try.underlying22 (by kernel_rfl)) (OpensAt.cons (Opens.int Try.underlying22 (by kernel_rfl)) (OpensAt.cons (Opens.int Try.underlying22 (by kernel_rfl)) (OpensAt.cons (Opens.int Try.underlying3 (by kernel_rfl)) (OpensAt.cons (Opens.int Try.underlying3 (by kernel_rfl)) (OpensAt.cons (Opens.slice Try.underlying23 (by kernel_rfl) (Opens.int Try.underlying5 (by kernel_rfl))) (OpensAt.cons (Opens.slice Try.underlying23 (by kernel_rfl) (Opens.int Try.underlying5 (by kernel_rfl))) (OpensAt.cons (Opens.slice Try.underlying24 (by kernel_rfl) oKEarly) (OpensAt.cons (Opens.bool Try.underlying4 (by kernel_rfl)) (OpensAt.cons (Opens.bool Try.underlying4 (by kernel_rfl)) (OpensAt.cons (Opens.bool Try.underlying4 (by kernel_rfl)) (OpensAt.cons (Opens.int Try.underlying3 (by kernel_rfl)) (OpensAt.cons (Opens.int Try.underlying3 (by kernel_rfl)) (OpensAt.one (Opens.int Try.underlying3 (by kernel_rfl))) (by first | rfl | kernel_rfl)) (by first | rfl | kernel_rfl)) (by first | rfl | kernel_rfl)) (by first | rfl | kernel_rfl)) (by first | rfl | kernel_rfl)) (by first | rfl | kernel_rfl)) (by first | rfl | kernel_rfl)) (by first | rfl | kernel_rfl)) (by first | rfl | kernel_rfl)) (by first | rfl | kernel_rfl)) (by first | rfl | kernel_rfl)) (by first | rfl | kernel_rfl)) (by first | rfl | kernel_rfl)) (by first | rfl | kernel_rfl)) (by first | rfl | kernel_rfl)) (by first | rfl | kernel_rfl)) (by first | rfl | kernel_rfl)) (by first | rfl | kernel_rfl)) (by first | rfl | kernel_rfl)) (by first | rfl | kernel_rfl)) (by first | rfl | kernel_rfl)) (by first | rfl | kernel_rfl))
set_option maxRecDepth 100000 in
set_option maxHeartbeats 4000000 in
theorem lifted (os : Os) (started : os.Started) (H : Type) (enc : TypeId × Value → H) :
    ReturnsInHanded {} Try.checked os 3 .any (Rows.spliceResetsSpec.pre6 enc Try.prog Try.f3 Rows.spliceResetsRow.domain false) (Rows.spliceResetsSpec.post enc Try.prog Try.f3 false true false false) := by
  refine returnsInHanded_of_change_sized (C := Try.checked) own started (by kernel_rfl) Try.func3
    (ChangeSpec.witness6 (enc := enc) (C := Try.checked) false ⟨#[], #[.agg #[.int .i64 0, .int .u32 0, .int .i64 0, .int .u32 0, .int .i64 0, .bool false, .bool false, .bool false, .int .u32 0, .int .u32 0, .int .u32 0, .int .u32 0, .int .i64 0, .int .i64 0, .slice none 0 0, .slice none 0 0, .slice none 0 0, .bool false, .bool false, .bool false, .int .i64 0, .int .i64 0, .int .i64 0], .int .i64 0, .int .u32 0], []⟩ 8 (by kernel_rfl) (by kernel_rfl) (by kernel_rfl) (by kernel_rfl)) ?_
  intro W base args ds gs before hval0 hW hcnd hsz0 _
  have hval : ∀ (j : Nat) t v, Try.f3.params[j]? = some t → args[j]? = some v → Value.okWide Try.prog W .any base t v := hval0
  have hW' := hW
  obtain ⟨p, q, hA0, hV, rfl, hfz, hnd⟩ := hW
  have hA : DataW.TrodAll enc Try.prog W 0 (fun _ => true) true Try.f3.params.toList args.toList ds p := hA0
  rw [Try.params3] at hA hval
  obtain ⟨v0, vs0, d0, ds0, p0, q0, hargs, rfl, rfl, h0, r0⟩ := trodAll_cons hA
  obtain ⟨v1, vs1, d1, ds1, p1, q1, rfl, rfl, rfl, h1, r1⟩ := trodAll_cons r0
  obtain ⟨v2, vs2, d2, ds2, p2, q2, rfl, rfl, rfl, h2, r2⟩ := trodAll_cons r1
  obtain ⟨rfl, rfl, rfl⟩ := trodAll_nil r2
  obtain rfl : args = #[v0, v1, v2] := by cases args; simp_all
  obtain ⟨rfl, rfl⟩ := trodVars_none hV
  have k0 := h0
  have lt0 : ∀ x ∈ p0, x.block < W.heap.size := by obtain ⟨m, hm⟩ := k0; exact DataW.trod_lt m _ _ _ hm
  obtain ⟨cs0, rfl, _⟩ := okWide_struct Try.underlying26 (hval 0 26 v0 rfl rfl)
  obtain ⟨x0, hK0⟩ := oKConn.trod h0
  have g0 := (gd_iso (gd_pair gd_int (gd_pair gd_int (gd_pair gd_int (gd_pair gd_int (gd_pair gd_int (gd_pair gd_bool (gd_pair gd_bool (gd_pair gd_bool (gd_pair gd_int (gd_pair gd_int (gd_pair gd_int (gd_pair gd_int (gd_pair gd_int (gd_pair gd_int (gd_pair (gd_sl gd_int) (gd_pair (gd_sl gd_int) (gd_pair (gd_sl (gd_iso (gd_pair gd_int (gd_last (gd_sl gd_int))))) (gd_pair gd_bool (gd_pair gd_bool (gd_pair gd_bool (gd_pair gd_int (gd_pair gd_int (gd_last gd_int)))))))))))))))))))))))) _ _ _ _ hK0
  obtain ⟨a1, rfl, rfl, rfl, w1⟩ := open_int Try.underlying3 (hval 1 3 v1 rfl rfl) h1
  obtain ⟨a2, rfl, rfl, rfl, w2⟩ := open_int Try.underlying22 (hval 2 22 v2 rfl rfl) h2
  clear hA0 hval0 hsz0
  have hP := spliceResets x0 g0 a1 (inr_lit w1) a2 (inr_lit w2)
  refine ((law28_SpliceResets.spc _ x0 a1 (inr_lit w1) a2 (inr_lit w2) true hP).calls W (own_cons (show (Val KConn _ x0).H (hp W) Frag.emp from ⟨_, hK0, by simp [pack, KConn, Kd.iso, Kd.pair, Kd.last, Value.cells]⟩) own_nil)).mono fun e W' ⟨_, he, bel0⟩ => ?_
  have bel : Below W.heap.size W W' := bel0
  subst he
  exact ⟨_, rfl, _, _, _, [], _, [], hW', trodAll_mk1 (shut_bool Try.underlying4 _), (trodAll_cons_mk (Below.trod laidOut (by kernel_rfl) (of_decide_eq_true (by kernel_rfl)) k0 bel lt0) (trodAll_cons_mk (shut_int Try.underlying3 w1) (trodAll_cons_mk (shut_int Try.underlying22 w2) trodAll_mk0))), rfl, bel.frame _, fun h => by cases h⟩
theorem over : Rows.spliceResetsRow.holds Try.pinned (OpenSpec.ofChange Rows.spliceResetsSpec) :=
  OpenClaim.holds_of_wide 3 Try.f3 rfl rfl rfl rfl rfl rfl rfl ⟨rfl, rfl, rfl, rfl, rfl⟩ rfl rfl rfl rfl rfl (by kernel_rfl) Try.func3 (by kernel_rfl)
    (of_decide_eq_true (by kernel_rfl)) (by unfold Func.isWrapper; first | (rw [if_pos (by decide +kernel)]; kernel_rfl) | (rw [if_neg (by decide +kernel)]; exact ⟨rfl, rfl⟩))
    (fun os started H enc _ => lifted os started H enc)
theorem proved : Rows.SpliceResetsSaid := over
#print axioms proved
end Go.Proofs.Ytpcbhkigmnpimaa.spliceResets
namespace Go.Proofs.Ytpcbhkigmnpimaa
/-- The row, under a short name, for the claim. -/
theorem spliceResets_holds : Rows.SpliceResetsSaid := spliceResets.proved
end Go.Proofs.Ytpcbhkigmnpimaa
