/- The law SpliceGives: the statement of its row, by the pure statement and the walk; no condition beside the row's own. -/
import Derived.Test.YtpcbhkigmnpimaaRows
import Derived.Test.YtpcbhkigmnpimaaTAll
import Derived.Test.YtpcbhkigmnpimaaPureBitsP
import Derived.Test.YtpcbhkigmnpimaaPureLoop
import Derived.Test.YtpcbhkigmnpimaaPureSum
import Derived.Test.YtpcbhkigmnpimaaPureSegPut
import Derived.Test.YtpcbhkigmnpimaaPureSplice
import Derived.Test.YtpcbhkigmnpimaaPureSpliceInv
import Derived.Test.YtpcbhkigmnpimaaPureSpliceHear
import Derived.Test.YtpcbhkigmnpimaaPureSplicePlay
import Derived.Test.YtpcbhkigmnpimaaPureSpliceGives
import Derived.Test.YtpcbhkigmnpimaaSlZ
import Derived.WalkKit
import Derived.ProofKit
import Derived.OpenShut
import Derived.ShutString
import Derived.ChangeOld
import Derived.Below
import Derived.SizedLaws
namespace Go.Proofs.Ytpcbhkigmnpimaa.spliceGives
open Go.ChangeShapes Go.WideShapes Go.ChangeAt Go.RowKit Go.SL Go.Proofs.Ytpcbhkigmnpimaa.S
open Go.ChangeMaps (open_string shut_string)
set_option linter.unusedVariables false
theorem own : ownKnob Try.prog.godebug = none := by kernel_rfl
theorem laidOut : laidOutB Try.prog = true := by kernel_rfl
theorem oKSeg : Opens Try.prog 30 KSeg := Opens.struct [(3, 0), (3, 1), (22, 2), (22, 3), (3, 4), (3, 5), (3, 6), (23, 7)] (fun x : TSeg => (x.Src, x.Dst, x.Seq, x.Ack, x.Flags, x.Win, x.Mss, x.Data)) (fun a => (⟨a.1, a.2.1, a.2.2.1, a.2.2.2.1, a.2.2.2.2.1, a.2.2.2.2.2.1, a.2.2.2.2.2.2.1, a.2.2.2.2.2.2.2⟩ : TSeg)) (fun _ => rfl) Try.underlying30 (by kernel_rfl) (by kernel_rfl) (OpensAt.cons (Opens.int Try.underlying3 (by kernel_rfl)) (OpensAt.cons (Opens.int Try.underlying3 (by kernel_rfl)) (OpensAt.cons (Opens.int Try.underlying22 (by kernel_rfl)) (OpensAt.cons (Opens.int Try.underlying22 (by kernel_rfl)) (OpensAt.cons (Opens.int Try.underlying3 (by kernel_rfl)) (OpensAt.cons (Opens.int Try.underlying3 (by kernel_rfl)) (OpensAt.cons (Opens.int Try.underlying3 (by kernel_rfl)) (OpensAt.one (Opens.slice Try.underlying23 (by kernel_rfl) (Opens.int Try.underlying5 (by kernel_rfl)))) (by first | rfl | kernel_rfl)) (by first | rfl | kernel_rfl)) (by first | rfl | kernel_rfl)) (by first | rfl | kernel_rfl)) (by first | rfl | kernel_rfl)) (by first | rfl | kernel_rfl)) (by first | rfl | kernel_rfl))
theorem oKTell : Opens Try.prog 44 KTell := Opens.struct [(3, 0), (3, 1), (23, 2), (3, 3)] (fun x : TTell => (x.Kind, x.Id, x.Data, x.N)) (fun a => (⟨a.1, a.2.1, a.2.2.1, a.2.2.2⟩ : TTell)) (fun _ => rfl) Try.underlying44 (by kernel_rfl) (by kernel_rfl) (OpensAt.cons (Opens.int Try.underlying3 (by kernel_rfl)) (OpensAt.cons (Opens.int Try.underlying3 (by kernel_rfl)) (OpensAt.cons (Opens.slice Try.underlying23 (by kernel_rfl) (Opens.int Try.underlying5 (by kernel_rfl))) (OpensAt.one (Opens.int Try.underlying3 (by kernel_rfl))) (by first | rfl | kernel_rfl)) (by first | rfl | kernel_rfl)) (by first | rfl | kernel_rfl))
theorem oKEv : Opens Try.prog 46 KEv := Opens.struct [(3, 0), (30, 1), (44, 9), (3, 13)] (fun x : TEv => (x.Kind, x.Seg, x.Tell, x.N)) (fun a => (⟨a.1, a.2.1, a.2.2.1, a.2.2.2⟩ : TEv)) (fun _ => rfl) Try.underlying46 (by kernel_rfl) (by kernel_rfl) (OpensAt.cons (Opens.int Try.underlying3 (by kernel_rfl)) (OpensAt.cons oKSeg (OpensAt.cons oKTell (OpensAt.one (Opens.int Try.underlying3 (by kernel_rfl))) (by first | rfl | kernel_rfl)) (by first | rfl | kernel_rfl)) (by first | rfl | kernel_rfl))
set_option maxRecDepth 100000 in
set_option maxHeartbeats 4000000 in
theorem lifted (os : Os) (started : os.Started) (H : Type) (enc : TypeId × Value → H) :
    ReturnsInHanded {} Try.checked os 6 .any (Rows.spliceGivesSpec.pre6 enc Try.prog Try.f6 Rows.spliceGivesRow.domain false) (Rows.spliceGivesSpec.post enc Try.prog Try.f6 false true false false) := by
  refine returnsInHanded_of_change_sized (C := Try.checked) own started (by kernel_rfl) Try.func6
    (ChangeSpec.witness6 (enc := enc) (C := Try.checked) false ⟨#[], #[.agg #[.int .i64 0, .int .i64 0, .int .u32 0, .int .u32 0, .int .i64 0, .int .i64 0, .int .i64 0, .slice none 0 0], .int .u32 0, .int .u32 0, .slice none 0 0], []⟩ 8 (by kernel_rfl) (by kernel_rfl) (by kernel_rfl) (by kernel_rfl)) ?_
  intro W base args ds gs before hval0 hW hcnd hsz0 _
  have hval : ∀ (j : Nat) t v, Try.f6.params[j]? = some t → args[j]? = some v → Value.okWide Try.prog W .any base t v := hval0
  have hW' := hW
  obtain ⟨p, q, hA0, hV, rfl, hfz, hnd⟩ := hW
  have hA : DataW.TrodAll enc Try.prog W 0 (fun _ => true) true Try.f6.params.toList args.toList ds p := hA0
  rw [Try.params6] at hA hval
  obtain ⟨v0, vs0, d0, ds0, p0, q0, hargs, rfl, rfl, h0, r0⟩ := trodAll_cons hA
  obtain ⟨v1, vs1, d1, ds1, p1, q1, rfl, rfl, rfl, h1, r1⟩ := trodAll_cons r0
  obtain ⟨v2, vs2, d2, ds2, p2, q2, rfl, rfl, rfl, h2, r2⟩ := trodAll_cons r1
  obtain ⟨v3, vs3, d3, ds3, p3, q3, rfl, rfl, rfl, h3, r3⟩ := trodAll_cons r2
  obtain ⟨rfl, rfl, rfl⟩ := trodAll_nil r3
  obtain rfl : args = #[v0, v1, v2, v3] := by cases args; simp_all
  obtain ⟨rfl, rfl⟩ := trodVars_none hV
  have k0 := h0
  have lt0 : ∀ x ∈ p0, x.block < W.heap.size := by obtain ⟨m, hm⟩ := k0; exact DataW.trod_lt m _ _ _ hm
  obtain ⟨cs0, rfl, _⟩ := okWide_struct Try.underlying30 (hval 0 30 v0 rfl rfl)
  obtain ⟨x0, hK0⟩ := oKSeg.trod h0
  have g0 := (gd_iso (gd_pair gd_int (gd_pair gd_int (gd_pair gd_int (gd_pair gd_int (gd_pair gd_int (gd_pair gd_int (gd_pair gd_int (gd_last (gd_sl gd_int)))))))))) _ _ _ _ hK0
  obtain ⟨a1, rfl, rfl, rfl, w1⟩ := open_int Try.underlying22 (hval 1 22 v1 rfl rfl) h1
  obtain ⟨a2, rfl, rfl, rfl, w2⟩ := open_int Try.underlying22 (hval 2 22 v2 rfl rfl) h2
  have k3 := h3
  have lt3 : ∀ x ∈ p3, x.block < W.heap.size := by obtain ⟨m, hm⟩ := k3; exact DataW.trod_lt m _ _ _ hm
  obtain ⟨A3, len3, cap3, rfl⟩ := okWide_slice Try.underlying50 (hval 3 50 v3 rfl rfl)
  obtain ⟨x3, hK3⟩ := (Opens.slice Try.underlying50 (by kernel_rfl) oKEv).trod h3
  have g3 := (gd_sl (gd_iso (gd_pair gd_int (gd_pair (gd_iso (gd_pair gd_int (gd_pair gd_int (gd_pair gd_int (gd_pair gd_int (gd_pair gd_int (gd_pair gd_int (gd_pair gd_int (gd_last (gd_sl gd_int)))))))))) (gd_pair (gd_iso (gd_pair gd_int (gd_pair gd_int (gd_pair (gd_sl gd_int) (gd_last gd_int))))) (gd_last gd_int)))))) _ _ _ _ hK3
  clear hA0 hval0 hsz0
  have hP := spliceGives x0 g0 a1 (inr_lit w1) a2 (inr_lit w2) x3 g3
  refine ((law28_SpliceGives.spc _ x0 a1 (inr_lit w1) a2 (inr_lit w2) _ x3 true hP).calls W (own_cons (show (Val KSeg _ x0).H (hp W) Frag.emp from ⟨_, hK0, by simp [pack, KSeg, Kd.iso, Kd.pair, Kd.last, Value.cells]⟩) (own_cons (show (Val (Kd.sl KEv) _ x3).H (hp W) Frag.emp from ⟨_, hK3, rfl⟩) own_nil))).mono fun e W' ⟨_, he, bel0⟩ => ?_
  have bel : Below W.heap.size W W' := bel0
  subst he
  exact ⟨_, rfl, _, _, _, [], _, [], hW', trodAll_mk1 (shut_bool Try.underlying4 _), (trodAll_cons_mk (Below.trod laidOut (by kernel_rfl) (of_decide_eq_true (by kernel_rfl)) k0 bel lt0) (trodAll_cons_mk (shut_int Try.underlying22 w1) (trodAll_cons_mk (shut_int Try.underlying22 w2) (trodAll_cons_mk (Below.trod laidOut (by kernel_rfl) (of_decide_eq_true (by kernel_rfl)) k3 bel lt3) trodAll_mk0)))), rfl, bel.frame _, fun h => by cases h⟩
theorem over : Rows.spliceGivesRow.holds Try.pinned (OpenSpec.ofChange Rows.spliceGivesSpec) :=
  OpenClaim.holds_of_wide 6 Try.f6 rfl rfl rfl rfl rfl rfl rfl ⟨rfl, rfl, rfl, rfl, rfl⟩ rfl rfl rfl rfl rfl (by kernel_rfl) Try.func6 (by kernel_rfl)
    (of_decide_eq_true (by kernel_rfl)) (by unfold Func.isWrapper; first | (rw [if_pos (by decide +kernel)]; kernel_rfl) | (rw [if_neg (by decide +kernel)]; exact ⟨rfl, rfl⟩))
    (fun os started H enc _ => lifted os started H enc)
theorem proved : Rows.SpliceGivesSaid := over
#print axioms proved
end Go.Proofs.Ytpcbhkigmnpimaa.spliceGives
namespace Go.Proofs.Ytpcbhkigmnpimaa
/-- The row, under a short name, for the claim. -/
theorem spliceGives_holds : Rows.SpliceGivesSaid := spliceGives.proved
end Go.Proofs.Ytpcbhkigmnpimaa
