/- The law EtherAnswers: the statement of its row, by the pure statement and the walk; no condition beside the row's own. -/
import Derived.Test.YtplkiompmjhdlaaRows
import Derived.Test.YtplkiompmjhdlaaTAll
import Derived.Test.YtplkiompmjhdlaaPureBits
import Derived.Test.YtplkiompmjhdlaaPureByt
import Derived.Test.YtplkiompmjhdlaaPureRefB
import Derived.Test.YtplkiompmjhdlaaPureNetB
import Derived.Test.YtplkiompmjhdlaaPureEther
import Derived.Test.YtplkiompmjhdlaaPureArp
import Derived.Test.YtplkiompmjhdlaaPureEtherAnswers
import Derived.Test.YtplkiompmjhdlaaSlV
import Derived.WalkKit
import Derived.ProofKit
import Derived.OpenShut
import Derived.ShutString
import Derived.ChangeOld
import Derived.Below
import Derived.SizedLaws
namespace Go.Proofs.Ytplkiompmjhdlaa.etherAnswers
open Go.ChangeShapes Go.WideShapes Go.ChangeAt Go.RowKit Go.SL Go.Proofs.Ytplkiompmjhdlaa.S
open Go.ChangeMaps (open_string shut_string)
set_option linter.unusedVariables false
theorem own : ownKnob Try.prog.godebug = none := by kernel_rfl
theorem laidOut : laidOutB Try.prog = true := by kernel_rfl
theorem oKArp : Opens Try.prog 34 KArp := Opens.struct [(3, 0), (22, 1), (32, 2), (22, 3), (32, 4)] (fun x : TArp => (x.Op, x.Smac, x.Sip, x.Tmac, x.Tip)) (fun a => (⟨a.1, a.2.1, a.2.2.1, a.2.2.2.1, a.2.2.2.2⟩ : TArp)) (fun _ => rfl) Try.underlying34 (by kernel_rfl) (by kernel_rfl) (OpensAt.cons (Opens.int Try.underlying3 (by kernel_rfl)) (OpensAt.cons (Opens.slice Try.underlying22 (by kernel_rfl) (Opens.int Try.underlying5 (by kernel_rfl))) (OpensAt.cons (Opens.int Try.underlying32 (by kernel_rfl)) (OpensAt.cons (Opens.slice Try.underlying22 (by kernel_rfl) (Opens.int Try.underlying5 (by kernel_rfl))) (OpensAt.one (Opens.int Try.underlying32 (by kernel_rfl))) (by first | rfl | kernel_rfl)) (by first | rfl | kernel_rfl)) (by first | rfl | kernel_rfl)) (by first | rfl | kernel_rfl))
set_option maxRecDepth 100000 in
set_option maxHeartbeats 4000000 in
theorem lifted (os : Os) (started : os.Started) (H : Type) (enc : TypeId × Value → H) :
    ReturnsInHanded {} Try.checked os 7 .any (Rows.etherAnswersSpec.pre6 enc Try.prog Try.f7 Rows.etherAnswersRow.domain false) (Rows.etherAnswersSpec.post enc Try.prog Try.f7 false true false false) := by
  refine returnsInHanded_of_change_sized (C := Try.checked) own started (by kernel_rfl) Try.func7
    (ChangeSpec.witness6 (enc := enc) (C := Try.checked) false ⟨#[], #[.agg #[.int .i64 0, .slice none 0 0, .int .u32 0, .slice none 0 0, .int .u32 0], .slice none 0 0, .int .u32 0], []⟩ 8 (by kernel_rfl) (by kernel_rfl) (by kernel_rfl) (by kernel_rfl)) ?_
  intro W base args ds gs before hval0 hW hcnd hsz0 _
  have hval : ∀ (j : Nat) t v, Try.f7.params[j]? = some t → args[j]? = some v → Value.okWide Try.prog W .any base t v := hval0
  have hW' := hW
  obtain ⟨p, q, hA0, hV, rfl, hfz, hnd⟩ := hW
  have hA : DataW.TrodAll enc Try.prog W 0 (fun _ => true) true Try.f7.params.toList args.toList ds p := hA0
  rw [Try.params7] at hA hval
  obtain ⟨v0, vs0, d0, ds0, p0, q0, hargs, rfl, rfl, h0, r0⟩ := trodAll_cons hA
  obtain ⟨v1, vs1, d1, ds1, p1, q1, rfl, rfl, rfl, h1, r1⟩ := trodAll_cons r0
  obtain ⟨v2, vs2, d2, ds2, p2, q2, rfl, rfl, rfl, h2, r2⟩ := trodAll_cons r1
  obtain ⟨rfl, rfl, rfl⟩ := trodAll_nil r2
  obtain rfl : args = #[v0, v1, v2] := by cases args; simp_all
  obtain ⟨rfl, rfl⟩ := trodVars_none hV
  have k0 := h0
  have lt0 : ∀ x ∈ p0, x.block < W.heap.size := by obtain ⟨m, hm⟩ := k0; exact DataW.trod_lt m _ _ _ hm
  obtain ⟨cs0, rfl, _⟩ := okWide_struct Try.underlying34 (hval 0 34 v0 rfl rfl)
  obtain ⟨x0, hK0⟩ := oKArp.trod h0
  have g0 := (gd_iso (gd_pair gd_int (gd_pair (gd_sl gd_int) (gd_pair gd_int (gd_pair (gd_sl gd_int) (gd_last gd_int)))))) _ _ _ _ hK0
  have gw0 := (Wt.struct [(3, 0), (22, 1), (32, 2), (22, 3), (32, 4)] (fun x : TArp => (x.Op, x.Smac, x.Sip, x.Tmac, x.Tip)) Try.underlying34 (by kernel_rfl) (WtAt.cons (Opens.int Try.underlying3 (by kernel_rfl)).1 Wt.any (WtAt.cons (Opens.slice Try.underlying22 (by kernel_rfl) (Opens.int Try.underlying5 (by kernel_rfl))).1 (Wt.bytes (K := (Kd.int .u8)) Try.underlying22 (by kernel_rfl)) (WtAt.cons (Opens.int Try.underlying32 (by kernel_rfl)).1 Wt.any (WtAt.cons (Opens.slice Try.underlying22 (by kernel_rfl) (Opens.int Try.underlying5 (by kernel_rfl))).1 (Wt.bytes (K := (Kd.int .u8)) Try.underlying22 (by kernel_rfl)) (WtAt.one (Opens.int Try.underlying32 (by kernel_rfl)).1 Wt.any) (by first | rfl | kernel_rfl)) (by first | rfl | kernel_rfl)) (by first | rfl | kernel_rfl)) (by first | rfl | kernel_rfl))).trod h0 hsz0 0 (by kernel_rfl) rfl hK0
  have k1 := h1
  have lt1 : ∀ x ∈ p1, x.block < W.heap.size := by obtain ⟨m, hm⟩ := k1; exact DataW.trod_lt m _ _ _ hm
  obtain ⟨A1, len1, cap1, rfl⟩ := okWide_slice Try.underlying22 (hval 1 22 v1 rfl rfl)
  obtain ⟨x1, hK1⟩ := (Opens.slice Try.underlying22 (by kernel_rfl) (Opens.int Try.underlying5 (by kernel_rfl))).trod h1
  have g1 := (gd_sl gd_int) _ _ _ _ hK1
  obtain ⟨a2, rfl, rfl, rfl, w2⟩ := open_int Try.underlying32 (hval 2 32 v2 rfl rfl) h2
  clear hA0 hval0 hsz0
  have hP := etherAnswers x0 g0 gw0 x1 g1 a2 (inr_lit w2)
  refine ((law16_EtherAnswers.spc _ x0 _ x1 a2 (inr_lit w2) true hP).calls W (own_cons (show (Val KArp _ x0).H (hp W) Frag.emp from ⟨_, hK0, by simp [pack, KArp, Kd.iso, Kd.pair, Kd.last, Value.cells]⟩) (own_cons (show (Val (Kd.sl (Kd.int .u8)) _ x1).H (hp W) Frag.emp from ⟨_, hK1, rfl⟩) own_nil))).mono fun e W' ⟨_, he, bel0⟩ => ?_
  have bel : Below W.heap.size W W' := bel0
  subst he
  exact ⟨_, rfl, _, _, _, [], _, [], hW', trodAll_mk1 (shut_bool Try.underlying4 _), (trodAll_cons_mk (Below.trod laidOut (by kernel_rfl) (of_decide_eq_true (by kernel_rfl)) k0 bel lt0) (trodAll_cons_mk (Below.trod laidOut (by kernel_rfl) (of_decide_eq_true (by kernel_rfl)) k1 bel lt1) (trodAll_cons_mk (shut_int Try.underlying32 w2) trodAll_mk0))), rfl, bel.frame _, fun h => by cases h⟩
theorem over : Rows.etherAnswersRow.holds Try.pinned (OpenSpec.ofChange Rows.etherAnswersSpec) :=
  OpenClaim.holds_of_wide 7 Try.f7 rfl rfl rfl rfl rfl rfl rfl ⟨rfl, rfl, rfl, rfl, rfl⟩ rfl rfl rfl rfl rfl (by kernel_rfl) Try.func7 (by kernel_rfl)
    (of_decide_eq_true (by kernel_rfl)) (by unfold Func.isWrapper; first | (rw [if_pos (by decide +kernel)]; kernel_rfl) | (rw [if_neg (by decide +kernel)]; exact ⟨rfl, rfl⟩))
    (fun os started H enc _ => lifted os started H enc)
theorem proved : Rows.EtherAnswersSaid := over
#print axioms proved
end Go.Proofs.Ytplkiompmjhdlaa.etherAnswers
namespace Go.Proofs.Ytplkiompmjhdlaa
/-- The row, under a short name, for the claim. -/
theorem etherAnswers_holds : Rows.EtherAnswersSaid := etherAnswers.proved
end Go.Proofs.Ytplkiompmjhdlaa
