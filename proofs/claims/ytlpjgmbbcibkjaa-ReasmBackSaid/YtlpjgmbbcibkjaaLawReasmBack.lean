/- The law ReasmBack: the statement of its row, by the pure statement and the walk; no condition beside the row's own. -/
import Derived.Test.YtlpjgmbbcibkjaaRows
import Derived.Test.YtlpjgmbbcibkjaaTAll
import Derived.Test.YtlpjgmbbcibkjaaPureBitsP
import Derived.Test.YtlpjgmbbcibkjaaPureLoop
import Derived.Test.YtlpjgmbbcibkjaaPureSum
import Derived.Test.YtlpjgmbbcibkjaaPureReasm
import Derived.Test.YtlpjgmbbcibkjaaPureIpPut
import Derived.Test.YtlpjgmbbcibkjaaPureReasmStays
import Derived.Test.YtlpjgmbbcibkjaaPureReasmBack
import Derived.Test.YtlpjgmbbcibkjaaSlV
import Derived.WalkKit
import Derived.ProofKit
import Derived.OpenShut
import Derived.ShutString
import Derived.ChangeOld
import Derived.Below
import Derived.SizedLaws
namespace Go.Proofs.Ytlpjgmbbcibkjaa.reasmBack
open Go.ChangeShapes Go.WideShapes Go.ChangeAt Go.RowKit Go.SL Go.Proofs.Ytlpjgmbbcibkjaa.S
open Go.ChangeMaps (open_string shut_string)
set_option linter.unusedVariables false
theorem own : ownKnob Try.prog.godebug = none := by kernel_rfl
theorem laidOut : laidOutB Try.prog = true := by kernel_rfl
theorem oKIp : Opens Try.prog 27 KIp := Opens.struct [(3, 0), (3, 1), (3, 2), (3, 3), (3, 4), (3, 5), (24, 6), (24, 7), (25, 8), (25, 9)] (fun x : TIp => (x.Tos, x.Id, x.Flags, x.Off, x.Ttl, x.Proto, x.Src, x.Dst, x.Options, x.Data)) (fun a => (⟨a.1, a.2.1, a.2.2.1, a.2.2.2.1, a.2.2.2.2.1, a.2.2.2.2.2.1, a.2.2.2.2.2.2.1, a.2.2.2.2.2.2.2.1, a.2.2.2.2.2.2.2.2.1, a.2.2.2.2.2.2.2.2.2⟩ : TIp)) (fun _ => rfl) Try.underlying27 (by kernel_rfl) (by kernel_rfl) (OpensAt.cons (Opens.int Try.underlying3 (by kernel_rfl)) (OpensAt.cons (Opens.int Try.underlying3 (by kernel_rfl)) (OpensAt.cons (Opens.int Try.underlying3 (by kernel_rfl)) (OpensAt.cons (Opens.int Try.underlying3 (by kernel_rfl)) (OpensAt.cons (Opens.int Try.underlying3 (by kernel_rfl)) (OpensAt.cons (Opens.int Try.underlying3 (by kernel_rfl)) (OpensAt.cons (Opens.int Try.underlying24 (by kernel_rfl)) (OpensAt.cons (Opens.int Try.underlying24 (by kernel_rfl)) (OpensAt.cons (Opens.slice Try.underlying25 (by kernel_rfl) (Opens.int Try.underlying5 (by kernel_rfl))) (OpensAt.one (Opens.slice Try.underlying25 (by kernel_rfl) (Opens.int Try.underlying5 (by kernel_rfl)))) (by first | rfl | kernel_rfl)) (by first | rfl | kernel_rfl)) (by first | rfl | kernel_rfl)) (by first | rfl | kernel_rfl)) (by first | rfl | kernel_rfl)) (by first | rfl | kernel_rfl)) (by first | rfl | kernel_rfl)) (by first | rfl | kernel_rfl)) (by first | rfl | kernel_rfl))
set_option maxRecDepth 100000 in
set_option maxHeartbeats 4000000 in
theorem lifted (os : Os) (started : os.Started) (H : Type) (enc : TypeId × Value → H) :
    ReturnsInHanded {} Try.checked os 4 .any (Rows.reasmBackSpec.pre6 enc Try.prog Try.f4 Rows.reasmBackRow.domain false) (Rows.reasmBackSpec.post enc Try.prog Try.f4 false true false false) := by
  refine returnsInHanded_of_change_sized (C := Try.checked) own started (by kernel_rfl) Try.func4
    (ChangeSpec.witness6 (enc := enc) (C := Try.checked) false ⟨#[], #[.agg #[.int .i64 0, .int .i64 0, .int .i64 0, .int .i64 0, .int .i64 0, .int .i64 0, .int .u32 0, .int .u32 0, .slice none 0 0, .slice none 0 0], .int .i64 0, .slice none 0 0], []⟩ 8 (by kernel_rfl) (by kernel_rfl) (by kernel_rfl) (by kernel_rfl)) ?_
  intro W base args ds gs before hval0 hW hcnd hsz0 _
  have hval : ∀ (j : Nat) t v, Try.f4.params[j]? = some t → args[j]? = some v → Value.okWide Try.prog W .any base t v := hval0
  have hW' := hW
  obtain ⟨p, q, hA0, hV, rfl, hfz, hnd⟩ := hW
  have hA : DataW.TrodAll enc Try.prog W 0 (fun _ => true) true Try.f4.params.toList args.toList ds p := hA0
  rw [Try.params4] at hA hval
  obtain ⟨v0, vs0, d0, ds0, p0, q0, hargs, rfl, rfl, h0, r0⟩ := trodAll_cons hA
  obtain ⟨v1, vs1, d1, ds1, p1, q1, rfl, rfl, rfl, h1, r1⟩ := trodAll_cons r0
  obtain ⟨v2, vs2, d2, ds2, p2, q2, rfl, rfl, rfl, h2, r2⟩ := trodAll_cons r1
  obtain ⟨rfl, rfl, rfl⟩ := trodAll_nil r2
  obtain rfl : args = #[v0, v1, v2] := by cases args; simp_all
  obtain ⟨rfl, rfl⟩ := trodVars_none hV
  have k0 := h0
  have lt0 : ∀ x ∈ p0, x.block < W.heap.size := by obtain ⟨m, hm⟩ := k0; exact DataW.trod_lt m _ _ _ hm
  obtain ⟨cs0, rfl, _⟩ := okWide_struct Try.underlying27 (hval 0 27 v0 rfl rfl)
  obtain ⟨x0, hK0⟩ := oKIp.trod h0
  have g0 := (gd_iso (gd_pair gd_int (gd_pair gd_int (gd_pair gd_int (gd_pair gd_int (gd_pair gd_int (gd_pair gd_int (gd_pair gd_int (gd_pair gd_int (gd_pair (gd_sl gd_int) (gd_last (gd_sl gd_int)))))))))))) _ _ _ _ hK0
  obtain ⟨a1, rfl, rfl, rfl, w1⟩ := open_int Try.underlying3 (hval 1 3 v1 rfl rfl) h1
  have k2 := h2
  have lt2 : ∀ x ∈ p2, x.block < W.heap.size := by obtain ⟨m, hm⟩ := k2; exact DataW.trod_lt m _ _ _ hm
  obtain ⟨A2, len2, cap2, rfl⟩ := okWide_slice Try.underlying34 (hval 2 34 v2 rfl rfl)
  obtain ⟨x2, hK2⟩ := (Opens.slice Try.underlying34 (by kernel_rfl) (Opens.int Try.underlying3 (by kernel_rfl))).trod h2
  have g2 := (gd_sl gd_int) _ _ _ _ hK2
  clear hA0 hval0 hsz0
  have hP := reasmBack x0 g0 a1 (inr_lit w1) x2 g2
  refine ((law24_ReasmBack.spc _ x0 a1 (inr_lit w1) _ x2 true hP).calls W (own_cons (show (Val KIp _ x0).H (hp W) Frag.emp from ⟨_, hK0, by simp [pack, KIp, Kd.iso, Kd.pair, Kd.last, Value.cells]⟩) (own_cons (show (Val (Kd.sl (Kd.int .i64)) _ x2).H (hp W) Frag.emp from ⟨_, hK2, rfl⟩) own_nil))).mono fun e W' ⟨_, he, bel0⟩ => ?_
  have bel : Below W.heap.size W W' := bel0
  subst he
  exact ⟨_, rfl, _, _, _, [], _, [], hW', trodAll_mk1 (shut_bool Try.underlying4 _), (trodAll_cons_mk (Below.trod laidOut (by kernel_rfl) (of_decide_eq_true (by kernel_rfl)) k0 bel lt0) (trodAll_cons_mk (shut_int Try.underlying3 w1) (trodAll_cons_mk (Below.trod laidOut (by kernel_rfl) (of_decide_eq_true (by kernel_rfl)) k2 bel lt2) trodAll_mk0))), rfl, bel.frame _, fun h => by cases h⟩
theorem over : Rows.reasmBackRow.holds Try.pinned (OpenSpec.ofChange Rows.reasmBackSpec) :=
  OpenClaim.holds_of_wide 4 Try.f4 rfl rfl rfl rfl rfl rfl rfl ⟨rfl, rfl, rfl, rfl, rfl⟩ rfl rfl rfl rfl rfl (by kernel_rfl) Try.func4 (by kernel_rfl)
    (of_decide_eq_true (by kernel_rfl)) (by unfold Func.isWrapper; first | (rw [if_pos (by decide +kernel)]; kernel_rfl) | (rw [if_neg (by decide +kernel)]; exact ⟨rfl, rfl⟩))
    (fun os started H enc _ => lifted os started H enc)
theorem proved : Rows.ReasmBackSaid := over
#print axioms proved
end Go.Proofs.Ytlpjgmbbcibkjaa.reasmBack
namespace Go.Proofs.Ytlpjgmbbcibkjaa
/-- The row, under a short name, for the claim. -/
theorem reasmBack_holds : Rows.ReasmBackSaid := reasmBack.proved
end Go.Proofs.Ytlpjgmbbcibkjaa
