/- The law LeaseServes: the statement of its row, by the pure statement and the walk; no condition beside the row's own. -/
import Derived.Test.YtmmaojclfggioaaRows
import Derived.Test.YtmmaojclfggioaaTAll
import Derived.Test.YtmmaojclfggioaaPureBitsP
import Derived.Test.YtmmaojclfggioaaPureLoop
import Derived.Test.YtmmaojclfggioaaPureLease
import Derived.Test.YtmmaojclfggioaaPureLeaseCheck
import Derived.Test.YtmmaojclfggioaaPureLeaseServe
import Derived.Test.YtmmaojclfggioaaPureLeaseSort
import Derived.Test.YtmmaojclfggioaaPureLeaseRow
import Derived.Test.YtmmaojclfggioaaPureLeaseAll
import Derived.Test.YtmmaojclfggioaaPureLeaseSame
import Derived.Test.YtmmaojclfggioaaPureLeaseDisc
import Derived.Test.YtmmaojclfggioaaPureLeaseRef
import Derived.Test.YtmmaojclfggioaaPureLeaseServes
import Derived.Test.YtmmaojclfggioaaSlZs
import Derived.WalkKit
import Derived.ProofKit
import Derived.OpenShut
import Derived.ShutString
import Derived.ChangeOld
import Derived.Below
import Derived.SizedLaws
namespace Go.Proofs.Ytmmaojclfggioaa.leaseServes
open Go.ChangeShapes Go.WideShapes Go.ChangeAt Go.RowKit Go.SL Go.Proofs.Ytmmaojclfggioaa.S
open Go.ChangeMaps (open_string shut_string)
set_option linter.unusedVariables false
theorem own : ownKnob Try.prog.godebug = none := by kernel_rfl
theorem laidOut : laidOutB Try.prog = true := by kernel_rfl
theorem oKLease : Opens Try.prog 42 KLease := Opens.struct [(22, 0), (25, 1), (3, 2)] (fun x : TLease => (x.Mac, x.Ip, x.Until)) (fun a => (⟨a.1, a.2.1, a.2.2⟩ : TLease)) (fun _ => rfl) Try.underlying42 (by kernel_rfl) (by kernel_rfl) (OpensAt.cons (Opens.slice Try.underlying22 (by kernel_rfl) (Opens.int Try.underlying5 (by kernel_rfl))) (OpensAt.cons (Opens.int Try.underlying25 (by kernel_rfl)) (OpensAt.one (Opens.int Try.underlying3 (by kernel_rfl))) (by first | rfl | kernel_rfl)) (by first | rfl | kernel_rfl))
theorem oKDhcp : Opens Try.prog 28 KDhcp := Opens.struct [(3, 0), (25, 1), (25, 2), (25, 3), (22, 4), (3, 5), (25, 6), (25, 7), (25, 8), (25, 9), (25, 10), (25, 11)] (fun x : TDhcp => (x.Op, x.Xid, x.Ci, x.Yi, x.Mac, x.Type_, x.Want, x.Server, x.Lease, x.Mask, x.Router, x.Dns)) (fun a => (⟨a.1, a.2.1, a.2.2.1, a.2.2.2.1, a.2.2.2.2.1, a.2.2.2.2.2.1, a.2.2.2.2.2.2.1, a.2.2.2.2.2.2.2.1, a.2.2.2.2.2.2.2.2.1, a.2.2.2.2.2.2.2.2.2.1, a.2.2.2.2.2.2.2.2.2.2.1, a.2.2.2.2.2.2.2.2.2.2.2⟩ : TDhcp)) (fun _ => rfl) Try.underlying28 (by kernel_rfl) (by kernel_rfl) (OpensAt.cons (Opens.int Try.underlying3 (by kernel_rfl)) (OpensAt.cons (Opens.int Try.underlying25 (by kernel_rfl)) (OpensAt.cons (Opens.int Try.underlying25 (by kernel_rfl)) (OpensAt.cons (Opens.int Try.underlying25 (by kernel_rfl)) (OpensAt.cons (Opens.slice Try.underlying22 (by kernel_rfl) (Opens.int Try.underlying5 (by kernel_rfl))) (OpensAt.cons (Opens.int Try.underlying3 (by kernel_rfl)) (OpensAt.cons (Opens.int Try.underlying25 (by kernel_rfl)) (OpensAt.cons (Opens.int Try.underlying25 (by kernel_rfl)) (OpensAt.cons (Opens.int Try.underlying25 (by kernel_rfl)) (OpensAt.cons (Opens.int Try.underlying25 (by kernel_rfl)) (OpensAt.cons (Opens.int Try.underlying25 (by kernel_rfl)) (OpensAt.one (Opens.int Try.underlying25 (by kernel_rfl))) (by first | rfl | kernel_rfl)) (by first | rfl | kernel_rfl)) (by first | rfl | kernel_rfl)) (by first | rfl | kernel_rfl)) (by first | rfl | kernel_rfl)) (by first | rfl | kernel_rfl)) (by first | rfl | kernel_rfl)) (by first | rfl | kernel_rfl)) (by first | rfl | kernel_rfl)) (by first | rfl | kernel_rfl)) (by first | rfl | kernel_rfl))
set_option maxRecDepth 100000 in
set_option maxHeartbeats 4000000 in
theorem lifted (os : Os) (started : os.Started) (H : Type) (enc : TypeId × Value → H) :
    ReturnsInHanded {} Try.checked os 4 .any (Rows.leaseServesSpec.pre6 enc Try.prog Try.f4 Rows.leaseServesRow.domain false) (Rows.leaseServesSpec.post enc Try.prog Try.f4 false true false false) := by
  refine returnsInHanded_of_change_sized (C := Try.checked) own started (by kernel_rfl) Try.func4
    (ChangeSpec.witness6 (enc := enc) (C := Try.checked) false ⟨#[], #[.slice none 0 0, .int .i64 0, .agg #[.int .i64 0, .int .u32 0, .int .u32 0, .int .u32 0, .slice none 0 0, .int .i64 0, .int .u32 0, .int .u32 0, .int .u32 0, .int .u32 0, .int .u32 0, .int .u32 0], .int .u32 0], []⟩ 8 (by kernel_rfl) (by kernel_rfl) (by kernel_rfl) (by kernel_rfl)) ?_
  intro W base args ds gs before hval0 hW hcnd hsz0 _
  have hval : ∀ (j : Nat) t v, Try.f4.params[j]? = some t → args[j]? = some v → Value.okWide Try.prog W .any base t v := hval0
  have hW' := hW
  obtain ⟨p, q, hA0, hV, rfl, hfz, hnd⟩ := hW
  have hA : DataW.TrodAll enc Try.prog W 0 (fun _ => true) true Try.f4.params.toList args.toList ds p := hA0
  rw [Try.params4] at hA hval
  obtain ⟨v0, vs0, d0, ds0, p0, q0, hargs, rfl, rfl, h0, r0⟩ := trodAll_cons hA
  obtain ⟨v1, vs1, d1, ds1, p1, q1, rfl, rfl, rfl, h1, r1⟩ := trodAll_cons r0
  obtain ⟨v2, vs2, d2, ds2, p2, q2, rfl, rfl, rfl, h2, r2⟩ := trodAll_cons r1
  obtain ⟨v3, vs3, d3, ds3, p3, q3, rfl, rfl, rfl, h3, r3⟩ := trodAll_cons r2
  obtain ⟨rfl, rfl, rfl⟩ := trodAll_nil r3
  obtain rfl : args = #[v0, v1, v2, v3] := by cases args; simp_all
  obtain ⟨rfl, rfl⟩ := trodVars_none hV
  have k0 := h0
  have lt0 : ∀ x ∈ p0, x.block < W.heap.size := by obtain ⟨m, hm⟩ := k0; exact DataW.trod_lt m _ _ _ hm
  obtain ⟨A0, len0, cap0, rfl⟩ := okWide_slice Try.underlying26 (hval 0 26 v0 rfl rfl)
  obtain ⟨x0, hK0⟩ := (Opens.slice Try.underlying26 (by kernel_rfl) oKLease).trod h0
  have g0 := (gd_sl (gd_iso (gd_pair (gd_sl gd_int) (gd_pair gd_int (gd_last gd_int))))) _ _ _ _ hK0
  obtain ⟨a1, rfl, rfl, rfl, w1⟩ := open_int Try.underlying3 (hval 1 3 v1 rfl rfl) h1
  have k2 := h2
  have lt2 : ∀ x ∈ p2, x.block < W.heap.size := by obtain ⟨m, hm⟩ := k2; exact DataW.trod_lt m _ _ _ hm
  obtain ⟨cs2, rfl, _⟩ := okWide_struct Try.underlying28 (hval 2 28 v2 rfl rfl)
  obtain ⟨x2, hK2⟩ := oKDhcp.trod h2
  have g2 := (gd_iso (gd_pair gd_int (gd_pair gd_int (gd_pair gd_int (gd_pair gd_int (gd_pair (gd_sl gd_int) (gd_pair gd_int (gd_pair gd_int (gd_pair gd_int (gd_pair gd_int (gd_pair gd_int (gd_pair gd_int (gd_last gd_int))))))))))))) _ _ _ _ hK2
  obtain ⟨a3, rfl, rfl, rfl, w3⟩ := open_int Try.underlying25 (hval 3 25 v3 rfl rfl) h3
  clear hA0 hval0 hsz0
  have hP := leaseServes x0 g0 a1 (inr_lit w1) x2 g2 a3 (inr_lit w3)
  refine ((law25_LeaseServes.spc _ x0 a1 (inr_lit w1) _ x2 a3 (inr_lit w3) true hP).calls W (own_cons (show (Val (Kd.sl KLease) _ x0).H (hp W) Frag.emp from ⟨_, hK0, rfl⟩) (own_cons (show (Val KDhcp _ x2).H (hp W) Frag.emp from ⟨_, hK2, by simp [pack, KDhcp, Kd.iso, Kd.pair, Kd.last, Value.cells]⟩) own_nil))).mono fun e W' ⟨_, he, bel0⟩ => ?_
  have bel : Below W.heap.size W W' := bel0
  subst he
  exact ⟨_, rfl, _, _, _, [], _, [], hW', trodAll_mk1 (shut_bool Try.underlying4 _), (trodAll_cons_mk (Below.trod laidOut (by kernel_rfl) (of_decide_eq_true (by kernel_rfl)) k0 bel lt0) (trodAll_cons_mk (shut_int Try.underlying3 w1) (trodAll_cons_mk (Below.trod laidOut (by kernel_rfl) (of_decide_eq_true (by kernel_rfl)) k2 bel lt2) (trodAll_cons_mk (shut_int Try.underlying25 w3) trodAll_mk0)))), rfl, bel.frame _, fun h => by cases h⟩
theorem over : Rows.leaseServesRow.holds Try.pinned (OpenSpec.ofChange Rows.leaseServesSpec) :=
  OpenClaim.holds_of_wide 4 Try.f4 rfl rfl rfl rfl rfl rfl rfl ⟨rfl, rfl, rfl, rfl, rfl⟩ rfl rfl rfl rfl rfl (by kernel_rfl) Try.func4 (by kernel_rfl)
    (of_decide_eq_true (by kernel_rfl)) (by unfold Func.isWrapper; first | (rw [if_pos (by decide +kernel)]; kernel_rfl) | (rw [if_neg (by decide +kernel)]; exact ⟨rfl, rfl⟩))
    (fun os started H enc _ => lifted os started H enc)
theorem proved : Rows.LeaseServesSaid := over
#print axioms proved
end Go.Proofs.Ytmmaojclfggioaa.leaseServes
namespace Go.Proofs.Ytmmaojclfggioaa
/-- The row, under a short name, for the claim. -/
theorem leaseServes_holds : Rows.LeaseServesSaid := leaseServes.proved
end Go.Proofs.Ytmmaojclfggioaa
