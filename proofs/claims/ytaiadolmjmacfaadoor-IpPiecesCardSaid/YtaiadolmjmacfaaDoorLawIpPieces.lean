/- The law IpPieces: the statement of its row, by the pure statement and the walk; no condition beside the row's own. -/
import Derived.Test.YtaiadolmjmacfaaDoorRows
import Derived.Test.YtaiadolmjmacfaaDoorTAll
import Derived.Test.YtaiadolmjmacfaaDoorPureBits
import Derived.Test.YtaiadolmjmacfaaDoorPureCheck
import Derived.Test.YtaiadolmjmacfaaDoorPureRef
import Derived.Test.YtaiadolmjmacfaaDoorPureNet
import Derived.Test.YtaiadolmjmacfaaDoorPureIpA
import Derived.Test.YtaiadolmjmacfaaDoorPureIpB
import Derived.Test.YtaiadolmjmacfaaDoorPureIpGet
import Derived.Test.YtaiadolmjmacfaaDoorPureIpPieces
import Derived.Test.YtaiadolmjmacfaaDoorSlV
import Derived.WalkKit
import Derived.ProofKit
import Derived.OpenShut
import Derived.ShutString
import Derived.ChangeOld
import Derived.Below
import Derived.SizedLaws
import Derived.ChangeSame
import Derived.ChangeVars
import Derived.JoinedOf
import Derived.RowKit
import Derived.RowKitTokens
import Derived.LaidLaws
import Derived.LaidHandle
import Derived.Stop.Joined
import Derived.Handed
import Derived.SevenTiedAt
import Derived.Test.YtaiadolmjmacfaaDoorTie
import Derived.Test.YtaiadolmjmacfaaDoorCards
namespace Go.Proofs.YtaiadolmjmacfaaDoor.ipPieces
open Go.ChangeShapes Go.WideShapes Go.ChangeAt Go.RowKit Go.SL Go.Proofs.YtaiadolmjmacfaaDoor.S
open Go.ChangeMaps (open_string shut_string)
set_option linter.unusedVariables false
theorem own : ownKnob Tryd.prog.godebug = none := by kernel_rfl
theorem laidOut : laidOutB Tryd.prog = true := by kernel_rfl
theorem oKIp : Opens Tryd.prog 25 KIp := Opens.struct [(3, 0), (3, 1), (3, 2), (3, 3), (3, 4), (3, 5), (22, 6), (22, 7), (23, 8), (23, 9)] (fun x : TIp => (x.Tos, x.Id, x.Flags, x.Off, x.Ttl, x.Proto, x.Src, x.Dst, x.Options, x.Data)) (fun a => (⟨a.1, a.2.1, a.2.2.1, a.2.2.2.1, a.2.2.2.2.1, a.2.2.2.2.2.1, a.2.2.2.2.2.2.1, a.2.2.2.2.2.2.2.1, a.2.2.2.2.2.2.2.2.1, a.2.2.2.2.2.2.2.2.2⟩ : TIp)) (fun _ => rfl) Tryd.underlying25 (by kernel_rfl) (by kernel_rfl) (OpensAt.cons (Opens.int Tryd.underlying3 (by kernel_rfl)) (OpensAt.cons (Opens.int Tryd.underlying3 (by kernel_rfl)) (OpensAt.cons (Opens.int Tryd.underlying3 (by kernel_rfl)) (OpensAt.cons (Opens.int Tryd.underlying3 (by kernel_rfl)) (OpensAt.cons (Opens.int Tryd.underlying3 (by kernel_rfl)) (OpensAt.cons (Opens.int Tryd.underlying3 (by kernel_rfl)) (OpensAt.cons (Opens.int Tryd.underlying22 (by kernel_rfl)) (OpensAt.cons (Opens.int Tryd.underlying22 (by kernel_rfl)) (OpensAt.cons (Opens.slice Tryd.underlying23 (by kernel_rfl) (Opens.int Tryd.underlying5 (by kernel_rfl))) (OpensAt.one (Opens.slice Tryd.underlying23 (by kernel_rfl) (Opens.int Tryd.underlying5 (by kernel_rfl)))) (by first | rfl | kernel_rfl)) (by first | rfl | kernel_rfl)) (by first | rfl | kernel_rfl)) (by first | rfl | kernel_rfl)) (by first | rfl | kernel_rfl)) (by first | rfl | kernel_rfl)) (by first | rfl | kernel_rfl)) (by first | rfl | kernel_rfl)) (by first | rfl | kernel_rfl))
theorem et : Tryd.prog.globalNamed "errors.errorType" = some 0 := by kernel_rfl
theorem rt : (Tryd.prog.cutTypes.find? (·.1 == "internal/reflectlite.rtype")).map (·.2) = some 94 := by kernel_rfl
theorem oneRow : ((List.range 136).filter fun t => Tryd.prog.rowNamed t [101, 114, 114, 111, 114]) = [56] := by kernel_rfl
theorem size : Tryd.prog.types.size = 136 := by kernel_rfl
theorem handle_of_laid {W : World} (h : laidMetH Tryd.prog Rows.ipPiecesRow.laid W) : W.cell? ⟨0, 0, none⟩ = some gv0 := by
  have h' : laidMet Tryd.prog [] W ∧ handlesMet Tryd.prog Rows.ipPiecesRow.laid W := h
  obtain ⟨name, u, ty, e1, e2, e3, e4, e5⟩ := h'.2 _ (List.mem_singleton.2 rfl)
  have en : name = [101, 114, 114, 111, 114] := (Option.some.inj e1).symm
  subst en
  obtain rfl := Option.some.inj (rt.symm.trans e2)
  have hm : ty ∈ (List.range 136).filter fun t => Tryd.prog.rowNamed t [101, 114, 114, 111, 114] := List.mem_filter.2 ⟨List.mem_range.2 (by rw [← size]; exact e3), e4⟩
  rw [oneRow] at hm
  obtain rfl := List.mem_singleton.1 hm
  have hh : typeHandle Tryd.prog 56 = .pointer (some ⟨1, 56, none⟩) := by kernel_rfl
  rw [hh] at e5
  simpa [gv0] using World.var?_cell et e5 0
noncomputable def laidWorld (os : Os) : World :=
  let w0 := World.holding Tryd.prog os ⟨#[], #[], []⟩
  { w0 with heap := w0.heap.modify 0 fun
      | .cells _ t frozen => .cells #[.iface 94 (.agg #[.pointer (some ⟨1, 56, none⟩)])] t frozen
      | o => o }
theorem laidWorld_met (os : Os) (args : Array Value) : laidMetH Tryd.prog Rows.ipPiecesRow.laid ((laidWorld os).forCall (fun _ _ => 0) ⟨#[], args, []⟩).memory :=
  laidMetH_of_parts (laidMet_nil _ _) (by kernel_rfl)
set_option maxRecDepth 100000 in
set_option maxHeartbeats 4000000 in
theorem lifted (os : Os) (started : os.Started) (H : Type) (enc : TypeId × Value → H) :
    ReturnsInHanded {} Tryd.checked os 5 .any (fun w args => (Rows.ipPiecesSpec.pre enc Tryd.prog Tryd.f5 [] false w args ∧ laidMetH Tryd.prog Rows.ipPiecesRow.laid w) ∧ sizedMet enc Tryd.prog Tryd.f5 (OpenSpec.ofChange Rows.ipPiecesSpec) false w args) (Rows.ipPiecesSpec.post enc Tryd.prog Tryd.f5 false true false false) := by
  refine returnsInHanded_of_change_and (C := Tryd.checked) (X := fun w _ => laidMetH Tryd.prog Rows.ipPiecesRow.laid w) (fun _ _ _ hh h => h.of_heap hh) own started (by kernel_rfl) Tryd.func5
    (ChangeSpec.witness_at (enc := enc) (C := Tryd.checked) (os := os) (X := fun w _ => laidMetH Tryd.prog Rows.ipPiecesRow.laid w) false (laidWorld os) #[.agg #[.int .i64 0, .int .i64 0, .int .i64 0, .int .i64 0, .int .i64 0, .int .i64 0, .int .u32 0, .int .u32 0, .slice none 0 0, .slice none 0 0], .int .i64 0] 8 rfl (by kernel_rfl) (by kernel_rfl) (by kernel_rfl) (by kernel_rfl) (by kernel_rfl) (laidWorld_met os _)) ?_
  intro W base args ds gs before hval0 hW hcnd hsz0 hL _
  have hval : ∀ (j : Nat) t v, Tryd.f5.params[j]? = some t → args[j]? = some v → Value.okWide Tryd.prog W .any base t v := hval0
  have hW' := hW
  obtain ⟨p, q, hA0, hV, rfl, hfz, hnd⟩ := hW
  have hA : DataW.TrodAll enc Tryd.prog W 0 (fun _ => true) true Tryd.f5.params.toList args.toList ds p := hA0
  rw [Tryd.params5] at hA hval
  obtain ⟨v0, vs0, d0, ds0, p0, q0, hargs, rfl, rfl, h0, r0⟩ := trodAll_cons hA
  obtain ⟨v1, vs1, d1, ds1, p1, q1, rfl, rfl, rfl, h1, r1⟩ := trodAll_cons r0
  obtain ⟨rfl, rfl, rfl⟩ := trodAll_nil r1
  obtain rfl : args = #[v0, v1] := by cases args; simp_all
  obtain ⟨rfl, rfl⟩ := trodVars_none hV
  have k0 := h0
  have lt0 : ∀ x ∈ p0, x.block < W.heap.size := by obtain ⟨m, hm⟩ := k0; exact DataW.trod_lt m _ _ _ hm
  obtain ⟨cs0, rfl, _⟩ := okWide_struct Tryd.underlying25 (hval 0 25 v0 rfl rfl)
  obtain ⟨x0, hK0⟩ := oKIp.trod h0
  have g0 := (gd_iso (gd_pair gd_int (gd_pair gd_int (gd_pair gd_int (gd_pair gd_int (gd_pair gd_int (gd_pair gd_int (gd_pair gd_int (gd_pair gd_int (gd_pair (gd_sl gd_int) (gd_last (gd_sl gd_int)))))))))))) _ _ _ _ hK0
  obtain ⟨a1, rfl, rfl, rfl, w1⟩ := open_int Tryd.underlying3 (hval 1 3 v1 rfl rfl) h1
  clear hA0 hval0 hsz0
  have hP := ipPieces x0 g0 a1 (inr_lit w1)
  refine ((law17_IpPieces.spc _ x0 a1 (inr_lit w1) true hP).calls W (own_cons (show (Val KIp _ x0).H (hp W) Frag.emp from ⟨_, hK0, by simp [pack, KIp, Kd.iso, Kd.pair, Kd.last, Value.cells]⟩) (own_cons (show (Pfl (Kd.eq gv0) 0 0 ()).H (hp W) Frag.emp from glob (handle_of_laid hL)) own_nil))).mono fun e W' ⟨_, he, bel0⟩ => ?_
  have bel : Below W.heap.size W W' := bel0
  subst he
  exact ⟨_, rfl, _, _, _, [], _, [], hW', trodAll_mk1 (shut_bool Tryd.underlying4 _), (trodAll_cons_mk (Below.trod laidOut (by kernel_rfl) (of_decide_eq_true (by kernel_rfl)) k0 bel lt0) (trodAll_cons_mk (shut_int Tryd.underlying3 w1) trodAll_mk0)), rfl, bel.frame _, fun h => by cases h⟩
theorem over : Rows.ipPiecesRow.holds Tryd.pinned (OpenSpec.ofChange Rows.ipPiecesSpec) :=
  OpenClaim.holds_of_wide 5 Tryd.f5 rfl rfl rfl rfl rfl rfl rfl ⟨rfl, rfl, rfl, rfl, rfl⟩ rfl rfl rfl rfl rfl (by kernel_rfl) Tryd.func5 (by kernel_rfl)
    (of_decide_eq_true (by kernel_rfl)) (by unfold Func.isWrapper; first | (rw [if_pos (by decide +kernel)]; kernel_rfl) | (rw [if_neg (by decide +kernel)]; exact ⟨rfl, rfl⟩))
    (fun os started H enc _ => lifted os started H enc)
theorem row_tie : Rows.ipPiecesRow.laidByTextAt .later Tryd.pinned [.handle] true :=
  OpenClaim.laidByTextAt_later rfl rfl tie (by kernel_rfl)
theorem proved : Rows.IpPiecesCardSaid :=
  Claim7.holds_tied_plain_at .later [] [.handle] true (true, "434a6027e5d5a358c3258779e67e1ffcf45397b3d928463c0e5d130d1930707e") true
    over (fun _ h => by cases h) (by kernel_rfl) (fun _ h => by cases h) row_tie rfl ⟨rfl, rfl⟩ (by kernel_rfl) rfl
    (fun f fn hf hfn => by
      obtain rfl : f = 5 := Option.some.inj ((show Tryd.prog.funcNamed "drawbridge/drawbridgelaw17.IpPieces" = some 5 by kernel_rfl).symm.trans hf) |>.symm
      obtain rfl : fn = Tryd.f5 := (Option.some.inj (Tryd.func5.symm.trans hfn)).symm
      exact ⟨by kernel_rfl, fun j t ht => by
        rw [Tryd.params5] at ht
        have hm := Array.mem_of_getElem? ht
        have key : ([25, 3] : List Nat).all (fun t => Tryd.prog.wantsStandIn t == false) = true := by kernel_rfl
        exact eq_of_beq (List.all_eq_true.1 key t (by simpa using hm))⟩)
    (by kernel_rfl)
#print axioms proved
end Go.Proofs.YtaiadolmjmacfaaDoor.ipPieces
namespace Go.Proofs.YtaiadolmjmacfaaDoor
/-- The row, under a short name, for the claim. -/
theorem ipPieces_holds : Rows.IpPiecesCardSaid := ipPieces.proved
end Go.Proofs.YtaiadolmjmacfaaDoor
