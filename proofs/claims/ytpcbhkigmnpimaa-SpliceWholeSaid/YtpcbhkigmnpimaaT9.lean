/- Contracts, printed by a program of this session. -/
import Derived.Test.YtpcbhkigmnpimaaT1
import Derived.Test.YtpcbhkigmnpimaaT2
import Derived.Test.YtpcbhkigmnpimaaT8
namespace Go.Proofs.Ytpcbhkigmnpimaa.S
open Go Go.SL Go.RowKit
set_option linter.unusedVariables false
set_option linter.unusedSimpArgs false
/-! slices.DeleteFunc[[]drawbridge/api.Early,drawbridge/api.Early] -/
noncomputable def slices_DeleteFunc_s_api_Early_api_Early_at_splice_step_past.f (a1 : List TEarly) (a2 : Tstep) : Option ((List TEarly) × Tstep) :=
  (slices_IndexFunc_s_api_Early_api_Early_at_splice_step_past.f a1 a2).bind fun r1 => (if decide (r1 = (-1)) = true then some ((a1, a2)) else lt (IntKind.i64.wrap (r1 + 1)) fun y1 => (loop (fun s1 => (if decide (s1.2.2 < (s1.1.length : Int)) = true then (((idx s1.1 s1.2.2).bind fun x1 => (splice_step_past.f a2 x1).bind fun r2 => (if (!r2) = true then (idx s1.1 s1.2.1).bind fun x2 => lt (s1.1.set s1.2.1.toNat x1) fun y2 => lt (IntKind.i64.wrap (s1.2.1 + 1)) fun y3 => some ((y2, y3, x1)) else some ((s1.1, s1.2.1, x1)))).bind (fun j1 => some ((j1.1, j1.2.1, j1.2.2)))).bind (fun j2 => lt (IntKind.i64.wrap (s1.2.2 + 1)) fun y4 => some (.inl (j2.1, j2.2.1, y4))) else some (.inr ((s1.1, s1.2.1))))) (a1, r1, y1)).bind (fun j3 => if inB j3.1 j3.2 (j3.1.length : Int) then (lt (Go.splice j3.1 j3.2.toNat (List.replicate ((j3.1.length : Int).toNat - j3.2.toNat) zEarly)) fun y5 => (cut y5 0 j3.2).bind fun x3 => some ((x3, a2))) else none))
set_option maxRecDepth 100000 in
set_option maxHeartbeats 4000000 in
theorem slices_DeleteFunc_s_api_Early_api_Early_at_splice_step_past.spc (v1 : Value) (a1 : List TEarly) (b1 : Nat) (a2 : Tstep) (r : (List TEarly) × Tstep) (H : slices_DeleteFunc_s_api_Early_api_Early_at_splice_step_past.f a1 a2 = some r) : Spc Try.prog 69 [v1, .func (.func 70) #[pt b1] #[]] [] [Val (Kd.osl KEarly) v1 a1, Fld Kstep b1 0 a2] (fun (s : Value) => s) (fun s => [Val (Kd.osl KEarly) s r.1, Fld Kstep b1 0 r.2]) := by
 unfold slices_DeleteFunc_s_api_Early_api_Early_at_splice_step_past.f at H
 refine Spc.go Try.func69 rfl (by kernel_rfl) rfl rfl all_nil fun F a w h => ?_
 refine Go.seq ?_
 refine Go.reg ?_
 refine ga h (o_assign rfl) rfl fun h => ?_
 refine GoR.done ?_
 refine Go.seq ?_
 refine Go.reg ?_
 refine mv h rfl rfl fun h => ?_
 refine mv h rfl rfl fun h => ?_
 obtain ⟨r1, er1, H⟩ := bindE H
 refine ga h (OpS.lend (Lp := [Val (Kd.sl KEarly) v1 a1, Pfl KstepR b1 0 a2]) (lent_cons (lent_own 0 rfl) (lent_cons (lent_fld (show RO Kstep KstepR from ro_iso (ro_pair (ro_per PConn) (ro_pair (ro_per Per_int) (ro_pair ro_osl (ro_pair ro_osl (ro_last (ro_per Per_bool))))))) 1 rfl) lent_nil)) (o_call (slices_IndexFunc_s_api_Early_api_Early_at_splice_step_past.spc v1 a1 b1 a2 r1 er1) rfl [0, 1] [] (by decide) rfl rfl) (fun _ => (clo_cons cl_pur clo_nil))) rfl fun h => ?_
 have g1 := h.mem.pur 0 rfl
 refine ga h (o_assign rfl) rfl fun h => ?_
 refine GoR.done ?_
 refine Go.seq ?_
 refine Go.seq ?_
 refine Go.reg ?_
 refine mv h rfl rfl fun h => ?_
 refine ga h (o_bin rfl rfl rfl) rfl fun h => ?_
 refine GoR.done ?_
 by_cases c1 : decide (r1 = (-1)) = true
 ·have H := ifT c1 H
  refine g_t h rfl c1 ?_
  refine Go.seq ?_
  refine Go.reg ?_
  refine mv h rfl rfl fun h => ?_
  refine ga h (o_assign rfl) rfl fun h => ?_
  refine GoR.done ?_
  rw [← som H]
  exact g_ret (vs := [v1]) h Try.func69 ⟨rfl, trivial⟩ ⟨v1, rfl, (h.mem.pick [1, 2] (by decide) rfl)⟩
 ·have H := ifF c1 H
  refine g_f h rfl c1 ?_
  refine Go.skip ?_
  refine Go.seq ?_
  refine Go.seq ?_
  refine Go.reg ?_
  refine mv h rfl rfl fun h => ?_
  refine ga h (o_bin rfl rfl rfl) rfl fun h => ?_
  obtain ⟨y1, ey1, H⟩ := ltE H
  refine ga h (o_assign' rfl (congrArg (fun z => Value.int .i64 z) ey1)) rfl fun h => ?_
  refine GoR.done ?_
  refine Go.block ?_
  obtain ⟨o1, hl, G1⟩ := bindE H
  refine g_cut (fun G => ∀ j3 (v5 : Value) (a : Act) (w : World), o1 = j3 → InR .i64 j3.2 → St Try.f69.ntmps F [(0, v5), (5, .int .i64 j3.2)] [Val (Kd.osl KEarly) v5 j3.1, Fld Kstep b1 0 a2] a w → G a w) 2 ?_ fun J3 => ?_
  ·intro j3 v5 a w ho_ g7 h
   rw [ho_] at G1
   have H := G1
   refine Go.seq ?_
   refine Go.reg ?_
   refine mv h rfl rfl fun h => ?_
   refine mv h rfl rfl fun h => ?_
   obtain ⟨q1, H⟩ := ifS H
   refine ga h (o_ownl 0 rfl rfl rfl q1 t_v24) rfl fun h => ?_
   obtain ⟨y5, ey5, H⟩ := ltE H
   refine gs0 h (o_clr (z := zEarly) 0 rfl rfl q1 t_a24 (by decide) (fun e he => ⟨[.int .u32 0, .slice none 0 0], by cases he; exact t_zc58, ZEarly⟩)) fun _ _ _ h => ?_
   rw [ey5] at h
   refine GoR.done ?_
   refine Go.seq ?_
   refine Go.reg ?_
   refine mv h rfl rfl fun h => ?_
   refine mv h rfl rfl fun h => ?_
   obtain ⟨x3, ex3, H⟩ := bindE H
   refine ga h (o_subh 0 rfl rfl rfl ex3 t_v24) rfl fun h => ?_
   refine ga h (o_assign rfl) rfl fun h => ?_
   refine GoR.done ?_
   rw [← som H]
   exact g_ret (vs := [subV v5 (0 : Int).toNat j3.2.toNat (Kd.n KEarly)]) h Try.func69 ⟨rfl, trivial⟩ ⟨subV v5 (0 : Int).toNat j3.2.toNat (Kd.n KEarly), rfl, (h.mem.pick [0, 1] (by decide) rfl)⟩
  refine g_loop (fun s1 G => ∀  (a : Act) (w : World), InR .i64 s1.2.1 → InR .i64 s1.2.2 → St Try.f69.ntmps F [(0, v1), (1, .func (.func 70) #[pt b1] #[]), (5, .int .i64 s1.2.1), (6, .int .i64 s1.2.2)] [Val (Kd.osl KEarly) v1 s1.1, Fld Kstep b1 0 a2] a w → G a w) hl (fun s1 p1 H i1 => ?_) fun I_ => ?_
  ·intro  a w g2 g3 h
   refine Go.seq ?_
   refine Go.seq ?_
   refine Go.reg ?_
   refine mv h rfl rfl fun h => ?_
   refine mv h rfl rfl fun h => ?_
   have g4 := (len_own 0 rfl h.mem)
   refine ga h (o_ln rfl (rd_own 0 rfl) t_v24) rfl fun h => ?_
   refine ga h (o_bin rfl rfl rfl) rfl fun h => ?_
   refine GoR.done ?_
   by_cases c2 : decide (s1.2.2 < (s1.1.length : Int)) = true
   ·have H := ifT c2 H
    refine g_t h rfl c2 ?_
    refine Go.skip ?_
    refine Go.seq ?_
    obtain ⟨o2, H, G2⟩ := bindE H
    refine g_cut (fun G => ∀ j2 (b2 : Nat) (a : Act) (w : World), o2 = j2 → InR .i64 j2.2.1 → St Try.f69.ntmps F [(0, v1), (1, .func (.func 70) #[pt b1] #[]), (5, .int .i64 j2.2.1), (6, .int .i64 s1.2.2)] [Val (Kd.osl KEarly) v1 j2.1, Fld KEarly b2 0 j2.2.2, Fld Kstep b1 0 a2] a w → G a w) 1 ?_ fun J2 => ?_
    ·intro j2 b2 a w ho_ g6 h
     rw [ho_] at G2
     have H := G2
     refine Go.reg ?_
     refine mv h rfl rfl fun h => ?_
     refine ga h (o_bin rfl rfl rfl) rfl fun h => ?_
     obtain ⟨y4, ey4, H⟩ := ltE H
     refine ga h (o_assign' rfl (congrArg (fun z => Value.int .i64 z) ey4)) rfl fun h => ?_
     refine GoR.done ?_
     have e_ := som H; subst e_
     exact Go.inLoop (nx_in i1 _ _ g6 (ey4 ▸ (wrap_in _ _)) (h.wr [0, 2]))
    refine Go.block ?_
    obtain ⟨o3, H, G3⟩ := bindE H
    refine g_cut (fun G => ∀ j1 (b2 : Nat) (a : Act) (w : World), o3 = j1 → InR .i64 j1.2.1 → St Try.f69.ntmps F [(0, v1), (1, .func (.func 70) #[pt b1] #[]), (5, .int .i64 j1.2.1), (6, .int .i64 s1.2.2)] [Val (Kd.osl KEarly) v1 j1.1, Fld KEarly b2 0 j1.2.2, Fld Kstep b1 0 a2] a w → G a w) 2 ?_ fun J1 => ?_
    ·intro j1 b2 a w ho_ g5 h
     rw [ho_] at G3
     have H := G3
     exact J2 (j1.1, j1.2.1, j1.2.2) b2 _ _ (som H).symm g5 (h.wr [0, 1, 2])
    refine Go.seq ?_
    refine Go.reg ?_
    refine mv h rfl rfl fun h => ?_
    refine mv h rfl rfl fun h => ?_
    obtain ⟨x1, ex1, H⟩ := bindE H
    refine ga h (o_ix rfl rfl (rd_own 0 rfl) ex1 t_v24) rfl fun h => ?_
    refine gs h (o_lev rfl (rd_own 0 rfl) ex1 t_y58 (by decide)) rfl fun v2 _ _ h => ?_
    refine gs h (o_alloc (K := KEarly) (z := (.agg #[.int .u32 0, .slice none 0 0])) rfl ZEarly) rfl fun b2 _ _ h => ?_
    refine gs0 h (o_st 0 rfl rfl rfl (pv_at PEarly 1 rfl) rfl t_w58) fun _ _ _ h => ?_
    refine GoR.done ?_
    refine Go.seq ?_
    refine Go.reg ?_
    refine mv h rfl rfl fun h => ?_
    refine gs h (o_ldv 0 rfl rfl PEarly t_y58) rfl fun v3 _ _ h => ?_
    obtain ⟨r2, er2, H⟩ := bindE H
    refine ga h (OpS.lend (Lp := [Pfl KstepR b1 0 a2, Val KEarly v3 x1]) (lent_cons (lent_fld (show RO Kstep KstepR from ro_iso (ro_pair (ro_per PConn) (ro_pair (ro_per Per_int) (ro_pair ro_osl (ro_pair ro_osl (ro_last (ro_per Per_bool))))))) 4 rfl) (lent_cons (lent_per (Val.per PEarly) 0 rfl) lent_nil)) (o_callw (us := [pt b1]) (vs := [v3]) (caps := []) rfl rfl (splice_step_past.spc b1 a2 v3 x1 r2 er2) [0, 1] [] (by decide) rfl rfl) (fun _ => clo_nil)) rfl fun h => ?_
    refine ga h (o_not rfl) rfl fun h => ?_
    refine GoR.done ?_
    by_cases c3 : (!r2) = true
    ·have H := ifT c3 H
     refine g_t h rfl c3 ?_
     refine Go.seq ?_
     refine Go.reg ?_
     refine mv h rfl rfl fun h => ?_
     refine mv h rfl rfl fun h => ?_
     refine gs h (o_ldv 1 rfl rfl PEarly t_y58) rfl fun v4 _ _ h => ?_
     obtain ⟨x2, ex2, H⟩ := bindE H
     refine ga h (o_ix rfl rfl (rd_own 4 rfl) ex2 t_v24) rfl fun h => ?_
     obtain ⟨y2, ey2, H⟩ := ltE H
     refine gs0 h (o_ste 4 rfl rfl rfl (pv_at PEarly 0 rfl) ex2 t_w58 (by decide)) fun _ _ _ h => ?_
     rw [ey2] at h
     refine GoR.done ?_
     refine Go.reg ?_
     refine mv h rfl rfl fun h => ?_
     refine ga h (o_bin rfl rfl rfl) rfl fun h => ?_
     obtain ⟨y3, ey3, H⟩ := ltE H
     refine ga h (o_assign' rfl (congrArg (fun z => Value.int .i64 z) ey3)) rfl fun h => ?_
     refine GoR.done ?_
     refine Go.inBlock ?_
     exact J1 (y2, y3, x1) b2 _ _ (som H).symm (ey3 ▸ (wrap_in _ _)) (h.wr [4, 2, 5])
    ·have H := ifF c3 H
     refine g_f h rfl c3 ?_
     refine Go.skip ?_
     refine Go.inBlock ?_
     exact J1 (s1.1, s1.2.1, x1) b2 _ _ (som H).symm g2 (h.wr [3, 1, 4])
   ·have H := ifF c2 H
    refine g_f h rfl c2 ?_
    refine Go.exit rfl ?_
    have e_ := som H; subst e_
    exact J3 (s1.1, s1.2.1) v1 _ _ (nx_out i1).symm g2 (h.wr [0, 1])
  ·exact I_ _ _ g1 (ey1 ▸ (wrap_in _ _)) (h.wr [1, 2])
def slices_DeleteFunc_s_api_Early_api_Early_at_splice_step_past.g (k_ : Nat) (a1 : List TEarly) (a2 : Tstep) : Option ((List TEarly) × Tstep) :=
  (slices_IndexFunc_s_api_Early_api_Early_at_splice_step_past.g k_ a1 a2).bind fun r1 => (if decide (r1 = (-1)) = true then some ((a1, a2)) else lt (IntKind.i64.wrap (r1 + 1)) fun y1 => (loopK k_ (fun s1 => (if decide (s1.2.2 < (s1.1.length : Int)) = true then (((idx s1.1 s1.2.2).bind fun x1 => (splice_step_past.g k_ a2 x1).bind fun r2 => (if (!r2) = true then (idx s1.1 s1.2.1).bind fun x2 => lt (s1.1.set s1.2.1.toNat x1) fun y2 => lt (IntKind.i64.wrap (s1.2.1 + 1)) fun y3 => some ((y2, y3, x1)) else some ((s1.1, s1.2.1, x1)))).bind (fun j1 => some ((j1.1, j1.2.1, j1.2.2)))).bind (fun j2 => lt (IntKind.i64.wrap (s1.2.2 + 1)) fun y4 => some (.inl (j2.1, j2.2.1, y4))) else some (.inr ((s1.1, s1.2.1))))) (a1, r1, y1)).bind (fun j3 => if inB j3.1 j3.2 (j3.1.length : Int) then (lt (Go.splice j3.1 j3.2.toNat (List.replicate ((j3.1.length : Int).toNat - j3.2.toNat) zEarly)) fun y5 => (cut y5 0 j3.2).bind fun x3 => some ((x3, a2))) else none))
theorem slices_DeleteFunc_s_api_Early_api_Early_at_splice_step_past.le (k_ : Nat) (a1 : List TEarly) (a2 : Tstep) : Le (slices_DeleteFunc_s_api_Early_api_Early_at_splice_step_past.g k_ a1 a2) (slices_DeleteFunc_s_api_Early_api_Early_at_splice_step_past.f a1 a2) := by
 unfold slices_DeleteFunc_s_api_Early_api_Early_at_splice_step_past.g slices_DeleteFunc_s_api_Early_api_Early_at_splice_step_past.f
 repeat' (first | with_reducible refine le_loop fun _ => ?_ | with_reducible refine le_bind ?_ fun _ => ?_ | with_reducible refine le_ite ?_ ?_ | with_reducible refine le_lt fun _ => ?_ | with_reducible refine le_elim (fun _ => ?_) (fun _ => ?_) _ | with_reducible apply slices_IndexFunc_s_api_Early_api_Early_at_splice_step_past.le | with_reducible apply splice_step_past.le | with_reducible exact le_refl _)
/-! (*drawbridge/splice.step).drain -/
noncomputable def splice_step_drain.f (a1 : Tstep) : Option (Tstep) :=
  (slices_Clone_s_byte_byte.f a1.Conn.ToHost).bind fun r1 => (slices_IndexFunc_s_api_Early_api_Early_at_splice_step_has.f a1.Conn.Early a1).bind fun r2 => (loop (fun s1 => (if decide (0 ≤ s1.2.1) = true then (idx s1.2.2.Conn.Early s1.2.1).bind fun x1 => (idx x1.Data (IntKind.u32.wrap (s1.2.2.Conn.Want - x1.Seq))).bind fun x2 => (app s1.1 ([x2] : List Int)).bind fun x3 => lt (⟨(⟨s1.2.2.Conn.Id, s1.2.2.Conn.Guest, s1.2.2.Conn.Gport, s1.2.2.Conn.Remote, s1.2.2.Conn.Rport, s1.2.2.Conn.Opening, s1.2.2.Conn.Up, s1.2.2.Conn.Done, s1.2.2.Conn.Begin, s1.2.2.Conn.Una, s1.2.2.Conn.Next, IntKind.u32.wrap (s1.2.2.Conn.Want + 1), s1.2.2.Conn.Win, s1.2.2.Conn.Mss, s1.2.2.Conn.ToHost, s1.2.2.Conn.ToGuest, s1.2.2.Conn.Early, s1.2.2.Conn.Fin, s1.2.2.Conn.Eof, s1.2.2.Conn.Shut, s1.2.2.Conn.At, s1.2.2.Conn.Wait, s1.2.2.Conn.Tries⟩ : TConn), s1.2.2.now, s1.2.2.segs, s1.2.2.calls, s1.2.2.gone⟩ : Tstep) fun y1 => (slices_IndexFunc_s_api_Early_api_Early_at_splice_step_has.f y1.Conn.Early y1).bind fun r3 => some (.inl (x3, r3, y1)) else some (.inr ((s1.1, s1.2.2))))) (r1, r2, a1)).bind (fun j1 => lt (⟨(⟨j1.2.Conn.Id, j1.2.Conn.Guest, j1.2.Conn.Gport, j1.2.Conn.Remote, j1.2.Conn.Rport, j1.2.Conn.Opening, j1.2.Conn.Up, j1.2.Conn.Done, j1.2.Conn.Begin, j1.2.Conn.Una, j1.2.Conn.Next, j1.2.Conn.Want, j1.2.Conn.Win, j1.2.Conn.Mss, j1.1, j1.2.Conn.ToGuest, j1.2.Conn.Early, j1.2.Conn.Fin, j1.2.Conn.Eof, j1.2.Conn.Shut, j1.2.Conn.At, j1.2.Conn.Wait, j1.2.Conn.Tries⟩ : TConn), j1.2.now, j1.2.segs, j1.2.calls, j1.2.gone⟩ : Tstep) fun y2 => (slices_Clone_s_api_Early_api_Early.f y2.Conn.Early).bind fun r4 => (slices_DeleteFunc_s_api_Early_api_Early_at_splice_step_past.f r4 y2).bind fun r5 => lt (⟨(⟨r5.2.Conn.Id, r5.2.Conn.Guest, r5.2.Conn.Gport, r5.2.Conn.Remote, r5.2.Conn.Rport, r5.2.Conn.Opening, r5.2.Conn.Up, r5.2.Conn.Done, r5.2.Conn.Begin, r5.2.Conn.Una, r5.2.Conn.Next, r5.2.Conn.Want, r5.2.Conn.Win, r5.2.Conn.Mss, r5.2.Conn.ToHost, r5.2.Conn.ToGuest, r5.1, r5.2.Conn.Fin, r5.2.Conn.Eof, r5.2.Conn.Shut, r5.2.Conn.At, r5.2.Conn.Wait, r5.2.Conn.Tries⟩ : TConn), r5.2.now, r5.2.segs, r5.2.calls, r5.2.gone⟩ : Tstep) fun y3 => some (y3))
set_option maxRecDepth 100000 in
set_option maxHeartbeats 4000000 in
theorem splice_step_drain.spc (b1 : Nat) (a1 : Tstep) (r : Tstep) (H : splice_step_drain.f a1 = some r) : Spc Try.prog 67 [pt b1] [] [Fld Kstep b1 0 a1] (fun (s : Unit) => .tuple #[]) (fun s => [Fld Kstep b1 0 r]) := by
 unfold splice_step_drain.f at H
 refine Spc.go Try.func67 rfl (by kernel_rfl) rfl rfl all_nil fun F a w h => ?_
 refine Go.seq ?_
 refine Go.reg ?_
 refine mv h rfl rfl fun h => ?_
 refine ga h (o_nilc rfl) rfl fun h => ?_
 refine ga h (o_fa rfl t_f75_0 rfl rfl) rfl fun h => ?_
 refine ga h (o_fa rfl t_f26_14 rfl rfl) rfl fun h => ?_
 refine gs h (o_lfv 0 rfl rfl t_sstep_Conn_ToHost rfl Per_sl t_y23) rfl fun v1 _ _ h => ?_
 obtain ⟨r1, er1, H⟩ := bindE H
 refine gs h (o_call (slices_Clone_s_byte_byte.spc v1 a1.Conn.ToHost r1 er1) rfl [0] [] (by decide) rfl rfl) rfl fun v2 _ _ h => ?_
 refine ga h (o_assign rfl) rfl fun h => ?_
 refine GoR.done ?_
 refine Go.seq ?_
 refine Go.seq ?_
 refine Go.reg ?_
 refine mv h rfl rfl fun h => ?_
 refine ga h (o_nilc rfl) rfl fun h => ?_
 refine ga h (o_fa rfl t_f75_0 rfl rfl) rfl fun h => ?_
 refine ga h (o_fa rfl t_f26_16 rfl rfl) rfl fun h => ?_
 refine gs h (o_lfv 2 rfl rfl t_sstep_Conn_Early rfl Per_sl t_y24) rfl fun v3 _ _ h => ?_
 refine mv h rfl rfl fun h => ?_
 refine ga h (o_makeFuncB (us := [pt b1]) (vs := []) rfl rfl) rfl fun h => ?_
 obtain ⟨r2, er2, H⟩ := bindE H
 refine ga h (OpS.lend (Lp := [Val (Kd.sl KEarly) v3 a1.Conn.Early, Pfl KstepR b1 0 a1]) (lent_cons (lent_per (Val.per Per_sl) 0 rfl) (lent_cons (lent_fld (show RO Kstep KstepR from ro_iso (ro_pair (ro_per PConn) (ro_pair (ro_per Per_int) (ro_pair ro_osl (ro_pair ro_osl (ro_last (ro_per Per_bool))))))) 3 rfl) lent_nil)) (o_call (slices_IndexFunc_s_api_Early_api_Early_at_splice_step_has.spc v3 a1.Conn.Early b1 a1 r2 er2) rfl [0, 1] [] (by decide) rfl rfl) (fun _ => (clo_cons cl_pur clo_nil))) rfl fun h => ?_
 have g1 := h.mem.pur 0 rfl
 refine ga h (o_assign rfl) rfl fun h => ?_
 refine GoR.done ?_
 refine Go.block ?_
 obtain ⟨o1, hl, G1⟩ := bindE H
 refine g_cut (fun G => ∀ j1 (v11 : Value) (a : Act) (w : World), o1 = j1 → St Try.f67.ntmps F [(0, pt b1), (2, v11)] [Val (Kd.osl (Kd.int .u8)) v11 j1.1, Fld Kstep b1 0 j1.2] a w → G a w) 2 ?_ fun J1 => ?_
 ·intro j1 v11 a w ho_ h
  rw [ho_] at G1
  have H := G1
  refine Go.seq ?_
  refine Go.reg ?_
  refine mv h rfl rfl fun h => ?_
  refine mv h rfl rfl fun h => ?_
  refine ga h (o_nilc rfl) rfl fun h => ?_
  refine ga h (o_fa rfl t_f75_0 rfl rfl) rfl fun h => ?_
  refine ga h (o_fa rfl t_f26_14 rfl rfl) rfl fun h => ?_
  replace h := h.mm fun m => m.freeze 0 rfl
  obtain ⟨y2, ey2, H⟩ := ltE H
  refine gs0 h (o_stp (x0 := j1.2) (y := j1.1) 1 t_ustep_14_1 rfl rfl rfl rfl (pv_at Per_sl 0 rfl) t_w23) fun _ _ _ h => ?_
  rw [ey2] at h
  refine GoR.done ?_
  refine Go.reg ?_
  refine mv h rfl rfl fun h => ?_
  refine mv h rfl rfl fun h => ?_
  refine ga h (o_nilc rfl) rfl fun h => ?_
  refine ga h (o_fa rfl t_f75_0 rfl rfl) rfl fun h => ?_
  refine ga h (o_fa rfl t_f26_16 rfl rfl) rfl fun h => ?_
  refine gs h (o_lfv 1 rfl rfl t_sstep_Conn_Early rfl Per_sl t_y24) rfl fun v12 _ _ h => ?_
  obtain ⟨r4, er4, H⟩ := bindE H
  refine gs h (o_call (slices_Clone_s_api_Early_api_Early.spc v12 y2.Conn.Early r4 er4) rfl [0] [] (by decide) rfl rfl) rfl fun v13 _ _ h => ?_
  refine mv h rfl rfl fun h => ?_
  refine ga h (o_makeFuncB (us := [pt b1]) (vs := []) rfl rfl) rfl fun h => ?_
  obtain ⟨r5, er5, H⟩ := bindE H
  refine gs h (o_call (slices_DeleteFunc_s_api_Early_api_Early_at_splice_step_past.spc v13 r4 b1 y2 r5 er5) rfl [] [0, 3] (by decide) rfl rfl) rfl fun v14 _ _ h => ?_
  refine ga h (o_nilc rfl) rfl fun h => ?_
  refine ga h (o_fa rfl t_f75_0 rfl rfl) rfl fun h => ?_
  refine ga h (o_fa rfl t_f26_16 rfl rfl) rfl fun h => ?_
  replace h := h.mm fun m => m.freeze 0 rfl
  obtain ⟨y3, ey3, H⟩ := ltE H
  refine gs0 h (o_stp (x0 := r5.2) (y := r5.1) 1 t_ustep_16_1 rfl rfl rfl rfl (pv_at Per_sl 0 rfl) t_w24) fun _ _ _ h => ?_
  rw [ey3] at h
  refine GoR.done ?_
  rw [← som H]
  exact g_fin (vs := []) h Try.func67 trivial ⟨(), rfl, (h.mem.pick [1] (by decide) rfl)⟩
 refine g_loop (fun s1 G => ∀ (v4 : Value) (a : Act) (w : World), InR .i64 s1.2.1 → St Try.f67.ntmps F [(0, pt b1), (2, v4), (3, .int .i64 s1.2.1)] [Val (Kd.osl (Kd.int .u8)) v4 s1.1, Fld Kstep b1 0 s1.2.2] a w → G a w) hl (fun s1 p1 H i1 => ?_) fun I_ => ?_
 ·intro v4 a w g2 h
  refine Go.seq ?_
  refine Go.seq ?_
  refine Go.reg ?_
  refine mv h rfl rfl fun h => ?_
  refine ga h (o_bin rfl rfl rfl) rfl fun h => ?_
  refine GoR.done ?_
  by_cases c1 : decide (0 ≤ s1.2.1) = true
  ·have H := ifT c1 H
   refine g_t h rfl c1 ?_
   refine Go.skip ?_
   refine Go.seq ?_
   refine Go.block ?_
   refine Go.seq ?_
   refine Go.reg ?_
   refine mv h rfl rfl fun h => ?_
   refine ga h (o_nilc rfl) rfl fun h => ?_
   refine ga h (o_fa rfl t_f75_0 rfl rfl) rfl fun h => ?_
   refine ga h (o_fa rfl t_f26_16 rfl rfl) rfl fun h => ?_
   refine gs h (o_lfv 1 rfl rfl t_sstep_Conn_Early rfl Per_sl t_y24) rfl fun v5 _ _ h => ?_
   refine mv h rfl rfl fun h => ?_
   obtain ⟨x1, ex1, H⟩ := bindE H
   refine ga h (o_ix rfl rfl (rd_at 0 rfl) ex1 t_v24) rfl fun h => ?_
   refine gs h (o_lev rfl (rd_at 0 rfl) ex1 t_y58 (by decide)) rfl fun v6 _ _ h => ?_
   refine gs h (o_alloc (K := KEarly) (z := (.agg #[.int .u32 0, .slice none 0 0])) rfl ZEarly) rfl fun b2 _ _ h => ?_
   refine gs0 h (o_st 0 rfl rfl rfl (pv_at PEarly 1 rfl) rfl t_w58) fun _ _ _ h => ?_
   refine GoR.done ?_
   refine Go.seq ?_
   replace h := h.wq [(0, pt b1), (2, v4), (4, pt b2)] [Fld KEarly b2 0 x1, Val KEarly v6 x1, Val (Kd.sl KEarly) v5 s1.2.2.Conn.Early, Val (Kd.osl (Kd.int .u8)) v4 s1.1, Fld Kstep b1 0 s1.2.2] [0, 1, 2, 3, 4]
   obtain ⟨x2, ex2, H⟩ := bindE H
   refine Go.draw (E := [(0, pt b1), (2, v4), (4, pt b2)]) [] (L := [Fld KEarly b2 0 x1, Val KEarly v6 x1, Val (Kd.sl KEarly) v5 s1.2.2.Conn.Early, Val (Kd.osl (Kd.int .u8)) v4 s1.1, Fld Kstep b1 0 s1.2.2]) h rfl rfl 14 [cn (v4), cn (.pointer (some ⟨b2, 1, none⟩)), cw [1] [] [] fun u => [Val (Kd.sl (Kd.int .u8)) u x1.Data], cn (pt b1), ce [3] (pt b1), ce [3, 4] (pt b1), ce [3, 4, 5] (.pointer (some ⟨b1, 11, none⟩)), cm [3, 4, 5, 6] [] [] (.int .u32 s1.2.2.Conn.Want) fun u => [Ent.pur (InR .u32 s1.2.2.Conn.Want)], cn (pt b2), cm [8] [] [] (.int .u32 x1.Seq) fun u => [Ent.pur (InR .u32 x1.Seq)], ce [3, 4, 5, 6, 7, 8, 9] (.int .u32 (IntKind.u32.wrap (s1.2.2.Conn.Want - x1.Seq))), ⟨[1, 2, 3, 4, 5, 6, 7, 8, 9, 10], [2], [], false, .fn (fun u => elemP u ((IntKind.u32.wrap (s1.2.2.Conn.Want - x1.Seq)).toNat * Kd.n (Kd.int .u8))) 2, none, fun u => [], []⟩, cm [1, 2, 3, 4, 5, 6, 7, 8, 9, 10, 11] [2] [] (.int .u8 x2) fun u => [Ent.pur (InR .u8 x2)], cw [1, 2, 3, 4, 5, 6, 7, 8, 9, 10, 11, 12] [12] [] fun u => [Val (Kd.osl (Kd.int .u8)) u ([x2] : List Int)]] rfl t_mxo (by kernel_rfl) (by rfl) ?_ fun f1 _ _ h => ?_
   ·exact ox rfl (o_move rfl) (ox rfl (o_fa rfl t_f58_1 rfl rfl) (oy rfl (o_lfv 0 rfl rfl sEarly_Data rfl Per_sl t_y23) (ox rfl (o_move rfl) (ox rfl (o_nilc rfl) (ox rfl (o_fa rfl t_f75_0 rfl rfl) (ox rfl (o_fa rfl t_f26_11 rfl rfl) (ox rfl (OpS.pur (fun F w m_ => (in2 (fd_sub t_sstep_Conn_Want 4 rfl m_))) (o_lfx (K := Kstep) (pr := fun x => x.Conn.Want) (y := s1.2.2) 4 rfl rfl t_sstep_Conn_Want rfl X_int t_y22)) (ox rfl (o_fa rfl t_f58_0 rfl rfl) (ox rfl (OpS.pur (fun F w m_ => (in2 (fd_sub sEarly_Seq 0 rfl m_))) (o_lfx 0 rfl rfl sEarly_Seq rfl X_int t_y22)) (ox rfl (o_bin rfl rfl rfl) (obs_cons (ob_fn rfl (gok_none rfl) rfl fun f1 => (o_ix rfl rfl (rd_at 0 rfl) ex2 t_v23)) (ox rfl (OpS.pur (fun F w m_ => (rd_inr (rd_at 0 rfl) ex2 m_)) (o_lex rfl (rd_at 0 rfl) ex2 X_int t_y5 (by decide))) (oy rfl (OpS.fact (p := InR .u8 x2) (fun F w m_ => (Mem.pur 0 rfl m_)) fun g3 => (OpS.fact (p := InR .u8 x2) (fun F w m_ => (Mem.pur 0 rfl m_)) fun g4 => (o_bs (K := (Kd.int .u8)) (vs := [.int .u8 x2]) (xs := ([x2] : List Int)) rfl rfl (pvs_cons (pv_int g4) pvs_nil) t_a23 (by decide) (by decide)))) (obs_nil))))))))))))))
   replace h := h.wk (E' := [(0, pt b1), (2, v4), (37, v4), (50, (f1 13))]) (L' := [Val (Kd.sl (Kd.int .u8)) (f1 2) x1.Data, Ent.pur (InR .u32 s1.2.2.Conn.Want), Ent.pur (InR .u32 x1.Seq), Ent.pur (InR .u8 x2), Val (Kd.osl (Kd.int .u8)) (f1 13) ([x2] : List Int), Fld KEarly b2 0 x1, Val KEarly v6 x1, Val (Kd.sl KEarly) v5 s1.2.2.Conn.Early, Val (Kd.osl (Kd.int .u8)) v4 s1.1, Fld Kstep b1 0 s1.2.2]) (by kernel_rfl) [0, 1, 2, 3, 4, 5, 6, 7, 8, 9] (by decide) (by kernel_rfl)
   obtain ⟨x3, ex3, H⟩ := bindE H
   refine gs h (o_app (K := (Kd.int .u8)) 8 rfl rfl rfl (rd_own 4 rfl) ex3 t_a23 t_n23) rfl fun v9 _ _ h => ?_
   refine ga h (o_assign rfl) rfl fun h => ?_
   refine GoR.done ?_
   refine Go.reg ?_
   refine mv h rfl rfl fun h => ?_
   refine ga h (o_nilc rfl) rfl fun h => ?_
   refine ga h (o_fa rfl t_f75_0 rfl rfl) rfl fun h => ?_
   refine ga h (o_fa rfl t_f26_11 rfl rfl) rfl fun h => ?_
   have g5 := (in2 (fd_sub t_sstep_Conn_Want 9 rfl h.mem))
   refine ga h (o_lfx 9 rfl rfl t_sstep_Conn_Want rfl X_int t_y22) rfl fun h => ?_
   refine ga h (o_bin rfl rfl rfl) rfl fun h => ?_
   refine ga h (o_nilc rfl) rfl fun h => ?_
   refine ga h (o_fa rfl t_f75_0 rfl rfl) rfl fun h => ?_
   refine ga h (o_fa rfl t_f26_11 rfl rfl) rfl fun h => ?_
   obtain ⟨y1, ey1, H⟩ := ltE H
   refine gs0 h (o_stp (x0 := s1.2.2) (y := IntKind.u32.wrap (s1.2.2.Conn.Want + 1)) 9 t_ustep_11_1 rfl rfl rfl rfl (pv_int (wrap_in _ _)) t_w22) fun _ _ _ h => ?_
   rw [ey1] at h
   refine GoR.done ?_
   refine Go.inBlock ?_
   refine Go.reg ?_
   refine mv h rfl rfl fun h => ?_
   refine ga h (o_nilc rfl) rfl fun h => ?_
   refine ga h (o_fa rfl t_f75_0 rfl rfl) rfl fun h => ?_
   refine ga h (o_fa rfl t_f26_16 rfl rfl) rfl fun h => ?_
   refine gs h (o_lfv 9 rfl rfl t_sstep_Conn_Early rfl Per_sl t_y24) rfl fun v10 _ _ h => ?_
   refine mv h rfl rfl fun h => ?_
   refine ga h (o_makeFuncB (us := [pt b1]) (vs := []) rfl rfl) rfl fun h => ?_
   obtain ⟨r3, er3, H⟩ := bindE H
   refine ga h (OpS.lend (Lp := [Val (Kd.sl KEarly) v10 y1.Conn.Early, Pfl KstepR b1 0 y1]) (lent_cons (lent_per (Val.per Per_sl) 0 rfl) (lent_cons (lent_fld (show RO Kstep KstepR from ro_iso (ro_pair (ro_per PConn) (ro_pair (ro_per Per_int) (ro_pair ro_osl (ro_pair ro_osl (ro_last (ro_per Per_bool))))))) 10 rfl) lent_nil)) (o_call (slices_IndexFunc_s_api_Early_api_Early_at_splice_step_has.spc v10 y1.Conn.Early b1 y1 r3 er3) rfl [0, 1] [] (by decide) rfl rfl) (fun _ => (clo_cons cl_pur clo_nil))) rfl fun h => ?_
   have g6 := h.mem.pur 0 rfl
   refine ga h (o_assign rfl) rfl fun h => ?_
   refine GoR.done ?_
   have e_ := som H; subst e_
   exact Go.inLoop (nx_in i1 v9 _ _ g6 (h.wr [10, 11]))
  ·have H := ifF c1 H
   refine g_f h rfl c1 ?_
   refine Go.exit rfl ?_
   have e_ := som H; subst e_
   exact J1 (s1.1, s1.2.2) v4 _ _ (nx_out i1).symm (h.wr [0, 1])
 ·exact I_ v2 _ _ g1 (h.wr [2, 4])
def splice_step_drain.g (k_ : Nat) (a1 : Tstep) : Option (Tstep) :=
  (slices_Clone_s_byte_byte.g k_ a1.Conn.ToHost).bind fun r1 => (slices_IndexFunc_s_api_Early_api_Early_at_splice_step_has.g k_ a1.Conn.Early a1).bind fun r2 => (loopK k_ (fun s1 => (if decide (0 ≤ s1.2.1) = true then (idx s1.2.2.Conn.Early s1.2.1).bind fun x1 => (idx x1.Data (IntKind.u32.wrap (s1.2.2.Conn.Want - x1.Seq))).bind fun x2 => (app s1.1 ([x2] : List Int)).bind fun x3 => lt (⟨(⟨s1.2.2.Conn.Id, s1.2.2.Conn.Guest, s1.2.2.Conn.Gport, s1.2.2.Conn.Remote, s1.2.2.Conn.Rport, s1.2.2.Conn.Opening, s1.2.2.Conn.Up, s1.2.2.Conn.Done, s1.2.2.Conn.Begin, s1.2.2.Conn.Una, s1.2.2.Conn.Next, IntKind.u32.wrap (s1.2.2.Conn.Want + 1), s1.2.2.Conn.Win, s1.2.2.Conn.Mss, s1.2.2.Conn.ToHost, s1.2.2.Conn.ToGuest, s1.2.2.Conn.Early, s1.2.2.Conn.Fin, s1.2.2.Conn.Eof, s1.2.2.Conn.Shut, s1.2.2.Conn.At, s1.2.2.Conn.Wait, s1.2.2.Conn.Tries⟩ : TConn), s1.2.2.now, s1.2.2.segs, s1.2.2.calls, s1.2.2.gone⟩ : Tstep) fun y1 => (slices_IndexFunc_s_api_Early_api_Early_at_splice_step_has.g k_ y1.Conn.Early y1).bind fun r3 => some (.inl (x3, r3, y1)) else some (.inr ((s1.1, s1.2.2))))) (r1, r2, a1)).bind (fun j1 => lt (⟨(⟨j1.2.Conn.Id, j1.2.Conn.Guest, j1.2.Conn.Gport, j1.2.Conn.Remote, j1.2.Conn.Rport, j1.2.Conn.Opening, j1.2.Conn.Up, j1.2.Conn.Done, j1.2.Conn.Begin, j1.2.Conn.Una, j1.2.Conn.Next, j1.2.Conn.Want, j1.2.Conn.Win, j1.2.Conn.Mss, j1.1, j1.2.Conn.ToGuest, j1.2.Conn.Early, j1.2.Conn.Fin, j1.2.Conn.Eof, j1.2.Conn.Shut, j1.2.Conn.At, j1.2.Conn.Wait, j1.2.Conn.Tries⟩ : TConn), j1.2.now, j1.2.segs, j1.2.calls, j1.2.gone⟩ : Tstep) fun y2 => (slices_Clone_s_api_Early_api_Early.g k_ y2.Conn.Early).bind fun r4 => (slices_DeleteFunc_s_api_Early_api_Early_at_splice_step_past.g k_ r4 y2).bind fun r5 => lt (⟨(⟨r5.2.Conn.Id, r5.2.Conn.Guest, r5.2.Conn.Gport, r5.2.Conn.Remote, r5.2.Conn.Rport, r5.2.Conn.Opening, r5.2.Conn.Up, r5.2.Conn.Done, r5.2.Conn.Begin, r5.2.Conn.Una, r5.2.Conn.Next, r5.2.Conn.Want, r5.2.Conn.Win, r5.2.Conn.Mss, r5.2.Conn.ToHost, r5.2.Conn.ToGuest, r5.1, r5.2.Conn.Fin, r5.2.Conn.Eof, r5.2.Conn.Shut, r5.2.Conn.At, r5.2.Conn.Wait, r5.2.Conn.Tries⟩ : TConn), r5.2.now, r5.2.segs, r5.2.calls, r5.2.gone⟩ : Tstep) fun y3 => some (y3))
theorem splice_step_drain.le (k_ : Nat) (a1 : Tstep) : Le (splice_step_drain.g k_ a1) (splice_step_drain.f a1) := by
 unfold splice_step_drain.g splice_step_drain.f
 repeat' (first | with_reducible refine le_loop fun _ => ?_ | with_reducible refine le_bind ?_ fun _ => ?_ | with_reducible refine le_ite ?_ ?_ | with_reducible refine le_lt fun _ => ?_ | with_reducible refine le_elim (fun _ => ?_) (fun _ => ?_) _ | with_reducible apply slices_Clone_s_api_Early_api_Early.le | with_reducible apply slices_Clone_s_byte_byte.le | with_reducible apply slices_DeleteFunc_s_api_Early_api_Early_at_splice_step_past.le | with_reducible apply slices_IndexFunc_s_api_Early_api_Early_at_splice_step_has.le | with_reducible exact le_refl _)
/-! (*drawbridge/splice.step).data -/
noncomputable def splice_step_data.f (a1 : Tstep) (a2 : TSeg) : Option (Tstep) :=
  (lt (IntKind.u32.wrap (a1.Conn.Want - a2.Seq)) fun y1 => (if decide (0 < (IntKind.i32.wrap y1)) = true then (cut a2.Data (min y1 (a2.Data.length : Int)) (a2.Data.length : Int)).bind fun x1 => some ((x1, a1.Conn.Want)) else some ((a2.Data, a2.Seq)))).bind (fun j1 => lt (IntKind.u32.wrap (j1.2 - a1.Conn.Want)) fun y2 => (splice_room.f a1.Conn).bind fun r1 => (cut j1.1 0 (max 0 (min (j1.1.length : Int) (IntKind.i64.wrap (r1 - y2))))).bind fun x2 => ((if decide ((x2.length : Int) = 0) = true then some (true) else (if decide (0 < y2) = true then some (decide (4 ≤ (a1.Conn.Early.length : Int))) else some (false)))).bind (fun j2 => (if j2 = true then some (a1) else (slices_Clone_s_api_Early_api_Early.f a1.Conn.Early).bind fun r2 => (slices_Clone_s_byte_byte.f x2).bind fun r3 => (app r2 ([(⟨j1.2, r3⟩ : TEarly)] : List TEarly)).bind fun x3 => lt (⟨(⟨a1.Conn.Id, a1.Conn.Guest, a1.Conn.Gport, a1.Conn.Remote, a1.Conn.Rport, a1.Conn.Opening, a1.Conn.Up, a1.Conn.Done, a1.Conn.Begin, a1.Conn.Una, a1.Conn.Next, a1.Conn.Want, a1.Conn.Win, a1.Conn.Mss, a1.Conn.ToHost, a1.Conn.ToGuest, x3, a1.Conn.Fin, a1.Conn.Eof, a1.Conn.Shut, a1.Conn.At, a1.Conn.Wait, a1.Conn.Tries⟩ : TConn), a1.now, a1.segs, a1.calls, a1.gone⟩ : Tstep) fun y3 => (splice_step_drain.f y3).bind fun r4 => some (r4))))
set_option maxRecDepth 100000 in
set_option maxHeartbeats 4000000 in
theorem splice_step_data.spc (b1 : Nat) (a1 : Tstep) (v1 : Value) (a2 : TSeg) (r : Tstep) (H : splice_step_data.f a1 a2 = some r) : Spc Try.prog 64 [pt b1, v1] [Val KSeg v1 a2] [Fld Kstep b1 0 a1] (fun (s : Unit) => .tuple #[]) (fun s => [Fld Kstep b1 0 r]) := by
 unfold splice_step_data.f at H
 refine Spc.go Try.func64 rfl (by kernel_rfl) rfl rfl (all_cons (Val.per PSeg) all_nil) fun F a w h => ?_
 refine Go.seq ?_
 refine Go.reg ?_
 refine gs h (o_box (K := KSeg) rfl (pv_at PSeg 0 rfl)) rfl fun b2 _ _ h => ?_
 refine GoR.done ?_
 refine Go.seq ?_
 replace h := h.wq [(0, pt b1), (3, pt b2)] [Fld KSeg b2 0 a2, Val KSeg v1 a2, Fld Kstep b1 0 a1] [0, 1, 2]
 refine Go.draw (E := [(0, pt b1), (3, pt b2)]) [] (L := [Fld KSeg b2 0 a2, Val KSeg v1 a2, Fld Kstep b1 0 a1]) h rfl rfl 5 [cn (.pointer (some ⟨b2, 7, none⟩)), cw [0] [] [] fun u => [Val (Kd.sl (Kd.int .u8)) u a2.Data], cn (.pointer (some ⟨b2, 2, none⟩)), cm [2] [] [] (.int .u32 a2.Seq) fun u => [Ent.pur (InR .u32 a2.Seq)], ⟨[0, 1], [], [], false, .fn (fun u => u) 1, none, fun u => [], []⟩] rfl t_mxo (by kernel_rfl) (by rfl) ?_ fun f1 _ _ h => ?_
 ·exact ox rfl (o_fa rfl t_f30_7 rfl rfl) (oy rfl (o_lfv 0 rfl rfl sSeg_Data rfl Per_sl t_y23) (ox rfl (o_fa rfl t_f30_2 rfl rfl) (ox rfl (OpS.pur (fun F w m_ => (in2 (fd_sub sSeg_Seq 0 rfl m_))) (o_lfx 0 rfl rfl sSeg_Seq rfl X_int t_y22)) (obs_cons (ob_fn rfl (gok_none rfl) rfl fun f1 => (o_assign rfl)) (obs_nil)))))
 replace h := h.wk (E' := [(0, pt b1), (11, .int .u32 a2.Seq), (4, (f1 1))]) (L' := [Val (Kd.sl (Kd.int .u8)) (f1 1) a2.Data, Ent.pur (InR .u32 a2.Seq), Fld KSeg b2 0 a2, Val KSeg v1 a2, Fld Kstep b1 0 a1]) (by kernel_rfl) [0, 1, 2, 3, 4] (by decide) (by kernel_rfl)
 have g1 := (Mem.pur 1 rfl h.mem)
 refine ga h (o_assign rfl) rfl fun h => ?_
 refine GoR.done ?_
 refine Go.seq ?_
 obtain ⟨o1, H, G1⟩ := bindE H
 refine g_cut (fun G => ∀ j1 (v4 : Value) (a : Act) (w : World), o1 = j1 → InR .u32 j1.2 → St Try.f64.ntmps F [(0, pt b1), (4, v4), (5, .int .u32 j1.2)] [Val (Kd.sl (Kd.int .u8)) v4 j1.1, Fld KSeg b2 0 a2, Fld Kstep b1 0 a1] a w → G a w) 1 ?_ fun J1 => ?_
 ·intro j1 v4 a w ho_ g4 h
  rw [ho_] at G1
  have H := G1
  refine Go.seq ?_
  refine Go.reg ?_
  refine mv h rfl rfl fun h => ?_
  refine mv h rfl rfl fun h => ?_
  refine ga h (o_nilc rfl) rfl fun h => ?_
  refine ga h (o_fa rfl t_f75_0 rfl rfl) rfl fun h => ?_
  refine ga h (o_fa rfl t_f26_11 rfl rfl) rfl fun h => ?_
  have g5 := (in2 (fd_sub t_sstep_Conn_Want 2 rfl h.mem))
  refine ga h (o_lfx 2 rfl rfl t_sstep_Conn_Want rfl X_int t_y22) rfl fun h => ?_
  refine ga h (o_bin rfl rfl rfl) rfl fun h => ?_
  refine ga h (o_convw rfl t_q22 t_u3 (wrap_in _ _) rfl) rfl fun h => ?_
  obtain ⟨y2, ey2, H⟩ := ltE H
  refine ga h (o_assign' rfl (congrArg (fun z => Value.int .i64 z) ey2)) rfl fun h => ?_
  refine GoR.done ?_
  refine Go.seq ?_
  refine Go.reg ?_
  refine mv h rfl rfl fun h => ?_
  refine mv h rfl rfl fun h => ?_
  have g6 := (len_at 0 rfl h.mem)
  refine ga h (o_ln rfl (rd_at 0 rfl) t_v23) rfl fun h => ?_
  refine mv h rfl rfl fun h => ?_
  refine ga h (o_nilc rfl) rfl fun h => ?_
  refine ga h (o_fa rfl t_f75_0 rfl rfl) rfl fun h => ?_
  refine gs h (o_lfv 2 rfl rfl sstep_Conn rfl PConn t_y26) rfl fun v5 _ _ h => ?_
  obtain ⟨r1, er1, H⟩ := bindE H
  refine ga h (o_call (splice_room.spc v5 a1.Conn r1 er1) rfl [0] [] (by decide) rfl rfl) rfl fun h => ?_
  have g7 := h.mem.pur 0 rfl
  refine mv h rfl rfl fun h => ?_
  refine ga h (o_bin rfl rfl rfl) rfl fun h => ?_
  refine ga h (o_min rfl rfl) rfl fun h => ?_
  refine ga h (o_max rfl rfl) rfl fun h => ?_
  obtain ⟨x2, ex2, H⟩ := bindE H
  refine gs h (o_cuth rfl (pv_at Per_sl 2 rfl) rfl ex2 t_v23) rfl fun v6 _ _ h => ?_
  refine ga h (o_assign rfl) rfl fun h => ?_
  refine GoR.done ?_
  refine Go.seq ?_
  refine Go.seq ?_
  obtain ⟨o2, H, G2⟩ := bindE H
  refine g_cut (fun G => ∀ j2 (a : Act) (w : World), o2 = j2 → St Try.f64.ntmps F [(0, pt b1), (4, v6), (5, .int .u32 j1.2), (70, .bool j2)] [Val (Kd.sl (Kd.int .u8)) v6 x2, Fld KSeg b2 0 a2, Fld Kstep b1 0 a1] a w → G a w) 1 ?_ fun J2 => ?_
  ·intro j2 a w ho_ h
   rw [ho_] at G2
   have H := G2
   by_cases c4 : j2 = true
   ·have H := ifT c4 H
    refine g_t h rfl c4 ?_
    rw [← som H]
    exact g_ret (vs := []) h Try.func64 trivial ⟨(), rfl, (h.mem.pick [2] (by decide) rfl)⟩
   ·have H := ifF c4 H
    refine g_f h rfl c4 ?_
    refine Go.skip ?_
    refine Go.seq ?_
    refine Go.reg ?_
    refine mv h rfl rfl fun h => ?_
    refine mv h rfl rfl fun h => ?_
    refine ga h (o_nilc rfl) rfl fun h => ?_
    refine ga h (o_fa rfl t_f75_0 rfl rfl) rfl fun h => ?_
    refine ga h (o_fa rfl t_f26_16 rfl rfl) rfl fun h => ?_
    refine gs h (o_lfv 2 rfl rfl t_sstep_Conn_Early rfl Per_sl t_y24) rfl fun v8 _ _ h => ?_
    obtain ⟨r2, er2, H⟩ := bindE H
    refine gs h (o_call (slices_Clone_s_api_Early_api_Early.spc v8 a1.Conn.Early r2 er2) rfl [0] [] (by decide) rfl rfl) rfl fun v9 _ _ h => ?_
    refine mv h rfl rfl fun h => ?_
    refine mv h rfl rfl fun h => ?_
    obtain ⟨r3, er3, H⟩ := bindE H
    refine gs h (o_call (slices_Clone_s_byte_byte.spc v6 x2 r3 er3) rfl [2] [] (by decide) rfl rfl) rfl fun v10 _ _ h => ?_
    replace h := h.mm fun m => m.freeze 0 rfl
    refine gs h (o_build (K := KEarly) (x := (⟨j1.2, r3⟩ : TEarly)) (ps := [(0, .int .u32 j1.2), (1, v10)]) rfl (zs := zsEarly) rfl t_b58 rfl (show PB (Kd.pair (Kd.int .u32) (Kd.last (Kd.sl (Kd.int .u8)))) (j1.2, r3) 0 zsEarly _ _ from (pb_part (pv_int g4) rfl (pb_lastp (pv_at Per_sl 0 rfl) rfl)))) rfl fun v11 _ _ h => ?_
    refine gs h (o_bs (K := KEarly) (vs := [v11]) (xs := ([(⟨j1.2, r3⟩ : TEarly)] : List TEarly)) rfl rfl (pvs_cons (pv_at PEarly 0 rfl) pvs_nil) t_a24 (by decide) (by decide)) rfl fun v12 _ _ h => ?_
    obtain ⟨x3, ex3, H⟩ := bindE H
    refine gs h (o_app (K := KEarly) 3 rfl rfl rfl (rd_own 0 rfl) ex3 t_a24 t_n24) rfl fun v13 _ _ h => ?_
    refine ga h (o_nilc rfl) rfl fun h => ?_
    refine ga h (o_fa rfl t_f75_0 rfl rfl) rfl fun h => ?_
    refine ga h (o_fa rfl t_f26_16 rfl rfl) rfl fun h => ?_
    replace h := h.mm fun m => m.freeze 3 rfl
    obtain ⟨y3, ey3, H⟩ := ltE H
    refine gs0 h (o_stp (x0 := a1) (y := x3) 7 t_ustep_16_1 rfl rfl rfl rfl (pv_at Per_sl 3 rfl) t_w24) fun _ _ _ h => ?_
    rw [ey3] at h
    refine GoR.done ?_
    refine Go.reg ?_
    refine mv h rfl rfl fun h => ?_
    obtain ⟨r4, er4, H⟩ := bindE H
    refine ga h (o_call (splice_step_drain.spc b1 y3 r4 er4) rfl [] [7] (by decide) rfl rfl) rfl fun h => ?_
    refine GoR.done ?_
    rw [← som H]
    exact g_fin (vs := []) h Try.func64 trivial ⟨(), rfl, (h.mem.pick [0] (by decide) rfl)⟩
  refine Go.reg ?_
  refine mv h rfl rfl fun h => ?_
  have g8 := (len_at 0 rfl h.mem)
  refine ga h (o_ln rfl (rd_at 0 rfl) t_v23) rfl fun h => ?_
  refine ga h (o_bin rfl rfl rfl) rfl fun h => ?_
  refine mv h rfl rfl fun h => ?_
  by_cases c2 : decide ((x2.length : Int) = 0) = true
  ·have H := ifT c2 H
   iterate 3 (refine gk h rfl rfl (nb_t c2) rfl fun _ h => ?_)
   iterate 7 (refine gk h rfl rfl rfl rfl fun _ h => ?_)
   refine gk h rfl rfl (nb_t c2) rfl fun _ h => ?_
   refine ga h (o_pickT rfl rfl c2) rfl fun h => ?_
   refine GoR.done ?_
   exact J2 true _ _ (som H).symm (h.wr [0, 4, 5])
  ·have H := ifF c2 H
   refine gg h rfl rfl (nbF c2) (o_move rfl) rfl fun _ _ _ h => ?_
   refine gg h rfl rfl (nbF c2) (o_bin rfl rfl rfl) rfl fun _ _ _ h => ?_
   refine gg h rfl rfl (nbF c2) (o_move rfl) rfl fun _ _ _ h => ?_
   by_cases c3 : decide (0 < y2) = true
   ·have H := ifT c3 H
    refine gg h rfl rfl c3 (o_move rfl) rfl fun _ _ _ h => ?_
    refine gg h rfl rfl c3 (o_nilc rfl) rfl fun _ _ _ h => ?_
    refine gg h rfl rfl c3 (o_fa rfl t_f75_0 rfl rfl) rfl fun _ _ _ h => ?_
    refine gg h rfl rfl c3 (o_fa rfl t_f26_16 rfl rfl) rfl fun _ _ _ h => ?_
    refine gg h rfl rfl c3 (o_lfv 5 rfl rfl t_sstep_Conn_Early rfl Per_sl t_y24) rfl fun v7 _ _ h => ?_
    have g9 := (len_at 0 rfl h.mem)
    refine gg h rfl rfl c3 (o_ln rfl (rd_at 0 rfl) t_v24) rfl fun _ _ _ h => ?_
    refine gg h rfl rfl c3 (o_bin rfl rfl rfl) rfl fun _ _ _ h => ?_
    refine gg h rfl rfl (nbF c2) (o_pickT rfl rfl c3) rfl fun _ _ _ h => ?_
    refine ga h (o_pickF rfl rfl c2) rfl fun h => ?_
    refine GoR.done ?_
    exact J2 (decide (4 ≤ (a1.Conn.Early.length : Int))) _ _ (som H).symm (h.wr [1, 5, 6])
   ·have H := ifF c3 H
    iterate 7 (refine gk h rfl rfl (nb_f c3) rfl fun _ h => ?_)
    refine gg h rfl rfl (nbF c2) (o_pickF rfl rfl c3) rfl fun _ _ _ h => ?_
    refine ga h (o_pickF rfl rfl c2) rfl fun h => ?_
    refine GoR.done ?_
    exact J2 false _ _ (som H).symm (h.wr [0, 4, 5])
 refine Go.seq ?_
 refine Go.reg ?_
 refine mv h rfl rfl fun h => ?_
 refine ga h (o_nilc rfl) rfl fun h => ?_
 refine ga h (o_fa rfl t_f75_0 rfl rfl) rfl fun h => ?_
 refine ga h (o_fa rfl t_f26_11 rfl rfl) rfl fun h => ?_
 have g2 := (in2 (fd_sub t_sstep_Conn_Want 4 rfl h.mem))
 refine ga h (o_lfx 4 rfl rfl t_sstep_Conn_Want rfl X_int t_y22) rfl fun h => ?_
 refine mv h rfl rfl fun h => ?_
 refine ga h (o_bin rfl rfl rfl) rfl fun h => ?_
 obtain ⟨y1, ey1, H⟩ := ltE H
 refine ga h (o_assign' rfl (congrArg (fun z => Value.int .u32 z) ey1)) rfl fun h => ?_
 refine GoR.done ?_
 refine Go.seq ?_
 refine Go.reg ?_
 refine mv h rfl rfl fun h => ?_
 refine ga h (o_conv rfl t_q22 t_u21) rfl fun h => ?_
 refine ga h (o_bin rfl rfl rfl) rfl fun h => ?_
 refine GoR.done ?_
 by_cases c1 : decide (0 < (IntKind.i32.wrap y1)) = true
 ·have H := ifT c1 H
  refine g_t h rfl c1 ?_
  replace h := h.wq [(0, pt b1), (6, .int .u32 y1), (4, (f1 1))] [Val (Kd.sl (Kd.int .u8)) (f1 1) a2.Data, Ent.pur (InR .u32 a2.Seq), Fld KSeg b2 0 a2, Val KSeg v1 a2, Fld Kstep b1 0 a1] [0, 1, 2, 3, 4]
  obtain ⟨x1, ex1, H⟩ := bindE H
  refine Go.draw (E := [(0, pt b1), (6, .int .u32 y1)]) [(4, (f1 1))] (L := [Val (Kd.sl (Kd.int .u8)) (f1 1) a2.Data, Ent.pur (InR .u32 a2.Seq), Fld KSeg b2 0 a2, Val KSeg v1 a2, Fld Kstep b1 0 a1]) h rfl rfl 13 [⟨[], [], [], false, .con ((f1 1)), none, fun u => [], [4]⟩, cn (.int .u32 y1), ce [1] (.int .i64 y1), ⟨[], [], [], false, .con ((f1 1)), none, fun u => [], [4]⟩, ce [3] (.int .i64 (a2.Data.length : Int)), ce [1, 2, 3, 4] (.int .i64 (min y1 (a2.Data.length : Int))), cw [0, 1, 2, 3, 4, 5] [] [] fun u => [Val (Kd.sl (Kd.int .u8)) u x1], cn (pt b1), ce [7] (pt b1), ce [7, 8] (pt b1), ce [7, 8, 9] (.pointer (some ⟨b1, 11, none⟩)), cm [7, 8, 9, 10] [] [] (.int .u32 a1.Conn.Want) fun u => [Ent.pur (InR .u32 a1.Conn.Want)], ⟨[0, 1, 2, 3, 4, 5, 6], [], [], false, .fn (fun u => u) 6, none, fun u => [], []⟩] rfl t_mxo (by kernel_rfl) (by rfl) ?_ fun f2 _ _ h => ?_
  ·exact ox rfl (o_move rfl) (ox rfl (o_move rfl) (ox rfl (o_convw rfl t_q22 t_u3 (ey1 ▸ (wrap_in _ _)) rfl) (ox rfl (o_move rfl) (ox rfl (o_ln rfl (rd_at 0 rfl) t_v23) (ox rfl (o_min rfl rfl) (oy rfl (o_cutl rfl (pv_at Per_sl 0 rfl) rfl ex1 t_v23) (ox rfl (o_move rfl) (ox rfl (o_nilc rfl) (ox rfl (o_fa rfl t_f75_0 rfl rfl) (ox rfl (o_fa rfl t_f26_11 rfl rfl) (ox rfl (OpS.pur (fun F w m_ => (in2 (fd_sub t_sstep_Conn_Want 4 rfl m_))) (o_lfx (K := Kstep) (pr := fun x => x.Conn.Want) (y := a1) 4 rfl rfl t_sstep_Conn_Want rfl X_int t_y22)) (obs_cons (ob_fn rfl (gok_none rfl) rfl fun f2 => (o_assign rfl)) (obs_nil)))))))))))))
  replace h := h.wk (E' := [(0, pt b1), (33, .int .u32 a1.Conn.Want), (4, (f2 6))]) (L' := [Val (Kd.sl (Kd.int .u8)) (f2 6) x1, Ent.pur (InR .u32 a1.Conn.Want), Val (Kd.sl (Kd.int .u8)) (f1 1) a2.Data, Ent.pur (InR .u32 a2.Seq), Fld KSeg b2 0 a2, Val KSeg v1 a2, Fld Kstep b1 0 a1]) (by kernel_rfl) [0, 1, 2, 3, 4, 5, 6] (by decide) (by kernel_rfl)
  have g3 := (Mem.pur 1 rfl h.mem)
  refine ga h (o_assign rfl) rfl fun h => ?_
  refine GoR.done ?_
  exact J1 (x1, a1.Conn.Want) (f2 6) _ _ (som H).symm g3 (h.wr [0, 4, 6])
 ·have H := ifF c1 H
  refine g_f h rfl c1 ?_
  refine Go.skip ?_
  exact J1 (a2.Data, a2.Seq) (f1 1) _ _ (som H).symm g1 (h.wr [0, 2, 4])
def splice_step_data.g (k_ : Nat) (a1 : Tstep) (a2 : TSeg) : Option (Tstep) :=
  (lt (IntKind.u32.wrap (a1.Conn.Want - a2.Seq)) fun y1 => (if decide (0 < (IntKind.i32.wrap y1)) = true then (cut a2.Data (min y1 (a2.Data.length : Int)) (a2.Data.length : Int)).bind fun x1 => some ((x1, a1.Conn.Want)) else some ((a2.Data, a2.Seq)))).bind (fun j1 => lt (IntKind.u32.wrap (j1.2 - a1.Conn.Want)) fun y2 => (splice_room.g k_ a1.Conn).bind fun r1 => (cut j1.1 0 (max 0 (min (j1.1.length : Int) (IntKind.i64.wrap (r1 - y2))))).bind fun x2 => ((if decide ((x2.length : Int) = 0) = true then some (true) else (if decide (0 < y2) = true then some (decide (4 ≤ (a1.Conn.Early.length : Int))) else some (false)))).bind (fun j2 => (if j2 = true then some (a1) else (slices_Clone_s_api_Early_api_Early.g k_ a1.Conn.Early).bind fun r2 => (slices_Clone_s_byte_byte.g k_ x2).bind fun r3 => (app r2 ([(⟨j1.2, r3⟩ : TEarly)] : List TEarly)).bind fun x3 => lt (⟨(⟨a1.Conn.Id, a1.Conn.Guest, a1.Conn.Gport, a1.Conn.Remote, a1.Conn.Rport, a1.Conn.Opening, a1.Conn.Up, a1.Conn.Done, a1.Conn.Begin, a1.Conn.Una, a1.Conn.Next, a1.Conn.Want, a1.Conn.Win, a1.Conn.Mss, a1.Conn.ToHost, a1.Conn.ToGuest, x3, a1.Conn.Fin, a1.Conn.Eof, a1.Conn.Shut, a1.Conn.At, a1.Conn.Wait, a1.Conn.Tries⟩ : TConn), a1.now, a1.segs, a1.calls, a1.gone⟩ : Tstep) fun y3 => (splice_step_drain.g k_ y3).bind fun r4 => some (r4))))
theorem splice_step_data.le (k_ : Nat) (a1 : Tstep) (a2 : TSeg) : Le (splice_step_data.g k_ a1 a2) (splice_step_data.f a1 a2) := by
 unfold splice_step_data.g splice_step_data.f
 repeat' (first | with_reducible refine le_loop fun _ => ?_ | with_reducible refine le_bind ?_ fun _ => ?_ | with_reducible refine le_ite ?_ ?_ | with_reducible refine le_lt fun _ => ?_ | with_reducible refine le_elim (fun _ => ?_) (fun _ => ?_) _ | with_reducible apply slices_Clone_s_api_Early_api_Early.le | with_reducible apply slices_Clone_s_byte_byte.le | with_reducible apply splice_room.le | with_reducible apply splice_step_drain.le | with_reducible exact le_refl _)
end Go.Proofs.Ytpcbhkigmnpimaa.S
