/- Contracts, printed by a program of this session. -/
import Derived.Test.YtpcbhkigmnpimaaT2
import Derived.Test.YtpcbhkigmnpimaaT3
import Derived.Test.YtpcbhkigmnpimaaT4
import Derived.Test.YtpcbhkigmnpimaaT7
namespace Go.Proofs.Ytpcbhkigmnpimaa.S
open Go Go.SL Go.RowKit
set_option linter.unusedVariables false
set_option linter.unusedSimpArgs false
/-! (*drawbridge/splice.step).acked -/
noncomputable def splice_step_acked.f (a1 : Tstep) (a2 : TSeg) : Option (Bool × Tstep) :=
  lt (IntKind.u32.wrap (a2.Ack - a1.Conn.Una)) fun y1 => (splice_step_flown.f a1).bind fun r1 => (if decide (r1 < y1) = true then (seg_Less.f a2.Ack a1.Conn.Una).bind fun r2 => (if r2 = true then some ((a1.Conn.Up, a1)) else (splice_step_ack.f a1).bind fun r3 => some ((false, r3))) else (((if decide (0 < y1) = true then some ((!a1.Conn.Up)) else some (false))).bind (fun j1 => (if j1 = true then lt (⟨(⟨a1.Conn.Id, a1.Conn.Guest, a1.Conn.Gport, a1.Conn.Remote, a1.Conn.Rport, a1.Conn.Opening, true, a1.Conn.Done, a1.Conn.Begin, a1.Conn.Una, a1.Conn.Next, a1.Conn.Want, a1.Conn.Win, a1.Conn.Mss, a1.Conn.ToHost, a1.Conn.ToGuest, a1.Conn.Early, a1.Conn.Fin, a1.Conn.Eof, a1.Conn.Shut, a1.Conn.At, a1.Conn.Wait, a1.Conn.Tries⟩ : TConn), a1.now, a1.segs, a1.calls, a1.gone⟩ : Tstep) fun y2 => lt (IntKind.i64.wrap (y1 - 1)) fun y3 => some ((y3, y2)) else some ((y1, a1))))).bind (fun j2 => ((if j2.2.Conn.Done = true then lt (⟨(⟨j2.2.Conn.Id, j2.2.Conn.Guest, j2.2.Conn.Gport, j2.2.Conn.Remote, j2.2.Conn.Rport, j2.2.Conn.Opening, j2.2.Conn.Up, true, j2.2.Conn.Begin, j2.2.Conn.Una, j2.2.Conn.Next, j2.2.Conn.Want, j2.2.Conn.Win, j2.2.Conn.Mss, j2.2.Conn.ToHost, j2.2.Conn.ToGuest, j2.2.Conn.Early, j2.2.Conn.Fin, j2.2.Conn.Eof, j2.2.Conn.Shut, j2.2.Conn.At, j2.2.Conn.Wait, j2.2.Conn.Tries⟩ : TConn), j2.2.now, j2.2.segs, j2.2.calls, j2.2.gone⟩ : Tstep) fun y4 => some (y4) else lt (⟨(⟨j2.2.Conn.Id, j2.2.Conn.Guest, j2.2.Conn.Gport, j2.2.Conn.Remote, j2.2.Conn.Rport, j2.2.Conn.Opening, j2.2.Conn.Up, decide ((j2.2.Conn.ToGuest.length : Int) < j2.1), j2.2.Conn.Begin, j2.2.Conn.Una, j2.2.Conn.Next, j2.2.Conn.Want, j2.2.Conn.Win, j2.2.Conn.Mss, j2.2.Conn.ToHost, j2.2.Conn.ToGuest, j2.2.Conn.Early, j2.2.Conn.Fin, j2.2.Conn.Eof, j2.2.Conn.Shut, j2.2.Conn.At, j2.2.Conn.Wait, j2.2.Conn.Tries⟩ : TConn), j2.2.now, j2.2.segs, j2.2.calls, j2.2.gone⟩ : Tstep) fun y5 => some (y5))).bind (fun j3 => (cut j3.Conn.ToGuest (min j2.1 (j3.Conn.ToGuest.length : Int)) (j3.Conn.ToGuest.length : Int)).bind fun x1 => (slices_Clone_s_byte_byte.f x1).bind fun r4 => lt (⟨(⟨j3.Conn.Id, j3.Conn.Guest, j3.Conn.Gport, j3.Conn.Remote, j3.Conn.Rport, j3.Conn.Opening, j3.Conn.Up, j3.Conn.Done, j3.Conn.Begin, j3.Conn.Una, j3.Conn.Next, j3.Conn.Want, j3.Conn.Win, j3.Conn.Mss, j3.Conn.ToHost, r4, j3.Conn.Early, j3.Conn.Fin, j3.Conn.Eof, j3.Conn.Shut, j3.Conn.At, j3.Conn.Wait, j3.Conn.Tries⟩ : TConn), j3.now, j3.segs, j3.calls, j3.gone⟩ : Tstep) fun y6 => lt (⟨(⟨y6.Conn.Id, y6.Conn.Guest, y6.Conn.Gport, y6.Conn.Remote, y6.Conn.Rport, y6.Conn.Opening, y6.Conn.Up, y6.Conn.Done, y6.Conn.Begin, a2.Ack, y6.Conn.Next, y6.Conn.Want, a2.Win, y6.Conn.Mss, y6.Conn.ToHost, y6.Conn.ToGuest, y6.Conn.Early, y6.Conn.Fin, y6.Conn.Eof, y6.Conn.Shut, y6.Conn.At, y6.Conn.Wait, y6.Conn.Tries⟩ : TConn), y6.now, y6.segs, y6.calls, y6.gone⟩ : Tstep) fun y7 => ((if decide (0 < y1) = true then lt (⟨(⟨y7.Conn.Id, y7.Conn.Guest, y7.Conn.Gport, y7.Conn.Remote, y7.Conn.Rport, y7.Conn.Opening, y7.Conn.Up, y7.Conn.Done, y7.Conn.Begin, y7.Conn.Una, y7.Conn.Next, y7.Conn.Want, y7.Conn.Win, y7.Conn.Mss, y7.Conn.ToHost, y7.Conn.ToGuest, y7.Conn.Early, y7.Conn.Fin, y7.Conn.Eof, y7.Conn.Shut, y7.Conn.At, y7.Conn.Wait, 0⟩ : TConn), y7.now, y7.segs, y7.calls, y7.gone⟩ : Tstep) fun y8 => (splice_step_arm.f y8).bind fun r5 => (splice_step_flown.f r5).bind fun r6 => (if decide (r6 = 0) = true then lt (⟨(⟨r5.Conn.Id, r5.Conn.Guest, r5.Conn.Gport, r5.Conn.Remote, r5.Conn.Rport, r5.Conn.Opening, r5.Conn.Up, r5.Conn.Done, r5.Conn.Begin, r5.Conn.Una, r5.Conn.Next, r5.Conn.Want, r5.Conn.Win, r5.Conn.Mss, r5.Conn.ToHost, r5.Conn.ToGuest, r5.Conn.Early, r5.Conn.Fin, r5.Conn.Eof, r5.Conn.Shut, 0, r5.Conn.Wait, r5.Conn.Tries⟩ : TConn), r5.now, r5.segs, r5.calls, r5.gone⟩ : Tstep) fun y9 => some (y9) else some (r5)) else some (y7))).bind (fun j4 => some ((j4.Conn.Up, j4))))))
set_option maxRecDepth 100000 in
set_option maxHeartbeats 4000000 in
theorem splice_step_acked.spc (b1 : Nat) (a1 : Tstep) (v1 : Value) (a2 : TSeg) (r : Bool × Tstep) (H : splice_step_acked.f a1 a2 = some r) : Spc Try.prog 51 [pt b1, v1] [Val KSeg v1 a2] [Fld Kstep b1 0 a1] (fun (s : Unit) => .bool r.1) (fun s => [Fld Kstep b1 0 r.2]) := by
 unfold splice_step_acked.f at H
 refine Spc.go Try.func51 rfl (by kernel_rfl) rfl rfl (all_cons (Val.per PSeg) all_nil) fun F a w h => ?_
 refine Go.seq ?_
 refine Go.reg ?_
 refine gs h (o_box (K := KSeg) rfl (pv_at PSeg 0 rfl)) rfl fun b2 _ _ h => ?_
 refine ga h (o_assign rfl) rfl fun h => ?_
 refine GoR.done ?_
 refine Go.seq ?_
 replace h := h.wq [(0, pt b1), (3, pt b2), (4, .bool false)] [Fld KSeg b2 0 a2, Val KSeg v1 a2, Fld Kstep b1 0 a1] [0, 1, 2]
 refine Go.draw (E := [(0, pt b1), (3, pt b2), (4, .bool false)]) [] (L := [Fld KSeg b2 0 a2, Val KSeg v1 a2, Fld Kstep b1 0 a1]) h rfl rfl 7 [cn (.pointer (some ⟨b2, 3, none⟩)), cm [0] [] [] (.int .u32 a2.Ack) fun u => [Ent.pur (InR .u32 a2.Ack)], cn (pt b1), ce [2] (pt b1), ce [2, 3] (pt b1), ce [2, 3, 4] (.pointer (some ⟨b1, 9, none⟩)), cm [2, 3, 4, 5] [] [] (.int .u32 a1.Conn.Una) fun u => [Ent.pur (InR .u32 a1.Conn.Una)]] rfl t_mxo (by kernel_rfl) (by rfl) ?_ fun f1 _ _ h => ?_
 ·exact ox rfl (o_fa rfl t_f30_3 rfl rfl) (ox rfl (OpS.pur (fun F w m_ => (in2 (fd_sub sSeg_Ack 0 rfl m_))) (o_lfx 0 rfl rfl sSeg_Ack rfl X_int t_y22)) (ox rfl (o_move rfl) (ox rfl (o_nilc rfl) (ox rfl (o_fa rfl t_f75_0 rfl rfl) (ox rfl (o_fa rfl t_f26_9 rfl rfl) (ox rfl (OpS.pur (fun F w m_ => (in2 (fd_sub t_sstep_Conn_Una 2 rfl m_))) (o_lfx (K := Kstep) (pr := fun x => x.Conn.Una) (y := a1) 2 rfl rfl t_sstep_Conn_Una rfl X_int t_y22)) (obs_nil)))))))
 replace h := h.wk (E' := [(0, pt b1), (3, pt b2), (4, .bool false), (8, .int .u32 a2.Ack), (13, .int .u32 a1.Conn.Una)]) (L' := [Ent.pur (InR .u32 a2.Ack), Ent.pur (InR .u32 a1.Conn.Una), Fld KSeg b2 0 a2, Val KSeg v1 a2, Fld Kstep b1 0 a1]) (by kernel_rfl) [0, 1, 2, 3, 4] (by decide) (by kernel_rfl)
 have g1 := (Mem.pur 0 rfl h.mem)
 have g2 := (Mem.pur 1 rfl h.mem)
 refine ga h (o_bin rfl rfl rfl) rfl fun h => ?_
 obtain ⟨y1, ey1, H⟩ := ltE H
 refine ga h (o_assign' rfl (congrArg (fun z => Value.int .u32 z) ey1)) rfl fun h => ?_
 refine GoR.done ?_
 refine Go.seq ?_
 refine Go.seq ?_
 refine Go.reg ?_
 refine mv h rfl rfl fun h => ?_
 refine ga h (o_convw rfl t_q22 t_u3 (ey1 ▸ (wrap_in _ _)) rfl) rfl fun h => ?_
 refine mv h rfl rfl fun h => ?_
 obtain ⟨r1, er1, H⟩ := bindE H
 refine ga h (OpS.lend (Lp := [Pfl KstepR b1 0 a1]) (lent_cons (lent_fld (show RO Kstep KstepR from ro_iso (ro_pair (ro_per PConn) (ro_pair (ro_per Per_int) (ro_pair ro_osl (ro_pair ro_osl (ro_last (ro_per Per_bool))))))) 4 rfl) lent_nil) (o_call (splice_step_flown.spc b1 a1 r1 er1) rfl [0] [] (by decide) rfl rfl) (fun _ => (clo_cons cl_pur clo_nil))) rfl fun h => ?_
 have g3 := h.mem.pur 0 rfl
 refine ga h (o_bin rfl rfl rfl) rfl fun h => ?_
 refine GoR.done ?_
 by_cases c1 : decide (r1 < y1) = true
 ·have H := ifT c1 H
  refine g_t h rfl c1 ?_
  refine Go.seq ?_
  refine Go.seq ?_
  replace h := h.wq [(0, pt b1), (3, pt b2), (4, .bool false)] [Ent.pur (InR .i64 r1), Ent.pur (InR .u32 a2.Ack), Ent.pur (InR .u32 a1.Conn.Una), Fld KSeg b2 0 a2, Val KSeg v1 a2, Fld Kstep b1 0 a1] [0, 1, 2, 3, 4, 5]
  refine Go.draw (E := [(0, pt b1), (3, pt b2), (4, .bool false)]) [] (L := [Ent.pur (InR .i64 r1), Ent.pur (InR .u32 a2.Ack), Ent.pur (InR .u32 a1.Conn.Una), Fld KSeg b2 0 a2, Val KSeg v1 a2, Fld Kstep b1 0 a1]) h rfl rfl 7 [cn (.pointer (some ⟨b2, 3, none⟩)), cm [0] [] [] (.int .u32 a2.Ack) fun u => [Ent.pur (InR .u32 a2.Ack)], cn (pt b1), ce [2] (pt b1), ce [2, 3] (pt b1), ce [2, 3, 4] (.pointer (some ⟨b1, 9, none⟩)), cm [2, 3, 4, 5] [] [] (.int .u32 a1.Conn.Una) fun u => [Ent.pur (InR .u32 a1.Conn.Una)]] rfl t_mxo (by kernel_rfl) (by rfl) ?_ fun f2 _ _ h => ?_
  ·exact ox rfl (o_fa rfl t_f30_3 rfl rfl) (ox rfl (OpS.pur (fun F w m_ => (in2 (fd_sub sSeg_Ack 3 rfl m_))) (o_lfx 3 rfl rfl sSeg_Ack rfl X_int t_y22)) (ox rfl (o_move rfl) (ox rfl (o_nilc rfl) (ox rfl (o_fa rfl t_f75_0 rfl rfl) (ox rfl (o_fa rfl t_f26_9 rfl rfl) (ox rfl (OpS.pur (fun F w m_ => (in2 (fd_sub t_sstep_Conn_Una 5 rfl m_))) (o_lfx (K := Kstep) (pr := fun x => x.Conn.Una) (y := a1) 5 rfl rfl t_sstep_Conn_Una rfl X_int t_y22)) (obs_nil)))))))
  replace h := h.wk (E' := [(0, pt b1), (4, .bool false), (21, .int .u32 a2.Ack), (26, .int .u32 a1.Conn.Una)]) (L' := [Ent.pur (InR .u32 a2.Ack), Ent.pur (InR .u32 a1.Conn.Una), Ent.pur (InR .i64 r1), Ent.pur (InR .u32 a2.Ack), Ent.pur (InR .u32 a1.Conn.Una), Fld KSeg b2 0 a2, Val KSeg v1 a2, Fld Kstep b1 0 a1]) (by kernel_rfl) [0, 1, 2, 3, 4, 5, 6, 7] (by decide) (by kernel_rfl)
  have g4 := (Mem.pur 0 rfl h.mem)
  have g5 := (Mem.pur 1 rfl h.mem)
  obtain ⟨r2, er2, H⟩ := bindE H
  refine ga h (o_call (seg_Less.spc a2.Ack g4 a1.Conn.Una g5 r2 er2) rfl [] [] (by decide) rfl rfl) rfl fun h => ?_
  refine GoR.done ?_
  by_cases c2 : r2 = true
  ·have H := ifT c2 H
   refine g_t h rfl c2 ?_
   refine Go.seq ?_
   refine Go.reg ?_
   refine mv h rfl rfl fun h => ?_
   refine ga h (o_nilc rfl) rfl fun h => ?_
   refine ga h (o_fa rfl t_f75_0 rfl rfl) rfl fun h => ?_
   refine ga h (o_fa rfl t_f26_6 rfl rfl) rfl fun h => ?_
   refine ga h (o_lfx 7 rfl rfl t_sstep_Conn_Up rfl X_bool t_y4) rfl fun h => ?_
   refine ga h (o_assign rfl) rfl fun h => ?_
   refine GoR.done ?_
   rw [← som H]
   exact g_ret (vs := [.bool a1.Conn.Up]) h Try.func51 ⟨rfl, trivial⟩ ⟨(), rfl, (h.mem.pick [7] (by decide) rfl)⟩
  ·have H := ifF c2 H
   refine g_f h rfl c2 ?_
   refine Go.skip ?_
   refine Go.seq ?_
   refine Go.reg ?_
   refine mv h rfl rfl fun h => ?_
   obtain ⟨r3, er3, H⟩ := bindE H
   refine ga h (o_call (splice_step_ack.spc b1 a1 r3 er3) rfl [] [7] (by decide) rfl rfl) rfl fun h => ?_
   refine GoR.done ?_
   refine Go.seq ?_
   refine Go.reg ?_
   refine ga h (o_assign rfl) rfl fun h => ?_
   refine GoR.done ?_
   rw [← som H]
   exact g_ret (vs := [.bool false]) h Try.func51 ⟨rfl, trivial⟩ ⟨(), rfl, (h.mem.pick [0] (by decide) rfl)⟩
 ·have H := ifF c1 H
  refine g_f h rfl c1 ?_
  refine Go.skip ?_
  refine Go.seq ?_
  refine Go.reg ?_
  refine mv h rfl rfl fun h => ?_
  refine ga h (o_convw rfl t_q22 t_u3 (ey1 ▸ (wrap_in _ _)) rfl) rfl fun h => ?_
  refine ga h (o_assign rfl) rfl fun h => ?_
  refine GoR.done ?_
  refine Go.seq ?_
  obtain ⟨o1, H, G1⟩ := bindE H
  refine g_cut (fun G => ∀ j2 (a : Act) (w : World), o1 = j2 → InR .i64 j2.1 → St Try.f51.ntmps F [(0, pt b1), (3, pt b2), (5, .int .u32 y1), (6, .int .i64 j2.1)] [Fld KSeg b2 0 a2, Fld Kstep b1 0 j2.2] a w → G a w) 1 ?_ fun J2 => ?_
  ·intro j2 a w ho_ g6 h
   rw [ho_] at G1
   have H := G1
   refine Go.seq ?_
   obtain ⟨o3, H, G3⟩ := bindE H
   refine g_cut (fun G => ∀ j3 (a : Act) (w : World), o3 = j3 → St Try.f51.ntmps F [(0, pt b1), (3, pt b2), (5, .int .u32 y1), (6, .int .i64 j2.1)] [Fld KSeg b2 0 a2, Fld Kstep b1 0 j3] a w → G a w) 1 ?_ fun J3 => ?_
   ·intro j3 a w ho_ h
    rw [ho_] at G3
    have H := G3
    refine Go.seq ?_
    replace h := h.wq [(0, pt b1), (3, pt b2), (5, .int .u32 y1), (6, .int .i64 j2.1)] [Fld KSeg b2 0 a2, Fld Kstep b1 0 j3] [0, 1]
    obtain ⟨x1, ex1, H⟩ := bindE H
    obtain ⟨r4, er4, H⟩ := bindE H
    refine Go.draw (E := [(0, pt b1), (3, pt b2), (5, .int .u32 y1), (6, .int .i64 j2.1)]) [] (L := [Fld KSeg b2 0 a2, Fld Kstep b1 0 j3]) h rfl rfl 16 [cn (pt b1), cn (pt b1), ce [1] (pt b1), ce [1, 2] (pt b1), ce [1, 2, 3] (.pointer (some ⟨b1, 15, none⟩)), cw [1, 2, 3, 4] [] [] fun u => [Val (Kd.sl (Kd.int .u8)) u j3.Conn.ToGuest], cn (.int .i64 j2.1), cn (pt b1), ce [7] (pt b1), ce [7, 8] (pt b1), ce [7, 8, 9] (.pointer (some ⟨b1, 15, none⟩)), cw [7, 8, 9, 10] [] [] fun u => [Val (Kd.sl (Kd.int .u8)) u j3.Conn.ToGuest], cm [7, 8, 9, 10, 11] [11] [] (.int .i64 (j3.Conn.ToGuest.length : Int)) fun u => [], ce [6, 7, 8, 9, 10, 11, 12] (.int .i64 (min j2.1 (j3.Conn.ToGuest.length : Int))), cw [1, 2, 3, 4, 5, 6, 7, 8, 9, 10, 11, 12, 13] [5] [] fun u => [Val (Kd.sl (Kd.int .u8)) u x1], cw [1, 2, 3, 4, 5, 6, 7, 8, 9, 10, 11, 12, 13, 14] [14] [] fun u => [Val (Kd.osl (Kd.int .u8)) u r4]] rfl t_mxo (by kernel_rfl) (by rfl) ?_ fun f3 _ _ h => ?_
    ·exact ox rfl (o_move rfl) (ox rfl (o_move rfl) (ox rfl (o_nilc rfl) (ox rfl (o_fa rfl t_f75_0 rfl rfl) (ox rfl (o_fa rfl t_f26_15 rfl rfl) (oy rfl (o_lfv (K := Kstep) (pr := fun x => x.Conn.ToGuest) (y := j3) 1 rfl rfl t_sstep_Conn_ToGuest rfl Per_sl t_y23) (ox rfl (o_move rfl) (ox rfl (o_move rfl) (ox rfl (o_nilc rfl) (ox rfl (o_fa rfl t_f75_0 rfl rfl) (ox rfl (o_fa rfl t_f26_15 rfl rfl) (oy rfl (o_lfv (K := Kstep) (pr := fun x => x.Conn.ToGuest) (y := j3) 1 rfl rfl t_sstep_Conn_ToGuest rfl Per_sl t_y23) (ox rfl (o_ln rfl (rd_at 0 rfl) t_v23) (ox rfl (o_min rfl rfl) (oy rfl (o_cutl rfl (pv_at Per_sl 0 rfl) rfl ex1 t_v23) (ow rfl rfl rfl (fun f3 => (o_call (slices_Clone_s_byte_byte.spc (f3 14) x1 r4 er4) rfl [0] [] (by decide) rfl rfl)) (obs_nil))))))))))))))))
    replace h := h.wk (E' := [(0, pt b1), (3, pt b2), (5, .int .u32 y1), (72, pt b1), (87, (f3 15))]) (L' := [Val (Kd.sl (Kd.int .u8)) (f3 5) j3.Conn.ToGuest, Val (Kd.sl (Kd.int .u8)) (f3 11) j3.Conn.ToGuest, Val (Kd.sl (Kd.int .u8)) (f3 14) x1, Val (Kd.osl (Kd.int .u8)) (f3 15) r4, Fld KSeg b2 0 a2, Fld Kstep b1 0 j3]) (by kernel_rfl) [0, 1, 2, 3, 4, 5] (by decide) (by kernel_rfl)
    refine ga h (o_nilc rfl) rfl fun h => ?_
    refine ga h (o_fa rfl t_f75_0 rfl rfl) rfl fun h => ?_
    refine ga h (o_fa rfl t_f26_15 rfl rfl) rfl fun h => ?_
    replace h := h.mm fun m => m.freeze 3 rfl
    obtain ⟨y6, ey6, H⟩ := ltE H
    refine gs0 h (o_stp (x0 := j3) (y := r4) 5 t_ustep_15_1 rfl rfl rfl rfl (pv_at Per_sl 3 rfl) t_w23) fun _ _ _ h => ?_
    rw [ey6] at h
    refine GoR.done ?_
    refine Go.seq ?_
    replace h := h.wq [(0, pt b1), (3, pt b2), (5, .int .u32 y1)] [Fld Kstep b1 0 y6, Val (Kd.sl (Kd.int .u8)) (f3 5) j3.Conn.ToGuest, Val (Kd.sl (Kd.int .u8)) (f3 11) j3.Conn.ToGuest, Val (Kd.sl (Kd.int .u8)) (f3 14) x1, Val (Kd.sl (Kd.int .u8)) (f3 15) r4, Fld KSeg b2 0 a2] [5, 0, 1, 2, 3, 4]
    refine Go.draw (E := [(0, pt b1), (3, pt b2), (5, .int .u32 y1)]) [] (L := [Val (Kd.sl (Kd.int .u8)) (f3 5) j3.Conn.ToGuest, Val (Kd.sl (Kd.int .u8)) (f3 11) j3.Conn.ToGuest, Val (Kd.sl (Kd.int .u8)) (f3 14) x1, Val (Kd.sl (Kd.int .u8)) (f3 15) r4, Fld KSeg b2 0 a2]) h rfl rfl 10 [cn (pt b1), cn (pt b1), cn (.pointer (some ⟨b2, 3, none⟩)), cm [2] [] [] (.int .u32 a2.Ack) fun u => [Ent.pur (InR .u32 a2.Ack)], cn (.pointer (some ⟨b2, 5, none⟩)), cm [4] [] [] (.int .i64 a2.Win) fun u => [Ent.pur (InR .i64 a2.Win)], ce [0] (pt b1), ce [0, 6] (pt b1), ce [0, 6, 7] (.pointer (some ⟨b1, 9, none⟩)), cm [0, 2, 3, 6, 7, 8] [10, 3] [10] (undef) fun u => [Fld Kstep b1 0 (⟨(⟨y6.Conn.Id, y6.Conn.Guest, y6.Conn.Gport, y6.Conn.Remote, y6.Conn.Rport, y6.Conn.Opening, y6.Conn.Up, y6.Conn.Done, y6.Conn.Begin, a2.Ack, y6.Conn.Next, y6.Conn.Want, y6.Conn.Win, y6.Conn.Mss, y6.Conn.ToHost, y6.Conn.ToGuest, y6.Conn.Early, y6.Conn.Fin, y6.Conn.Eof, y6.Conn.Shut, y6.Conn.At, y6.Conn.Wait, y6.Conn.Tries⟩ : TConn), y6.now, y6.segs, y6.calls, y6.gone⟩ : Tstep)], cm [] [] [] undef fun u => [Fld Kstep b1 0 y6]] rfl t_mxo (by kernel_rfl) (by rfl) ?_ fun f4 _ _ h => ?_
    ·exact ox rfl (o_move rfl) (ox rfl (o_move rfl) (ox rfl (o_fa rfl t_f30_3 rfl rfl) (ox rfl (OpS.pur (fun F w m_ => (in2 (fd_sub sSeg_Ack 4 rfl m_))) (o_lfx 4 rfl rfl sSeg_Ack rfl X_int t_y22)) (ox rfl (o_fa rfl t_f30_5 rfl rfl) (ox rfl (OpS.pur (fun F w m_ => (in2 (fd_sub sSeg_Win 4 rfl m_))) (o_lfx 4 rfl rfl sSeg_Win rfl X_int t_y3)) (ox rfl (o_nilc rfl) (ox rfl (o_fa rfl t_f75_0 rfl rfl) (ox rfl (o_fa rfl t_f26_9 rfl rfl) (ox rfl (OpS.fact (p := InR .u32 a2.Ack) (fun F w m_ => (Mem.pur 1 rfl m_)) fun g8 => (o_stp (x0 := y6) (y := a2.Ack) 0 t_ustep_9_1 rfl rfl rfl rfl (pv_int g8) t_w22)) (obs_nil))))))))))
    replace h := h.wk (E' := [(0, pt b1), (5, .int .u32 y1), (92, pt b1), (96, .int .i64 a2.Win)]) (L' := [Ent.pur (InR .u32 a2.Ack), Ent.pur (InR .i64 a2.Win), Fld Kstep b1 0 (⟨(⟨y6.Conn.Id, y6.Conn.Guest, y6.Conn.Gport, y6.Conn.Remote, y6.Conn.Rport, y6.Conn.Opening, y6.Conn.Up, y6.Conn.Done, y6.Conn.Begin, a2.Ack, y6.Conn.Next, y6.Conn.Want, y6.Conn.Win, y6.Conn.Mss, y6.Conn.ToHost, y6.Conn.ToGuest, y6.Conn.Early, y6.Conn.Fin, y6.Conn.Eof, y6.Conn.Shut, y6.Conn.At, y6.Conn.Wait, y6.Conn.Tries⟩ : TConn), y6.now, y6.segs, y6.calls, y6.gone⟩ : Tstep), Val (Kd.sl (Kd.int .u8)) (f3 5) j3.Conn.ToGuest, Val (Kd.sl (Kd.int .u8)) (f3 11) j3.Conn.ToGuest, Val (Kd.sl (Kd.int .u8)) (f3 14) x1, Val (Kd.sl (Kd.int .u8)) (f3 15) r4, Fld KSeg b2 0 a2]) (by kernel_rfl) [0, 1, 2, 3, 4, 5, 6, 7] (by decide) (by kernel_rfl)
    have g9 := (Mem.pur 1 rfl h.mem)
    refine ga h (o_nilc rfl) rfl fun h => ?_
    refine ga h (o_fa rfl t_f75_0 rfl rfl) rfl fun h => ?_
    refine ga h (o_fa rfl t_f26_12 rfl rfl) rfl fun h => ?_
    obtain ⟨y7, ey7, H⟩ := ltE H
    refine gs0 h (o_stp (x0 := (⟨(⟨y6.Conn.Id, y6.Conn.Guest, y6.Conn.Gport, y6.Conn.Remote, y6.Conn.Rport, y6.Conn.Opening, y6.Conn.Up, y6.Conn.Done, y6.Conn.Begin, a2.Ack, y6.Conn.Next, y6.Conn.Want, y6.Conn.Win, y6.Conn.Mss, y6.Conn.ToHost, y6.Conn.ToGuest, y6.Conn.Early, y6.Conn.Fin, y6.Conn.Eof, y6.Conn.Shut, y6.Conn.At, y6.Conn.Wait, y6.Conn.Tries⟩ : TConn), y6.now, y6.segs, y6.calls, y6.gone⟩ : Tstep)) (y := a2.Win) 2 t_ustep_12_1 rfl rfl rfl rfl (pv_int g9) t_w3) fun _ _ _ h => ?_
    rw [ey7] at h
    refine GoR.done ?_
    refine Go.seq ?_
    obtain ⟨o4, H, G4⟩ := bindE H
    refine g_cut (fun G => ∀ j4 (a : Act) (w : World), o4 = j4 → St Try.f51.ntmps F [(0, pt b1)] [Fld Kstep b1 0 j4, Fld KSeg b2 0 a2] a w → G a w) 1 ?_ fun J4 => ?_
    ·intro j4 a w ho_ h
     rw [ho_] at G4
     have H := G4
     refine Go.seq ?_
     refine Go.reg ?_
     refine mv h rfl rfl fun h => ?_
     refine ga h (o_nilc rfl) rfl fun h => ?_
     refine ga h (o_fa rfl t_f75_0 rfl rfl) rfl fun h => ?_
     refine ga h (o_fa rfl t_f26_6 rfl rfl) rfl fun h => ?_
     refine ga h (o_lfx 0 rfl rfl t_sstep_Conn_Up rfl X_bool t_y4) rfl fun h => ?_
     refine ga h (o_assign rfl) rfl fun h => ?_
     refine GoR.done ?_
     rw [← som H]
     exact g_ret (vs := [.bool j4.Conn.Up]) h Try.func51 ⟨rfl, trivial⟩ ⟨(), rfl, (h.mem.pick [0] (by decide) rfl)⟩
    refine Go.seq ?_
    refine Go.reg ?_
    refine mv h rfl rfl fun h => ?_
    refine ga h (o_bin rfl rfl rfl) rfl fun h => ?_
    refine GoR.done ?_
    by_cases c6 : decide (0 < y1) = true
    ·have H := ifT c6 H
     refine g_t h rfl c6 ?_
     refine Go.seq ?_
     refine Go.reg ?_
     refine mv h rfl rfl fun h => ?_
     refine ga h (o_nilc rfl) rfl fun h => ?_
     refine ga h (o_fa rfl t_f75_0 rfl rfl) rfl fun h => ?_
     refine ga h (o_fa rfl t_f26_22 rfl rfl) rfl fun h => ?_
     obtain ⟨y8, ey8, H⟩ := ltE H
     refine gs0 h (o_stp (x0 := y7) (y := 0) 2 t_ustep_22_1 rfl rfl rfl rfl (pv_int (show InR .i64 0 by decide)) t_w3) fun _ _ _ h => ?_
     rw [ey8] at h
     refine GoR.done ?_
     refine Go.seq ?_
     refine Go.reg ?_
     refine mv h rfl rfl fun h => ?_
     obtain ⟨r5, er5, H⟩ := bindE H
     refine ga h (o_call (splice_step_arm.spc b1 y8 r5 er5) rfl [] [2] (by decide) rfl rfl) rfl fun h => ?_
     refine GoR.done ?_
     refine Go.seq ?_
     refine Go.reg ?_
     refine mv h rfl rfl fun h => ?_
     obtain ⟨r6, er6, H⟩ := bindE H
     refine ga h (OpS.lend (Lp := [Pfl KstepR b1 0 r5]) (lent_cons (lent_fld (show RO Kstep KstepR from ro_iso (ro_pair (ro_per PConn) (ro_pair (ro_per Per_int) (ro_pair ro_osl (ro_pair ro_osl (ro_last (ro_per Per_bool))))))) 0 rfl) lent_nil) (o_call (splice_step_flown.spc b1 r5 r6 er6) rfl [0] [] (by decide) rfl rfl) (fun _ => (clo_cons cl_pur clo_nil))) rfl fun h => ?_
     have g10 := h.mem.pur 0 rfl
     refine ga h (o_bin rfl rfl rfl) rfl fun h => ?_
     refine GoR.done ?_
     by_cases c7 : decide (r6 = 0) = true
     ·have H := ifT c7 H
      refine g_t h rfl c7 ?_
      refine Go.reg ?_
      refine mv h rfl rfl fun h => ?_
      refine ga h (o_nilc rfl) rfl fun h => ?_
      refine ga h (o_fa rfl t_f75_0 rfl rfl) rfl fun h => ?_
      refine ga h (o_fa rfl t_f26_20 rfl rfl) rfl fun h => ?_
      obtain ⟨y9, ey9, H⟩ := ltE H
      refine gs0 h (o_stp (x0 := r5) (y := 0) 1 t_ustep_20_1 rfl rfl rfl rfl (pv_int (show InR .i64 0 by decide)) t_w3) fun _ _ _ h => ?_
      rw [ey9] at h
      refine GoR.done ?_
      exact J4 y9 _ _ (som H).symm (h.wr [1, 9])
     ·have H := ifF c7 H
      refine g_f h rfl c7 ?_
      refine Go.skip ?_
      exact J4 r5 _ _ (som H).symm (h.wr [1, 9])
    ·have H := ifF c6 H
     refine g_f h rfl c6 ?_
     refine Go.skip ?_
     exact J4 y7 _ _ (som H).symm (h.wr [2, 7])
   refine Go.reg ?_
   refine mv h rfl rfl fun h => ?_
   refine mv h rfl rfl fun h => ?_
   refine ga h (o_nilc rfl) rfl fun h => ?_
   refine ga h (o_fa rfl t_f75_0 rfl rfl) rfl fun h => ?_
   refine ga h (o_fa rfl t_f26_7 rfl rfl) rfl fun h => ?_
   refine ga h (o_lfx 1 rfl rfl t_sstep_Conn_Done rfl X_bool t_y4) rfl fun h => ?_
   refine mv h rfl rfl fun h => ?_
   by_cases c5 : j2.2.Conn.Done = true
   ·have H := ifT c5 H
    iterate 8 (refine gk h rfl rfl (nb_t c5) rfl fun _ h => ?_)
    refine ga h (o_pickT rfl rfl c5) rfl fun h => ?_
    refine ga h (o_nilc rfl) rfl fun h => ?_
    refine ga h (o_fa rfl t_f75_0 rfl rfl) rfl fun h => ?_
    refine ga h (o_fa rfl t_f26_7 rfl rfl) rfl fun h => ?_
    obtain ⟨y4, ey4, H⟩ := ltE H
    refine gs0 h (o_stp (x0 := j2.2) (y := true) 1 t_ustep_7_1 rfl rfl rfl rfl pv_bool t_w4) fun _ _ _ h => ?_
    rw [ey4] at h
    refine GoR.done ?_
    exact J3 y4 _ _ (som H).symm (h.wr [0, 1])
   ·have H := ifF c5 H
    refine gg h rfl rfl (nbF c5) (o_move rfl) rfl fun _ _ _ h => ?_
    refine gg h rfl rfl (nbF c5) (o_move rfl) rfl fun _ _ _ h => ?_
    refine gg h rfl rfl (nbF c5) (o_nilc rfl) rfl fun _ _ _ h => ?_
    refine gg h rfl rfl (nbF c5) (o_fa rfl t_f75_0 rfl rfl) rfl fun _ _ _ h => ?_
    refine gg h rfl rfl (nbF c5) (o_fa rfl t_f26_15 rfl rfl) rfl fun _ _ _ h => ?_
    refine gg h rfl rfl (nbF c5) (o_lfv 1 rfl rfl t_sstep_Conn_ToGuest rfl Per_sl t_y23) rfl fun v2 _ _ h => ?_
    have g7 := (len_at 0 rfl h.mem)
    refine gg h rfl rfl (nbF c5) (o_ln rfl (rd_at 0 rfl) t_v23) rfl fun _ _ _ h => ?_
    refine gg h rfl rfl (nbF c5) (o_bin rfl rfl rfl) rfl fun _ _ _ h => ?_
    refine ga h (o_pickF rfl rfl c5) rfl fun h => ?_
    refine ga h (o_nilc rfl) rfl fun h => ?_
    refine ga h (o_fa rfl t_f75_0 rfl rfl) rfl fun h => ?_
    refine ga h (o_fa rfl t_f26_7 rfl rfl) rfl fun h => ?_
    obtain ⟨y5, ey5, H⟩ := ltE H
    refine gs0 h (o_stp (x0 := j2.2) (y := decide ((j2.2.Conn.ToGuest.length : Int) < j2.1)) 2 t_ustep_7_1 rfl rfl rfl rfl pv_bool t_w4) fun _ _ _ h => ?_
    rw [ey5] at h
    refine GoR.done ?_
    exact J3 y5 _ _ (som H).symm (h.wr [1, 2])
  refine Go.seq ?_
  obtain ⟨o2, H, G2⟩ := bindE H
  refine g_cut (fun G => ∀ j1 (a : Act) (w : World), o2 = j1 → St Try.f51.ntmps F [(0, pt b1), (3, pt b2), (5, .int .u32 y1), (6, .int .i64 y1), (46, .bool j1)] [Fld KSeg b2 0 a2, Fld Kstep b1 0 a1] a w → G a w) 1 ?_ fun J1 => ?_
  ·intro j1 a w ho_ h
   rw [ho_] at G2
   have H := G2
   by_cases c4 : j1 = true
   ·have H := ifT c4 H
    refine g_t h rfl c4 ?_
    refine Go.seq ?_
    refine Go.reg ?_
    refine mv h rfl rfl fun h => ?_
    refine ga h (o_nilc rfl) rfl fun h => ?_
    refine ga h (o_fa rfl t_f75_0 rfl rfl) rfl fun h => ?_
    refine ga h (o_fa rfl t_f26_6 rfl rfl) rfl fun h => ?_
    obtain ⟨y2, ey2, H⟩ := ltE H
    refine gs0 h (o_stp (x0 := a1) (y := true) 1 t_ustep_6_1 rfl rfl rfl rfl pv_bool t_w4) fun _ _ _ h => ?_
    rw [ey2] at h
    refine GoR.done ?_
    refine Go.reg ?_
    refine mv h rfl rfl fun h => ?_
    refine ga h (o_bin rfl rfl rfl) rfl fun h => ?_
    obtain ⟨y3, ey3, H⟩ := ltE H
    refine ga h (o_assign' rfl (congrArg (fun z => Value.int .i64 z) ey3)) rfl fun h => ?_
    refine GoR.done ?_
    exact J2 (y3, y2) _ _ (som H).symm (ey3 ▸ (wrap_in _ _)) (h.wr [0, 1])
   ·have H := ifF c4 H
    refine g_f h rfl c4 ?_
    refine Go.skip ?_
    exact J2 (y1, a1) _ _ (som H).symm (inr_wid (k := .u32) (k' := .i64) (ey1 ▸ (wrap_in _ _)) rfl) (h.wr [0, 1])
  refine Go.reg ?_
  refine mv h rfl rfl fun h => ?_
  refine ga h (o_bin rfl rfl rfl) rfl fun h => ?_
  refine mv h rfl rfl fun h => ?_
  by_cases c3 : decide (0 < y1) = true
  ·have H := ifT c3 H
   refine gg h rfl rfl c3 (o_move rfl) rfl fun _ _ _ h => ?_
   refine gg h rfl rfl c3 (o_nilc rfl) rfl fun _ _ _ h => ?_
   refine gg h rfl rfl c3 (o_fa rfl t_f75_0 rfl rfl) rfl fun _ _ _ h => ?_
   refine gg h rfl rfl c3 (o_fa rfl t_f26_6 rfl rfl) rfl fun _ _ _ h => ?_
   refine gg h rfl rfl c3 (o_lfx 5 rfl rfl t_sstep_Conn_Up rfl X_bool t_y4) rfl fun _ _ _ h => ?_
   refine gg h rfl rfl c3 (o_not rfl) rfl fun _ _ _ h => ?_
   refine ga h (o_pickT rfl rfl c3) rfl fun h => ?_
   refine GoR.done ?_
   exact J1 (!a1.Conn.Up) _ _ (som H).symm (h.wr [3, 5])
  ·have H := ifF c3 H
   iterate 6 (refine gk h rfl rfl (nb_f c3) rfl fun _ h => ?_)
   refine ga h (o_pickF rfl rfl c3) rfl fun h => ?_
   refine GoR.done ?_
   exact J1 false _ _ (som H).symm (h.wr [3, 5])
def splice_step_acked.g (k_ : Nat) (a1 : Tstep) (a2 : TSeg) : Option (Bool × Tstep) :=
  lt (IntKind.u32.wrap (a2.Ack - a1.Conn.Una)) fun y1 => (splice_step_flown.g k_ a1).bind fun r1 => (if decide (r1 < y1) = true then (seg_Less.g k_ a2.Ack a1.Conn.Una).bind fun r2 => (if r2 = true then some ((a1.Conn.Up, a1)) else (splice_step_ack.g k_ a1).bind fun r3 => some ((false, r3))) else (((if decide (0 < y1) = true then some ((!a1.Conn.Up)) else some (false))).bind (fun j1 => (if j1 = true then lt (⟨(⟨a1.Conn.Id, a1.Conn.Guest, a1.Conn.Gport, a1.Conn.Remote, a1.Conn.Rport, a1.Conn.Opening, true, a1.Conn.Done, a1.Conn.Begin, a1.Conn.Una, a1.Conn.Next, a1.Conn.Want, a1.Conn.Win, a1.Conn.Mss, a1.Conn.ToHost, a1.Conn.ToGuest, a1.Conn.Early, a1.Conn.Fin, a1.Conn.Eof, a1.Conn.Shut, a1.Conn.At, a1.Conn.Wait, a1.Conn.Tries⟩ : TConn), a1.now, a1.segs, a1.calls, a1.gone⟩ : Tstep) fun y2 => lt (IntKind.i64.wrap (y1 - 1)) fun y3 => some ((y3, y2)) else some ((y1, a1))))).bind (fun j2 => ((if j2.2.Conn.Done = true then lt (⟨(⟨j2.2.Conn.Id, j2.2.Conn.Guest, j2.2.Conn.Gport, j2.2.Conn.Remote, j2.2.Conn.Rport, j2.2.Conn.Opening, j2.2.Conn.Up, true, j2.2.Conn.Begin, j2.2.Conn.Una, j2.2.Conn.Next, j2.2.Conn.Want, j2.2.Conn.Win, j2.2.Conn.Mss, j2.2.Conn.ToHost, j2.2.Conn.ToGuest, j2.2.Conn.Early, j2.2.Conn.Fin, j2.2.Conn.Eof, j2.2.Conn.Shut, j2.2.Conn.At, j2.2.Conn.Wait, j2.2.Conn.Tries⟩ : TConn), j2.2.now, j2.2.segs, j2.2.calls, j2.2.gone⟩ : Tstep) fun y4 => some (y4) else lt (⟨(⟨j2.2.Conn.Id, j2.2.Conn.Guest, j2.2.Conn.Gport, j2.2.Conn.Remote, j2.2.Conn.Rport, j2.2.Conn.Opening, j2.2.Conn.Up, decide ((j2.2.Conn.ToGuest.length : Int) < j2.1), j2.2.Conn.Begin, j2.2.Conn.Una, j2.2.Conn.Next, j2.2.Conn.Want, j2.2.Conn.Win, j2.2.Conn.Mss, j2.2.Conn.ToHost, j2.2.Conn.ToGuest, j2.2.Conn.Early, j2.2.Conn.Fin, j2.2.Conn.Eof, j2.2.Conn.Shut, j2.2.Conn.At, j2.2.Conn.Wait, j2.2.Conn.Tries⟩ : TConn), j2.2.now, j2.2.segs, j2.2.calls, j2.2.gone⟩ : Tstep) fun y5 => some (y5))).bind (fun j3 => (cut j3.Conn.ToGuest (min j2.1 (j3.Conn.ToGuest.length : Int)) (j3.Conn.ToGuest.length : Int)).bind fun x1 => (slices_Clone_s_byte_byte.g k_ x1).bind fun r4 => lt (⟨(⟨j3.Conn.Id, j3.Conn.Guest, j3.Conn.Gport, j3.Conn.Remote, j3.Conn.Rport, j3.Conn.Opening, j3.Conn.Up, j3.Conn.Done, j3.Conn.Begin, j3.Conn.Una, j3.Conn.Next, j3.Conn.Want, j3.Conn.Win, j3.Conn.Mss, j3.Conn.ToHost, r4, j3.Conn.Early, j3.Conn.Fin, j3.Conn.Eof, j3.Conn.Shut, j3.Conn.At, j3.Conn.Wait, j3.Conn.Tries⟩ : TConn), j3.now, j3.segs, j3.calls, j3.gone⟩ : Tstep) fun y6 => lt (⟨(⟨y6.Conn.Id, y6.Conn.Guest, y6.Conn.Gport, y6.Conn.Remote, y6.Conn.Rport, y6.Conn.Opening, y6.Conn.Up, y6.Conn.Done, y6.Conn.Begin, a2.Ack, y6.Conn.Next, y6.Conn.Want, a2.Win, y6.Conn.Mss, y6.Conn.ToHost, y6.Conn.ToGuest, y6.Conn.Early, y6.Conn.Fin, y6.Conn.Eof, y6.Conn.Shut, y6.Conn.At, y6.Conn.Wait, y6.Conn.Tries⟩ : TConn), y6.now, y6.segs, y6.calls, y6.gone⟩ : Tstep) fun y7 => ((if decide (0 < y1) = true then lt (⟨(⟨y7.Conn.Id, y7.Conn.Guest, y7.Conn.Gport, y7.Conn.Remote, y7.Conn.Rport, y7.Conn.Opening, y7.Conn.Up, y7.Conn.Done, y7.Conn.Begin, y7.Conn.Una, y7.Conn.Next, y7.Conn.Want, y7.Conn.Win, y7.Conn.Mss, y7.Conn.ToHost, y7.Conn.ToGuest, y7.Conn.Early, y7.Conn.Fin, y7.Conn.Eof, y7.Conn.Shut, y7.Conn.At, y7.Conn.Wait, 0⟩ : TConn), y7.now, y7.segs, y7.calls, y7.gone⟩ : Tstep) fun y8 => (splice_step_arm.g k_ y8).bind fun r5 => (splice_step_flown.g k_ r5).bind fun r6 => (if decide (r6 = 0) = true then lt (⟨(⟨r5.Conn.Id, r5.Conn.Guest, r5.Conn.Gport, r5.Conn.Remote, r5.Conn.Rport, r5.Conn.Opening, r5.Conn.Up, r5.Conn.Done, r5.Conn.Begin, r5.Conn.Una, r5.Conn.Next, r5.Conn.Want, r5.Conn.Win, r5.Conn.Mss, r5.Conn.ToHost, r5.Conn.ToGuest, r5.Conn.Early, r5.Conn.Fin, r5.Conn.Eof, r5.Conn.Shut, 0, r5.Conn.Wait, r5.Conn.Tries⟩ : TConn), r5.now, r5.segs, r5.calls, r5.gone⟩ : Tstep) fun y9 => some (y9) else some (r5)) else some (y7))).bind (fun j4 => some ((j4.Conn.Up, j4))))))
theorem splice_step_acked.le (k_ : Nat) (a1 : Tstep) (a2 : TSeg) : Le (splice_step_acked.g k_ a1 a2) (splice_step_acked.f a1 a2) := by
 unfold splice_step_acked.g splice_step_acked.f
 repeat' (first | with_reducible refine le_loop fun _ => ?_ | with_reducible refine le_bind ?_ fun _ => ?_ | with_reducible refine le_ite ?_ ?_ | with_reducible refine le_lt fun _ => ?_ | with_reducible refine le_elim (fun _ => ?_) (fun _ => ?_) _ | with_reducible apply seg_Less.le | with_reducible apply slices_Clone_s_byte_byte.le | with_reducible apply splice_step_ack.le | with_reducible apply splice_step_arm.le | with_reducible apply splice_step_flown.le | with_reducible exact le_refl _)
/-! slices.Clone[[]drawbridge/api.Early,drawbridge/api.Early] -/
noncomputable def slices_Clone_s_api_Early_api_Early.f (a1 : List TEarly) : Option ((List TEarly)) :=
  (app ([] : List TEarly) a1).bind fun x1 => some (x1)
set_option maxRecDepth 100000 in
set_option maxHeartbeats 4000000 in
theorem slices_Clone_s_api_Early_api_Early.spc (v1 : Value) (a1 : List TEarly) (r : (List TEarly)) (H : slices_Clone_s_api_Early_api_Early.f a1 = some r) : Spc Try.prog 66 [v1] [Val (Kd.sl KEarly) v1 a1] [] (fun (s : Value) => s) (fun s => [Val (Kd.osl KEarly) s r]) := by
 unfold slices_Clone_s_api_Early_api_Early.f at H
 refine Spc.go Try.func66 rfl (by kernel_rfl) rfl rfl (all_cons (Val.per Per_sl) all_nil) fun F a w h => ?_
 refine Go.seq ?_
 refine Go.reg ?_
 refine ga h (o_assign rfl) rfl fun h => ?_
 refine GoR.done ?_
 refine Go.seq ?_
 refine Go.seq ?_
 refine Go.reg ?_
 refine mv h rfl rfl fun h => ?_
 refine gs h (o_eqn rfl rfl (rd_at 0 rfl) t_v24) rfl fun t1 _ _ h => ?_
 refine GoR.done ?_
 by_cases c1 : t1 = true
 ·have q_ := h.mem.pur 0 rfl c1
  have H : (some ([])) = some r := by rw [q_] at H; simpa [app, app1] using H
  refine g_t h rfl c1 ?_
  refine Go.seq ?_
  refine Go.reg ?_
  refine ga h (o_assign rfl) rfl fun h => ?_
  refine GoR.done ?_
  replace h := h.mm fun m => m.nilo KEarly
  rw [← som H]
  exact g_ret (vs := [.slice none 0 0]) h Try.func66 ⟨rfl, trivial⟩ ⟨.slice none 0 0, rfl, (h.mem.pick [0] (by decide) rfl)⟩
 ·refine g_f h rfl c1 ?_
  refine Go.skip ?_
  refine Go.seq ?_
  refine Go.reg ?_
  refine gs h (o_bs (K := KEarly) (vs := []) (xs := ([] : List TEarly)) rfl rfl pvs_nil t_a24 (by decide) (by decide)) rfl fun v2 _ _ h => ?_
  refine mv h rfl rfl fun h => ?_
  obtain ⟨x1, ex1, H⟩ := bindE H
  refine gs h (o_app (K := KEarly) 0 rfl rfl rfl (rd_at 2 rfl) ex1 t_a24 t_n24) rfl fun v3 _ _ h => ?_
  refine ga h (o_assign rfl) rfl fun h => ?_
  refine GoR.done ?_
  rw [← som H]
  exact g_ret (vs := [v3]) h Try.func66 ⟨rfl, trivial⟩ ⟨v3, rfl, (h.mem.pick [0] (by decide) rfl)⟩
def slices_Clone_s_api_Early_api_Early.g (k_ : Nat) (a1 : List TEarly) : Option ((List TEarly)) :=
  (app ([] : List TEarly) a1).bind fun x1 => some (x1)
theorem slices_Clone_s_api_Early_api_Early.le (k_ : Nat) (a1 : List TEarly) : Le (slices_Clone_s_api_Early_api_Early.g k_ a1) (slices_Clone_s_api_Early_api_Early.f a1) := by
 unfold slices_Clone_s_api_Early_api_Early.g slices_Clone_s_api_Early_api_Early.f
 repeat' (first | with_reducible refine le_loop fun _ => ?_ | with_reducible refine le_bind ?_ fun _ => ?_ | with_reducible refine le_ite ?_ ?_ | with_reducible refine le_lt fun _ => ?_ | with_reducible refine le_elim (fun _ => ?_) (fun _ => ?_) _ | with_reducible exact le_refl _)
/-! (*drawbridge/splice.step).has -/
noncomputable def splice_step_has.f (a1 : Tstep) (a2 : TEarly) : Option (Bool) :=
  lt (decide ((IntKind.u32.wrap (a1.Conn.Want - a2.Seq)) < (IntKind.u32.wrap (a2.Data.length : Int)))) fun y1 => some (y1)
set_option maxRecDepth 100000 in
set_option maxHeartbeats 4000000 in
theorem splice_step_has.spc (b1 : Nat) (a1 : Tstep) (v1 : Value) (a2 : TEarly) (r : Bool) (H : splice_step_has.f a1 a2 = some r) : Spc Try.prog 68 [pt b1, v1] [Pfl KstepR b1 0 a1, Val KEarly v1 a2] [] (fun (s : Unit) => .bool r) (fun s => []) := by
 unfold splice_step_has.f at H
 refine Spc.go Try.func68 rfl (by kernel_rfl) rfl rfl (all_cons Per_pfl (all_cons (Val.per PEarly) all_nil)) fun F a w h => ?_
 refine Go.seq ?_
 refine Go.reg ?_
 refine gs h (o_box (K := KEarly) rfl (pv_at PEarly 1 rfl)) rfl fun b2 _ _ h => ?_
 refine ga h (o_assign rfl) rfl fun h => ?_
 refine GoR.done ?_
 refine Go.seq ?_
 replace h := h.wq [(0, pt b1), (3, pt b2), (4, .bool false)] [Fld KEarly b2 0 a2, Pfl KstepR b1 0 a1, Val KEarly v1 a2] [0, 1, 2]
 refine Go.draw (E := [(0, pt b1), (3, pt b2), (4, .bool false)]) [] (L := [Fld KEarly b2 0 a2, Pfl KstepR b1 0 a1, Val KEarly v1 a2]) h rfl rfl 12 [cn (pt b1), ce [0] (pt b1), ce [0, 1] (pt b1), ce [0, 1, 2] (.pointer (some ⟨b1, 11, none⟩)), cm [0, 1, 2, 3] [] [] (.int .u32 a1.Conn.Want) fun u => [Ent.pur (InR .u32 a1.Conn.Want)], cn (pt b2), cm [5] [] [] (.int .u32 a2.Seq) fun u => [Ent.pur (InR .u32 a2.Seq)], ce [0, 1, 2, 3, 4, 5, 6] (.int .u32 (IntKind.u32.wrap (a1.Conn.Want - a2.Seq))), cn (.pointer (some ⟨b2, 1, none⟩)), cw [8] [] [] fun u => [Val (Kd.sl (Kd.int .u8)) u a2.Data], cm [8, 9] [9] [] (.int .i64 (a2.Data.length : Int)) fun u => [], ce [8, 9, 10] (.int .u32 (IntKind.u32.wrap (a2.Data.length : Int)))] rfl t_mxo (by kernel_rfl) (by rfl) ?_ fun f1 _ _ h => ?_
 ·exact ox rfl (o_move rfl) (ox rfl (o_nilc rfl) (ox rfl (o_fa rfl t_f75_0 rfl rfl) (ox rfl (o_fa rfl t_f26_11 rfl rfl) (ox rfl (OpS.pur (fun F w m_ => (in2 (pf_sub t_sstepR_Conn_Want 1 rfl m_))) (p_lfx (K := KstepR) (pr := fun x => x.Conn.Want) (y := a1) 1 rfl rfl t_sstepR_Conn_Want rfl X_int t_y22)) (ox rfl (o_fa rfl t_f58_0 rfl rfl) (ox rfl (OpS.pur (fun F w m_ => (in2 (fd_sub sEarly_Seq 0 rfl m_))) (o_lfx 0 rfl rfl sEarly_Seq rfl X_int t_y22)) (ox rfl (o_bin rfl rfl rfl) (ox rfl (o_fa rfl t_f58_1 rfl rfl) (oy rfl (o_lfv 0 rfl rfl sEarly_Data rfl Per_sl t_y23) (ox rfl (o_ln rfl (rd_at 0 rfl) t_v23) (ox rfl (o_conv rfl t_q3 t_u22) (obs_nil))))))))))))
 replace h := h.wk (E' := [(4, .bool false), (12, .int .u32 (IntKind.u32.wrap (a1.Conn.Want - a2.Seq))), (16, .int .u32 (IntKind.u32.wrap (a2.Data.length : Int)))]) (L' := [Ent.pur (InR .u32 a1.Conn.Want), Ent.pur (InR .u32 a2.Seq), Val (Kd.sl (Kd.int .u8)) (f1 9) a2.Data, Fld KEarly b2 0 a2, Pfl KstepR b1 0 a1, Val KEarly v1 a2]) (by kernel_rfl) [0, 1, 2, 3, 4, 5] (by decide) (by kernel_rfl)
 refine ga h (o_bin rfl rfl rfl) rfl fun h => ?_
 obtain ⟨y1, ey1, H⟩ := ltE H
 refine ga h (o_assign' rfl (congrArg Value.bool ey1)) rfl fun h => ?_
 refine GoR.done ?_
 rw [← som H]
 exact g_ret (vs := [.bool y1]) h Try.func68 ⟨rfl, trivial⟩ ⟨(), rfl, (h.mem.pick [] (by decide) rfl)⟩
def splice_step_has.g (k_ : Nat) (a1 : Tstep) (a2 : TEarly) : Option (Bool) :=
  lt (decide ((IntKind.u32.wrap (a1.Conn.Want - a2.Seq)) < (IntKind.u32.wrap (a2.Data.length : Int)))) fun y1 => some (y1)
theorem splice_step_has.le (k_ : Nat) (a1 : Tstep) (a2 : TEarly) : Le (splice_step_has.g k_ a1 a2) (splice_step_has.f a1 a2) := by
 unfold splice_step_has.g splice_step_has.f
 repeat' (first | with_reducible refine le_loop fun _ => ?_ | with_reducible refine le_bind ?_ fun _ => ?_ | with_reducible refine le_ite ?_ ?_ | with_reducible refine le_lt fun _ => ?_ | with_reducible refine le_elim (fun _ => ?_) (fun _ => ?_) _ | with_reducible exact le_refl _)
/-! (*drawbridge/splice.step).past -/
noncomputable def splice_step_past.f (a1 : Tstep) (a2 : TEarly) : Option (Bool) :=
  (seg_Less.f a1.Conn.Want (IntKind.u32.wrap (a2.Seq + (IntKind.u32.wrap (a2.Data.length : Int))))).bind fun r1 => some ((!r1))
set_option maxRecDepth 100000 in
set_option maxHeartbeats 4000000 in
theorem splice_step_past.spc (b1 : Nat) (a1 : Tstep) (v1 : Value) (a2 : TEarly) (r : Bool) (H : splice_step_past.f a1 a2 = some r) : Spc Try.prog 70 [pt b1, v1] [Pfl KstepR b1 0 a1, Val KEarly v1 a2] [] (fun (s : Unit) => .bool r) (fun s => []) := by
 unfold splice_step_past.f at H
 refine Spc.go Try.func70 rfl (by kernel_rfl) rfl rfl (all_cons Per_pfl (all_cons (Val.per PEarly) all_nil)) fun F a w h => ?_
 refine Go.seq ?_
 refine Go.reg ?_
 refine gs h (o_box (K := KEarly) rfl (pv_at PEarly 1 rfl)) rfl fun b2 _ _ h => ?_
 refine ga h (o_assign rfl) rfl fun h => ?_
 refine GoR.done ?_
 refine Go.seq ?_
 replace h := h.wq [(0, pt b1), (3, pt b2), (4, .bool false)] [Fld KEarly b2 0 a2, Pfl KstepR b1 0 a1, Val KEarly v1 a2] [0, 1, 2]
 refine Go.draw (E := [(0, pt b1), (3, pt b2), (4, .bool false)]) [] (L := [Fld KEarly b2 0 a2, Pfl KstepR b1 0 a1, Val KEarly v1 a2]) h rfl rfl 12 [cn (pt b1), ce [0] (pt b1), ce [0, 1] (pt b1), ce [0, 1, 2] (.pointer (some ⟨b1, 11, none⟩)), cm [0, 1, 2, 3] [] [] (.int .u32 a1.Conn.Want) fun u => [Ent.pur (InR .u32 a1.Conn.Want)], cn (pt b2), cm [5] [] [] (.int .u32 a2.Seq) fun u => [Ent.pur (InR .u32 a2.Seq)], cn (.pointer (some ⟨b2, 1, none⟩)), cw [7] [] [] fun u => [Val (Kd.sl (Kd.int .u8)) u a2.Data], cm [7, 8] [8] [] (.int .i64 (a2.Data.length : Int)) fun u => [], ce [7, 8, 9] (.int .u32 (IntKind.u32.wrap (a2.Data.length : Int))), ce [5, 6, 7, 8, 9, 10] (.int .u32 (IntKind.u32.wrap (a2.Seq + (IntKind.u32.wrap (a2.Data.length : Int)))))] rfl t_mxo (by kernel_rfl) (by rfl) ?_ fun f1 _ _ h => ?_
 ·exact ox rfl (o_move rfl) (ox rfl (o_nilc rfl) (ox rfl (o_fa rfl t_f75_0 rfl rfl) (ox rfl (o_fa rfl t_f26_11 rfl rfl) (ox rfl (OpS.pur (fun F w m_ => (in2 (pf_sub t_sstepR_Conn_Want 1 rfl m_))) (p_lfx (K := KstepR) (pr := fun x => x.Conn.Want) (y := a1) 1 rfl rfl t_sstepR_Conn_Want rfl X_int t_y22)) (ox rfl (o_fa rfl t_f58_0 rfl rfl) (ox rfl (OpS.pur (fun F w m_ => (in2 (fd_sub sEarly_Seq 0 rfl m_))) (o_lfx 0 rfl rfl sEarly_Seq rfl X_int t_y22)) (ox rfl (o_fa rfl t_f58_1 rfl rfl) (oy rfl (o_lfv 0 rfl rfl sEarly_Data rfl Per_sl t_y23) (ox rfl (o_ln rfl (rd_at 0 rfl) t_v23) (ox rfl (o_conv rfl t_q3 t_u22) (ox rfl (o_bin rfl rfl rfl) (obs_nil))))))))))))
 replace h := h.wk (E' := [(4, .bool false), (9, .int .u32 a1.Conn.Want), (16, .int .u32 (IntKind.u32.wrap (a2.Seq + (IntKind.u32.wrap (a2.Data.length : Int)))))]) (L' := [Ent.pur (InR .u32 a1.Conn.Want), Ent.pur (InR .u32 a2.Seq), Val (Kd.sl (Kd.int .u8)) (f1 8) a2.Data, Fld KEarly b2 0 a2, Pfl KstepR b1 0 a1, Val KEarly v1 a2]) (by kernel_rfl) [0, 1, 2, 3, 4, 5] (by decide) (by kernel_rfl)
 have g1 := (Mem.pur 0 rfl h.mem)
 obtain ⟨r1, er1, H⟩ := bindE H
 refine ga h (o_call (seg_Less.spc a1.Conn.Want g1 (IntKind.u32.wrap (a2.Seq + (IntKind.u32.wrap (a2.Data.length : Int)))) (wrap_in _ _) r1 er1) rfl [] [] (by decide) rfl rfl) rfl fun h => ?_
 refine ga h (o_not rfl) rfl fun h => ?_
 refine ga h (o_assign rfl) rfl fun h => ?_
 refine GoR.done ?_
 rw [← som H]
 exact g_ret (vs := [.bool (!r1)]) h Try.func70 ⟨rfl, trivial⟩ ⟨(), rfl, (h.mem.pick [] (by decide) rfl)⟩
def splice_step_past.g (k_ : Nat) (a1 : Tstep) (a2 : TEarly) : Option (Bool) :=
  (seg_Less.g k_ a1.Conn.Want (IntKind.u32.wrap (a2.Seq + (IntKind.u32.wrap (a2.Data.length : Int))))).bind fun r1 => some ((!r1))
theorem splice_step_past.le (k_ : Nat) (a1 : Tstep) (a2 : TEarly) : Le (splice_step_past.g k_ a1 a2) (splice_step_past.f a1 a2) := by
 unfold splice_step_past.g splice_step_past.f
 repeat' (first | with_reducible refine le_loop fun _ => ?_ | with_reducible refine le_bind ?_ fun _ => ?_ | with_reducible refine le_ite ?_ ?_ | with_reducible refine le_lt fun _ => ?_ | with_reducible refine le_elim (fun _ => ?_) (fun _ => ?_) _ | with_reducible apply seg_Less.le | with_reducible exact le_refl _)
/-! slices.IndexFunc[[]drawbridge/api.Early,drawbridge/api.Early] -/
noncomputable def slices_IndexFunc_s_api_Early_api_Early_at_splice_step_has.f (a1 : List TEarly) (a2 : Tstep) : Option (Int) :=
  (loop (fun s1 => (if decide (s1 < (a1.length : Int)) = true then (idx a1 s1).bind fun x1 => (splice_step_has.f a2 x1).bind fun r1 => (if r1 = true then some (.inr (.inr (s1))) else some (.inl (IntKind.i64.wrap (s1 + 1)))) else some (.inr (.inl (()))))) 0).bind (Sum.elim (fun j1 => some ((-1))) (fun z_ => some (z_)))
set_option maxRecDepth 100000 in
set_option maxHeartbeats 4000000 in
theorem slices_IndexFunc_s_api_Early_api_Early_at_splice_step_has.spc (v1 : Value) (a1 : List TEarly) (b1 : Nat) (a2 : Tstep) (r : Int) (H : slices_IndexFunc_s_api_Early_api_Early_at_splice_step_has.f a1 a2 = some r) : Spc Try.prog 31 [v1, .func (.func 68) #[pt b1] #[]] [Val (Kd.sl KEarly) v1 a1, Pfl KstepR b1 0 a2] [] (fun (s : Unit) => .int .i64 r) (fun s => [Ent.pur (InR .i64 r)]) := by
 unfold slices_IndexFunc_s_api_Early_api_Early_at_splice_step_has.f at H
 refine Spc.go Try.func31 rfl (by kernel_rfl) rfl rfl (all_cons (Val.per Per_sl) (all_cons Per_pfl all_nil)) fun F a w h => ?_
 refine Go.seq ?_
 refine Go.reg ?_
 refine ga h (o_assign rfl) rfl fun h => ?_
 refine GoR.done ?_
 refine Go.seq ?_
 refine Go.seq ?_
 refine Go.reg ?_
 refine mv h rfl rfl fun h => ?_
 have g1 := (len_at 0 rfl h.mem)
 refine ga h (o_ln rfl (rd_at 0 rfl) t_v24) rfl fun h => ?_
 refine mv h rfl rfl fun h => ?_
 refine GoR.done ?_
 refine Go.block ?_
 obtain ⟨o1, hl, G1⟩ := bindE H
 refine g_cut (fun G => ∀ j1 (a : Act) (w : World), o1 = .inl (j1) → St Try.f31.ntmps F [] [Pfl KstepR b1 0 a2] a w → G a w) 2 ?_ fun J1 => ?_
 ·intro j1 a w ho_ h
  rw [ho_] at G1
  have H := eInl G1
  refine Go.seq ?_
  refine Go.reg ?_
  refine ga h (o_assign rfl) rfl fun h => ?_
  refine GoR.done ?_
  rw [← som H]
  exact g_ret (vs := [.int .i64 (-1)]) h Try.func31 ⟨rfl, trivial⟩ ⟨(), rfl, ((h.mem.pick [] (by decide) rfl).addpur (show InR .i64 (-1) by decide))⟩
 refine g_loop (fun s1 G => ∀  (a : Act) (w : World), InR .i64 s1 → St Try.f31.ntmps F [(0, v1), (1, .func (.func 68) #[pt b1] #[]), (7, .int .i64 (a1.length : Int)), (8, .int .i64 s1)] [Val (Kd.sl KEarly) v1 a1, Pfl KstepR b1 0 a2] a w → G a w) hl (fun s1 p1 H i1 => ?_) fun I_ => ?_
 ·intro  a w g2 h
  refine Go.seq ?_
  refine Go.reg ?_
  refine ga h (o_bin rfl rfl rfl) rfl fun h => ?_
  refine GoR.done ?_
  refine Go.seq ?_
  by_cases c1 : decide (s1 < (a1.length : Int)) = true
  ·have H := ifT c1 H
   refine g_t h rfl c1 ?_
   refine Go.skip ?_
   refine Go.seq ?_
   refine Go.block ?_
   refine Go.seq ?_
   refine Go.reg ?_
   refine mv h rfl rfl fun h => ?_
   refine ga h (o_assign rfl) rfl fun h => ?_
   refine GoR.done ?_
   refine Go.seq ?_
   refine Go.reg ?_
   iterate 3 (refine ga h (o_move rfl) rfl fun h => ?_)
   obtain ⟨x1, ex1, H⟩ := bindE H
   refine ga h (o_ix rfl rfl (rd_at 0 rfl) ex1 t_v24) rfl fun h => ?_
   refine gs h (o_lev rfl (rd_at 0 rfl) ex1 t_y58 (by decide)) rfl fun v2 _ _ h => ?_
   obtain ⟨r1, er1, H⟩ := bindE H
   refine ga h (o_callw (us := [pt b1]) (vs := [v2]) (caps := []) rfl rfl (splice_step_has.spc b1 a2 v2 x1 r1 er1) [2, 0] [] (by decide) rfl rfl) rfl fun h => ?_
   refine GoR.done ?_
   by_cases c2 : r1 = true
   ·have H := ifT c2 H
    refine g_t h rfl c2 ?_
    refine Go.seq ?_
    refine Go.reg ?_
    refine mv h rfl rfl fun h => ?_
    refine ga h (o_assign rfl) rfl fun h => ?_
    refine GoR.done ?_
    have e_ := som H; subst e_
    rw [← nx_out i1] at G1
    have H := G1
    rw [← som H]
    exact g_ret (vs := [.int .i64 s1]) h Try.func31 ⟨rfl, trivial⟩ ⟨(), rfl, ((h.mem.pick [] (by decide) rfl).addpur g2)⟩
   ·have H := ifF c2 H
    refine g_f h rfl c2 ?_
    refine Go.skip ?_
    refine Go.inBlock ?_
    refine Go.reg ?_
    refine ga h (o_bin rfl rfl rfl) rfl fun h => ?_
    refine mv h rfl rfl fun h => ?_
    refine GoR.done ?_
    have e_ := som H; subst e_
    exact Go.inLoop (nx_in i1 _ _ (wrap_in _ _) (h.wr [1, 2]))
  ·have H := ifF c1 H
   refine g_f h rfl c1 ?_
   refine Go.exit rfl ?_
   have e_ := som H; subst e_
   exact J1 () _ _ (nx_out i1).symm (h.wr [1])
 ·exact I_ _ _ (show InR .i64 0 by decide) (h.wr [0, 1])
def slices_IndexFunc_s_api_Early_api_Early_at_splice_step_has.g (k_ : Nat) (a1 : List TEarly) (a2 : Tstep) : Option (Int) :=
  (loopK k_ (fun s1 => (if decide (s1 < (a1.length : Int)) = true then (idx a1 s1).bind fun x1 => (splice_step_has.g k_ a2 x1).bind fun r1 => (if r1 = true then some (.inr (.inr (s1))) else some (.inl (IntKind.i64.wrap (s1 + 1)))) else some (.inr (.inl (()))))) 0).bind (Sum.elim (fun j1 => some ((-1))) (fun z_ => some (z_)))
theorem slices_IndexFunc_s_api_Early_api_Early_at_splice_step_has.le (k_ : Nat) (a1 : List TEarly) (a2 : Tstep) : Le (slices_IndexFunc_s_api_Early_api_Early_at_splice_step_has.g k_ a1 a2) (slices_IndexFunc_s_api_Early_api_Early_at_splice_step_has.f a1 a2) := by
 unfold slices_IndexFunc_s_api_Early_api_Early_at_splice_step_has.g slices_IndexFunc_s_api_Early_api_Early_at_splice_step_has.f
 repeat' (first | with_reducible refine le_loop fun _ => ?_ | with_reducible refine le_bind ?_ fun _ => ?_ | with_reducible refine le_ite ?_ ?_ | with_reducible refine le_lt fun _ => ?_ | with_reducible refine le_elim (fun _ => ?_) (fun _ => ?_) _ | with_reducible apply splice_step_has.le | with_reducible exact le_refl _)
/-! slices.IndexFunc[[]drawbridge/api.Early,drawbridge/api.Early] -/
noncomputable def slices_IndexFunc_s_api_Early_api_Early_at_splice_step_past.f (a1 : List TEarly) (a2 : Tstep) : Option (Int) :=
  (loop (fun s1 => (if decide (s1 < (a1.length : Int)) = true then (idx a1 s1).bind fun x1 => (splice_step_past.f a2 x1).bind fun r1 => (if r1 = true then some (.inr (.inr (s1))) else some (.inl (IntKind.i64.wrap (s1 + 1)))) else some (.inr (.inl (()))))) 0).bind (Sum.elim (fun j1 => some ((-1))) (fun z_ => some (z_)))
set_option maxRecDepth 100000 in
set_option maxHeartbeats 4000000 in
theorem slices_IndexFunc_s_api_Early_api_Early_at_splice_step_past.spc (v1 : Value) (a1 : List TEarly) (b1 : Nat) (a2 : Tstep) (r : Int) (H : slices_IndexFunc_s_api_Early_api_Early_at_splice_step_past.f a1 a2 = some r) : Spc Try.prog 31 [v1, .func (.func 70) #[pt b1] #[]] [Val (Kd.sl KEarly) v1 a1, Pfl KstepR b1 0 a2] [] (fun (s : Unit) => .int .i64 r) (fun s => [Ent.pur (InR .i64 r)]) := by
 unfold slices_IndexFunc_s_api_Early_api_Early_at_splice_step_past.f at H
 refine Spc.go Try.func31 rfl (by kernel_rfl) rfl rfl (all_cons (Val.per Per_sl) (all_cons Per_pfl all_nil)) fun F a w h => ?_
 refine Go.seq ?_
 refine Go.reg ?_
 refine ga h (o_assign rfl) rfl fun h => ?_
 refine GoR.done ?_
 refine Go.seq ?_
 refine Go.seq ?_
 refine Go.reg ?_
 refine mv h rfl rfl fun h => ?_
 have g1 := (len_at 0 rfl h.mem)
 refine ga h (o_ln rfl (rd_at 0 rfl) t_v24) rfl fun h => ?_
 refine mv h rfl rfl fun h => ?_
 refine GoR.done ?_
 refine Go.block ?_
 obtain ⟨o1, hl, G1⟩ := bindE H
 refine g_cut (fun G => ∀ j1 (a : Act) (w : World), o1 = .inl (j1) → St Try.f31.ntmps F [] [Pfl KstepR b1 0 a2] a w → G a w) 2 ?_ fun J1 => ?_
 ·intro j1 a w ho_ h
  rw [ho_] at G1
  have H := eInl G1
  refine Go.seq ?_
  refine Go.reg ?_
  refine ga h (o_assign rfl) rfl fun h => ?_
  refine GoR.done ?_
  rw [← som H]
  exact g_ret (vs := [.int .i64 (-1)]) h Try.func31 ⟨rfl, trivial⟩ ⟨(), rfl, ((h.mem.pick [] (by decide) rfl).addpur (show InR .i64 (-1) by decide))⟩
 refine g_loop (fun s1 G => ∀  (a : Act) (w : World), InR .i64 s1 → St Try.f31.ntmps F [(0, v1), (1, .func (.func 70) #[pt b1] #[]), (7, .int .i64 (a1.length : Int)), (8, .int .i64 s1)] [Val (Kd.sl KEarly) v1 a1, Pfl KstepR b1 0 a2] a w → G a w) hl (fun s1 p1 H i1 => ?_) fun I_ => ?_
 ·intro  a w g2 h
  refine Go.seq ?_
  refine Go.reg ?_
  refine ga h (o_bin rfl rfl rfl) rfl fun h => ?_
  refine GoR.done ?_
  refine Go.seq ?_
  by_cases c1 : decide (s1 < (a1.length : Int)) = true
  ·have H := ifT c1 H
   refine g_t h rfl c1 ?_
   refine Go.skip ?_
   refine Go.seq ?_
   refine Go.block ?_
   refine Go.seq ?_
   refine Go.reg ?_
   refine mv h rfl rfl fun h => ?_
   refine ga h (o_assign rfl) rfl fun h => ?_
   refine GoR.done ?_
   refine Go.seq ?_
   refine Go.reg ?_
   iterate 3 (refine ga h (o_move rfl) rfl fun h => ?_)
   obtain ⟨x1, ex1, H⟩ := bindE H
   refine ga h (o_ix rfl rfl (rd_at 0 rfl) ex1 t_v24) rfl fun h => ?_
   refine gs h (o_lev rfl (rd_at 0 rfl) ex1 t_y58 (by decide)) rfl fun v2 _ _ h => ?_
   obtain ⟨r1, er1, H⟩ := bindE H
   refine ga h (o_callw (us := [pt b1]) (vs := [v2]) (caps := []) rfl rfl (splice_step_past.spc b1 a2 v2 x1 r1 er1) [2, 0] [] (by decide) rfl rfl) rfl fun h => ?_
   refine GoR.done ?_
   by_cases c2 : r1 = true
   ·have H := ifT c2 H
    refine g_t h rfl c2 ?_
    refine Go.seq ?_
    refine Go.reg ?_
    refine mv h rfl rfl fun h => ?_
    refine ga h (o_assign rfl) rfl fun h => ?_
    refine GoR.done ?_
    have e_ := som H; subst e_
    rw [← nx_out i1] at G1
    have H := G1
    rw [← som H]
    exact g_ret (vs := [.int .i64 s1]) h Try.func31 ⟨rfl, trivial⟩ ⟨(), rfl, ((h.mem.pick [] (by decide) rfl).addpur g2)⟩
   ·have H := ifF c2 H
    refine g_f h rfl c2 ?_
    refine Go.skip ?_
    refine Go.inBlock ?_
    refine Go.reg ?_
    refine ga h (o_bin rfl rfl rfl) rfl fun h => ?_
    refine mv h rfl rfl fun h => ?_
    refine GoR.done ?_
    have e_ := som H; subst e_
    exact Go.inLoop (nx_in i1 _ _ (wrap_in _ _) (h.wr [1, 2]))
  ·have H := ifF c1 H
   refine g_f h rfl c1 ?_
   refine Go.exit rfl ?_
   have e_ := som H; subst e_
   exact J1 () _ _ (nx_out i1).symm (h.wr [1])
 ·exact I_ _ _ (show InR .i64 0 by decide) (h.wr [0, 1])
def slices_IndexFunc_s_api_Early_api_Early_at_splice_step_past.g (k_ : Nat) (a1 : List TEarly) (a2 : Tstep) : Option (Int) :=
  (loopK k_ (fun s1 => (if decide (s1 < (a1.length : Int)) = true then (idx a1 s1).bind fun x1 => (splice_step_past.g k_ a2 x1).bind fun r1 => (if r1 = true then some (.inr (.inr (s1))) else some (.inl (IntKind.i64.wrap (s1 + 1)))) else some (.inr (.inl (()))))) 0).bind (Sum.elim (fun j1 => some ((-1))) (fun z_ => some (z_)))
theorem slices_IndexFunc_s_api_Early_api_Early_at_splice_step_past.le (k_ : Nat) (a1 : List TEarly) (a2 : Tstep) : Le (slices_IndexFunc_s_api_Early_api_Early_at_splice_step_past.g k_ a1 a2) (slices_IndexFunc_s_api_Early_api_Early_at_splice_step_past.f a1 a2) := by
 unfold slices_IndexFunc_s_api_Early_api_Early_at_splice_step_past.g slices_IndexFunc_s_api_Early_api_Early_at_splice_step_past.f
 repeat' (first | with_reducible refine le_loop fun _ => ?_ | with_reducible refine le_bind ?_ fun _ => ?_ | with_reducible refine le_ite ?_ ?_ | with_reducible refine le_lt fun _ => ?_ | with_reducible refine le_elim (fun _ => ?_) (fun _ => ?_) _ | with_reducible apply splice_step_past.le | with_reducible exact le_refl _)
end Go.Proofs.Ytpcbhkigmnpimaa.S
