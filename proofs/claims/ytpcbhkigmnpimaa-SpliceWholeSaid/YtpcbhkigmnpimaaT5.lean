/- Contracts, printed by a program of this session. -/
import Derived.Test.YtpcbhkigmnpimaaT1
import Derived.Test.YtpcbhkigmnpimaaT2
import Derived.Test.YtpcbhkigmnpimaaT3
import Derived.Test.YtpcbhkigmnpimaaT4
namespace Go.Proofs.Ytpcbhkigmnpimaa.S
open Go Go.SL Go.RowKit
set_option linter.unusedVariables false
set_option linter.unusedSimpArgs false
/-! (*drawbridge/splice.step).took -/
noncomputable def splice_step_took.f (a1 : Tstep) (a2 : TTell) : Option (Int × Tstep) :=
  lt (min a2.N (a1.Conn.ToHost.length : Int)) fun y1 => ((if a1.Conn.Opening = true then some (true) else some (decide (y1 ≤ 0)))).bind (fun j1 => (if j1 = true then some ((0, a1)) else (splice_room.f a1.Conn).bind fun r1 => lt (decide (r1 = 0)) fun y2 => (cut a1.Conn.ToHost 0 y1).bind fun x1 => (splice_step_call.f a1 2 x1).bind fun r2 => (cut r2.Conn.ToHost y1 (r2.Conn.ToHost.length : Int)).bind fun x2 => (slices_Clone_s_byte_byte.f x2).bind fun r3 => lt (⟨(⟨r2.Conn.Id, r2.Conn.Guest, r2.Conn.Gport, r2.Conn.Remote, r2.Conn.Rport, r2.Conn.Opening, r2.Conn.Up, r2.Conn.Done, r2.Conn.Begin, r2.Conn.Una, r2.Conn.Next, r2.Conn.Want, r2.Conn.Win, r2.Conn.Mss, r3, r2.Conn.ToGuest, r2.Conn.Early, r2.Conn.Fin, r2.Conn.Eof, r2.Conn.Shut, r2.Conn.At, r2.Conn.Wait, r2.Conn.Tries⟩ : TConn), r2.now, r2.segs, r2.calls, r2.gone⟩ : Tstep) fun y3 => ((if y2 = true then (splice_step_ack.f y3).bind fun r4 => some (r4) else some (y3))).bind (fun j2 => (splice_step_shut.f j2).bind fun r5 => ((if r5.Conn.Done = true then lt (⟨r5.Conn, r5.now, r5.segs, r5.calls, r5.Conn.Shut⟩ : Tstep) fun y4 => some (y4) else lt (⟨r5.Conn, r5.now, r5.segs, r5.calls, false⟩ : Tstep) fun y5 => some (y5))).bind (fun j3 => some ((y1, j3))))))
set_option maxRecDepth 100000 in
set_option maxHeartbeats 4000000 in
theorem splice_step_took.spc (b1 : Nat) (a1 : Tstep) (v1 : Value) (a2 : TTell) (r : Int × Tstep) (H : splice_step_took.f a1 a2 = some r) : Spc Try.prog 38 [pt b1, v1] [Val KTell v1 a2] [Fld Kstep b1 0 a1] (fun (s : Unit) => .int .i64 r.1) (fun s => [Ent.pur (InR .i64 r.1), Fld Kstep b1 0 r.2]) := by
 unfold splice_step_took.f at H
 refine Spc.go Try.func38 rfl (by kernel_rfl) rfl rfl (all_cons (Val.per PTell) all_nil) fun F a w h => ?_
 refine Go.seq ?_
 refine Go.reg ?_
 refine gs h (o_box (K := KTell) rfl (pv_at PTell 0 rfl)) rfl fun b2 _ _ h => ?_
 refine ga h (o_assign rfl) rfl fun h => ?_
 refine GoR.done ?_
 refine Go.seq ?_
 replace h := h.wq [(0, pt b1), (3, pt b2), (4, .int .i64 0)] [Fld KTell b2 0 a2, Val KTell v1 a2, Fld Kstep b1 0 a1] [0, 1, 2]
 refine Go.draw (E := [(0, pt b1), (3, pt b2), (4, .int .i64 0)]) [] (L := [Fld KTell b2 0 a2, Val KTell v1 a2, Fld Kstep b1 0 a1]) h rfl rfl 8 [cn (.pointer (some ⟨b2, 3, none⟩)), cm [0] [] [] (.int .i64 a2.N) fun u => [Ent.pur (InR .i64 a2.N)], cn (pt b1), ce [2] (pt b1), ce [2, 3] (pt b1), ce [2, 3, 4] (.pointer (some ⟨b1, 14, none⟩)), cw [2, 3, 4, 5] [] [] fun u => [Val (Kd.sl (Kd.int .u8)) u a1.Conn.ToHost], cm [2, 3, 4, 5, 6] [6] [] (.int .i64 (a1.Conn.ToHost.length : Int)) fun u => []] rfl t_mxo (by kernel_rfl) (by rfl) ?_ fun f1 _ _ h => ?_
 ·exact ox rfl (o_fa rfl t_f44_3 rfl rfl) (ox rfl (OpS.pur (fun F w m_ => (in2 (fd_sub sTell_N 0 rfl m_))) (o_lfx 0 rfl rfl sTell_N rfl X_int t_y3)) (ox rfl (o_move rfl) (ox rfl (o_nilc rfl) (ox rfl (o_fa rfl t_f75_0 rfl rfl) (ox rfl (o_fa rfl t_f26_14 rfl rfl) (oy rfl (o_lfv (K := Kstep) (pr := fun x => x.Conn.ToHost) (y := a1) 2 rfl rfl t_sstep_Conn_ToHost rfl Per_sl t_y23) (ox rfl (o_ln rfl (rd_at 0 rfl) t_v23) (obs_nil))))))))
 replace h := h.wk (E' := [(0, pt b1), (4, .int .i64 0), (8, .int .i64 a2.N), (14, .int .i64 (a1.Conn.ToHost.length : Int))]) (L' := [Ent.pur (InR .i64 a2.N), Val (Kd.sl (Kd.int .u8)) (f1 6) a1.Conn.ToHost, Fld KTell b2 0 a2, Val KTell v1 a2, Fld Kstep b1 0 a1]) (by kernel_rfl) [0, 1, 2, 3, 4] (by decide) (by kernel_rfl)
 have g1 := (Mem.pur 0 rfl h.mem)
 have g2 := (len_at 1 rfl h.mem)
 refine ga h (o_min rfl rfl) rfl fun h => ?_
 obtain ⟨y1, ey1, H⟩ := ltE H
 refine ga h (o_assign' rfl (congrArg (fun z => Value.int .i64 z) ey1)) rfl fun h => ?_
 refine GoR.done ?_
 refine Go.seq ?_
 refine Go.seq ?_
 obtain ⟨o1, H, G1⟩ := bindE H
 refine g_cut (fun G => ∀ j1 (a : Act) (w : World), o1 = j1 → St Try.f38.ntmps F [(0, pt b1), (5, .int .i64 y1), (24, .bool j1)] [Fld KTell b2 0 a2, Fld Kstep b1 0 a1] a w → G a w) 1 ?_ fun J1 => ?_
 ·intro j1 a w ho_ h
  rw [ho_] at G1
  have H := G1
  by_cases c2 : j1 = true
  ·have H := ifT c2 H
   refine g_t h rfl c2 ?_
   refine Go.seq ?_
   refine Go.reg ?_
   refine ga h (o_assign rfl) rfl fun h => ?_
   refine GoR.done ?_
   rw [← som H]
   exact g_ret (vs := [.int .i64 0]) h Try.func38 ⟨rfl, trivial⟩ ⟨(), rfl, ((h.mem.pick [1] (by decide) rfl).addpur (show InR .i64 0 by decide))⟩
  ·have H := ifF c2 H
   refine g_f h rfl c2 ?_
   refine Go.skip ?_
   refine Go.seq ?_
   refine Go.reg ?_
   refine mv h rfl rfl fun h => ?_
   refine ga h (o_nilc rfl) rfl fun h => ?_
   refine ga h (o_fa rfl t_f75_0 rfl rfl) rfl fun h => ?_
   refine gs h (o_lfv 1 rfl rfl sstep_Conn rfl PConn t_y26) rfl fun v3 _ _ h => ?_
   obtain ⟨r1, er1, H⟩ := bindE H
   refine ga h (o_call (splice_room.spc v3 a1.Conn r1 er1) rfl [0] [] (by decide) rfl rfl) rfl fun h => ?_
   have g3 := h.mem.pur 0 rfl
   refine ga h (o_bin rfl rfl rfl) rfl fun h => ?_
   obtain ⟨y2, ey2, H⟩ := ltE H
   refine ga h (o_assign' rfl (congrArg Value.bool ey2)) rfl fun h => ?_
   refine GoR.done ?_
   refine Go.seq ?_
   refine Go.reg ?_
   refine mv h rfl rfl fun h => ?_
   refine mv h rfl rfl fun h => ?_
   refine ga h (o_nilc rfl) rfl fun h => ?_
   refine ga h (o_fa rfl t_f75_0 rfl rfl) rfl fun h => ?_
   refine ga h (o_fa rfl t_f26_14 rfl rfl) rfl fun h => ?_
   refine gs h (o_lfv 3 rfl rfl t_sstep_Conn_ToHost rfl Per_sl t_y23) rfl fun v4 _ _ h => ?_
   refine mv h rfl rfl fun h => ?_
   obtain ⟨x1, ex1, H⟩ := bindE H
   refine gs h (o_cuth rfl (pv_at Per_sl 0 rfl) rfl ex1 t_v23) rfl fun v5 _ _ h => ?_
   obtain ⟨r2, er2, H⟩ := bindE H
   refine ga h (o_call (splice_step_call.spc b1 a1 2 (show InR .i64 2 by decide) v5 x1 r2 er2) rfl [0] [5] (by decide) rfl rfl) rfl fun h => ?_
   refine GoR.done ?_
   refine Go.seq ?_
   refine Go.reg ?_
   refine mv h rfl rfl fun h => ?_
   refine mv h rfl rfl fun h => ?_
   refine ga h (o_nilc rfl) rfl fun h => ?_
   refine ga h (o_fa rfl t_f75_0 rfl rfl) rfl fun h => ?_
   refine ga h (o_fa rfl t_f26_14 rfl rfl) rfl fun h => ?_
   refine gs h (o_lfv 0 rfl rfl t_sstep_Conn_ToHost rfl Per_sl t_y23) rfl fun v6 _ _ h => ?_
   refine mv h rfl rfl fun h => ?_
   obtain ⟨x2, ex2, H⟩ := bindE H
   refine gs h (o_cutl rfl (pv_at Per_sl 0 rfl) rfl ex2 t_v23) rfl fun v7 _ _ h => ?_
   obtain ⟨r3, er3, H⟩ := bindE H
   refine gs h (o_call (slices_Clone_s_byte_byte.spc v7 x2 r3 er3) rfl [0] [] (by decide) rfl rfl) rfl fun v8 _ _ h => ?_
   refine ga h (o_nilc rfl) rfl fun h => ?_
   refine ga h (o_fa rfl t_f75_0 rfl rfl) rfl fun h => ?_
   refine ga h (o_fa rfl t_f26_14 rfl rfl) rfl fun h => ?_
   replace h := h.mm fun m => m.freeze 0 rfl
   obtain ⟨y3, ey3, H⟩ := ltE H
   refine gs0 h (o_stp (x0 := r2) (y := r3) 3 t_ustep_14_1 rfl rfl rfl rfl (pv_at Per_sl 0 rfl) t_w23) fun _ _ _ h => ?_
   rw [ey3] at h
   refine GoR.done ?_
   refine Go.seq ?_
   obtain ⟨o2, H, G2⟩ := bindE H
   refine g_cut (fun G => ∀ j2 (a : Act) (w : World), o2 = j2 → St Try.f38.ntmps F [(0, pt b1), (5, .int .i64 y1)] [Fld Kstep b1 0 j2, Fld KTell b2 0 a2] a w → G a w) 1 ?_ fun J2 => ?_
   ·intro j2 a w ho_ h
    rw [ho_] at G2
    have H := G2
    refine Go.seq ?_
    refine Go.reg ?_
    refine mv h rfl rfl fun h => ?_
    obtain ⟨r5, er5, H⟩ := bindE H
    refine ga h (o_call (splice_step_shut.spc b1 j2 r5 er5) rfl [] [0] (by decide) rfl rfl) rfl fun h => ?_
    refine GoR.done ?_
    refine Go.seq ?_
    obtain ⟨o3, H, G3⟩ := bindE H
    refine g_cut (fun G => ∀ j3 (a : Act) (w : World), o3 = j3 → St Try.f38.ntmps F [(5, .int .i64 y1)] [Fld Kstep b1 0 j3, Fld KTell b2 0 a2] a w → G a w) 1 ?_ fun J3 => ?_
    ·intro j3 a w ho_ h
     rw [ho_] at G3
     have H := G3
     refine Go.seq ?_
     refine Go.reg ?_
     refine mv h rfl rfl fun h => ?_
     refine ga h (o_assign rfl) rfl fun h => ?_
     refine GoR.done ?_
     rw [← som H]
     exact g_ret (vs := [.int .i64 y1]) h Try.func38 ⟨rfl, trivial⟩ ⟨(), rfl, ((h.mem.pick [0] (by decide) rfl).addpur (ey1 ▸ (inr_min g1 g2)))⟩
    refine Go.reg ?_
    refine mv h rfl rfl fun h => ?_
    refine mv h rfl rfl fun h => ?_
    refine ga h (o_nilc rfl) rfl fun h => ?_
    refine ga h (o_fa rfl t_f75_0 rfl rfl) rfl fun h => ?_
    refine ga h (o_fa rfl t_f26_7 rfl rfl) rfl fun h => ?_
    refine ga h (o_lfx 0 rfl rfl t_sstep_Conn_Done rfl X_bool t_y4) rfl fun h => ?_
    refine mv h rfl rfl fun h => ?_
    by_cases c4 : r5.Conn.Done = true
    ·have H := ifT c4 H
     refine gg h rfl rfl c4 (o_move rfl) rfl fun _ _ _ h => ?_
     refine gg h rfl rfl c4 (o_nilc rfl) rfl fun _ _ _ h => ?_
     refine gg h rfl rfl c4 (o_fa rfl t_f75_0 rfl rfl) rfl fun _ _ _ h => ?_
     refine gg h rfl rfl c4 (o_fa rfl t_f26_19 rfl rfl) rfl fun _ _ _ h => ?_
     refine gg h rfl rfl c4 (o_lfx 0 rfl rfl t_sstep_Conn_Shut rfl X_bool t_y4) rfl fun _ _ _ h => ?_
     refine ga h (o_pickT rfl rfl c4) rfl fun h => ?_
     refine ga h (o_nilc rfl) rfl fun h => ?_
     refine ga h (o_fa rfl t_f75_4 rfl rfl) rfl fun h => ?_
     obtain ⟨y4, ey4, H⟩ := ltE H
     refine gs0 h (o_stp (x0 := r5) (y := r5.Conn.Shut) 0 t_ustep_26_1 rfl rfl rfl rfl pv_bool t_w4) fun _ _ _ h => ?_
     rw [ey4] at h
     refine GoR.done ?_
     exact J3 y4 _ _ (som H).symm (h.wr [0, 2])
    ·have H := ifF c4 H
     iterate 5 (refine gk h rfl rfl (nb_f c4) rfl fun _ h => ?_)
     refine ga h (o_pickF rfl rfl c4) rfl fun h => ?_
     refine ga h (o_nilc rfl) rfl fun h => ?_
     refine ga h (o_fa rfl t_f75_4 rfl rfl) rfl fun h => ?_
     obtain ⟨y5, ey5, H⟩ := ltE H
     refine gs0 h (o_stp (x0 := r5) (y := false) 0 t_ustep_26_1 rfl rfl rfl rfl pv_bool t_w4) fun _ _ _ h => ?_
     rw [ey5] at h
     refine GoR.done ?_
     exact J3 y5 _ _ (som H).symm (h.wr [0, 2])
   refine Go.seq ?_
   refine Go.reg ?_
   refine mv h rfl rfl fun h => ?_
   refine GoR.done ?_
   by_cases c3 : y2 = true
   ·have H := ifT c3 H
    refine g_t h rfl c3 ?_
    refine Go.reg ?_
    refine mv h rfl rfl fun h => ?_
    obtain ⟨r4, er4, H⟩ := bindE H
    refine ga h (o_call (splice_step_ack.spc b1 y3 r4 er4) rfl [] [3] (by decide) rfl rfl) rfl fun h => ?_
    refine GoR.done ?_
    exact J2 r4 _ _ (som H).symm (h.wr [0, 9])
   ·have H := ifF c3 H
    refine g_f h rfl c3 ?_
    refine Go.skip ?_
    exact J2 y3 _ _ (som H).symm (h.wr [3, 8])
 refine Go.reg ?_
 refine mv h rfl rfl fun h => ?_
 refine ga h (o_nilc rfl) rfl fun h => ?_
 refine ga h (o_fa rfl t_f75_0 rfl rfl) rfl fun h => ?_
 refine ga h (o_fa rfl t_f26_5 rfl rfl) rfl fun h => ?_
 refine ga h (o_lfx 4 rfl rfl t_sstep_Conn_Opening rfl X_bool t_y4) rfl fun h => ?_
 refine mv h rfl rfl fun h => ?_
 by_cases c1 : a1.Conn.Opening = true
 ·have H := ifT c1 H
  refine gk h rfl rfl (nb_t c1) rfl fun _ h => ?_
  refine gk h rfl rfl (nb_t c1) rfl fun _ h => ?_
  refine ga h (o_pickT rfl rfl c1) rfl fun h => ?_
  refine GoR.done ?_
  exact J1 true _ _ (som H).symm (h.wr [2, 4])
 ·have H := ifF c1 H
  refine gg h rfl rfl (nbF c1) (o_move rfl) rfl fun _ _ _ h => ?_
  refine gg h rfl rfl (nbF c1) (o_bin rfl rfl rfl) rfl fun _ _ _ h => ?_
  refine ga h (o_pickF rfl rfl c1) rfl fun h => ?_
  refine GoR.done ?_
  exact J1 (decide (y1 ≤ 0)) _ _ (som H).symm (h.wr [2, 4])
def splice_step_took.g (k_ : Nat) (a1 : Tstep) (a2 : TTell) : Option (Int × Tstep) :=
  lt (min a2.N (a1.Conn.ToHost.length : Int)) fun y1 => ((if a1.Conn.Opening = true then some (true) else some (decide (y1 ≤ 0)))).bind (fun j1 => (if j1 = true then some ((0, a1)) else (splice_room.g k_ a1.Conn).bind fun r1 => lt (decide (r1 = 0)) fun y2 => (cut a1.Conn.ToHost 0 y1).bind fun x1 => (splice_step_call.g k_ a1 2 x1).bind fun r2 => (cut r2.Conn.ToHost y1 (r2.Conn.ToHost.length : Int)).bind fun x2 => (slices_Clone_s_byte_byte.g k_ x2).bind fun r3 => lt (⟨(⟨r2.Conn.Id, r2.Conn.Guest, r2.Conn.Gport, r2.Conn.Remote, r2.Conn.Rport, r2.Conn.Opening, r2.Conn.Up, r2.Conn.Done, r2.Conn.Begin, r2.Conn.Una, r2.Conn.Next, r2.Conn.Want, r2.Conn.Win, r2.Conn.Mss, r3, r2.Conn.ToGuest, r2.Conn.Early, r2.Conn.Fin, r2.Conn.Eof, r2.Conn.Shut, r2.Conn.At, r2.Conn.Wait, r2.Conn.Tries⟩ : TConn), r2.now, r2.segs, r2.calls, r2.gone⟩ : Tstep) fun y3 => ((if y2 = true then (splice_step_ack.g k_ y3).bind fun r4 => some (r4) else some (y3))).bind (fun j2 => (splice_step_shut.g k_ j2).bind fun r5 => ((if r5.Conn.Done = true then lt (⟨r5.Conn, r5.now, r5.segs, r5.calls, r5.Conn.Shut⟩ : Tstep) fun y4 => some (y4) else lt (⟨r5.Conn, r5.now, r5.segs, r5.calls, false⟩ : Tstep) fun y5 => some (y5))).bind (fun j3 => some ((y1, j3))))))
theorem splice_step_took.le (k_ : Nat) (a1 : Tstep) (a2 : TTell) : Le (splice_step_took.g k_ a1 a2) (splice_step_took.f a1 a2) := by
 unfold splice_step_took.g splice_step_took.f
 repeat' (first | with_reducible refine le_loop fun _ => ?_ | with_reducible refine le_bind ?_ fun _ => ?_ | with_reducible refine le_ite ?_ ?_ | with_reducible refine le_lt fun _ => ?_ | with_reducible refine le_elim (fun _ => ?_) (fun _ => ?_) _ | with_reducible apply slices_Clone_s_byte_byte.le | with_reducible apply splice_room.le | with_reducible apply splice_step_ack.le | with_reducible apply splice_step_call.le | with_reducible apply splice_step_shut.le | with_reducible exact le_refl _)
/-! drawbridge/splice.Hear -/
noncomputable def splice_Hear.f (a1 : TConn) (a2 : Int) (a3 : TTell) : Option (TConn × (List TSeg) × (List TCall) × Int × Bool) :=
  (splice_begin.f a1 a2).bind fun r1 => (if (!r1.2) = true then some ((a1, [], [], 0, false)) else lt (decide (a3.Kind = 1)) fun y1 => (if y1 = true then (r1.1).bind fun y2 => (splice_step_open.f y2 a3).bind fun r2 => some ((r2.2.Conn, r2.2.segs, r2.2.calls, r2.1, r2.2.gone)) else lt (decide (a3.Kind = 2)) fun y3 => (if y3 = true then (r1.1).bind fun y4 => (splice_step_reset.f y4 a3).bind fun r3 => some ((r3.2.Conn, r3.2.segs, r3.2.calls, r3.1, r3.2.gone)) else lt (decide (a3.Kind = 3)) fun y5 => (if y5 = true then (r1.1).bind fun y6 => (splice_step_more.f y6 a3).bind fun r4 => some ((r4.2.Conn, r4.2.segs, r4.2.calls, r4.1, r4.2.gone)) else lt (decide (a3.Kind = 4)) fun y7 => (if y7 = true then (r1.1).bind fun y8 => (splice_step_eof.f y8 a3).bind fun r5 => some ((r5.2.Conn, r5.2.segs, r5.2.calls, r5.1, r5.2.gone)) else lt (decide (a3.Kind = 5)) fun y9 => (if y9 = true then (r1.1).bind fun y10 => (splice_step_took.f y10 a3).bind fun r6 => some ((r6.2.Conn, r6.2.segs, r6.2.calls, r6.1, r6.2.gone)) else (r1.1).bind fun y11 => (splice_step_other.f y11 a3).bind fun r7 => some ((r7.2.Conn, r7.2.segs, r7.2.calls, r7.1, r7.2.gone))))))))
set_option maxRecDepth 100000 in
set_option maxHeartbeats 4000000 in
theorem splice_Hear.spc (v1 : Value) (a1 : TConn) (a2 : Int) (ha2 : InR .i64 a2) (v2 : Value) (a3 : TTell) (r : TConn × (List TSeg) × (List TCall) × Int × Bool) (H : splice_Hear.f a1 a2 a3 = some r) : Spc Try.prog 25 [v1, .int .i64 a2, v2] [Val KConn v1 a1, Val KTell v2 a3] [] (fun (s : Value × Value × Value) => .tuple #[s.1, s.2.1, s.2.2, .int .i64 r.2.2.2.1, .bool r.2.2.2.2]) (fun s => [Ent.pur (InR .i64 r.2.2.2.1), Val KConn s.1 r.1, Val (Kd.osl KSeg) s.2.1 r.2.1, Val (Kd.osl KCall) s.2.2 r.2.2.1]) := by
 unfold splice_Hear.f at H
 refine Spc.go Try.func25 rfl (by kernel_rfl) rfl rfl (all_cons (Val.per PConn) (all_cons (Val.per PTell) all_nil)) fun F a w h => ?_
 refine Go.seq ?_
 refine Go.reg ?_
 refine gs h (o_box (K := KConn) rfl (pv_at PConn 0 rfl)) rfl fun b1 _ _ h => ?_
 refine gs h (o_box (K := KTell) rfl (pv_at PTell 2 rfl)) rfl fun b2 _ _ h => ?_
 refine gs h (o_alloc (K := KConn) (z := (.agg #[.int .i64 0, .int .u32 0, .int .i64 0, .int .u32 0, .int .i64 0, .bool false, .bool false, .bool false, .int .u32 0, .int .u32 0, .int .u32 0, .int .u32 0, .int .i64 0, .int .i64 0, .slice none 0 0, .slice none 0 0, .slice none 0 0, .bool false, .bool false, .bool false, .int .i64 0, .int .i64 0, .int .i64 0])) rfl ZConn) rfl fun b3 _ _ h => ?_
 iterate 4 (refine ga h (o_assign rfl) rfl fun h => ?_)
 refine GoR.done ?_
 refine Go.seq ?_
 refine Go.reg ?_
 refine gs h (o_ldv 2 rfl rfl PConn t_y26) rfl fun v3 _ _ h => ?_
 refine mv h rfl rfl fun h => ?_
 obtain ⟨r1, er1, H⟩ := bindE H
 refine gs h (o_call (splice_begin.spc v3 a1 a2 ha2 r1 er1) rfl [0] [] (by decide) rfl rfl) rfl fun v4 _ _ h => ?_
 refine mv h rfl rfl fun h => ?_
 refine ga h (o_extract rfl rfl) rfl fun h => ?_
 refine ga h (o_extract rfl rfl) rfl fun h => ?_
 refine ga h (o_assign rfl) rfl fun h => ?_
 refine ga h (o_assign rfl) rfl fun h => ?_
 refine GoR.done ?_
 refine Go.seq ?_
 refine Go.seq ?_
 refine Go.reg ?_
 refine mv h rfl rfl fun h => ?_
 refine ga h (o_not rfl) rfl fun h => ?_
 refine GoR.done ?_
 by_cases c1 : (!r1.2) = true
 ·have H := ifT c1 H
  refine g_t h rfl c1 ?_
  refine Go.seq ?_
  refine Go.reg ?_
  refine gs h (o_ldv 4 rfl rfl PConn t_y26) rfl fun v5 _ _ h => ?_
  refine gs0 h (o_st 3 rfl rfl rfl (pv_at PConn 0 rfl) rfl t_w26) fun _ _ _ h => ?_
  iterate 4 (refine ga h (o_assign rfl) rfl fun h => ?_)
  refine GoR.done ?_
  obtain ⟨v6, h, u1⟩ := h.peek 3 rfl PConn t_y26
  replace h := h.mm fun m => m.nilo KSeg
  replace h := h.mm fun m => m.nilo KCall
  rw [← som H]
  exact g_ret (vs := [v6, .slice none 0 0, .slice none 0 0, .int .i64 0, .bool false]) h Try.func25 ⟨⟨_, rfl, u1⟩, ⟨rfl, ⟨rfl, ⟨rfl, ⟨rfl, trivial⟩⟩⟩⟩⟩ ⟨(v6, .slice none 0 0, .slice none 0 0), rfl, ((h.mem.pick [2, 1, 0] (by decide) rfl).addpur (show InR .i64 0 by decide))⟩
 ·have H := ifF c1 H
  refine g_f h rfl c1 ?_
  refine Go.skip ?_
  refine Go.seq ?_
  refine Go.reg ?_
  refine ga h (o_assign rfl) rfl fun h => ?_
  refine GoR.done ?_
  refine Go.seq ?_
  refine Go.seq ?_
  refine Go.reg ?_
  refine ga h (o_fa rfl t_f44_0 rfl rfl) rfl fun h => ?_
  have g1 := (in2 (fd_sub sTell_Kind 3 rfl h.mem))
  refine ga h (o_lfx 3 rfl rfl sTell_Kind rfl X_int t_y3) rfl fun h => ?_
  refine GoR.done ?_
  refine Go.block ?_
  refine Go.seq ?_
  refine Go.reg ?_
  refine ga h (o_bin rfl rfl rfl) rfl fun h => ?_
  obtain ⟨y1, ey1, H⟩ := ltE H
  refine ga h (o_assign' rfl (congrArg Value.bool ey1)) rfl fun h => ?_
  refine GoR.done ?_
  by_cases c2 : y1 = true
  ·have H := ifT c2 H
   refine g_t h rfl c2 ?_
   refine Go.reg ?_
   refine ga h (o_assign rfl) rfl fun h => ?_
   refine GoR.done ?_
   refine Go.inBlock ?_
   refine Go.seq ?_
   obtain ⟨y2, ey2, H⟩ := bindE H
   obtain ⟨b4, eb4, h⟩ := h.unb 0 rfl ey2
   subst eb4
   refine Go.reg ?_
   refine mv h rfl rfl fun h => ?_
   refine mv h rfl rfl fun h => ?_
   refine gs h (o_ldv 3 rfl rfl PTell t_y44) rfl fun v7 _ _ h => ?_
   obtain ⟨r2, er2, H⟩ := bindE H
   refine ga h (o_callv (vs := [pt b4, v7]) (caps := []) rfl rfl (splice_step_open.spc b4 y2 v7 a3 r2 er2) [0] [1] (by decide) rfl rfl) rfl fun h => ?_
   have g2 := h.mem.pur 0 rfl
   refine ga h (o_assign rfl) rfl fun h => ?_
   refine GoR.done ?_
   refine Go.seq ?_
   replace h := h.mm fun m => (m.take (i := 1) rfl).opn (cstep _ _)
   obtain ⟨v9, h⟩ := h.unp 2 rfl
   obtain ⟨v10, h⟩ := h.unp 4 rfl
   replace h := h.wq [(6, pt b3), (10, .bool false), (11, pt b4), (14, .int .i64 r2.1)] [Fld KConn b3 0 zConn, Fld (Kd.eq v10) b4 25 (), Fld (Kd.eq v9) b4 24 (), Fld KConn b4 0 r2.2.Conn, Fld (Kd.int .i64) b4 23 r2.2.now, Val (Kd.osl KSeg) v9 r2.2.segs, Val (Kd.osl KCall) v10 r2.2.calls, Fld Kd.bool b4 26 r2.2.gone, Ent.pur (InR .i64 r2.1), Val KTell v7 a3, Val KConn v3 a1, Fld KTell b2 0 a3, Fld KConn b1 0 a1, Val KConn v1 a1, Val KTell v2 a3] [12, 0, 1, 2, 3, 4, 5, 6, 7, 9, 11, 13, 14, 15, 16]
   refine Go.draw (E := [(6, pt b3), (10, .bool false), (11, pt b4), (14, .int .i64 r2.1)]) [] (L := [Fld (Kd.eq v10) b4 25 (), Fld (Kd.eq v9) b4 24 (), Fld KConn b4 0 r2.2.Conn, Fld (Kd.int .i64) b4 23 r2.2.now, Val (Kd.osl KSeg) v9 r2.2.segs, Val (Kd.osl KCall) v10 r2.2.calls, Fld Kd.bool b4 26 r2.2.gone, Ent.pur (InR .i64 r2.1), Val KTell v7 a3, Val KConn v3 a1, Fld KTell b2 0 a3, Fld KConn b1 0 a1, Val KConn v1 a1, Val KTell v2 a3]) h rfl rfl 21 [cn (pt b4), ce [0] (pt b4), ce [0, 1] (pt b4), cw [0, 1, 2] [] [] fun u => [Val KConn u r2.2.Conn], cn (pt b4), ce [4] (pt b4), ce [4, 5] (.pointer (some ⟨b4, 24, none⟩)), ce [4, 5, 6] (v9), cn (pt b4), ce [8] (pt b4), ce [8, 9] (.pointer (some ⟨b4, 25, none⟩)), ce [8, 9, 10] (v10), cn (.int .i64 r2.1), cn (pt b4), ce [13] (pt b4), ce [13, 14] (.pointer (some ⟨b4, 26, none⟩)), ce [13, 14, 15] (.bool r2.2.gone), cm [0, 1, 2, 3] [21, 3] [21] (undef) fun u => [Fld KConn b3 0 r2.2.Conn], ce [0, 1, 2, 3, 4, 5, 6, 7, 17] (v9), ce [0, 1, 2, 3, 8, 9, 10, 11, 17] (v10), ce [0, 1, 2, 3, 12, 17] (.int .i64 r2.1), cm [] [] [] undef fun u => [Fld KConn b3 0 zConn]] rfl t_mxo (by kernel_rfl) (by rfl) ?_ fun f2 _ _ h => ?_
   ·exact ox rfl (o_move rfl) (ox rfl (o_nilc rfl) (ox rfl (o_fa rfl t_f75_0 rfl rfl) (oy rfl (o_ldv 2 rfl rfl PConn t_y26) (ox rfl (o_move rfl) (ox rfl (o_nilc rfl) (ox rfl (o_fa rfl t_f75_2 rfl rfl) (ox rfl (o_ldx 1 rfl rfl X_eq t_y31) (ox rfl (o_move rfl) (ox rfl (o_nilc rfl) (ox rfl (o_fa rfl t_f75_3 rfl rfl) (ox rfl (o_ldx 0 rfl rfl X_eq t_y32) (ox rfl (o_move rfl) (ox rfl (o_move rfl) (ox rfl (o_nilc rfl) (ox rfl (o_fa rfl t_f75_4 rfl rfl) (ox rfl (o_ldx 6 rfl rfl X_bool t_y4) (ox rfl (o_st 0 rfl rfl rfl (pv_at PConn 1 rfl) rfl t_w26) (ox rfl (o_assign rfl) (ox rfl (o_assign rfl) (ox rfl (o_assign rfl) (obs_nil)))))))))))))))))))))
   replace h := h.wk (E' := [(6, pt b3), (10, .bool false), (56, .bool r2.2.gone), (7, v9), (8, v10), (9, .int .i64 r2.1)]) (L' := [Val KConn (f2 3) r2.2.Conn, Fld KConn b3 0 r2.2.Conn, Fld (Kd.eq v10) b4 25 (), Fld (Kd.eq v9) b4 24 (), Fld KConn b4 0 r2.2.Conn, Fld (Kd.int .i64) b4 23 r2.2.now, Val (Kd.osl KSeg) v9 r2.2.segs, Val (Kd.osl KCall) v10 r2.2.calls, Fld Kd.bool b4 26 r2.2.gone, Ent.pur (InR .i64 r2.1), Val KTell v7 a3, Val KConn v3 a1, Fld KTell b2 0 a3, Fld KConn b1 0 a1, Val KConn v1 a1, Val KTell v2 a3]) (by kernel_rfl) [0, 1, 2, 3, 4, 5, 6, 7, 8, 9, 10, 11, 12, 13, 14, 15] (by decide) (by kernel_rfl)
   refine ga h (o_assign rfl) rfl fun h => ?_
   refine GoR.done ?_
   obtain ⟨v12, h, u2⟩ := h.peek 1 rfl PConn t_y26
   rw [← som H]
   exact g_ret (vs := [v12, v9, v10, .int .i64 r2.1, .bool r2.2.gone]) h Try.func25 ⟨⟨_, rfl, u2⟩, ⟨rfl, ⟨rfl, ⟨rfl, ⟨rfl, trivial⟩⟩⟩⟩⟩ ⟨(v12, v9, v10), rfl, ((h.mem.pick [0, 7, 8] (by decide) rfl).addpur g2)⟩
  ·have H := ifF c2 H
   refine g_f h rfl c2 ?_
   refine Go.seq ?_
   refine Go.reg ?_
   refine ga h (o_bin rfl rfl rfl) rfl fun h => ?_
   obtain ⟨y3, ey3, H⟩ := ltE H
   refine ga h (o_assign' rfl (congrArg Value.bool ey3)) rfl fun h => ?_
   refine GoR.done ?_
   by_cases c3 : y3 = true
   ·have H := ifT c3 H
    refine g_t h rfl c3 ?_
    refine Go.reg ?_
    refine ga h (o_assign rfl) rfl fun h => ?_
    refine GoR.done ?_
    refine Go.inBlock ?_
    refine Go.seq ?_
    obtain ⟨y4, ey4, H⟩ := bindE H
    obtain ⟨b5, eb5, h⟩ := h.unb 0 rfl ey4
    subst eb5
    refine Go.reg ?_
    refine mv h rfl rfl fun h => ?_
    refine mv h rfl rfl fun h => ?_
    refine gs h (o_ldv 3 rfl rfl PTell t_y44) rfl fun v13 _ _ h => ?_
    obtain ⟨r3, er3, H⟩ := bindE H
    refine ga h (o_callv (vs := [pt b5, v13]) (caps := []) rfl rfl (splice_step_reset.spc b5 y4 v13 a3 r3 er3) [0] [1] (by decide) rfl rfl) rfl fun h => ?_
    have g3 := h.mem.pur 0 rfl
    refine ga h (o_assign rfl) rfl fun h => ?_
    refine GoR.done ?_
    refine Go.seq ?_
    replace h := h.mm fun m => (m.take (i := 1) rfl).opn (cstep _ _)
    obtain ⟨v15, h⟩ := h.unp 2 rfl
    obtain ⟨v16, h⟩ := h.unp 4 rfl
    replace h := h.wq [(6, pt b3), (10, .bool false), (11, pt b5), (14, .int .i64 r3.1)] [Fld KConn b3 0 zConn, Fld (Kd.eq v16) b5 25 (), Fld (Kd.eq v15) b5 24 (), Fld KConn b5 0 r3.2.Conn, Fld (Kd.int .i64) b5 23 r3.2.now, Val (Kd.osl KSeg) v15 r3.2.segs, Val (Kd.osl KCall) v16 r3.2.calls, Fld Kd.bool b5 26 r3.2.gone, Ent.pur (InR .i64 r3.1), Val KTell v13 a3, Val KConn v3 a1, Fld KTell b2 0 a3, Fld KConn b1 0 a1, Val KConn v1 a1, Val KTell v2 a3] [12, 0, 1, 2, 3, 4, 5, 6, 7, 9, 11, 13, 14, 15, 16]
    refine Go.draw (E := [(6, pt b3), (10, .bool false), (11, pt b5), (14, .int .i64 r3.1)]) [] (L := [Fld (Kd.eq v16) b5 25 (), Fld (Kd.eq v15) b5 24 (), Fld KConn b5 0 r3.2.Conn, Fld (Kd.int .i64) b5 23 r3.2.now, Val (Kd.osl KSeg) v15 r3.2.segs, Val (Kd.osl KCall) v16 r3.2.calls, Fld Kd.bool b5 26 r3.2.gone, Ent.pur (InR .i64 r3.1), Val KTell v13 a3, Val KConn v3 a1, Fld KTell b2 0 a3, Fld KConn b1 0 a1, Val KConn v1 a1, Val KTell v2 a3]) h rfl rfl 21 [cn (pt b5), ce [0] (pt b5), ce [0, 1] (pt b5), cw [0, 1, 2] [] [] fun u => [Val KConn u r3.2.Conn], cn (pt b5), ce [4] (pt b5), ce [4, 5] (.pointer (some ⟨b5, 24, none⟩)), ce [4, 5, 6] (v15), cn (pt b5), ce [8] (pt b5), ce [8, 9] (.pointer (some ⟨b5, 25, none⟩)), ce [8, 9, 10] (v16), cn (.int .i64 r3.1), cn (pt b5), ce [13] (pt b5), ce [13, 14] (.pointer (some ⟨b5, 26, none⟩)), ce [13, 14, 15] (.bool r3.2.gone), cm [0, 1, 2, 3] [21, 3] [21] (undef) fun u => [Fld KConn b3 0 r3.2.Conn], ce [0, 1, 2, 3, 4, 5, 6, 7, 17] (v15), ce [0, 1, 2, 3, 8, 9, 10, 11, 17] (v16), ce [0, 1, 2, 3, 12, 17] (.int .i64 r3.1), cm [] [] [] undef fun u => [Fld KConn b3 0 zConn]] rfl t_mxo (by kernel_rfl) (by rfl) ?_ fun f4 _ _ h => ?_
    ·exact ox rfl (o_move rfl) (ox rfl (o_nilc rfl) (ox rfl (o_fa rfl t_f75_0 rfl rfl) (oy rfl (o_ldv 2 rfl rfl PConn t_y26) (ox rfl (o_move rfl) (ox rfl (o_nilc rfl) (ox rfl (o_fa rfl t_f75_2 rfl rfl) (ox rfl (o_ldx 1 rfl rfl X_eq t_y31) (ox rfl (o_move rfl) (ox rfl (o_nilc rfl) (ox rfl (o_fa rfl t_f75_3 rfl rfl) (ox rfl (o_ldx 0 rfl rfl X_eq t_y32) (ox rfl (o_move rfl) (ox rfl (o_move rfl) (ox rfl (o_nilc rfl) (ox rfl (o_fa rfl t_f75_4 rfl rfl) (ox rfl (o_ldx 6 rfl rfl X_bool t_y4) (ox rfl (o_st 0 rfl rfl rfl (pv_at PConn 1 rfl) rfl t_w26) (ox rfl (o_assign rfl) (ox rfl (o_assign rfl) (ox rfl (o_assign rfl) (obs_nil)))))))))))))))))))))
    replace h := h.wk (E' := [(6, pt b3), (10, .bool false), (56, .bool r3.2.gone), (7, v15), (8, v16), (9, .int .i64 r3.1)]) (L' := [Val KConn (f4 3) r3.2.Conn, Fld KConn b3 0 r3.2.Conn, Fld (Kd.eq v16) b5 25 (), Fld (Kd.eq v15) b5 24 (), Fld KConn b5 0 r3.2.Conn, Fld (Kd.int .i64) b5 23 r3.2.now, Val (Kd.osl KSeg) v15 r3.2.segs, Val (Kd.osl KCall) v16 r3.2.calls, Fld Kd.bool b5 26 r3.2.gone, Ent.pur (InR .i64 r3.1), Val KTell v13 a3, Val KConn v3 a1, Fld KTell b2 0 a3, Fld KConn b1 0 a1, Val KConn v1 a1, Val KTell v2 a3]) (by kernel_rfl) [0, 1, 2, 3, 4, 5, 6, 7, 8, 9, 10, 11, 12, 13, 14, 15] (by decide) (by kernel_rfl)
    refine ga h (o_assign rfl) rfl fun h => ?_
    refine GoR.done ?_
    obtain ⟨v18, h, u3⟩ := h.peek 1 rfl PConn t_y26
    rw [← som H]
    exact g_ret (vs := [v18, v15, v16, .int .i64 r3.1, .bool r3.2.gone]) h Try.func25 ⟨⟨_, rfl, u3⟩, ⟨rfl, ⟨rfl, ⟨rfl, ⟨rfl, trivial⟩⟩⟩⟩⟩ ⟨(v18, v15, v16), rfl, ((h.mem.pick [0, 7, 8] (by decide) rfl).addpur g3)⟩
   ·have H := ifF c3 H
    refine g_f h rfl c3 ?_
    refine Go.seq ?_
    refine Go.reg ?_
    refine ga h (o_bin rfl rfl rfl) rfl fun h => ?_
    obtain ⟨y5, ey5, H⟩ := ltE H
    refine ga h (o_assign' rfl (congrArg Value.bool ey5)) rfl fun h => ?_
    refine GoR.done ?_
    by_cases c4 : y5 = true
    ·have H := ifT c4 H
     refine g_t h rfl c4 ?_
     refine Go.reg ?_
     refine ga h (o_assign rfl) rfl fun h => ?_
     refine GoR.done ?_
     refine Go.inBlock ?_
     refine Go.seq ?_
     obtain ⟨y6, ey6, H⟩ := bindE H
     obtain ⟨b6, eb6, h⟩ := h.unb 0 rfl ey6
     subst eb6
     refine Go.reg ?_
     refine mv h rfl rfl fun h => ?_
     refine mv h rfl rfl fun h => ?_
     refine gs h (o_ldv 3 rfl rfl PTell t_y44) rfl fun v19 _ _ h => ?_
     obtain ⟨r4, er4, H⟩ := bindE H
     refine ga h (o_callv (vs := [pt b6, v19]) (caps := []) rfl rfl (splice_step_more.spc b6 y6 v19 a3 r4 er4) [0] [1] (by decide) rfl rfl) rfl fun h => ?_
     have g4 := h.mem.pur 0 rfl
     refine ga h (o_assign rfl) rfl fun h => ?_
     refine GoR.done ?_
     refine Go.seq ?_
     replace h := h.mm fun m => (m.take (i := 1) rfl).opn (cstep _ _)
     obtain ⟨v21, h⟩ := h.unp 2 rfl
     obtain ⟨v22, h⟩ := h.unp 4 rfl
     replace h := h.wq [(6, pt b3), (10, .bool false), (11, pt b6), (14, .int .i64 r4.1)] [Fld KConn b3 0 zConn, Fld (Kd.eq v22) b6 25 (), Fld (Kd.eq v21) b6 24 (), Fld KConn b6 0 r4.2.Conn, Fld (Kd.int .i64) b6 23 r4.2.now, Val (Kd.osl KSeg) v21 r4.2.segs, Val (Kd.osl KCall) v22 r4.2.calls, Fld Kd.bool b6 26 r4.2.gone, Ent.pur (InR .i64 r4.1), Val KTell v19 a3, Val KConn v3 a1, Fld KTell b2 0 a3, Fld KConn b1 0 a1, Val KConn v1 a1, Val KTell v2 a3] [12, 0, 1, 2, 3, 4, 5, 6, 7, 9, 11, 13, 14, 15, 16]
     refine Go.draw (E := [(6, pt b3), (10, .bool false), (11, pt b6), (14, .int .i64 r4.1)]) [] (L := [Fld (Kd.eq v22) b6 25 (), Fld (Kd.eq v21) b6 24 (), Fld KConn b6 0 r4.2.Conn, Fld (Kd.int .i64) b6 23 r4.2.now, Val (Kd.osl KSeg) v21 r4.2.segs, Val (Kd.osl KCall) v22 r4.2.calls, Fld Kd.bool b6 26 r4.2.gone, Ent.pur (InR .i64 r4.1), Val KTell v19 a3, Val KConn v3 a1, Fld KTell b2 0 a3, Fld KConn b1 0 a1, Val KConn v1 a1, Val KTell v2 a3]) h rfl rfl 21 [cn (pt b6), ce [0] (pt b6), ce [0, 1] (pt b6), cw [0, 1, 2] [] [] fun u => [Val KConn u r4.2.Conn], cn (pt b6), ce [4] (pt b6), ce [4, 5] (.pointer (some ⟨b6, 24, none⟩)), ce [4, 5, 6] (v21), cn (pt b6), ce [8] (pt b6), ce [8, 9] (.pointer (some ⟨b6, 25, none⟩)), ce [8, 9, 10] (v22), cn (.int .i64 r4.1), cn (pt b6), ce [13] (pt b6), ce [13, 14] (.pointer (some ⟨b6, 26, none⟩)), ce [13, 14, 15] (.bool r4.2.gone), cm [0, 1, 2, 3] [21, 3] [21] (undef) fun u => [Fld KConn b3 0 r4.2.Conn], ce [0, 1, 2, 3, 4, 5, 6, 7, 17] (v21), ce [0, 1, 2, 3, 8, 9, 10, 11, 17] (v22), ce [0, 1, 2, 3, 12, 17] (.int .i64 r4.1), cm [] [] [] undef fun u => [Fld KConn b3 0 zConn]] rfl t_mxo (by kernel_rfl) (by rfl) ?_ fun f6 _ _ h => ?_
     ·exact ox rfl (o_move rfl) (ox rfl (o_nilc rfl) (ox rfl (o_fa rfl t_f75_0 rfl rfl) (oy rfl (o_ldv 2 rfl rfl PConn t_y26) (ox rfl (o_move rfl) (ox rfl (o_nilc rfl) (ox rfl (o_fa rfl t_f75_2 rfl rfl) (ox rfl (o_ldx 1 rfl rfl X_eq t_y31) (ox rfl (o_move rfl) (ox rfl (o_nilc rfl) (ox rfl (o_fa rfl t_f75_3 rfl rfl) (ox rfl (o_ldx 0 rfl rfl X_eq t_y32) (ox rfl (o_move rfl) (ox rfl (o_move rfl) (ox rfl (o_nilc rfl) (ox rfl (o_fa rfl t_f75_4 rfl rfl) (ox rfl (o_ldx 6 rfl rfl X_bool t_y4) (ox rfl (o_st 0 rfl rfl rfl (pv_at PConn 1 rfl) rfl t_w26) (ox rfl (o_assign rfl) (ox rfl (o_assign rfl) (ox rfl (o_assign rfl) (obs_nil)))))))))))))))))))))
     replace h := h.wk (E' := [(6, pt b3), (10, .bool false), (56, .bool r4.2.gone), (7, v21), (8, v22), (9, .int .i64 r4.1)]) (L' := [Val KConn (f6 3) r4.2.Conn, Fld KConn b3 0 r4.2.Conn, Fld (Kd.eq v22) b6 25 (), Fld (Kd.eq v21) b6 24 (), Fld KConn b6 0 r4.2.Conn, Fld (Kd.int .i64) b6 23 r4.2.now, Val (Kd.osl KSeg) v21 r4.2.segs, Val (Kd.osl KCall) v22 r4.2.calls, Fld Kd.bool b6 26 r4.2.gone, Ent.pur (InR .i64 r4.1), Val KTell v19 a3, Val KConn v3 a1, Fld KTell b2 0 a3, Fld KConn b1 0 a1, Val KConn v1 a1, Val KTell v2 a3]) (by kernel_rfl) [0, 1, 2, 3, 4, 5, 6, 7, 8, 9, 10, 11, 12, 13, 14, 15] (by decide) (by kernel_rfl)
     refine ga h (o_assign rfl) rfl fun h => ?_
     refine GoR.done ?_
     obtain ⟨v24, h, u4⟩ := h.peek 1 rfl PConn t_y26
     rw [← som H]
     exact g_ret (vs := [v24, v21, v22, .int .i64 r4.1, .bool r4.2.gone]) h Try.func25 ⟨⟨_, rfl, u4⟩, ⟨rfl, ⟨rfl, ⟨rfl, ⟨rfl, trivial⟩⟩⟩⟩⟩ ⟨(v24, v21, v22), rfl, ((h.mem.pick [0, 7, 8] (by decide) rfl).addpur g4)⟩
    ·have H := ifF c4 H
     refine g_f h rfl c4 ?_
     refine Go.seq ?_
     refine Go.reg ?_
     refine ga h (o_bin rfl rfl rfl) rfl fun h => ?_
     obtain ⟨y7, ey7, H⟩ := ltE H
     refine ga h (o_assign' rfl (congrArg Value.bool ey7)) rfl fun h => ?_
     refine GoR.done ?_
     by_cases c5 : y7 = true
     ·have H := ifT c5 H
      refine g_t h rfl c5 ?_
      refine Go.reg ?_
      refine ga h (o_assign rfl) rfl fun h => ?_
      refine GoR.done ?_
      refine Go.inBlock ?_
      refine Go.seq ?_
      obtain ⟨y8, ey8, H⟩ := bindE H
      obtain ⟨b7, eb7, h⟩ := h.unb 0 rfl ey8
      subst eb7
      refine Go.reg ?_
      refine mv h rfl rfl fun h => ?_
      refine mv h rfl rfl fun h => ?_
      refine gs h (o_ldv 3 rfl rfl PTell t_y44) rfl fun v25 _ _ h => ?_
      obtain ⟨r5, er5, H⟩ := bindE H
      refine ga h (o_callv (vs := [pt b7, v25]) (caps := []) rfl rfl (splice_step_eof.spc b7 y8 v25 a3 r5 er5) [0] [1] (by decide) rfl rfl) rfl fun h => ?_
      have g5 := h.mem.pur 0 rfl
      refine ga h (o_assign rfl) rfl fun h => ?_
      refine GoR.done ?_
      refine Go.seq ?_
      replace h := h.mm fun m => (m.take (i := 1) rfl).opn (cstep _ _)
      obtain ⟨v27, h⟩ := h.unp 2 rfl
      obtain ⟨v28, h⟩ := h.unp 4 rfl
      replace h := h.wq [(6, pt b3), (10, .bool false), (11, pt b7), (14, .int .i64 r5.1)] [Fld KConn b3 0 zConn, Fld (Kd.eq v28) b7 25 (), Fld (Kd.eq v27) b7 24 (), Fld KConn b7 0 r5.2.Conn, Fld (Kd.int .i64) b7 23 r5.2.now, Val (Kd.osl KSeg) v27 r5.2.segs, Val (Kd.osl KCall) v28 r5.2.calls, Fld Kd.bool b7 26 r5.2.gone, Ent.pur (InR .i64 r5.1), Val KTell v25 a3, Val KConn v3 a1, Fld KTell b2 0 a3, Fld KConn b1 0 a1, Val KConn v1 a1, Val KTell v2 a3] [12, 0, 1, 2, 3, 4, 5, 6, 7, 9, 11, 13, 14, 15, 16]
      refine Go.draw (E := [(6, pt b3), (10, .bool false), (11, pt b7), (14, .int .i64 r5.1)]) [] (L := [Fld (Kd.eq v28) b7 25 (), Fld (Kd.eq v27) b7 24 (), Fld KConn b7 0 r5.2.Conn, Fld (Kd.int .i64) b7 23 r5.2.now, Val (Kd.osl KSeg) v27 r5.2.segs, Val (Kd.osl KCall) v28 r5.2.calls, Fld Kd.bool b7 26 r5.2.gone, Ent.pur (InR .i64 r5.1), Val KTell v25 a3, Val KConn v3 a1, Fld KTell b2 0 a3, Fld KConn b1 0 a1, Val KConn v1 a1, Val KTell v2 a3]) h rfl rfl 21 [cn (pt b7), ce [0] (pt b7), ce [0, 1] (pt b7), cw [0, 1, 2] [] [] fun u => [Val KConn u r5.2.Conn], cn (pt b7), ce [4] (pt b7), ce [4, 5] (.pointer (some ⟨b7, 24, none⟩)), ce [4, 5, 6] (v27), cn (pt b7), ce [8] (pt b7), ce [8, 9] (.pointer (some ⟨b7, 25, none⟩)), ce [8, 9, 10] (v28), cn (.int .i64 r5.1), cn (pt b7), ce [13] (pt b7), ce [13, 14] (.pointer (some ⟨b7, 26, none⟩)), ce [13, 14, 15] (.bool r5.2.gone), cm [0, 1, 2, 3] [21, 3] [21] (undef) fun u => [Fld KConn b3 0 r5.2.Conn], ce [0, 1, 2, 3, 4, 5, 6, 7, 17] (v27), ce [0, 1, 2, 3, 8, 9, 10, 11, 17] (v28), ce [0, 1, 2, 3, 12, 17] (.int .i64 r5.1), cm [] [] [] undef fun u => [Fld KConn b3 0 zConn]] rfl t_mxo (by kernel_rfl) (by rfl) ?_ fun f8 _ _ h => ?_
      ·exact ox rfl (o_move rfl) (ox rfl (o_nilc rfl) (ox rfl (o_fa rfl t_f75_0 rfl rfl) (oy rfl (o_ldv 2 rfl rfl PConn t_y26) (ox rfl (o_move rfl) (ox rfl (o_nilc rfl) (ox rfl (o_fa rfl t_f75_2 rfl rfl) (ox rfl (o_ldx 1 rfl rfl X_eq t_y31) (ox rfl (o_move rfl) (ox rfl (o_nilc rfl) (ox rfl (o_fa rfl t_f75_3 rfl rfl) (ox rfl (o_ldx 0 rfl rfl X_eq t_y32) (ox rfl (o_move rfl) (ox rfl (o_move rfl) (ox rfl (o_nilc rfl) (ox rfl (o_fa rfl t_f75_4 rfl rfl) (ox rfl (o_ldx 6 rfl rfl X_bool t_y4) (ox rfl (o_st 0 rfl rfl rfl (pv_at PConn 1 rfl) rfl t_w26) (ox rfl (o_assign rfl) (ox rfl (o_assign rfl) (ox rfl (o_assign rfl) (obs_nil)))))))))))))))))))))
      replace h := h.wk (E' := [(6, pt b3), (10, .bool false), (56, .bool r5.2.gone), (7, v27), (8, v28), (9, .int .i64 r5.1)]) (L' := [Val KConn (f8 3) r5.2.Conn, Fld KConn b3 0 r5.2.Conn, Fld (Kd.eq v28) b7 25 (), Fld (Kd.eq v27) b7 24 (), Fld KConn b7 0 r5.2.Conn, Fld (Kd.int .i64) b7 23 r5.2.now, Val (Kd.osl KSeg) v27 r5.2.segs, Val (Kd.osl KCall) v28 r5.2.calls, Fld Kd.bool b7 26 r5.2.gone, Ent.pur (InR .i64 r5.1), Val KTell v25 a3, Val KConn v3 a1, Fld KTell b2 0 a3, Fld KConn b1 0 a1, Val KConn v1 a1, Val KTell v2 a3]) (by kernel_rfl) [0, 1, 2, 3, 4, 5, 6, 7, 8, 9, 10, 11, 12, 13, 14, 15] (by decide) (by kernel_rfl)
      refine ga h (o_assign rfl) rfl fun h => ?_
      refine GoR.done ?_
      obtain ⟨v30, h, u5⟩ := h.peek 1 rfl PConn t_y26
      rw [← som H]
      exact g_ret (vs := [v30, v27, v28, .int .i64 r5.1, .bool r5.2.gone]) h Try.func25 ⟨⟨_, rfl, u5⟩, ⟨rfl, ⟨rfl, ⟨rfl, ⟨rfl, trivial⟩⟩⟩⟩⟩ ⟨(v30, v27, v28), rfl, ((h.mem.pick [0, 7, 8] (by decide) rfl).addpur g5)⟩
     ·have H := ifF c5 H
      refine g_f h rfl c5 ?_
      refine Go.seq ?_
      refine Go.reg ?_
      refine ga h (o_bin rfl rfl rfl) rfl fun h => ?_
      obtain ⟨y9, ey9, H⟩ := ltE H
      refine ga h (o_assign' rfl (congrArg Value.bool ey9)) rfl fun h => ?_
      refine GoR.done ?_
      by_cases c6 : y9 = true
      ·have H := ifT c6 H
       refine g_t h rfl c6 ?_
       refine Go.reg ?_
       refine ga h (o_assign rfl) rfl fun h => ?_
       refine GoR.done ?_
       refine Go.inBlock ?_
       refine Go.seq ?_
       obtain ⟨y10, ey10, H⟩ := bindE H
       obtain ⟨b8, eb8, h⟩ := h.unb 0 rfl ey10
       subst eb8
       refine Go.reg ?_
       refine mv h rfl rfl fun h => ?_
       refine mv h rfl rfl fun h => ?_
       refine gs h (o_ldv 3 rfl rfl PTell t_y44) rfl fun v31 _ _ h => ?_
       obtain ⟨r6, er6, H⟩ := bindE H
       refine ga h (o_callv (vs := [pt b8, v31]) (caps := []) rfl rfl (splice_step_took.spc b8 y10 v31 a3 r6 er6) [0] [1] (by decide) rfl rfl) rfl fun h => ?_
       have g6 := h.mem.pur 0 rfl
       refine ga h (o_assign rfl) rfl fun h => ?_
       refine GoR.done ?_
       refine Go.seq ?_
       replace h := h.mm fun m => (m.take (i := 1) rfl).opn (cstep _ _)
       obtain ⟨v33, h⟩ := h.unp 2 rfl
       obtain ⟨v34, h⟩ := h.unp 4 rfl
       replace h := h.wq [(6, pt b3), (10, .bool false), (11, pt b8), (14, .int .i64 r6.1)] [Fld KConn b3 0 zConn, Fld (Kd.eq v34) b8 25 (), Fld (Kd.eq v33) b8 24 (), Fld KConn b8 0 r6.2.Conn, Fld (Kd.int .i64) b8 23 r6.2.now, Val (Kd.osl KSeg) v33 r6.2.segs, Val (Kd.osl KCall) v34 r6.2.calls, Fld Kd.bool b8 26 r6.2.gone, Ent.pur (InR .i64 r6.1), Val KTell v31 a3, Val KConn v3 a1, Fld KTell b2 0 a3, Fld KConn b1 0 a1, Val KConn v1 a1, Val KTell v2 a3] [12, 0, 1, 2, 3, 4, 5, 6, 7, 9, 11, 13, 14, 15, 16]
       refine Go.draw (E := [(6, pt b3), (10, .bool false), (11, pt b8), (14, .int .i64 r6.1)]) [] (L := [Fld (Kd.eq v34) b8 25 (), Fld (Kd.eq v33) b8 24 (), Fld KConn b8 0 r6.2.Conn, Fld (Kd.int .i64) b8 23 r6.2.now, Val (Kd.osl KSeg) v33 r6.2.segs, Val (Kd.osl KCall) v34 r6.2.calls, Fld Kd.bool b8 26 r6.2.gone, Ent.pur (InR .i64 r6.1), Val KTell v31 a3, Val KConn v3 a1, Fld KTell b2 0 a3, Fld KConn b1 0 a1, Val KConn v1 a1, Val KTell v2 a3]) h rfl rfl 21 [cn (pt b8), ce [0] (pt b8), ce [0, 1] (pt b8), cw [0, 1, 2] [] [] fun u => [Val KConn u r6.2.Conn], cn (pt b8), ce [4] (pt b8), ce [4, 5] (.pointer (some ⟨b8, 24, none⟩)), ce [4, 5, 6] (v33), cn (pt b8), ce [8] (pt b8), ce [8, 9] (.pointer (some ⟨b8, 25, none⟩)), ce [8, 9, 10] (v34), cn (.int .i64 r6.1), cn (pt b8), ce [13] (pt b8), ce [13, 14] (.pointer (some ⟨b8, 26, none⟩)), ce [13, 14, 15] (.bool r6.2.gone), cm [0, 1, 2, 3] [21, 3] [21] (undef) fun u => [Fld KConn b3 0 r6.2.Conn], ce [0, 1, 2, 3, 4, 5, 6, 7, 17] (v33), ce [0, 1, 2, 3, 8, 9, 10, 11, 17] (v34), ce [0, 1, 2, 3, 12, 17] (.int .i64 r6.1), cm [] [] [] undef fun u => [Fld KConn b3 0 zConn]] rfl t_mxo (by kernel_rfl) (by rfl) ?_ fun f10 _ _ h => ?_
       ·exact ox rfl (o_move rfl) (ox rfl (o_nilc rfl) (ox rfl (o_fa rfl t_f75_0 rfl rfl) (oy rfl (o_ldv 2 rfl rfl PConn t_y26) (ox rfl (o_move rfl) (ox rfl (o_nilc rfl) (ox rfl (o_fa rfl t_f75_2 rfl rfl) (ox rfl (o_ldx 1 rfl rfl X_eq t_y31) (ox rfl (o_move rfl) (ox rfl (o_nilc rfl) (ox rfl (o_fa rfl t_f75_3 rfl rfl) (ox rfl (o_ldx 0 rfl rfl X_eq t_y32) (ox rfl (o_move rfl) (ox rfl (o_move rfl) (ox rfl (o_nilc rfl) (ox rfl (o_fa rfl t_f75_4 rfl rfl) (ox rfl (o_ldx 6 rfl rfl X_bool t_y4) (ox rfl (o_st 0 rfl rfl rfl (pv_at PConn 1 rfl) rfl t_w26) (ox rfl (o_assign rfl) (ox rfl (o_assign rfl) (ox rfl (o_assign rfl) (obs_nil)))))))))))))))))))))
       replace h := h.wk (E' := [(6, pt b3), (10, .bool false), (56, .bool r6.2.gone), (7, v33), (8, v34), (9, .int .i64 r6.1)]) (L' := [Val KConn (f10 3) r6.2.Conn, Fld KConn b3 0 r6.2.Conn, Fld (Kd.eq v34) b8 25 (), Fld (Kd.eq v33) b8 24 (), Fld KConn b8 0 r6.2.Conn, Fld (Kd.int .i64) b8 23 r6.2.now, Val (Kd.osl KSeg) v33 r6.2.segs, Val (Kd.osl KCall) v34 r6.2.calls, Fld Kd.bool b8 26 r6.2.gone, Ent.pur (InR .i64 r6.1), Val KTell v31 a3, Val KConn v3 a1, Fld KTell b2 0 a3, Fld KConn b1 0 a1, Val KConn v1 a1, Val KTell v2 a3]) (by kernel_rfl) [0, 1, 2, 3, 4, 5, 6, 7, 8, 9, 10, 11, 12, 13, 14, 15] (by decide) (by kernel_rfl)
       refine ga h (o_assign rfl) rfl fun h => ?_
       refine GoR.done ?_
       obtain ⟨v36, h, u6⟩ := h.peek 1 rfl PConn t_y26
       rw [← som H]
       exact g_ret (vs := [v36, v33, v34, .int .i64 r6.1, .bool r6.2.gone]) h Try.func25 ⟨⟨_, rfl, u6⟩, ⟨rfl, ⟨rfl, ⟨rfl, ⟨rfl, trivial⟩⟩⟩⟩⟩ ⟨(v36, v33, v34), rfl, ((h.mem.pick [0, 7, 8] (by decide) rfl).addpur g6)⟩
      ·have H := ifF c6 H
       refine g_f h rfl c6 ?_
       refine Go.skip ?_
       refine Go.inBlock ?_
       refine Go.seq ?_
       obtain ⟨y11, ey11, H⟩ := bindE H
       obtain ⟨b9, eb9, h⟩ := h.unb 0 rfl ey11
       subst eb9
       refine Go.reg ?_
       refine mv h rfl rfl fun h => ?_
       refine mv h rfl rfl fun h => ?_
       refine gs h (o_ldv 3 rfl rfl PTell t_y44) rfl fun v37 _ _ h => ?_
       obtain ⟨r7, er7, H⟩ := bindE H
       refine ga h (o_callv (vs := [pt b9, v37]) (caps := []) rfl rfl (splice_step_other.spc b9 y11 v37 a3 r7 er7) [0] [1] (by decide) rfl rfl) rfl fun h => ?_
       have g7 := h.mem.pur 0 rfl
       refine ga h (o_assign rfl) rfl fun h => ?_
       refine GoR.done ?_
       refine Go.seq ?_
       replace h := h.mm fun m => (m.take (i := 1) rfl).opn (cstep _ _)
       obtain ⟨v39, h⟩ := h.unp 2 rfl
       obtain ⟨v40, h⟩ := h.unp 4 rfl
       replace h := h.wq [(6, pt b3), (10, .bool false), (11, pt b9), (14, .int .i64 r7.1)] [Fld KConn b3 0 zConn, Fld (Kd.eq v40) b9 25 (), Fld (Kd.eq v39) b9 24 (), Fld KConn b9 0 r7.2.Conn, Fld (Kd.int .i64) b9 23 r7.2.now, Val (Kd.osl KSeg) v39 r7.2.segs, Val (Kd.osl KCall) v40 r7.2.calls, Fld Kd.bool b9 26 r7.2.gone, Ent.pur (InR .i64 r7.1), Val KTell v37 a3, Val KConn v3 a1, Fld KTell b2 0 a3, Fld KConn b1 0 a1, Val KConn v1 a1, Val KTell v2 a3] [12, 0, 1, 2, 3, 4, 5, 6, 7, 9, 11, 13, 14, 15, 16]
       refine Go.draw (E := [(6, pt b3), (10, .bool false), (11, pt b9), (14, .int .i64 r7.1)]) [] (L := [Fld (Kd.eq v40) b9 25 (), Fld (Kd.eq v39) b9 24 (), Fld KConn b9 0 r7.2.Conn, Fld (Kd.int .i64) b9 23 r7.2.now, Val (Kd.osl KSeg) v39 r7.2.segs, Val (Kd.osl KCall) v40 r7.2.calls, Fld Kd.bool b9 26 r7.2.gone, Ent.pur (InR .i64 r7.1), Val KTell v37 a3, Val KConn v3 a1, Fld KTell b2 0 a3, Fld KConn b1 0 a1, Val KConn v1 a1, Val KTell v2 a3]) h rfl rfl 21 [cn (pt b9), ce [0] (pt b9), ce [0, 1] (pt b9), cw [0, 1, 2] [] [] fun u => [Val KConn u r7.2.Conn], cn (pt b9), ce [4] (pt b9), ce [4, 5] (.pointer (some ⟨b9, 24, none⟩)), ce [4, 5, 6] (v39), cn (pt b9), ce [8] (pt b9), ce [8, 9] (.pointer (some ⟨b9, 25, none⟩)), ce [8, 9, 10] (v40), cn (.int .i64 r7.1), cn (pt b9), ce [13] (pt b9), ce [13, 14] (.pointer (some ⟨b9, 26, none⟩)), ce [13, 14, 15] (.bool r7.2.gone), cm [0, 1, 2, 3] [21, 3] [21] (undef) fun u => [Fld KConn b3 0 r7.2.Conn], ce [0, 1, 2, 3, 4, 5, 6, 7, 17] (v39), ce [0, 1, 2, 3, 8, 9, 10, 11, 17] (v40), ce [0, 1, 2, 3, 12, 17] (.int .i64 r7.1), cm [] [] [] undef fun u => [Fld KConn b3 0 zConn]] rfl t_mxo (by kernel_rfl) (by rfl) ?_ fun f12 _ _ h => ?_
       ·exact ox rfl (o_move rfl) (ox rfl (o_nilc rfl) (ox rfl (o_fa rfl t_f75_0 rfl rfl) (oy rfl (o_ldv 2 rfl rfl PConn t_y26) (ox rfl (o_move rfl) (ox rfl (o_nilc rfl) (ox rfl (o_fa rfl t_f75_2 rfl rfl) (ox rfl (o_ldx 1 rfl rfl X_eq t_y31) (ox rfl (o_move rfl) (ox rfl (o_nilc rfl) (ox rfl (o_fa rfl t_f75_3 rfl rfl) (ox rfl (o_ldx 0 rfl rfl X_eq t_y32) (ox rfl (o_move rfl) (ox rfl (o_move rfl) (ox rfl (o_nilc rfl) (ox rfl (o_fa rfl t_f75_4 rfl rfl) (ox rfl (o_ldx 6 rfl rfl X_bool t_y4) (ox rfl (o_st 0 rfl rfl rfl (pv_at PConn 1 rfl) rfl t_w26) (ox rfl (o_assign rfl) (ox rfl (o_assign rfl) (ox rfl (o_assign rfl) (obs_nil)))))))))))))))))))))
       replace h := h.wk (E' := [(6, pt b3), (10, .bool false), (56, .bool r7.2.gone), (7, v39), (8, v40), (9, .int .i64 r7.1)]) (L' := [Val KConn (f12 3) r7.2.Conn, Fld KConn b3 0 r7.2.Conn, Fld (Kd.eq v40) b9 25 (), Fld (Kd.eq v39) b9 24 (), Fld KConn b9 0 r7.2.Conn, Fld (Kd.int .i64) b9 23 r7.2.now, Val (Kd.osl KSeg) v39 r7.2.segs, Val (Kd.osl KCall) v40 r7.2.calls, Fld Kd.bool b9 26 r7.2.gone, Ent.pur (InR .i64 r7.1), Val KTell v37 a3, Val KConn v3 a1, Fld KTell b2 0 a3, Fld KConn b1 0 a1, Val KConn v1 a1, Val KTell v2 a3]) (by kernel_rfl) [0, 1, 2, 3, 4, 5, 6, 7, 8, 9, 10, 11, 12, 13, 14, 15] (by decide) (by kernel_rfl)
       refine ga h (o_assign rfl) rfl fun h => ?_
       refine GoR.done ?_
       obtain ⟨v42, h, u7⟩ := h.peek 1 rfl PConn t_y26
       rw [← som H]
       exact g_ret (vs := [v42, v39, v40, .int .i64 r7.1, .bool r7.2.gone]) h Try.func25 ⟨⟨_, rfl, u7⟩, ⟨rfl, ⟨rfl, ⟨rfl, ⟨rfl, trivial⟩⟩⟩⟩⟩ ⟨(v42, v39, v40), rfl, ((h.mem.pick [0, 7, 8] (by decide) rfl).addpur g7)⟩
def splice_Hear.g (k_ : Nat) (a1 : TConn) (a2 : Int) (a3 : TTell) : Option (TConn × (List TSeg) × (List TCall) × Int × Bool) :=
  (splice_begin.g k_ a1 a2).bind fun r1 => (if (!r1.2) = true then some ((a1, [], [], 0, false)) else lt (decide (a3.Kind = 1)) fun y1 => (if y1 = true then (r1.1).bind fun y2 => (splice_step_open.g k_ y2 a3).bind fun r2 => some ((r2.2.Conn, r2.2.segs, r2.2.calls, r2.1, r2.2.gone)) else lt (decide (a3.Kind = 2)) fun y3 => (if y3 = true then (r1.1).bind fun y4 => (splice_step_reset.g k_ y4 a3).bind fun r3 => some ((r3.2.Conn, r3.2.segs, r3.2.calls, r3.1, r3.2.gone)) else lt (decide (a3.Kind = 3)) fun y5 => (if y5 = true then (r1.1).bind fun y6 => (splice_step_more.g k_ y6 a3).bind fun r4 => some ((r4.2.Conn, r4.2.segs, r4.2.calls, r4.1, r4.2.gone)) else lt (decide (a3.Kind = 4)) fun y7 => (if y7 = true then (r1.1).bind fun y8 => (splice_step_eof.g k_ y8 a3).bind fun r5 => some ((r5.2.Conn, r5.2.segs, r5.2.calls, r5.1, r5.2.gone)) else lt (decide (a3.Kind = 5)) fun y9 => (if y9 = true then (r1.1).bind fun y10 => (splice_step_took.g k_ y10 a3).bind fun r6 => some ((r6.2.Conn, r6.2.segs, r6.2.calls, r6.1, r6.2.gone)) else (r1.1).bind fun y11 => (splice_step_other.g k_ y11 a3).bind fun r7 => some ((r7.2.Conn, r7.2.segs, r7.2.calls, r7.1, r7.2.gone))))))))
theorem splice_Hear.le (k_ : Nat) (a1 : TConn) (a2 : Int) (a3 : TTell) : Le (splice_Hear.g k_ a1 a2 a3) (splice_Hear.f a1 a2 a3) := by
 unfold splice_Hear.g splice_Hear.f
 repeat' (first | with_reducible refine le_loop fun _ => ?_ | with_reducible refine le_bind ?_ fun _ => ?_ | with_reducible refine le_ite ?_ ?_ | with_reducible refine le_lt fun _ => ?_ | with_reducible refine le_elim (fun _ => ?_) (fun _ => ?_) _ | with_reducible apply splice_begin.le | with_reducible apply splice_step_eof.le | with_reducible apply splice_step_more.le | with_reducible apply splice_step_open.le | with_reducible apply splice_step_other.le | with_reducible apply splice_step_reset.le | with_reducible apply splice_step_took.le | with_reducible exact le_refl _)
/-! drawbridge/seg.of -/
noncomputable def seg_of.f (a1 : TSeg) : Option (Thead) :=
  some ((⟨IntKind.u16.wrap a1.Src, IntKind.u16.wrap a1.Dst, a1.Seq, a1.Ack, IntKind.u8.wrap a1.Flags, IntKind.u16.wrap a1.Win⟩ : Thead))
set_option maxRecDepth 100000 in
set_option maxHeartbeats 4000000 in
theorem seg_of.spc (v1 : Value) (a1 : TSeg) (r : Thead) (H : seg_of.f a1 = some r) : Spc Try.prog 45 [v1] [Val KSeg v1 a1] [] (fun (s : Value) => s) (fun s => [Val Khead s r]) := by
 unfold seg_of.f at H
 refine Spc.go Try.func45 rfl (by kernel_rfl) rfl rfl (all_cons (Val.per PSeg) all_nil) fun F a w h => ?_
 refine Go.seq ?_
 refine Go.reg ?_
 refine gs h (o_box (K := KSeg) rfl (pv_at PSeg 0 rfl)) rfl fun b1 _ _ h => ?_
 refine gs h (o_alloc (K := Khead) (z := (.agg #[.int .u16 0, .int .u16 0, .int .u32 0, .int .u32 0, .int .u8 0, .int .u16 0])) rfl Zhead) rfl fun b2 _ _ h => ?_
 refine GoR.done ?_
 refine Go.seq ?_
 refine Go.reg ?_
 refine ga h (o_fa rfl t_f30_0 rfl rfl) rfl fun h => ?_
 have g1 := (in2 (fd_sub sSeg_Src 1 rfl h.mem))
 refine ga h (o_lfx 1 rfl rfl sSeg_Src rfl X_int t_y3) rfl fun h => ?_
 refine ga h (o_conv rfl t_q3 t_u88) rfl fun h => ?_
 refine ga h (o_fa rfl t_f30_1 rfl rfl) rfl fun h => ?_
 have g2 := (in2 (fd_sub sSeg_Dst 1 rfl h.mem))
 refine ga h (o_lfx 1 rfl rfl sSeg_Dst rfl X_int t_y3) rfl fun h => ?_
 refine ga h (o_conv rfl t_q3 t_u88) rfl fun h => ?_
 refine ga h (o_fa rfl t_f30_2 rfl rfl) rfl fun h => ?_
 have g3 := (in2 (fd_sub sSeg_Seq 1 rfl h.mem))
 refine ga h (o_lfx 1 rfl rfl sSeg_Seq rfl X_int t_y22) rfl fun h => ?_
 refine ga h (o_fa rfl t_f30_3 rfl rfl) rfl fun h => ?_
 have g4 := (in2 (fd_sub sSeg_Ack 1 rfl h.mem))
 refine ga h (o_lfx 1 rfl rfl sSeg_Ack rfl X_int t_y22) rfl fun h => ?_
 refine ga h (o_fa rfl t_f30_4 rfl rfl) rfl fun h => ?_
 have g5 := (in2 (fd_sub sSeg_Flags 1 rfl h.mem))
 refine ga h (o_lfx 1 rfl rfl sSeg_Flags rfl X_int t_y3) rfl fun h => ?_
 refine ga h (o_conv rfl t_q3 t_u5) rfl fun h => ?_
 refine ga h (o_fa rfl t_f30_5 rfl rfl) rfl fun h => ?_
 have g6 := (in2 (fd_sub sSeg_Win 1 rfl h.mem))
 refine ga h (o_lfx 1 rfl rfl sSeg_Win rfl X_int t_y3) rfl fun h => ?_
 refine ga h (o_conv rfl t_q3 t_u88) rfl fun h => ?_
 refine gs h (o_build (K := Khead) (x := (⟨IntKind.u16.wrap a1.Src, IntKind.u16.wrap a1.Dst, a1.Seq, a1.Ack, IntKind.u8.wrap a1.Flags, IntKind.u16.wrap a1.Win⟩ : Thead)) (ps := [(0, .int .u16 (IntKind.u16.wrap a1.Src)), (1, .int .u16 (IntKind.u16.wrap a1.Dst)), (2, .int .u32 a1.Seq), (3, .int .u32 a1.Ack), (4, .int .u8 (IntKind.u8.wrap a1.Flags)), (5, .int .u16 (IntKind.u16.wrap a1.Win))]) rfl (zs := zshead) rfl t_b90 rfl (show PB (Kd.pair (Kd.int .u16) (Kd.pair (Kd.int .u16) (Kd.pair (Kd.int .u32) (Kd.pair (Kd.int .u32) (Kd.pair (Kd.int .u8) (Kd.last (Kd.int .u16))))))) (IntKind.u16.wrap a1.Src, IntKind.u16.wrap a1.Dst, a1.Seq, a1.Ack, IntKind.u8.wrap a1.Flags, IntKind.u16.wrap a1.Win) 0 zshead _ _ from (pb_part (pv_int (wrap_in _ _)) rfl (pb_part (pv_int (wrap_in _ _)) rfl (pb_part (pv_int g3) rfl (pb_part (pv_int g4) rfl (pb_part (pv_int (wrap_in _ _)) rfl (pb_lastp (pv_int (wrap_in _ _)) rfl)))))))) rfl fun v2 _ _ h => ?_
 refine gs0 h (o_st 1 rfl rfl rfl (pv_at Phead 0 rfl) rfl t_w90) fun _ _ _ h => ?_
 refine GoR.done ?_
 obtain ⟨v3, h, u1⟩ := h.peek 1 rfl Phead t_y90
 rw [← som H]
 exact g_ret (vs := [v3]) h Try.func45 ⟨⟨_, rfl, u1⟩, trivial⟩ ⟨v3, rfl, (h.mem.pick [0] (by decide) rfl)⟩
def seg_of.g (k_ : Nat) (a1 : TSeg) : Option (Thead) :=
  some ((⟨IntKind.u16.wrap a1.Src, IntKind.u16.wrap a1.Dst, a1.Seq, a1.Ack, IntKind.u8.wrap a1.Flags, IntKind.u16.wrap a1.Win⟩ : Thead))
theorem seg_of.le (k_ : Nat) (a1 : TSeg) : Le (seg_of.g k_ a1) (seg_of.f a1) := by
 unfold seg_of.g seg_of.f
 repeat' (first | with_reducible refine le_loop fun _ => ?_ | with_reducible refine le_bind ?_ fun _ => ?_ | with_reducible refine le_ite ?_ ?_ | with_reducible refine le_lt fun _ => ?_ | with_reducible refine le_elim (fun _ => ?_) (fun _ => ?_) _ | with_reducible exact le_refl _)
/-! (drawbridge/seg.head).seg -/
noncomputable def seg_head_seg.f (a1 : Thead) : Option (TSeg) :=
  some ((⟨a1.src, a1.dst, a1.seq, a1.ack, a1.flags, a1.win, 0, []⟩ : TSeg))
set_option maxRecDepth 100000 in
set_option maxHeartbeats 4000000 in
theorem seg_head_seg.spc (v1 : Value) (a1 : Thead) (r : TSeg) (H : seg_head_seg.f a1 = some r) : Spc Try.prog 59 [v1] [Val Khead v1 a1] [] (fun (s : Value) => s) (fun s => [Val KSeg s r]) := by
 unfold seg_head_seg.f at H
 refine Spc.go Try.func59 rfl (by kernel_rfl) rfl rfl (all_cons (Val.per Phead) all_nil) fun F a w h => ?_
 refine Go.seq ?_
 refine Go.reg ?_
 refine gs h (o_box (K := Khead) rfl (pv_at Phead 0 rfl)) rfl fun b1 _ _ h => ?_
 refine gs h (o_alloc (K := KSeg) (z := (.agg #[.int .i64 0, .int .i64 0, .int .u32 0, .int .u32 0, .int .i64 0, .int .i64 0, .int .i64 0, .slice none 0 0])) rfl ZSeg) rfl fun b2 _ _ h => ?_
 refine GoR.done ?_
 refine Go.seq ?_
 refine Go.reg ?_
 refine ga h (o_fa rfl t_f90_0 rfl rfl) rfl fun h => ?_
 have g1 := (in2 (fd_sub shead_src 1 rfl h.mem))
 refine ga h (o_lfx 1 rfl rfl shead_src rfl X_int t_y88) rfl fun h => ?_
 refine ga h (o_convw rfl t_q88 t_u3 g1 rfl) rfl fun h => ?_
 refine ga h (o_fa rfl t_f90_1 rfl rfl) rfl fun h => ?_
 have g2 := (in2 (fd_sub shead_dst 1 rfl h.mem))
 refine ga h (o_lfx 1 rfl rfl shead_dst rfl X_int t_y88) rfl fun h => ?_
 refine ga h (o_convw rfl t_q88 t_u3 g2 rfl) rfl fun h => ?_
 refine ga h (o_fa rfl t_f90_2 rfl rfl) rfl fun h => ?_
 have g3 := (in2 (fd_sub shead_seq 1 rfl h.mem))
 refine ga h (o_lfx 1 rfl rfl shead_seq rfl X_int t_y22) rfl fun h => ?_
 refine ga h (o_fa rfl t_f90_3 rfl rfl) rfl fun h => ?_
 have g4 := (in2 (fd_sub shead_ack 1 rfl h.mem))
 refine ga h (o_lfx 1 rfl rfl shead_ack rfl X_int t_y22) rfl fun h => ?_
 refine ga h (o_fa rfl t_f90_4 rfl rfl) rfl fun h => ?_
 have g5 := (in2 (fd_sub shead_flags 1 rfl h.mem))
 refine ga h (o_lfx 1 rfl rfl shead_flags rfl X_int t_y5) rfl fun h => ?_
 refine ga h (o_convw rfl t_q5 t_u3 g5 rfl) rfl fun h => ?_
 refine ga h (o_fa rfl t_f90_5 rfl rfl) rfl fun h => ?_
 have g6 := (in2 (fd_sub shead_win 1 rfl h.mem))
 refine ga h (o_lfx 1 rfl rfl shead_win rfl X_int t_y88) rfl fun h => ?_
 refine ga h (o_convw rfl t_q88 t_u3 g6 rfl) rfl fun h => ?_
 refine gs h (o_build (K := KSeg) (x := (⟨a1.src, a1.dst, a1.seq, a1.ack, a1.flags, a1.win, 0, []⟩ : TSeg)) (ps := [(0, .int .i64 a1.src), (1, .int .i64 a1.dst), (2, .int .u32 a1.seq), (3, .int .u32 a1.ack), (4, .int .i64 a1.flags), (5, .int .i64 a1.win)]) rfl (zs := zsSeg) rfl t_b30 rfl (show PB (Kd.pair (Kd.int .i64) (Kd.pair (Kd.int .i64) (Kd.pair (Kd.int .u32) (Kd.pair (Kd.int .u32) (Kd.pair (Kd.int .i64) (Kd.pair (Kd.int .i64) (Kd.pair (Kd.int .i64) (Kd.last (Kd.sl (Kd.int .u8)))))))))) (a1.src, a1.dst, a1.seq, a1.ack, a1.flags, a1.win, 0, []) 0 zsSeg _ _ from (pb_part (pv_int (inr_wid (k := .u16) (k' := .i64) g1 rfl)) rfl (pb_part (pv_int (inr_wid (k := .u16) (k' := .i64) g2 rfl)) rfl (pb_part (pv_int g3) rfl (pb_part (pv_int g4) rfl (pb_part (pv_int (inr_wid (k := .u8) (k' := .i64) g5 rfl)) rfl (pb_part (pv_int (inr_wid (k := .u16) (k' := .i64) g6 rfl)) rfl (pb_zero z_int (pb_lastz z_sl)))))))))) rfl fun v2 _ _ h => ?_
 refine gs0 h (o_st 1 rfl rfl rfl (pv_at PSeg 0 rfl) rfl t_w30) fun _ _ _ h => ?_
 refine GoR.done ?_
 obtain ⟨v3, h, u1⟩ := h.peek 1 rfl PSeg t_y30
 rw [← som H]
 exact g_ret (vs := [v3]) h Try.func59 ⟨⟨_, rfl, u1⟩, trivial⟩ ⟨v3, rfl, (h.mem.pick [0] (by decide) rfl)⟩
def seg_head_seg.g (k_ : Nat) (a1 : Thead) : Option (TSeg) :=
  some ((⟨a1.src, a1.dst, a1.seq, a1.ack, a1.flags, a1.win, 0, []⟩ : TSeg))
theorem seg_head_seg.le (k_ : Nat) (a1 : Thead) : Le (seg_head_seg.g k_ a1) (seg_head_seg.f a1) := by
 unfold seg_head_seg.g seg_head_seg.f
 repeat' (first | with_reducible refine le_loop fun _ => ?_ | with_reducible refine le_bind ?_ fun _ => ?_ | with_reducible refine le_ite ?_ ?_ | with_reducible refine le_lt fun _ => ?_ | with_reducible refine le_elim (fun _ => ?_) (fun _ => ?_) _ | with_reducible exact le_refl _)
end Go.Proofs.Ytpcbhkigmnpimaa.S
