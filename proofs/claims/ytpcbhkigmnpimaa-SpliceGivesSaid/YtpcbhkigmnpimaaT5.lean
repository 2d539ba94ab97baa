/- Contracts, printed by a program of this session. -/
import Derived.Test.YtpcbhkigmnpimaaT1
import Derived.Test.YtpcbhkigmnpimaaT3
namespace Go.Proofs.Ytpcbhkigmnpimaa.S
open Go Go.SL Go.RowKit
set_option linter.unusedVariables false
set_option linter.unusedSimpArgs false
/-! (*drawbridge/splice.step).call -/
noncomputable def splice_step_call.f (a1 : Tstep) (a2 : Int) (a3 : List Int) : Option (Tstep) :=
  (slices_Clone_s_byte_byte.f a3).bind fun r2 => (app a1.calls ([(⟨a2, a1.Conn.Id, 0, 0, r2⟩ : TCall)] : List TCall)).bind fun x1 => some ((⟨a1.Conn, a1.now, a1.segs, x1, a1.gone⟩ : Tstep))
set_option maxRecDepth 100000 in
set_option maxHeartbeats 4000000 in
theorem splice_step_call.spc (b1 : Nat) (a1 : Tstep) (a2 : Int) (ha2 : InR .i64 a2) (v1 : Value) (a3 : List Int) (r : Tstep) (H : splice_step_call.f a1 a2 a3 = some r) : Spc Try.prog 40 [pt b1, .int .i64 a2, v1] [Val (Kd.sl (Kd.int .u8)) v1 a3] [Fld Kstep b1 0 a1] (fun (s : Unit) => .tuple #[]) (fun s => [Fld Kstep b1 0 r]) := by
 unfold splice_step_call.f at H
 refine Spc.go Try.func40 rfl (by kernel_rfl) rfl rfl (all_cons (Val.per Per_sl) all_nil) fun F a w h => ?_
 replace h := h.mm fun m => (m.take (i := 1) rfl).opn (cstep _ _)
 obtain ⟨v2, h⟩ := h.unp 2 rfl
 obtain ⟨v3, h⟩ := h.unp 4 rfl
 replace h := h.wq [(0, pt b1), (1, .int .i64 a2), (2, v1)] [Val (Kd.osl KCall) v3 a1.calls, Fld (Kd.eq v3) b1 25 (), Fld (Kd.eq v2) b1 24 (), Fld KConn b1 0 a1.Conn, Fld (Kd.int .i64) b1 23 a1.now, Val (Kd.osl KSeg) v2 a1.segs, Fld Kd.bool b1 26 a1.gone, Val (Kd.sl (Kd.int .u8)) v1 a3] [5, 0, 1, 2, 3, 4, 6, 7]
 obtain ⟨r2, er2, H⟩ := bindE H
 obtain ⟨x1, ex1, H⟩ := bindE H
 refine Go.draw (E := [(0, pt b1), (1, .int .i64 a2), (2, v1)]) [] (L := [Fld (Kd.eq v3) b1 25 (), Fld (Kd.eq v2) b1 24 (), Fld KConn b1 0 a1.Conn, Fld (Kd.int .i64) b1 23 a1.now, Val (Kd.osl KSeg) v2 a1.segs, Fld Kd.bool b1 26 a1.gone, Val (Kd.sl (Kd.int .u8)) v1 a3]) h rfl rfl 16 [cn (pt b1), cn (pt b1), ce [1] (pt b1), ce [1, 2] (.pointer (some ⟨b1, 25, none⟩)), ce [1, 2, 3] (v3), cn (.int .i64 a2), cn (pt b1), ce [6] (pt b1), ce [6, 7] (pt b1), ce [6, 7, 8] (pt b1), cm [6, 7, 8, 9] [] [] (.int .i64 a1.Conn.Id) fun u => [Ent.pur (InR .i64 a1.Conn.Id)], cn (v1), cw [11] [] [] fun u => [Val (Kd.sl (Kd.int .u8)) u r2], cw [5, 6, 7, 8, 9, 10, 11, 12] [10, 12] [] fun u => [Val KCall u (⟨a2, a1.Conn.Id, 0, 0, r2⟩ : TCall)], cw [5, 6, 7, 8, 9, 10, 11, 12, 13] [13] [] fun u => [Val (Kd.osl KCall) u ([(⟨a2, a1.Conn.Id, 0, 0, r2⟩ : TCall)] : List TCall)], cw [1, 2, 3, 4, 5, 6, 7, 8, 9, 10, 11, 12, 13, 14] [16, 14] [16] fun u => [Val (Kd.osl KCall) u x1], cm [] [] [] undef fun u => [Val (Kd.osl KCall) v3 a1.calls]] rfl t_mxo (by kernel_rfl) (by rfl) ?_ fun f3 _ _ h => ?_
 ·exact ox rfl (o_move rfl) (ox rfl (o_move rfl) (ox rfl (o_nilc rfl) (ox rfl (o_fa rfl t_f75_3 rfl rfl) (ox rfl (o_ldx 0 rfl rfl X_eq t_y32) (ox rfl (o_move rfl) (ox rfl (o_move rfl) (ox rfl (o_nilc rfl) (ox rfl (o_fa rfl t_f75_0 rfl rfl) (ox rfl (o_fa rfl t_f26_0 rfl rfl) (ox rfl (OpS.pur (fun F w m_ => (in2 (fd_sub sConn_Id 2 rfl m_))) (o_lfx 2 rfl rfl sConn_Id rfl X_int t_y3)) (ox rfl (o_move rfl) (oy rfl (OpS.mm (o_call (slices_Clone_s_byte_byte.spc v1 a3 r2 er2) rfl [6] [] (by decide) rfl rfl) (fun _ _ _ m => m.freeze 0 rfl)) (ow rfl rfl rfl (fun f3 => (OpS.fact (p := InR .i64 a1.Conn.Id) (fun F w m_ => (Mem.pur 0 rfl m_)) fun g2 => (OpS.fact (p := InR .i64 a1.Conn.Id) (fun F w m_ => (Mem.pur 0 rfl m_)) fun g3 => (o_build (K := KCall) (x := (⟨a2, a1.Conn.Id, 0, 0, r2⟩ : TCall)) (ps := [(0, .int .i64 a2), (1, .int .i64 a1.Conn.Id), (4, (f3 12))]) rfl (zs := zsCall) rfl t_b37 rfl (show PB (Kd.pair (Kd.int .i64) (Kd.pair (Kd.int .i64) (Kd.pair (Kd.int .u32) (Kd.pair (Kd.int .i64) (Kd.last (Kd.sl (Kd.int .u8))))))) (a2, a1.Conn.Id, 0, 0, r2) 0 zsCall _ _ from (pb_part (pv_int ha2) rfl (pb_part (pv_int g3) rfl (pb_zero z_int (pb_zero z_int (pb_lastp (pv_at Per_sl 1 rfl) rfl)))))))))) (ow rfl rfl rfl (fun f3 => (o_bs (K := KCall) (vs := [(f3 13)]) (xs := ([(⟨a2, a1.Conn.Id, 0, 0, r2⟩ : TCall)] : List TCall)) rfl rfl (pvs_cons (pv_at PCall 0 rfl) pvs_nil) t_a32 (by decide) (by decide))) (oy rfl (o_app (K := KCall) 0 rfl rfl rfl (rd_own 1 rfl) ex1 t_a32 t_n32) (obs_nil))))))))))))))))
 replace h := h.wk (E' := [(6, pt b1), (21, (f3 15))]) (L' := [Ent.pur (InR .i64 a1.Conn.Id), Val (Kd.sl (Kd.int .u8)) (f3 12) r2, Val KCall (f3 13) (⟨a2, a1.Conn.Id, 0, 0, r2⟩ : TCall), Val (Kd.osl KCall) (f3 14) ([(⟨a2, a1.Conn.Id, 0, 0, r2⟩ : TCall)] : List TCall), Val (Kd.osl KCall) (f3 15) x1, Fld (Kd.eq v3) b1 25 (), Fld (Kd.eq v2) b1 24 (), Fld KConn b1 0 a1.Conn, Fld (Kd.int .i64) b1 23 a1.now, Val (Kd.osl KSeg) v2 a1.segs, Fld Kd.bool b1 26 a1.gone, Val (Kd.sl (Kd.int .u8)) v1 a3]) (by kernel_rfl) [0, 1, 2, 3, 4, 5, 6, 7, 8, 9, 10, 11] (by decide) (by kernel_rfl)
 refine ga h (o_nilc rfl) rfl fun h => ?_
 refine ga h (o_fa rfl t_f75_3 rfl rfl) rfl fun h => ?_
 refine gs0 h (o_st 5 rfl rfl rfl (pv_eqo 4 rfl) rfl t_w32) fun _ _ _ h => ?_
 refine GoR.done ?_
 replace h := h.mm fun m => (m.pull (Lo := [Fld (Kd.eq v2) b1 24 (), Val (Kd.osl KSeg) v2 a1.segs]) [6, 9] (by decide) rfl).pck
 replace h := h.mm fun m => (m.pull (Lo := [Fld (Kd.eq (f3 15)) b1 25 (), Val (Kd.osl KCall) (f3 15) x1]) [6, 5] (by decide) rfl).pck
 replace h := h.mm fun m => (m.pull (Lo := [Fld KConn b1 0 a1.Conn, Fld (Kd.int .i64) b1 23 a1.now, Fld (Kd.osl KSeg) b1 24 a1.segs, Fld (Kd.osl KCall) b1 25 x1, Fld Kd.bool b1 26 a1.gone]) [9, 10, 1, 0, 12] (by decide) rfl).cls (cstep _ (⟨a1.Conn, a1.now, a1.segs, x1, a1.gone⟩ : Tstep))
 rw [← som H]
 exact g_fin (vs := []) h Try.func40 trivial ⟨(), rfl, (h.mem.pick [0] (by decide) rfl)⟩
def splice_step_call.g (k_ : Nat) (a1 : Tstep) (a2 : Int) (a3 : List Int) : Option (Tstep) :=
  (slices_Clone_s_byte_byte.g k_ a3).bind fun r2 => (app a1.calls ([(⟨a2, a1.Conn.Id, 0, 0, r2⟩ : TCall)] : List TCall)).bind fun x1 => some ((⟨a1.Conn, a1.now, a1.segs, x1, a1.gone⟩ : Tstep))
theorem splice_step_call.le (k_ : Nat) (a1 : Tstep) (a2 : Int) (a3 : List Int) : Le (splice_step_call.g k_ a1 a2 a3) (splice_step_call.f a1 a2 a3) := by
 unfold splice_step_call.g splice_step_call.f
 repeat' (first | with_reducible refine le_loop fun _ => ?_ | with_reducible refine le_bind ?_ fun _ => ?_ | with_reducible refine le_ite ?_ ?_ | with_reducible refine le_lt fun _ => ?_ | with_reducible refine le_elim (fun _ => ?_) (fun _ => ?_) _ | with_reducible apply slices_Clone_s_byte_byte.le | with_reducible exact le_refl _)
/-! (*drawbridge/splice.step).ack -/
noncomputable def splice_step_ack.f (a1 : Tstep) : Option (Tstep) :=
  (splice_step_say.f a1 a1.Conn.Next 0 []).bind fun r1 => some (r1)
set_option maxRecDepth 100000 in
set_option maxHeartbeats 4000000 in
theorem splice_step_ack.spc (b1 : Nat) (a1 : Tstep) (r : Tstep) (H : splice_step_ack.f a1 = some r) : Spc Try.prog 50 [pt b1] [] [Fld Kstep b1 0 a1] (fun (s : Unit) => .tuple #[]) (fun s => [Fld Kstep b1 0 r]) := by
 unfold splice_step_ack.f at H
 refine Spc.go Try.func50 rfl (by kernel_rfl) rfl rfl all_nil fun F a w h => ?_
 refine Go.reg ?_
 refine mv h rfl rfl fun h => ?_
 refine mv h rfl rfl fun h => ?_
 refine ga h (o_nilc rfl) rfl fun h => ?_
 refine ga h (o_fa rfl t_f75_0 rfl rfl) rfl fun h => ?_
 refine ga h (o_fa rfl t_f26_10 rfl rfl) rfl fun h => ?_
 have g1 := (in2 (fd_sub t_sstep_Conn_Next 0 rfl h.mem))
 refine ga h (o_lfx 0 rfl rfl t_sstep_Conn_Next rfl X_int t_y22) rfl fun h => ?_
 replace h := h.mm fun m => (pv_nil (K := (Kd.int .u8))).ent m
 obtain ⟨r1, er1, H⟩ := bindE H
 refine ga h (o_call (splice_step_say.spc b1 a1 a1.Conn.Next g1 0 (show InR .i64 0 by decide) (.slice none 0 0) [] r1 er1) rfl [0] [1] (by decide) rfl rfl) rfl fun h => ?_
 refine GoR.done ?_
 rw [← som H]
 exact g_fin (vs := []) h Try.func50 trivial ⟨(), rfl, (h.mem.pick [0] (by decide) rfl)⟩
def splice_step_ack.g (k_ : Nat) (a1 : Tstep) : Option (Tstep) :=
  (splice_step_say.g k_ a1 a1.Conn.Next 0 []).bind fun r1 => some (r1)
theorem splice_step_ack.le (k_ : Nat) (a1 : Tstep) : Le (splice_step_ack.g k_ a1) (splice_step_ack.f a1) := by
 unfold splice_step_ack.g splice_step_ack.f
 repeat' (first | with_reducible refine le_loop fun _ => ?_ | with_reducible refine le_bind ?_ fun _ => ?_ | with_reducible refine le_ite ?_ ?_ | with_reducible refine le_lt fun _ => ?_ | with_reducible refine le_elim (fun _ => ?_) (fun _ => ?_) _ | with_reducible apply splice_step_say.le | with_reducible exact le_refl _)
/-! (*drawbridge/splice.step).shut -/
noncomputable def splice_step_shut.f (a1 : Tstep) : Option (Tstep) :=
  ((if a1.Conn.Fin = true then (if (!a1.Conn.Shut) = true then some (decide ((a1.Conn.ToHost.length : Int) = 0)) else some (false)) else some (false))).bind (fun j1 => (if j1 = true then lt (⟨(⟨a1.Conn.Id, a1.Conn.Guest, a1.Conn.Gport, a1.Conn.Remote, a1.Conn.Rport, a1.Conn.Opening, a1.Conn.Up, a1.Conn.Done, a1.Conn.Begin, a1.Conn.Una, a1.Conn.Next, a1.Conn.Want, a1.Conn.Win, a1.Conn.Mss, a1.Conn.ToHost, a1.Conn.ToGuest, a1.Conn.Early, a1.Conn.Fin, a1.Conn.Eof, true, a1.Conn.At, a1.Conn.Wait, a1.Conn.Tries⟩ : TConn), a1.now, a1.segs, a1.calls, a1.gone⟩ : Tstep) fun y1 => (splice_step_call.f y1 3 []).bind fun r1 => some (r1) else some (a1)))
set_option maxRecDepth 100000 in
set_option maxHeartbeats 4000000 in
theorem splice_step_shut.spc (b1 : Nat) (a1 : Tstep) (r : Tstep) (H : splice_step_shut.f a1 = some r) : Spc Try.prog 57 [pt b1] [] [Fld Kstep b1 0 a1] (fun (s : Unit) => .tuple #[]) (fun s => [Fld Kstep b1 0 r]) := by
 unfold splice_step_shut.f at H
 refine Spc.go Try.func57 rfl (by kernel_rfl) rfl rfl all_nil fun F a w h => ?_
 refine Go.seq ?_
 obtain ⟨o1, H, G1⟩ := bindE H
 refine g_cut (fun G => ∀ j1 (a : Act) (w : World), o1 = j1 → St Try.f57.ntmps F [(0, pt b1), (23, .bool j1)] [Fld Kstep b1 0 a1] a w → G a w) 1 ?_ fun J1 => ?_
 ·intro j1 a w ho_ h
  rw [ho_] at G1
  have H := G1
  by_cases c3 : j1 = true
  ·have H := ifT c3 H
   refine g_t h rfl c3 ?_
   refine Go.seq ?_
   refine Go.reg ?_
   refine mv h rfl rfl fun h => ?_
   refine ga h (o_nilc rfl) rfl fun h => ?_
   refine ga h (o_fa rfl t_f75_0 rfl rfl) rfl fun h => ?_
   refine ga h (o_fa rfl t_f26_19 rfl rfl) rfl fun h => ?_
   obtain ⟨y1, ey1, H⟩ := ltE H
   refine gs0 h (o_stp (x0 := a1) (y := true) 0 t_ustep_19_1 rfl rfl rfl rfl pv_bool t_w4) fun _ _ _ h => ?_
   rw [ey1] at h
   refine GoR.done ?_
   refine Go.reg ?_
   refine mv h rfl rfl fun h => ?_
   replace h := h.mm fun m => (pv_nil (K := (Kd.int .u8))).ent m
   obtain ⟨r1, er1, H⟩ := bindE H
   refine ga h (o_call (splice_step_call.spc b1 y1 3 (show InR .i64 3 by decide) (.slice none 0 0) [] r1 er1) rfl [0] [1] (by decide) rfl rfl) rfl fun h => ?_
   refine GoR.done ?_
   rw [← som H]
   exact g_fin (vs := []) h Try.func57 trivial ⟨(), rfl, (h.mem.pick [0] (by decide) rfl)⟩
  ·have H := ifF c3 H
   refine g_f h rfl c3 ?_
   refine Go.skip ?_
   rw [← som H]
   exact g_fin (vs := []) h Try.func57 trivial ⟨(), rfl, (h.mem.pick [0] (by decide) rfl)⟩
 refine Go.reg ?_
 refine mv h rfl rfl fun h => ?_
 refine ga h (o_nilc rfl) rfl fun h => ?_
 refine ga h (o_fa rfl t_f75_0 rfl rfl) rfl fun h => ?_
 refine ga h (o_fa rfl t_f26_17 rfl rfl) rfl fun h => ?_
 refine ga h (o_lfx 0 rfl rfl t_sstep_Conn_Fin rfl X_bool t_y4) rfl fun h => ?_
 refine mv h rfl rfl fun h => ?_
 by_cases c1 : a1.Conn.Fin = true
 ·have H := ifT c1 H
  refine gg h rfl rfl c1 (o_move rfl) rfl fun _ _ _ h => ?_
  refine gg h rfl rfl c1 (o_nilc rfl) rfl fun _ _ _ h => ?_
  refine gg h rfl rfl c1 (o_fa rfl t_f75_0 rfl rfl) rfl fun _ _ _ h => ?_
  refine gg h rfl rfl c1 (o_fa rfl t_f26_19 rfl rfl) rfl fun _ _ _ h => ?_
  refine gg h rfl rfl c1 (o_lfx 0 rfl rfl t_sstep_Conn_Shut rfl X_bool t_y4) rfl fun _ _ _ h => ?_
  refine gg h rfl rfl c1 (o_not rfl) rfl fun _ _ _ h => ?_
  refine ga h (o_pickT rfl rfl c1) rfl fun h => ?_
  refine mv h rfl rfl fun h => ?_
  by_cases c2 : (!a1.Conn.Shut) = true
  ·have H := ifT c2 H
   refine gg h rfl rfl c2 (o_move rfl) rfl fun _ _ _ h => ?_
   refine gg h rfl rfl c2 (o_nilc rfl) rfl fun _ _ _ h => ?_
   refine gg h rfl rfl c2 (o_fa rfl t_f75_0 rfl rfl) rfl fun _ _ _ h => ?_
   refine gg h rfl rfl c2 (o_fa rfl t_f26_14 rfl rfl) rfl fun _ _ _ h => ?_
   refine gg h rfl rfl c2 (o_lfv 0 rfl rfl t_sstep_Conn_ToHost rfl Per_sl t_y23) rfl fun v1 _ _ h => ?_
   have g1 := (len_at 0 rfl h.mem)
   refine gg h rfl rfl c2 (o_ln rfl (rd_at 0 rfl) t_v23) rfl fun _ _ _ h => ?_
   refine gg h rfl rfl c2 (o_bin rfl rfl rfl) rfl fun _ _ _ h => ?_
   refine ga h (o_pickT rfl rfl c2) rfl fun h => ?_
   refine GoR.done ?_
   exact J1 (decide ((a1.Conn.ToHost.length : Int) = 0)) _ _ (som H).symm (h.wr [1])
  ·have H := ifF c2 H
   iterate 7 (refine gk h rfl rfl (nb_f c2) rfl fun _ h => ?_)
   refine ga h (o_pickF rfl rfl c2) rfl fun h => ?_
   refine GoR.done ?_
   exact J1 false _ _ (som H).symm (h.wr [0])
 ·have H := ifF c1 H
  iterate 6 (refine gk h rfl rfl (nb_f c1) rfl fun _ h => ?_)
  refine ga h (o_pickF rfl rfl c1) rfl fun h => ?_
  refine mv h rfl rfl fun h => ?_
  iterate 7 (refine gk h rfl rfl (nb_f Bool.false_ne_true) rfl fun _ h => ?_)
  refine ga h (o_pickF rfl rfl Bool.false_ne_true) rfl fun h => ?_
  refine GoR.done ?_
  exact J1 false _ _ (som H).symm (h.wr [0])
def splice_step_shut.g (k_ : Nat) (a1 : Tstep) : Option (Tstep) :=
  ((if a1.Conn.Fin = true then (if (!a1.Conn.Shut) = true then some (decide ((a1.Conn.ToHost.length : Int) = 0)) else some (false)) else some (false))).bind (fun j1 => (if j1 = true then lt (⟨(⟨a1.Conn.Id, a1.Conn.Guest, a1.Conn.Gport, a1.Conn.Remote, a1.Conn.Rport, a1.Conn.Opening, a1.Conn.Up, a1.Conn.Done, a1.Conn.Begin, a1.Conn.Una, a1.Conn.Next, a1.Conn.Want, a1.Conn.Win, a1.Conn.Mss, a1.Conn.ToHost, a1.Conn.ToGuest, a1.Conn.Early, a1.Conn.Fin, a1.Conn.Eof, true, a1.Conn.At, a1.Conn.Wait, a1.Conn.Tries⟩ : TConn), a1.now, a1.segs, a1.calls, a1.gone⟩ : Tstep) fun y1 => (splice_step_call.g k_ y1 3 []).bind fun r1 => some (r1) else some (a1)))
theorem splice_step_shut.le (k_ : Nat) (a1 : Tstep) : Le (splice_step_shut.g k_ a1) (splice_step_shut.f a1) := by
 unfold splice_step_shut.g splice_step_shut.f
 repeat' (first | with_reducible refine le_loop fun _ => ?_ | with_reducible refine le_bind ?_ fun _ => ?_ | with_reducible refine le_ite ?_ ?_ | with_reducible refine le_lt fun _ => ?_ | with_reducible refine le_elim (fun _ => ?_) (fun _ => ?_) _ | with_reducible apply splice_step_call.le | with_reducible exact le_refl _)
/-! (*drawbridge/splice.step).took -/
noncomputable def splice_step_took.f (a1 : Tstep) (a2 : TTell) : Option (Int × Tstep) :=
  lt (min a2.N (a1.Conn.ToHost.length : Int)) fun y1 => ((if a1.Conn.Opening = true then some (true) else some (decide (y1 ≤ 0)))).bind (fun j1 => (if j1 = true then some ((0, a1)) else (splice_room.f a1.Conn).bind fun r1 => lt (decide (r1 = 0)) fun y2 => (cut a1.Conn.ToHost 0 y1).bind fun x1 => (splice_step_call.f a1 2 x1).bind fun r2 => (cut r2.Conn.ToHost y1 (r2.Conn.ToHost.length : Int)).bind fun x2 => (slices_Clone_s_byte_byte.f x2).bind fun r3 => lt (⟨(⟨r2.Conn.Id, r2.Conn.Guest, r2.Conn.Gport, r2.Conn.Remote, r2.Conn.Rport, r2.Conn.Opening, r2.Conn.Up, r2.Conn.Done, r2.Conn.Begin, r2.Conn.Una, r2.Conn.Next, r2.Conn.Want, r2.Conn.Win, r2.Conn.Mss, r3, r2.Conn.ToGuest, r2.Conn.Early, r2.Conn.Fin, r2.Conn.Eof, r2.Conn.Shut, r2.Conn.At, r2.Conn.Wait, r2.Conn.Tries⟩ : TConn), r2.now, r2.segs, r2.calls, r2.gone⟩ : Tstep) fun y3 => ((if y2 = true then (splice_step_ack.f y3).bind fun r4 => some (r4) else some (y3))).bind (fun j2 => (splice_step_shut.f j2).bind fun r5 => ((if r5.Conn.Done = true then lt (⟨r5.Conn, r5.now, r5.segs, r5.calls, r5.Conn.Shut⟩ : Tstep) fun y4 => some (y4) else lt (⟨r5.Conn, r5.now, r5.segs, r5.calls, false⟩ : Tstep) fun y5 => some (y5))).bind (fun j3 => some ((y1, j3))))))
set_option maxRecDepth 100000 in
set_option maxHeartbeats 4000000 in
theorem splice_step_took.spc (b1 : Nat) (a1 : Tstep) (v1 : Value) (a2 : TTell) (r : Int × Tstep) (H : splice_step_took.f a1 a2 = some r) : Spc Try.prog 38 [pt b1, v1] [Val KTell v1 a2] [Fld Kstep b1 0 a1] (fun (s : Unit) => .int .i64 r.1) (fun s => [Ent.pur (InR .i64 r.1), Fld Kstep b1 0 r.2]) := by
 unfold splice_step_took.f at H
 refine Spc.go Try.func38 rfl (by kernel_rfl) rfl rfl (all_cons (Val.per PTell) all_nil) fun F a w h => ?_
 refine Go.seq ?_
 refine Go.reg ?_
 refine gs h (o_box (K := KTell) rfl (pv_at PTell 0 rfl)) rfl fun b2 _ _ h => ?_
 refine ga h (o_assign rfl) rfl fun h => ?_
 refine GoR.done ?_
 refine Go.seq ?_
 replace h := h.wq [(0, pt b1), (3, pt b2), (4, .int .i64 0)] [Fld KTell b2 0 a2, Val KTell v1 a2, Fld Kstep b1 0 a1] [0, 1, 2]
 refine Go.draw (E := [(0, pt b1), (3, pt b2), (4, .int .i64 0)]) [] (L := [Fld KTell b2 0 a2, Val KTell v1 a2, Fld Kstep b1 0 a1]) h rfl rfl 8 [cn (.pointer (some ⟨b2, 3, none⟩)), cm [0] [] [] (.int .i64 a2.N) fun u => [Ent.pur (InR .i64 a2.N)], cn (pt b1), ce [2] (pt b1), ce [2, 3] (pt b1), ce [2, 3, 4] (.pointer (some ⟨b1, 14, none⟩)), cw [2, 3, 4, 5] [] [] fun u => [Val (Kd.sl (Kd.int .u8)) u a1.Conn.ToHost], cm [2, 3, 4, 5, 6] [6] [] (.int .i64 (a1.Conn.ToHost.length : Int)) fun u => []] rfl t_mxo (by kernel_rfl) (by rfl) ?_ fun f1 _ _ h => ?_
 ·exact ox rfl (o_fa rfl t_f44_3 rfl rfl) (ox rfl (OpS.pur (fun F w m_ => (in2 (fd_sub sTell_N 0 rfl m_))) (o_lfx 0 rfl rfl sTell_N rfl X_int t_y3)) (ox rfl (o_move rfl) (ox rfl (o_nilc rfl) (ox rfl (o_fa rfl t_f75_0 rfl rfl) (ox rfl (o_fa rfl t_f26_14 rfl rfl) (oy rfl (o_lfv (K := Kstep) (pr := fun x => x.Conn.ToHost) (y := a1) 2 rfl rfl t_sstep_Conn_ToHost rfl Per_sl t_y23) (ox rfl (o_ln rfl (rd_at 0 rfl) t_v23) (obs_nil))))))))
 replace h := h.wk (E' := [(0, pt b1), (4, .int .i64 0), (8, .int .i64 a2.N), (14, .int .i64 (a1.Conn.ToHost.length : Int))]) (L' := [Ent.pur (InR .i64 a2.N), Val (Kd.sl (Kd.int .u8)) (f1 6) a1.Conn.ToHost, Fld KTell b2 0 a2, Val KTell v1 a2, Fld Kstep b1 0 a1]) (by kernel_rfl) [0, 1, 2, 3, 4] (by decide) (by kernel_rfl)
 have g1 := (Mem.pur 0 rfl h.mem)
 have g2 := (len_at 1 rfl h.mem)
 refine ga h (o_min rfl rfl) rfl fun h => ?_
 obtain ⟨y1, ey1, H⟩ := ltE H
 refine ga h (o_assign' rfl (congrArg (fun z => Value.int .i64 z) ey1)) rfl fun h => ?_
 refine GoR.done ?_
 refine Go.seq ?_
 refine Go.seq ?_
 obtain ⟨o1, H, G1⟩ := bindE H
 refine g_cut (fun G => ∀ j1 (a : Act) (w : World), o1 = j1 → St Try.f38.ntmps F [(0, pt b1), (5, .int .i64 y1), (24, .bool j1)] [Fld KTell b2 0 a2, Fld Kstep b1 0 a1] a w → G a w) 1 ?_ fun J1 => ?_
 ·intro j1 a w ho_ h
  rw [ho_] at G1
  have H := G1
  by_cases c2 : j1 = true
  ·have H := ifT c2 H
   refine g_t h rfl c2 ?_
   refine Go.seq ?_
   refine Go.reg ?_
   refine ga h (o_assign rfl) rfl fun h => ?_
   refine GoR.done ?_
   rw [← som H]
   exact g_ret (vs := [.int .i64 0]) h Try.func38 ⟨rfl, trivial⟩ ⟨(), rfl, ((h.mem.pick [1] (by decide) rfl).addpur (show InR .i64 0 by decide))⟩
  ·have H := ifF c2 H
   refine g_f h rfl c2 ?_
   refine Go.skip ?_
   refine Go.seq ?_
   refine Go.reg ?_
   refine mv h rfl rfl fun h => ?_
   refine ga h (o_nilc rfl) rfl fun h => ?_
   refine ga h (o_fa rfl t_f75_0 rfl rfl) rfl fun h => ?_
   refine gs h (o_lfv 1 rfl rfl sstep_Conn rfl PConn t_y26) rfl fun v3 _ _ h => ?_
   obtain ⟨r1, er1, H⟩ := bindE H
   refine ga h (o_call (splice_room.spc v3 a1.Conn r1 er1) rfl [0] [] (by decide) rfl rfl) rfl fun h => ?_
   have g3 := h.mem.pur 0 rfl
   refine ga h (o_bin rfl rfl rfl) rfl fun h => ?_
   obtain ⟨y2, ey2, H⟩ := ltE H
   refine ga h (o_assign' rfl (congrArg Value.bool ey2)) rfl fun h => ?_
   refine GoR.done ?_
   refine Go.seq ?_
   refine Go.reg ?_
   refine mv h rfl rfl fun h => ?_
   refine mv h rfl rfl fun h => ?_
   refine ga h (o_nilc rfl) rfl fun h => ?_
   refine ga h (o_fa rfl t_f75_0 rfl rfl) rfl fun h => ?_
   refine ga h (o_fa rfl t_f26_14 rfl rfl) rfl fun h => ?_
   refine gs h (o_lfv 3 rfl rfl t_sstep_Conn_ToHost rfl Per_sl t_y23) rfl fun v4 _ _ h => ?_
   refine mv h rfl rfl fun h => ?_
   obtain ⟨x1, ex1, H⟩ := bindE H
   refine gs h (o_cuth rfl (pv_at Per_sl 0 rfl) rfl ex1 t_v23) rfl fun v5 _ _ h => ?_
   obtain ⟨r2, er2, H⟩ := bindE H
   refine ga h (o_call (splice_step_call.spc b1 a1 2 (show InR .i64 2 by decide) v5 x1 r2 er2) rfl [0] [5] (by decide) rfl rfl) rfl fun h => ?_
   refine GoR.done ?_
   refine Go.seq ?_
   refine Go.reg ?_
   refine mv h rfl rfl fun h => ?_
   refine mv h rfl rfl fun h => ?_
   refine ga h (o_nilc rfl) rfl fun h => ?_
   refine ga h (o_fa rfl t_f75_0 rfl rfl) rfl fun h => ?_
   refine ga h (o_fa rfl t_f26_14 rfl rfl) rfl fun h => ?_
   refine gs h (o_lfv 0 rfl rfl t_sstep_Conn_ToHost rfl Per_sl t_y23) rfl fun v6 _ _ h => ?_
   refine mv h rfl rfl fun h => ?_
   obtain ⟨x2, ex2, H⟩ := bindE H
   refine gs h (o_cutl rfl (pv_at Per_sl 0 rfl) rfl ex2 t_v23) rfl fun v7 _ _ h => ?_
   obtain ⟨r3, er3, H⟩ := bindE H
   refine gs h (o_call (slices_Clone_s_byte_byte.spc v7 x2 r3 er3) rfl [0] [] (by decide) rfl rfl) rfl fun v8 _ _ h => ?_
   refine ga h (o_nilc rfl) rfl fun h => ?_
   refine ga h (o_fa rfl t_f75_0 rfl rfl) rfl fun h => ?_
   refine ga h (o_fa rfl t_f26_14 rfl rfl) rfl fun h => ?_
   replace h := h.mm fun m => m.freeze 0 rfl
   obtain ⟨y3, ey3, H⟩ := ltE H
   refine gs0 h (o_stp (x0 := r2) (y := r3) 3 t_ustep_14_1 rfl rfl rfl rfl (pv_at Per_sl 0 rfl) t_w23) fun _ _ _ h => ?_
   rw [ey3] at h
   refine GoR.done ?_
   refine Go.seq ?_
   obtain ⟨o2, H, G2⟩ := bindE H
   refine g_cut (fun G => ∀ j2 (a : Act) (w : World), o2 = j2 → St Try.f38.ntmps F [(0, pt b1), (5, .int .i64 y1)] [Fld Kstep b1 0 j2, Fld KTell b2 0 a2] a w → G a w) 1 ?_ fun J2 => ?_
   ·intro j2 a w ho_ h
    rw [ho_] at G2
    have H := G2
    refine Go.seq ?_
    refine Go.reg ?_
    refine mv h rfl rfl fun h => ?_
    obtain ⟨r5, er5, H⟩ := bindE H
    refine ga h (o_call (splice_step_shut.spc b1 j2 r5 er5) rfl [] [0] (by decide) rfl rfl) rfl fun h => ?_
    refine GoR.done ?_
    refine Go.seq ?_
    obtain ⟨o3, H, G3⟩ := bindE H
    refine g_cut (fun G => ∀ j3 (a : Act) (w : World), o3 = j3 → St Try.f38.ntmps F [(5, .int .i64 y1)] [Fld Kstep b1 0 j3, Fld KTell b2 0 a2] a w → G a w) 1 ?_ fun J3 => ?_
    ·intro j3 a w ho_ h
     rw [ho_] at G3
     have H := G3
     refine Go.seq ?_
     refine Go.reg ?_
     refine mv h rfl rfl fun h => ?_
     refine ga h (o_assign rfl) rfl fun h => ?_
     refine GoR.done ?_
     rw [← som H]
     exact g_ret (vs := [.int .i64 y1]) h Try.func38 ⟨rfl, trivial⟩ ⟨(), rfl, ((h.mem.pick [0] (by decide) rfl).addpur (ey1 ▸ (inr_min g1 g2)))⟩
    refine Go.reg ?_
    refine mv h rfl rfl fun h => ?_
    refine mv h rfl rfl fun h => ?_
    refine ga h (o_nilc rfl) rfl fun h => ?_
    refine ga h (o_fa rfl t_f75_0 rfl rfl) rfl fun h => ?_
    refine ga h (o_fa rfl t_f26_7 rfl rfl) rfl fun h => ?_
    refine ga h (o_lfx 0 rfl rfl t_sstep_Conn_Done rfl X_bool t_y4) rfl fun h => ?_
    refine mv h rfl rfl fun h => ?_
    by_cases c4 : r5.Conn.Done = true
    ·have H := ifT c4 H
     refine gg h rfl rfl c4 (o_move rfl) rfl fun _ _ _ h => ?_
     refine gg h rfl rfl c4 (o_nilc rfl) rfl fun _ _ _ h => ?_
     refine gg h rfl rfl c4 (o_fa rfl t_f75_0 rfl rfl) rfl fun _ _ _ h => ?_
     refine gg h rfl rfl c4 (o_fa rfl t_f26_19 rfl rfl) rfl fun _ _ _ h => ?_
     refine gg h rfl rfl c4 (o_lfx 0 rfl rfl t_sstep_Conn_Shut rfl X_bool t_y4) rfl fun _ _ _ h => ?_
     refine ga h (o_pickT rfl rfl c4) rfl fun h => ?_
     refine ga h (o_nilc rfl) rfl fun h => ?_
     refine ga h (o_fa rfl t_f75_4 rfl rfl) rfl fun h => ?_
     obtain ⟨y4, ey4, H⟩ := ltE H
     refine gs0 h (o_stp (x0 := r5) (y := r5.Conn.Shut) 0 t_ustep_26_1 rfl rfl rfl rfl pv_bool t_w4) fun _ _ _ h => ?_
     rw [ey4] at h
     refine GoR.done ?_
     exact J3 y4 _ _ (som H).symm (h.wr [0, 2])
    ·have H := ifF c4 H
     iterate 5 (refine gk h rfl rfl (nb_f c4) rfl fun _ h => ?_)
     refine ga h (o_pickF rfl rfl c4) rfl fun h => ?_
     refine ga h (o_nilc rfl) rfl fun h => ?_
     refine ga h (o_fa rfl t_f75_4 rfl rfl) rfl fun h => ?_
     obtain ⟨y5, ey5, H⟩ := ltE H
     refine gs0 h (o_stp (x0 := r5) (y := false) 0 t_ustep_26_1 rfl rfl rfl rfl pv_bool t_w4) fun _ _ _ h => ?_
     rw [ey5] at h
     refine GoR.done ?_
     exact J3 y5 _ _ (som H).symm (h.wr [0, 2])
   refine Go.seq ?_
   refine Go.reg ?_
   refine mv h rfl rfl fun h => ?_
   refine GoR.done ?_
   by_cases c3 : y2 = true
   ·have H := ifT c3 H
    refine g_t h rfl c3 ?_
    refine Go.reg ?_
    refine mv h rfl rfl fun h => ?_
    obtain ⟨r4, er4, H⟩ := bindE H
    refine ga h (o_call (splice_step_ack.spc b1 y3 r4 er4) rfl [] [3] (by decide) rfl rfl) rfl fun h => ?_
    refine GoR.done ?_
    exact J2 r4 _ _ (som H).symm (h.wr [0, 9])
   ·have H := ifF c3 H
    refine g_f h rfl c3 ?_
    refine Go.skip ?_
    exact J2 y3 _ _ (som H).symm (h.wr [3, 8])
 refine Go.reg ?_
 refine mv h rfl rfl fun h => ?_
 refine ga h (o_nilc rfl) rfl fun h => ?_
 refine ga h (o_fa rfl t_f75_0 rfl rfl) rfl fun h => ?_
 refine ga h (o_fa rfl t_f26_5 rfl rfl) rfl fun h => ?_
 refine ga h (o_lfx 4 rfl rfl t_sstep_Conn_Opening rfl X_bool t_y4) rfl fun h => ?_
 refine mv h rfl rfl fun h => ?_
 by_cases c1 : a1.Conn.Opening = true
 ·have H := ifT c1 H
  refine gk h rfl rfl (nb_t c1) rfl fun _ h => ?_
  refine gk h rfl rfl (nb_t c1) rfl fun _ h => ?_
  refine ga h (o_pickT rfl rfl c1) rfl fun h => ?_
  refine GoR.done ?_
  exact J1 true _ _ (som H).symm (h.wr [2, 4])
 ·have H := ifF c1 H
  refine gg h rfl rfl (nbF c1) (o_move rfl) rfl fun _ _ _ h => ?_
  refine gg h rfl rfl (nbF c1) (o_bin rfl rfl rfl) rfl fun _ _ _ h => ?_
  refine ga h (o_pickF rfl rfl c1) rfl fun h => ?_
  refine GoR.done ?_
  exact J1 (decide (y1 ≤ 0)) _ _ (som H).symm (h.wr [2, 4])
def splice_step_took.g (k_ : Nat) (a1 : Tstep) (a2 : TTell) : Option (Int × Tstep) :=
  lt (min a2.N (a1.Conn.ToHost.length : Int)) fun y1 => ((if a1.Conn.Opening = true then some (true) else some (decide (y1 ≤ 0)))).bind (fun j1 => (if j1 = true then some ((0, a1)) else (splice_room.g k_ a1.Conn).bind fun r1 => lt (decide (r1 = 0)) fun y2 => (cut a1.Conn.ToHost 0 y1).bind fun x1 => (splice_step_call.g k_ a1 2 x1).bind fun r2 => (cut r2.Conn.ToHost y1 (r2.Conn.ToHost.length : Int)).bind fun x2 => (slices_Clone_s_byte_byte.g k_ x2).bind fun r3 => lt (⟨(⟨r2.Conn.Id, r2.Conn.Guest, r2.Conn.Gport, r2.Conn.Remote, r2.Conn.Rport, r2.Conn.Opening, r2.Conn.Up, r2.Conn.Done, r2.Conn.Begin, r2.Conn.Una, r2.Conn.Next, r2.Conn.Want, r2.Conn.Win, r2.Conn.Mss, r3, r2.Conn.ToGuest, r2.Conn.Early, r2.Conn.Fin, r2.Conn.Eof, r2.Conn.Shut, r2.Conn.At, r2.Conn.Wait, r2.Conn.Tries⟩ : TConn), r2.now, r2.segs, r2.calls, r2.gone⟩ : Tstep) fun y3 => ((if y2 = true then (splice_step_ack.g k_ y3).bind fun r4 => some (r4) else some (y3))).bind (fun j2 => (splice_step_shut.g k_ j2).bind fun r5 => ((if r5.Conn.Done = true then lt (⟨r5.Conn, r5.now, r5.segs, r5.calls, r5.Conn.Shut⟩ : Tstep) fun y4 => some (y4) else lt (⟨r5.Conn, r5.now, r5.segs, r5.calls, false⟩ : Tstep) fun y5 => some (y5))).bind (fun j3 => some ((y1, j3))))))
theorem splice_step_took.le (k_ : Nat) (a1 : Tstep) (a2 : TTell) : Le (splice_step_took.g k_ a1 a2) (splice_step_took.f a1 a2) := by
 unfold splice_step_took.g splice_step_took.f
 repeat' (first | with_reducible refine le_loop fun _ => ?_ | with_reducible refine le_bind ?_ fun _ => ?_ | with_reducible refine le_ite ?_ ?_ | with_reducible refine le_lt fun _ => ?_ | with_reducible refine le_elim (fun _ => ?_) (fun _ => ?_) _ | with_reducible apply slices_Clone_s_byte_byte.le | with_reducible apply splice_room.le | with_reducible apply splice_step_ack.le | with_reducible apply splice_step_call.le | with_reducible apply splice_step_shut.le | with_reducible exact le_refl _)
end Go.Proofs.Ytpcbhkigmnpimaa.S
