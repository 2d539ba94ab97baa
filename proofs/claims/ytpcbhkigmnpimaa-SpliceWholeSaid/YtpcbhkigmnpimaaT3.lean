/- Contracts, printed by a program of this session. -/
import Derived.Test.YtpcbhkigmnpimaaT1
import Derived.Test.YtpcbhkigmnpimaaT2
namespace Go.Proofs.Ytpcbhkigmnpimaa.S
open Go Go.SL Go.RowKit
set_option linter.unusedVariables false
set_option linter.unusedSimpArgs false
/-! (*drawbridge/splice.step).say -/
noncomputable def splice_step_say.f (a1 : Tstep) (a2 : Int) (a3 : Int) (a4 : List Int) : Option (Tstep) :=
  (splice_room.f a1.Conn).bind fun r3 => (slices_Clone_s_byte_byte.f a4).bind fun r4 => (app a1.segs ([(⟨a1.Conn.Rport, a1.Conn.Gport, a2, a1.Conn.Want, bits .or .i64 16 a3, r3, 0, r4⟩ : TSeg)] : List TSeg)).bind fun x1 => some ((⟨a1.Conn, a1.now, x1, a1.calls, a1.gone⟩ : Tstep))
set_option maxRecDepth 100000 in
set_option maxHeartbeats 4000000 in
theorem splice_step_say.spc (b1 : Nat) (a1 : Tstep) (a2 : Int) (ha2 : InR .u32 a2) (a3 : Int) (ha3 : InR .i64 a3) (v1 : Value) (a4 : List Int) (r : Tstep) (H : splice_step_say.f a1 a2 a3 a4 = some r) : Spc Try.prog 39 [pt b1, .int .u32 a2, .int .i64 a3, v1] [Val (Kd.sl (Kd.int .u8)) v1 a4] [Fld Kstep b1 0 a1] (fun (s : Unit) => .tuple #[]) (fun s => [Fld Kstep b1 0 r]) := by
 unfold splice_step_say.f at H
 refine Spc.go Try.func39 rfl (by kernel_rfl) rfl rfl (all_cons (Val.per Per_sl) all_nil) fun F a w h => ?_
 refine Go.seq ?_
 replace h := h.wq [(0, pt b1), (1, .int .u32 a2), (2, .int .i64 a3), (3, v1)] [Val (Kd.sl (Kd.int .u8)) v1 a4, Fld Kstep b1 0 a1] [0, 1]
 obtain ⟨r3, er3, H⟩ := bindE H
 obtain ⟨r4, er4, H⟩ := bindE H
 refine Go.draw (E := [(0, pt b1), (1, .int .u32 a2), (2, .int .i64 a3), (3, v1)]) [] (L := [Val (Kd.sl (Kd.int .u8)) v1 a4, Fld Kstep b1 0 a1]) h rfl rfl 27 [cn (pt b1), ce [0] (pt b1), ce [0, 1] (pt b1), ce [0, 1, 2] (.pointer (some ⟨b1, 4, none⟩)), cm [0, 1, 2, 3] [] [] (.int .i64 a1.Conn.Rport) fun u => [Ent.pur (InR .i64 a1.Conn.Rport)], cn (pt b1), ce [5] (pt b1), ce [5, 6] (pt b1), ce [5, 6, 7] (.pointer (some ⟨b1, 2, none⟩)), cm [5, 6, 7, 8] [] [] (.int .i64 a1.Conn.Gport) fun u => [Ent.pur (InR .i64 a1.Conn.Gport)], cn (.int .u32 a2), cn (pt b1), ce [11] (pt b1), ce [11, 12] (pt b1), ce [11, 12, 13] (.pointer (some ⟨b1, 11, none⟩)), cm [11, 12, 13, 14] [] [] (.int .u32 a1.Conn.Want) fun u => [Ent.pur (InR .u32 a1.Conn.Want)], cn (.int .i64 a3), ce [16] (.int .i64 (bits .or .i64 16 a3)), cn (pt b1), ce [18] (pt b1), ce [18, 19] (pt b1), cw [18, 19, 20] [] [] fun u => [Val KConn u a1.Conn], cm [18, 19, 20, 21] [21] [] (.int .i64 r3) fun u => [Ent.pur (InR .i64 r3)], cn (v1), cw [23] [] [] fun u => [Val (Kd.sl (Kd.int .u8)) u r4], cw [0, 1, 2, 3, 4, 5, 6, 7, 8, 9, 10, 11, 12, 13, 14, 15, 16, 17, 18, 19, 20, 21, 22, 23, 24] [4, 9, 15, 22, 24] [] fun u => [Val KSeg u (⟨a1.Conn.Rport, a1.Conn.Gport, a2, a1.Conn.Want, bits .or .i64 16 a3, r3, 0, r4⟩ : TSeg)], cw [] [] [] fun u => [Ent.pur (u = .pointer (some ⟨blk u, 0, none⟩)), Fld KSeg (blk u) 0 zSeg]] rfl t_mxo (by kernel_rfl) (by rfl) ?_ fun f2 _ _ h => ?_
 ·exact ox rfl (o_move rfl) (ox rfl (o_nilc rfl) (ox rfl (o_fa rfl t_f75_0 rfl rfl) (ox rfl (o_fa rfl t_f26_4 rfl rfl) (ox rfl (OpS.pur (fun F w m_ => (in2 (fd_sub t_sstep_Conn_Rport 1 rfl m_))) (o_lfx (K := Kstep) (pr := fun x => x.Conn.Rport) (y := a1) 1 rfl rfl t_sstep_Conn_Rport rfl X_int t_y3)) (ox rfl (o_move rfl) (ox rfl (o_nilc rfl) (ox rfl (o_fa rfl t_f75_0 rfl rfl) (ox rfl (o_fa rfl t_f26_2 rfl rfl) (ox rfl (OpS.pur (fun F w m_ => (in2 (fd_sub t_sstep_Conn_Gport 1 rfl m_))) (o_lfx (K := Kstep) (pr := fun x => x.Conn.Gport) (y := a1) 1 rfl rfl t_sstep_Conn_Gport rfl X_int t_y3)) (ox rfl (o_move rfl) (ox rfl (o_move rfl) (ox rfl (o_nilc rfl) (ox rfl (o_fa rfl t_f75_0 rfl rfl) (ox rfl (o_fa rfl t_f26_11 rfl rfl) (ox rfl (OpS.pur (fun F w m_ => (in2 (fd_sub t_sstep_Conn_Want 1 rfl m_))) (o_lfx (K := Kstep) (pr := fun x => x.Conn.Want) (y := a1) 1 rfl rfl t_sstep_Conn_Want rfl X_int t_y22)) (ox rfl (o_move rfl) (ox rfl (o_bin rfl rfl rfl) (ox rfl (o_move rfl) (ox rfl (o_nilc rfl) (ox rfl (o_fa rfl t_f75_0 rfl rfl) (oy rfl (o_lfv 1 rfl rfl sstep_Conn rfl PConn t_y26) (oc rfl rfl rfl (fun f2 => (o_call (splice_room.spc (f2 21) a1.Conn r3 er3) rfl [0] [] (by decide) rfl rfl)) (ox rfl (o_move rfl) (oy rfl (OpS.mm (o_call (slices_Clone_s_byte_byte.spc v1 a4 r4 er4) rfl [0] [] (by decide) rfl rfl) (fun _ _ _ m => m.freeze 0 rfl)) (ow rfl rfl rfl (fun f2 => (OpS.fact (p := InR .i64 a1.Conn.Rport) (fun F w m_ => (Mem.pur 0 rfl m_)) fun g5 => (OpS.fact (p := InR .i64 a1.Conn.Gport) (fun F w m_ => (Mem.pur 1 rfl m_)) fun g6 => (OpS.fact (p := InR .u32 a1.Conn.Want) (fun F w m_ => (Mem.pur 2 rfl m_)) fun g7 => (OpS.fact (p := InR .i64 r3) (fun F w m_ => (Mem.pur 3 rfl m_)) fun g8 => (OpS.fact (p := InR .i64 a1.Conn.Rport) (fun F w m_ => (Mem.pur 0 rfl m_)) fun g9 => (OpS.fact (p := InR .i64 a1.Conn.Gport) (fun F w m_ => (Mem.pur 1 rfl m_)) fun g10 => (OpS.fact (p := InR .u32 a1.Conn.Want) (fun F w m_ => (Mem.pur 2 rfl m_)) fun g11 => (OpS.fact (p := InR .i64 r3) (fun F w m_ => (Mem.pur 3 rfl m_)) fun g12 => (o_build (K := KSeg) (x := (⟨a1.Conn.Rport, a1.Conn.Gport, a2, a1.Conn.Want, bits .or .i64 16 a3, r3, 0, r4⟩ : TSeg)) (ps := [(0, .int .i64 a1.Conn.Rport), (1, .int .i64 a1.Conn.Gport), (2, .int .u32 a2), (3, .int .u32 a1.Conn.Want), (4, .int .i64 (bits .or .i64 16 a3)), (5, .int .i64 r3), (7, (f2 24))]) rfl (zs := zsSeg) rfl t_b30 rfl (show PB (Kd.pair (Kd.int .i64) (Kd.pair (Kd.int .i64) (Kd.pair (Kd.int .u32) (Kd.pair (Kd.int .u32) (Kd.pair (Kd.int .i64) (Kd.pair (Kd.int .i64) (Kd.pair (Kd.int .i64) (Kd.last (Kd.sl (Kd.int .u8)))))))))) (a1.Conn.Rport, a1.Conn.Gport, a2, a1.Conn.Want, bits .or .i64 16 a3, r3, 0, r4) 0 zsSeg _ _ from (pb_part (pv_int g9) rfl (pb_part (pv_int g10) rfl (pb_part (pv_int ha2) rfl (pb_part (pv_int g11) rfl (pb_part (pv_int (wrap_in _ _)) rfl (pb_part (pv_int g12) rfl (pb_zero z_int (pb_lastp (pv_at Per_sl 4 rfl) rfl))))))))))))))))))) (oy rfl (ptr_d (o_alloc (K := KSeg) (z := (.agg #[.int .i64 0, .int .i64 0, .int .u32 0, .int .u32 0, .int .i64 0, .int .i64 0, .int .i64 0, .slice none 0 0])) rfl ZSeg)) (obs_nil)))))))))))))))))))))))))))
 replace h := h.wk (E' := [(0, pt b1), (34, (f2 25)), (8, (f2 26))]) (L' := [Ent.pur (InR .i64 a1.Conn.Rport), Ent.pur (InR .i64 a1.Conn.Gport), Ent.pur (InR .u32 a1.Conn.Want), Val KConn (f2 21) a1.Conn, Ent.pur (InR .i64 r3), Val (Kd.sl (Kd.int .u8)) (f2 24) r4, Val KSeg (f2 25) (⟨a1.Conn.Rport, a1.Conn.Gport, a2, a1.Conn.Want, bits .or .i64 16 a3, r3, 0, r4⟩ : TSeg), Ent.pur ((f2 26) = .pointer (some ⟨blk (f2 26), 0, none⟩)), Fld KSeg (blk (f2 26)) 0 zSeg, Val (Kd.sl (Kd.int .u8)) v1 a4, Fld Kstep b1 0 a1]) (by kernel_rfl) [0, 1, 2, 3, 4, 5, 6, 7, 8, 9, 10] (by decide) (by kernel_rfl)
 have q_ := h.mem.pur 7 rfl
 generalize blk (f2 26) = b3 at h q_
 rw [q_] at h
 refine gs0 h (o_st 8 rfl rfl rfl (pv_at PSeg 6 rfl) rfl t_w30) fun _ _ _ h => ?_
 refine GoR.done ?_
 replace h := h.mm fun m => (m.take (i := 10) rfl).opn (cstep _ _)
 obtain ⟨v7, h⟩ := h.unp 2 rfl
 obtain ⟨v8, h⟩ := h.unp 4 rfl
 replace h := h.wq [(0, pt b1), (8, pt b3)] [Val (Kd.osl KSeg) v7 a1.segs, Fld (Kd.eq v8) b1 25 (), Fld (Kd.eq v7) b1 24 (), Fld KConn b1 0 a1.Conn, Fld (Kd.int .i64) b1 23 a1.now, Val (Kd.osl KCall) v8 a1.calls, Fld Kd.bool b1 26 a1.gone, Ent.pur (InR .i64 a1.Conn.Rport), Ent.pur (InR .i64 a1.Conn.Gport), Ent.pur (InR .u32 a1.Conn.Want), Val KConn (f2 21) a1.Conn, Ent.pur (InR .i64 r3), Val (Kd.sl (Kd.int .u8)) (f2 24) r4, Val KSeg (f2 25) (⟨a1.Conn.Rport, a1.Conn.Gport, a2, a1.Conn.Want, bits .or .i64 16 a3, r3, 0, r4⟩ : TSeg), Fld KSeg b3 0 (⟨a1.Conn.Rport, a1.Conn.Gport, a2, a1.Conn.Want, bits .or .i64 16 a3, r3, 0, r4⟩ : TSeg), Val (Kd.sl (Kd.int .u8)) v1 a4] [4, 0, 1, 2, 3, 5, 6, 7, 8, 9, 10, 11, 12, 13, 15, 16]
 obtain ⟨x1, ex1, H⟩ := bindE H
 refine Go.draw (E := [(0, pt b1), (8, pt b3)]) [] (L := [Fld (Kd.eq v8) b1 25 (), Fld (Kd.eq v7) b1 24 (), Fld KConn b1 0 a1.Conn, Fld (Kd.int .i64) b1 23 a1.now, Val (Kd.osl KCall) v8 a1.calls, Fld Kd.bool b1 26 a1.gone, Ent.pur (InR .i64 a1.Conn.Rport), Ent.pur (InR .i64 a1.Conn.Gport), Ent.pur (InR .u32 a1.Conn.Want), Val KConn (f2 21) a1.Conn, Ent.pur (InR .i64 r3), Val (Kd.sl (Kd.int .u8)) (f2 24) r4, Val KSeg (f2 25) (⟨a1.Conn.Rport, a1.Conn.Gport, a2, a1.Conn.Want, bits .or .i64 16 a3, r3, 0, r4⟩ : TSeg), Fld KSeg b3 0 (⟨a1.Conn.Rport, a1.Conn.Gport, a2, a1.Conn.Want, bits .or .i64 16 a3, r3, 0, r4⟩ : TSeg), Val (Kd.sl (Kd.int .u8)) v1 a4]) h rfl rfl 8 [cn (pt b1), cn (pt b1), ce [1] (pt b1), ce [1, 2] (.pointer (some ⟨b1, 24, none⟩)), ce [1, 2, 3] (v7), cw [] [] [] fun u => [Val KSeg u (⟨a1.Conn.Rport, a1.Conn.Gport, a2, a1.Conn.Want, bits .or .i64 16 a3, r3, 0, r4⟩ : TSeg)], cw [5] [5] [] fun u => [Val (Kd.osl KSeg) u ([(⟨a1.Conn.Rport, a1.Conn.Gport, a2, a1.Conn.Want, bits .or .i64 16 a3, r3, 0, r4⟩ : TSeg)] : List TSeg)], cw [1, 2, 3, 4, 5, 6] [8, 6] [8] fun u => [Val (Kd.osl KSeg) u x1], cm [] [] [] undef fun u => [Val (Kd.osl KSeg) v7 a1.segs]] rfl t_mxo (by kernel_rfl) (by rfl) ?_ fun f4 _ _ h => ?_
 ·exact ox rfl (o_move rfl) (ox rfl (o_move rfl) (ox rfl (o_nilc rfl) (ox rfl (o_fa rfl t_f75_2 rfl rfl) (ox rfl (o_ldx 1 rfl rfl X_eq t_y31) (oy rfl (o_ldv 13 rfl rfl PSeg t_y30) (ow rfl rfl rfl (fun f4 => (o_bs (K := KSeg) (vs := [(f4 5)]) (xs := ([(⟨a1.Conn.Rport, a1.Conn.Gport, a2, a1.Conn.Want, bits .or .i64 16 a3, r3, 0, r4⟩ : TSeg)] : List TSeg)) rfl rfl (pvs_cons (pv_at PSeg 0 rfl) pvs_nil) t_a31 (by decide) (by decide))) (oy rfl (o_app (K := KSeg) 0 rfl rfl rfl (rd_own 1 rfl) ex1 t_a31 t_n31) (obs_nil))))))))
 replace h := h.wk (E' := [(35, pt b1), (42, (f4 7))]) (L' := [Val KSeg (f4 5) (⟨a1.Conn.Rport, a1.Conn.Gport, a2, a1.Conn.Want, bits .or .i64 16 a3, r3, 0, r4⟩ : TSeg), Val (Kd.osl KSeg) (f4 6) ([(⟨a1.Conn.Rport, a1.Conn.Gport, a2, a1.Conn.Want, bits .or .i64 16 a3, r3, 0, r4⟩ : TSeg)] : List TSeg), Val (Kd.osl KSeg) (f4 7) x1, Fld (Kd.eq v8) b1 25 (), Fld (Kd.eq v7) b1 24 (), Fld KConn b1 0 a1.Conn, Fld (Kd.int .i64) b1 23 a1.now, Val (Kd.osl KCall) v8 a1.calls, Fld Kd.bool b1 26 a1.gone, Ent.pur (InR .i64 a1.Conn.Rport), Ent.pur (InR .i64 a1.Conn.Gport), Ent.pur (InR .u32 a1.Conn.Want), Val KConn (f2 21) a1.Conn, Ent.pur (InR .i64 r3), Val (Kd.sl (Kd.int .u8)) (f2 24) r4, Val KSeg (f2 25) (⟨a1.Conn.Rport, a1.Conn.Gport, a2, a1.Conn.Want, bits .or .i64 16 a3, r3, 0, r4⟩ : TSeg), Fld KSeg b3 0 (⟨a1.Conn.Rport, a1.Conn.Gport, a2, a1.Conn.Want, bits .or .i64 16 a3, r3, 0, r4⟩ : TSeg), Val (Kd.sl (Kd.int .u8)) v1 a4]) (by kernel_rfl) [0, 1, 2, 3, 4, 5, 6, 7, 8, 9, 10, 11, 12, 13, 14, 15, 16, 17] (by decide) (by kernel_rfl)
 refine ga h (o_nilc rfl) rfl fun h => ?_
 refine ga h (o_fa rfl t_f75_2 rfl rfl) rfl fun h => ?_
 refine gs0 h (o_st 4 rfl rfl rfl (pv_eqo 2 rfl) rfl t_w31) fun _ _ _ h => ?_
 refine GoR.done ?_
 replace h := h.mm fun m => (m.pull (Lo := [Fld (Kd.eq (f4 7)) b1 24 (), Val (Kd.osl KSeg) (f4 7) x1]) [4, 2] (by decide) rfl).pck
 replace h := h.mm fun m => (m.pull (Lo := [Fld (Kd.eq v8) b1 25 (), Val (Kd.osl KCall) v8 a1.calls]) [4, 8] (by decide) rfl).pck
 replace h := h.mm fun m => (m.pull (Lo := [Fld KConn b1 0 a1.Conn, Fld (Kd.int .i64) b1 23 a1.now, Fld (Kd.osl KSeg) b1 24 x1, Fld (Kd.osl KCall) b1 25 a1.calls, Fld Kd.bool b1 26 a1.gone]) [7, 8, 1, 0, 10] (by decide) rfl).cls (cstep _ (⟨a1.Conn, a1.now, x1, a1.calls, a1.gone⟩ : Tstep))
 rw [← som H]
 exact g_fin (vs := []) h Try.func39 trivial ⟨(), rfl, (h.mem.pick [0] (by decide) rfl)⟩
def splice_step_say.g (k_ : Nat) (a1 : Tstep) (a2 : Int) (a3 : Int) (a4 : List Int) : Option (Tstep) :=
  (splice_room.g k_ a1.Conn).bind fun r3 => (slices_Clone_s_byte_byte.g k_ a4).bind fun r4 => (app a1.segs ([(⟨a1.Conn.Rport, a1.Conn.Gport, a2, a1.Conn.Want, bits .or .i64 16 a3, r3, 0, r4⟩ : TSeg)] : List TSeg)).bind fun x1 => some ((⟨a1.Conn, a1.now, x1, a1.calls, a1.gone⟩ : Tstep))
theorem splice_step_say.le (k_ : Nat) (a1 : Tstep) (a2 : Int) (a3 : Int) (a4 : List Int) : Le (splice_step_say.g k_ a1 a2 a3 a4) (splice_step_say.f a1 a2 a3 a4) := by
 unfold splice_step_say.g splice_step_say.f
 repeat' (first | with_reducible refine le_loop fun _ => ?_ | with_reducible refine le_bind ?_ fun _ => ?_ | with_reducible refine le_ite ?_ ?_ | with_reducible refine le_lt fun _ => ?_ | with_reducible refine le_elim (fun _ => ?_) (fun _ => ?_) _ | with_reducible apply slices_Clone_s_byte_byte.le | with_reducible apply splice_room.le | with_reducible exact le_refl _)
/-! (*drawbridge/splice.step).syn -/
noncomputable def splice_step_syn.f (a1 : Tstep) : Option (Tstep) :=
  (splice_step_say.f a1 a1.Conn.Begin 2 []).bind fun r1 => (idx r1.segs (IntKind.i64.wrap ((r1.segs.length : Int) - 1))).bind fun x1 => lt (r1.segs.set (IntKind.i64.wrap ((r1.segs.length : Int) - 1)).toNat (⟨x1.Src, x1.Dst, x1.Seq, x1.Ack, x1.Flags, x1.Win, 1460, x1.Data⟩ : TSeg)) fun y1 => some ((⟨r1.Conn, r1.now, y1, r1.calls, r1.gone⟩ : Tstep))
set_option maxRecDepth 100000 in
set_option maxHeartbeats 4000000 in
theorem splice_step_syn.spc (b1 : Nat) (a1 : Tstep) (r : Tstep) (H : splice_step_syn.f a1 = some r) : Spc Try.prog 49 [pt b1] [] [Fld Kstep b1 0 a1] (fun (s : Unit) => .tuple #[]) (fun s => [Fld Kstep b1 0 r]) := by
 unfold splice_step_syn.f at H
 refine Spc.go Try.func49 rfl (by kernel_rfl) rfl rfl all_nil fun F a w h => ?_
 refine Go.seq ?_
 refine Go.reg ?_
 refine mv h rfl rfl fun h => ?_
 refine mv h rfl rfl fun h => ?_
 refine ga h (o_nilc rfl) rfl fun h => ?_
 refine ga h (o_fa rfl t_f75_0 rfl rfl) rfl fun h => ?_
 refine ga h (o_fa rfl t_f26_8 rfl rfl) rfl fun h => ?_
 have g1 := (in2 (fd_sub t_sstep_Conn_Begin 0 rfl h.mem))
 refine ga h (o_lfx 0 rfl rfl t_sstep_Conn_Begin rfl X_int t_y22) rfl fun h => ?_
 replace h := h.mm fun m => (pv_nil (K := (Kd.int .u8))).ent m
 obtain ⟨r1, er1, H⟩ := bindE H
 refine ga h (o_call (splice_step_say.spc b1 a1 a1.Conn.Begin g1 2 (show InR .i64 2 by decide) (.slice none 0 0) [] r1 er1) rfl [0] [1] (by decide) rfl rfl) rfl fun h => ?_
 refine GoR.done ?_
 replace h := h.mm fun m => (m.take (i := 0) rfl).opn (cstep _ _)
 obtain ⟨v1, h⟩ := h.unp 2 rfl
 obtain ⟨v2, h⟩ := h.unp 4 rfl
 replace h := h.wq [(0, pt b1)] [Fld (Kd.eq v2) b1 25 (), Fld (Kd.eq v1) b1 24 (), Fld KConn b1 0 r1.Conn, Fld (Kd.int .i64) b1 23 r1.now, Val (Kd.osl KSeg) v1 r1.segs, Val (Kd.osl KCall) v2 r1.calls, Fld Kd.bool b1 26 r1.gone, Val (Kd.sl (Kd.int .u8)) (.slice none 0 0) []] [0, 1, 2, 3, 4, 5, 6, 8]
 refine Go.draw (E := [(0, pt b1)]) [] (L := [Fld (Kd.eq v2) b1 25 (), Fld (Kd.eq v1) b1 24 (), Fld KConn b1 0 r1.Conn, Fld (Kd.int .i64) b1 23 r1.now, Val (Kd.osl KSeg) v1 r1.segs, Val (Kd.osl KCall) v2 r1.calls, Fld Kd.bool b1 26 r1.gone, Val (Kd.sl (Kd.int .u8)) (.slice none 0 0) []]) h rfl rfl 10 [cn (pt b1), ce [0] (pt b1), ce [0, 1] (.pointer (some ⟨b1, 24, none⟩)), ce [0, 1, 2] (v1), cn (pt b1), ce [4] (pt b1), ce [4, 5] (.pointer (some ⟨b1, 24, none⟩)), ce [4, 5, 6] (v1), ce [4, 5, 6, 7] (.int .i64 (r1.segs.length : Int)), ce [4, 5, 6, 7, 8] (.int .i64 (IntKind.i64.wrap ((r1.segs.length : Int) - 1)))] rfl t_mxo (by kernel_rfl) (by rfl) ?_ fun f2 _ _ h => ?_
 ·exact ox rfl (o_move rfl) (ox rfl (o_nilc rfl) (ox rfl (o_fa rfl t_f75_2 rfl rfl) (ox rfl (o_ldx 1 rfl rfl X_eq t_y31) (ox rfl (o_move rfl) (ox rfl (o_nilc rfl) (ox rfl (o_fa rfl t_f75_2 rfl rfl) (ox rfl (o_ldx 1 rfl rfl X_eq t_y31) (ox rfl (o_ln rfl (rd_own 4 rfl) t_v31) (ox rfl (o_bin rfl rfl rfl) (obs_nil))))))))))
 replace h := h.wk (E' := [(12, v1), (18, .int .i64 (IntKind.i64.wrap ((r1.segs.length : Int) - 1)))]) (L' := [Fld (Kd.eq v2) b1 25 (), Fld (Kd.eq v1) b1 24 (), Fld KConn b1 0 r1.Conn, Fld (Kd.int .i64) b1 23 r1.now, Val (Kd.osl KSeg) v1 r1.segs, Val (Kd.osl KCall) v2 r1.calls, Fld Kd.bool b1 26 r1.gone, Val (Kd.sl (Kd.int .u8)) (.slice none 0 0) []]) (by kernel_rfl) [0, 1, 2, 3, 4, 5, 6, 7] (by decide) (by kernel_rfl)
 obtain ⟨x1, ex1, H⟩ := bindE H
 refine ga h (o_ix rfl rfl (rd_own 4 rfl) ex1 t_v31) rfl fun h => ?_
 refine ga h (o_fae (k' := (IntKind.i64.wrap ((r1.segs.length : Int) - 1)).toNat * Kd.n KSeg + 6) rfl (rd_own 4 rfl) ex1 (by decide) t_f30_6 rfl rfl) rfl fun h => ?_
 obtain ⟨y1, ey1, H⟩ := ltE H
 refine gs0 h (o_stes 4 t_uSeg_6_1 rfl rfl rfl rfl (pv_int (show InR .i64 1460 by decide)) ex1 t_w3 (by decide)) fun _ _ _ h => ?_
 rw [ey1] at h
 refine GoR.done ?_
 replace h := h.mm fun m => (m.pull (Lo := [Fld (Kd.eq v1) b1 24 (), Val (Kd.osl KSeg) v1 y1]) [1, 4] (by decide) rfl).pck
 replace h := h.mm fun m => (m.pull (Lo := [Fld (Kd.eq v2) b1 25 (), Val (Kd.osl KCall) v2 r1.calls]) [1, 6] (by decide) rfl).pck
 replace h := h.mm fun m => (m.pull (Lo := [Fld KConn b1 0 r1.Conn, Fld (Kd.int .i64) b1 23 r1.now, Fld (Kd.osl KSeg) b1 24 y1, Fld (Kd.osl KCall) b1 25 r1.calls, Fld Kd.bool b1 26 r1.gone]) [4, 5, 1, 0, 8] (by decide) rfl).cls (cstep _ (⟨r1.Conn, r1.now, y1, r1.calls, r1.gone⟩ : Tstep))
 rw [← som H]
 exact g_fin (vs := []) h Try.func49 trivial ⟨(), rfl, (h.mem.pick [0] (by decide) rfl)⟩
def splice_step_syn.g (k_ : Nat) (a1 : Tstep) : Option (Tstep) :=
  (splice_step_say.g k_ a1 a1.Conn.Begin 2 []).bind fun r1 => (idx r1.segs (IntKind.i64.wrap ((r1.segs.length : Int) - 1))).bind fun x1 => lt (r1.segs.set (IntKind.i64.wrap ((r1.segs.length : Int) - 1)).toNat (⟨x1.Src, x1.Dst, x1.Seq, x1.Ack, x1.Flags, x1.Win, 1460, x1.Data⟩ : TSeg)) fun y1 => some ((⟨r1.Conn, r1.now, y1, r1.calls, r1.gone⟩ : Tstep))
theorem splice_step_syn.le (k_ : Nat) (a1 : Tstep) : Le (splice_step_syn.g k_ a1) (splice_step_syn.f a1) := by
 unfold splice_step_syn.g splice_step_syn.f
 repeat' (first | with_reducible refine le_loop fun _ => ?_ | with_reducible refine le_bind ?_ fun _ => ?_ | with_reducible refine le_ite ?_ ?_ | with_reducible refine le_lt fun _ => ?_ | with_reducible refine le_elim (fun _ => ?_) (fun _ => ?_) _ | with_reducible apply splice_step_say.le | with_reducible exact le_refl _)
/-! (*drawbridge/splice.step).open -/
noncomputable def splice_step_open.f (a1 : Tstep) (a2 : TTell) : Option (Int × Tstep) :=
  ((if a1.Conn.Opening = true then lt (⟨(⟨a1.Conn.Id, a1.Conn.Guest, a1.Conn.Gport, a1.Conn.Remote, a1.Conn.Rport, false, a1.Conn.Up, a1.Conn.Done, a1.Conn.Begin, a1.Conn.Una, a1.Conn.Next, a1.Conn.Want, a1.Conn.Win, a1.Conn.Mss, a1.Conn.ToHost, a1.Conn.ToGuest, a1.Conn.Early, a1.Conn.Fin, a1.Conn.Eof, a1.Conn.Shut, a1.Conn.At, a1.Conn.Wait, a1.Conn.Tries⟩ : TConn), a1.now, a1.segs, a1.calls, a1.gone⟩ : Tstep) fun y1 => lt (⟨(⟨y1.Conn.Id, y1.Conn.Guest, y1.Conn.Gport, y1.Conn.Remote, y1.Conn.Rport, y1.Conn.Opening, y1.Conn.Up, y1.Conn.Done, y1.Conn.Begin, y1.Conn.Una, IntKind.u32.wrap (y1.Conn.Next + 1), y1.Conn.Want, y1.Conn.Win, y1.Conn.Mss, y1.Conn.ToHost, y1.Conn.ToGuest, y1.Conn.Early, y1.Conn.Fin, y1.Conn.Eof, y1.Conn.Shut, y1.Conn.At, y1.Conn.Wait, y1.Conn.Tries⟩ : TConn), y1.now, y1.segs, y1.calls, y1.gone⟩ : Tstep) fun y2 => (splice_step_arm.f y2).bind fun r1 => (splice_step_syn.f r1).bind fun r2 => some (r2) else some (a1))).bind (fun j1 => some ((0, j1)))
set_option maxRecDepth 100000 in
set_option maxHeartbeats 4000000 in
theorem splice_step_open.spc (b1 : Nat) (a1 : Tstep) (v1 : Value) (a2 : TTell) (r : Int × Tstep) (H : splice_step_open.f a1 a2 = some r) : Spc Try.prog 34 [pt b1, v1] [Val KTell v1 a2] [Fld Kstep b1 0 a1] (fun (s : Unit) => .int .i64 r.1) (fun s => [Ent.pur (InR .i64 r.1), Fld Kstep b1 0 r.2]) := by
 unfold splice_step_open.f at H
 refine Spc.go Try.func34 rfl (by kernel_rfl) rfl rfl (all_cons (Val.per PTell) all_nil) fun F a w h => ?_
 refine Go.seq ?_
 refine Go.reg ?_
 refine gs h (o_box (K := KTell) rfl (pv_at PTell 0 rfl)) rfl fun b2 _ _ h => ?_
 refine ga h (o_assign rfl) rfl fun h => ?_
 refine GoR.done ?_
 refine Go.seq ?_
 obtain ⟨o1, H, G1⟩ := bindE H
 refine g_cut (fun G => ∀ j1 (a : Act) (w : World), o1 = j1 → St Try.f34.ntmps F [] [Fld Kstep b1 0 j1, Fld KTell b2 0 a2] a w → G a w) 1 ?_ fun J1 => ?_
 ·intro j1 a w ho_ h
  rw [ho_] at G1
  have H := G1
  refine Go.seq ?_
  refine Go.reg ?_
  refine ga h (o_assign rfl) rfl fun h => ?_
  refine GoR.done ?_
  rw [← som H]
  exact g_ret (vs := [.int .i64 0]) h Try.func34 ⟨rfl, trivial⟩ ⟨(), rfl, ((h.mem.pick [0] (by decide) rfl).addpur (show InR .i64 0 by decide))⟩
 refine Go.seq ?_
 refine Go.reg ?_
 refine mv h rfl rfl fun h => ?_
 refine ga h (o_nilc rfl) rfl fun h => ?_
 refine ga h (o_fa rfl t_f75_0 rfl rfl) rfl fun h => ?_
 refine ga h (o_fa rfl t_f26_5 rfl rfl) rfl fun h => ?_
 refine ga h (o_lfx 2 rfl rfl t_sstep_Conn_Opening rfl X_bool t_y4) rfl fun h => ?_
 refine GoR.done ?_
 by_cases c1 : a1.Conn.Opening = true
 ·have H := ifT c1 H
  refine g_t h rfl c1 ?_
  refine Go.seq ?_
  refine Go.reg ?_
  refine mv h rfl rfl fun h => ?_
  refine ga h (o_nilc rfl) rfl fun h => ?_
  refine ga h (o_fa rfl t_f75_0 rfl rfl) rfl fun h => ?_
  refine ga h (o_fa rfl t_f26_5 rfl rfl) rfl fun h => ?_
  obtain ⟨y1, ey1, H⟩ := ltE H
  refine gs0 h (o_stp (x0 := a1) (y := false) 2 t_ustep_5_1 rfl rfl rfl rfl pv_bool t_w4) fun _ _ _ h => ?_
  rw [ey1] at h
  refine GoR.done ?_
  refine Go.seq ?_
  refine Go.reg ?_
  refine mv h rfl rfl fun h => ?_
  refine ga h (o_nilc rfl) rfl fun h => ?_
  refine ga h (o_fa rfl t_f75_0 rfl rfl) rfl fun h => ?_
  refine ga h (o_fa rfl t_f26_10 rfl rfl) rfl fun h => ?_
  have g1 := (in2 (fd_sub t_sstep_Conn_Next 2 rfl h.mem))
  refine ga h (o_lfx 2 rfl rfl t_sstep_Conn_Next rfl X_int t_y22) rfl fun h => ?_
  refine ga h (o_bin rfl rfl rfl) rfl fun h => ?_
  refine ga h (o_nilc rfl) rfl fun h => ?_
  refine ga h (o_fa rfl t_f75_0 rfl rfl) rfl fun h => ?_
  refine ga h (o_fa rfl t_f26_10 rfl rfl) rfl fun h => ?_
  obtain ⟨y2, ey2, H⟩ := ltE H
  refine gs0 h (o_stp (x0 := y1) (y := IntKind.u32.wrap (y1.Conn.Next + 1)) 2 t_ustep_10_1 rfl rfl rfl rfl (pv_int (wrap_in _ _)) t_w22) fun _ _ _ h => ?_
  rw [ey2] at h
  refine GoR.done ?_
  refine Go.seq ?_
  refine Go.reg ?_
  refine mv h rfl rfl fun h => ?_
  obtain ⟨r1, er1, H⟩ := bindE H
  refine ga h (o_call (splice_step_arm.spc b1 y2 r1 er1) rfl [] [2] (by decide) rfl rfl) rfl fun h => ?_
  refine GoR.done ?_
  refine Go.reg ?_
  refine mv h rfl rfl fun h => ?_
  obtain ⟨r2, er2, H⟩ := bindE H
  refine ga h (o_call (splice_step_syn.spc b1 r1 r2 er2) rfl [] [0] (by decide) rfl rfl) rfl fun h => ?_
  refine GoR.done ?_
  exact J1 r2 _ _ (som H).symm (h.wr [0, 2])
 ·have H := ifF c1 H
  refine g_f h rfl c1 ?_
  refine Go.skip ?_
  exact J1 a1 _ _ (som H).symm (h.wr [2, 0])
def splice_step_open.g (k_ : Nat) (a1 : Tstep) (a2 : TTell) : Option (Int × Tstep) :=
  ((if a1.Conn.Opening = true then lt (⟨(⟨a1.Conn.Id, a1.Conn.Guest, a1.Conn.Gport, a1.Conn.Remote, a1.Conn.Rport, false, a1.Conn.Up, a1.Conn.Done, a1.Conn.Begin, a1.Conn.Una, a1.Conn.Next, a1.Conn.Want, a1.Conn.Win, a1.Conn.Mss, a1.Conn.ToHost, a1.Conn.ToGuest, a1.Conn.Early, a1.Conn.Fin, a1.Conn.Eof, a1.Conn.Shut, a1.Conn.At, a1.Conn.Wait, a1.Conn.Tries⟩ : TConn), a1.now, a1.segs, a1.calls, a1.gone⟩ : Tstep) fun y1 => lt (⟨(⟨y1.Conn.Id, y1.Conn.Guest, y1.Conn.Gport, y1.Conn.Remote, y1.Conn.Rport, y1.Conn.Opening, y1.Conn.Up, y1.Conn.Done, y1.Conn.Begin, y1.Conn.Una, IntKind.u32.wrap (y1.Conn.Next + 1), y1.Conn.Want, y1.Conn.Win, y1.Conn.Mss, y1.Conn.ToHost, y1.Conn.ToGuest, y1.Conn.Early, y1.Conn.Fin, y1.Conn.Eof, y1.Conn.Shut, y1.Conn.At, y1.Conn.Wait, y1.Conn.Tries⟩ : TConn), y1.now, y1.segs, y1.calls, y1.gone⟩ : Tstep) fun y2 => (splice_step_arm.g k_ y2).bind fun r1 => (splice_step_syn.g k_ r1).bind fun r2 => some (r2) else some (a1))).bind (fun j1 => some ((0, j1)))
theorem splice_step_open.le (k_ : Nat) (a1 : Tstep) (a2 : TTell) : Le (splice_step_open.g k_ a1 a2) (splice_step_open.f a1 a2) := by
 unfold splice_step_open.g splice_step_open.f
 repeat' (first | with_reducible refine le_loop fun _ => ?_ | with_reducible refine le_bind ?_ fun _ => ?_ | with_reducible refine le_ite ?_ ?_ | with_reducible refine le_lt fun _ => ?_ | with_reducible refine le_elim (fun _ => ?_) (fun _ => ?_) _ | with_reducible apply splice_step_arm.le | with_reducible apply splice_step_syn.le | with_reducible exact le_refl _)
/-! (*drawbridge/splice.step).reset -/
noncomputable def splice_step_reset.f (a1 : Tstep) (a2 : TTell) : Option (Int × Tstep) :=
  (splice_step_say.f a1 a1.Conn.Next 4 []).bind fun r1 => lt (⟨r1.Conn, r1.now, r1.segs, r1.calls, true⟩ : Tstep) fun y1 => some ((0, y1))
set_option maxRecDepth 100000 in
set_option maxHeartbeats 4000000 in
theorem splice_step_reset.spc (b1 : Nat) (a1 : Tstep) (v1 : Value) (a2 : TTell) (r : Int × Tstep) (H : splice_step_reset.f a1 a2 = some r) : Spc Try.prog 35 [pt b1, v1] [Val KTell v1 a2] [Fld Kstep b1 0 a1] (fun (s : Unit) => .int .i64 r.1) (fun s => [Ent.pur (InR .i64 r.1), Fld Kstep b1 0 r.2]) := by
 unfold splice_step_reset.f at H
 refine Spc.go Try.func35 rfl (by kernel_rfl) rfl rfl (all_cons (Val.per PTell) all_nil) fun F a w h => ?_
 refine Go.seq ?_
 refine Go.reg ?_
 refine gs h (o_box (K := KTell) rfl (pv_at PTell 0 rfl)) rfl fun b2 _ _ h => ?_
 refine ga h (o_assign rfl) rfl fun h => ?_
 refine GoR.done ?_
 refine Go.seq ?_
 refine Go.reg ?_
 refine mv h rfl rfl fun h => ?_
 refine mv h rfl rfl fun h => ?_
 refine ga h (o_nilc rfl) rfl fun h => ?_
 refine ga h (o_fa rfl t_f75_0 rfl rfl) rfl fun h => ?_
 refine ga h (o_fa rfl t_f26_10 rfl rfl) rfl fun h => ?_
 have g1 := (in2 (fd_sub t_sstep_Conn_Next 2 rfl h.mem))
 refine ga h (o_lfx 2 rfl rfl t_sstep_Conn_Next rfl X_int t_y22) rfl fun h => ?_
 replace h := h.mm fun m => (pv_nil (K := (Kd.int .u8))).ent m
 obtain ⟨r1, er1, H⟩ := bindE H
 refine ga h (o_call (splice_step_say.spc b1 a1 a1.Conn.Next g1 4 (show InR .i64 4 by decide) (.slice none 0 0) [] r1 er1) rfl [0] [3] (by decide) rfl rfl) rfl fun h => ?_
 refine GoR.done ?_
 refine Go.seq ?_
 refine Go.reg ?_
 refine mv h rfl rfl fun h => ?_
 refine ga h (o_nilc rfl) rfl fun h => ?_
 refine ga h (o_fa rfl t_f75_4 rfl rfl) rfl fun h => ?_
 obtain ⟨y1, ey1, H⟩ := ltE H
 refine gs0 h (o_stp (x0 := r1) (y := true) 0 t_ustep_26_1 rfl rfl rfl rfl pv_bool t_w4) fun _ _ _ h => ?_
 rw [ey1] at h
 refine GoR.done ?_
 refine Go.seq ?_
 refine Go.reg ?_
 refine ga h (o_assign rfl) rfl fun h => ?_
 refine GoR.done ?_
 rw [← som H]
 exact g_ret (vs := [.int .i64 0]) h Try.func35 ⟨rfl, trivial⟩ ⟨(), rfl, ((h.mem.pick [0] (by decide) rfl).addpur (show InR .i64 0 by decide))⟩
def splice_step_reset.g (k_ : Nat) (a1 : Tstep) (a2 : TTell) : Option (Int × Tstep) :=
  (splice_step_say.g k_ a1 a1.Conn.Next 4 []).bind fun r1 => lt (⟨r1.Conn, r1.now, r1.segs, r1.calls, true⟩ : Tstep) fun y1 => some ((0, y1))
theorem splice_step_reset.le (k_ : Nat) (a1 : Tstep) (a2 : TTell) : Le (splice_step_reset.g k_ a1 a2) (splice_step_reset.f a1 a2) := by
 unfold splice_step_reset.g splice_step_reset.f
 repeat' (first | with_reducible refine le_loop fun _ => ?_ | with_reducible refine le_bind ?_ fun _ => ?_ | with_reducible refine le_ite ?_ ?_ | with_reducible refine le_lt fun _ => ?_ | with_reducible refine le_elim (fun _ => ?_) (fun _ => ?_) _ | with_reducible apply splice_step_say.le | with_reducible exact le_refl _)
/-! slices.Min[[]int,int] -/
noncomputable def slices_Min_s_int_int.f (a1 : List Int) : Option (Int) :=
  (if decide ((a1.length : Int) < 1) = true then none else (idx a1 0).bind fun x1 => (loop (fun s1 => (if decide (s1.2 < (a1.length : Int)) = true then (idx a1 s1.2).bind fun x2 => lt (IntKind.i64.wrap (s1.2 + 1)) fun y1 => some (.inl (min s1.1 x2, y1)) else some (.inr (s1.1)))) (x1, 1)).bind (fun j1 => some (j1)))
set_option maxRecDepth 100000 in
set_option maxHeartbeats 4000000 in
theorem slices_Min_s_int_int.spc (v1 : Value) (a1 : List Int) (r : Int) (H : slices_Min_s_int_int.f a1 = some r) : Spc Try.prog 65 [v1] [Val (Kd.sl (Kd.int .i64)) v1 a1] [] (fun (s : Unit) => .int .i64 r) (fun s => [Ent.pur (InR .i64 r)]) := by
 unfold slices_Min_s_int_int.f at H
 refine Spc.go Try.func65 rfl (by kernel_rfl) rfl rfl (all_cons (Val.per Per_sl) all_nil) fun F a w h => ?_
 refine Go.seq ?_
 refine Go.reg ?_
 refine ga h (o_assign rfl) rfl fun h => ?_
 refine GoR.done ?_
 refine Go.seq ?_
 refine Go.seq ?_
 refine Go.reg ?_
 refine mv h rfl rfl fun h => ?_
 have g1 := (len_at 0 rfl h.mem)
 refine ga h (o_ln rfl (rd_at 0 rfl) t_v95) rfl fun h => ?_
 refine ga h (o_bin rfl rfl rfl) rfl fun h => ?_
 refine GoR.done ?_
 by_cases c1 : decide ((a1.length : Int) < 1) = true
 ·have H := ifT c1 H
  refine g_t h rfl c1 ?_
  cases H
 ·have H := ifF c1 H
  refine g_f h rfl c1 ?_
  refine Go.skip ?_
  refine Go.seq ?_
  refine Go.reg ?_
  refine mv h rfl rfl fun h => ?_
  obtain ⟨x1, ex1, H⟩ := bindE H
  refine ga h (o_ix rfl rfl (rd_at 0 rfl) ex1 t_v95) rfl fun h => ?_
  have g2 := (rd_inr (rd_at 0 rfl) ex1 h.mem)
  refine ga h (o_lex rfl (rd_at 0 rfl) ex1 X_int t_y3 (by decide)) rfl fun h => ?_
  refine ga h (o_assign rfl) rfl fun h => ?_
  refine GoR.done ?_
  refine Go.seq ?_
  refine Go.seq ?_
  refine Go.reg ?_
  refine ga h (o_assign rfl) rfl fun h => ?_
  refine GoR.done ?_
  refine Go.block ?_
  obtain ⟨o1, hl, G1⟩ := bindE H
  refine g_cut (fun G => ∀ j1 (a : Act) (w : World), o1 = j1 → InR .i64 j1 → St Try.f65.ntmps F [(3, .int .i64 j1)] [] a w → G a w) 2 ?_ fun J1 => ?_
  ·intro j1 a w ho_ g7 h
   rw [ho_] at G1
   have H := G1
   refine Go.seq ?_
   refine Go.reg ?_
   refine mv h rfl rfl fun h => ?_
   refine ga h (o_assign rfl) rfl fun h => ?_
   refine GoR.done ?_
   rw [← som H]
   exact g_ret (vs := [.int .i64 j1]) h Try.func65 ⟨rfl, trivial⟩ ⟨(), rfl, ((h.mem.pick [] (by decide) rfl).addpur g7)⟩
  refine g_loop (fun s1 G => ∀  (a : Act) (w : World), InR .i64 s1.1 → InR .i64 s1.2 → St Try.f65.ntmps F [(0, v1), (3, .int .i64 s1.1), (4, .int .i64 s1.2)] [Val (Kd.sl (Kd.int .i64)) v1 a1] a w → G a w) hl (fun s1 p1 H i1 => ?_) fun I_ => ?_
  ·intro  a w g3 g4 h
   refine Go.seq ?_
   refine Go.seq ?_
   refine Go.reg ?_
   refine mv h rfl rfl fun h => ?_
   refine mv h rfl rfl fun h => ?_
   have g5 := (len_at 0 rfl h.mem)
   refine ga h (o_ln rfl (rd_at 0 rfl) t_v95) rfl fun h => ?_
   refine ga h (o_bin rfl rfl rfl) rfl fun h => ?_
   refine GoR.done ?_
   by_cases c2 : decide (s1.2 < (a1.length : Int)) = true
   ·have H := ifT c2 H
    refine g_t h rfl c2 ?_
    refine Go.skip ?_
    refine Go.seq ?_
    refine Go.block ?_
    refine Go.reg ?_
    iterate 3 (refine ga h (o_move rfl) rfl fun h => ?_)
    obtain ⟨x2, ex2, H⟩ := bindE H
    refine ga h (o_ix rfl rfl (rd_at 0 rfl) ex2 t_v95) rfl fun h => ?_
    have g6 := (rd_inr (rd_at 0 rfl) ex2 h.mem)
    refine ga h (o_lex rfl (rd_at 0 rfl) ex2 X_int t_y3 (by decide)) rfl fun h => ?_
    refine ga h (o_min rfl rfl) rfl fun h => ?_
    refine ga h (o_assign rfl) rfl fun h => ?_
    refine GoR.done ?_
    refine Go.inBlock ?_
    refine Go.reg ?_
    refine mv h rfl rfl fun h => ?_
    refine ga h (o_bin rfl rfl rfl) rfl fun h => ?_
    obtain ⟨y1, ey1, H⟩ := ltE H
    refine ga h (o_assign' rfl (congrArg (fun z => Value.int .i64 z) ey1)) rfl fun h => ?_
    refine GoR.done ?_
    have e_ := som H; subst e_
    exact Go.inLoop (nx_in i1 _ _ (inr_min g3 g6) (ey1 ▸ (wrap_in _ _)) (h.wr [0]))
   ·have H := ifF c2 H
    refine g_f h rfl c2 ?_
    refine Go.exit rfl ?_
    have e_ := som H; subst e_
    exact J1 s1.1 _ _ (nx_out i1).symm g3 (h.wr [])
  ·exact I_ _ _ g2 (show InR .i64 1 by decide) (h.wr [0])
def slices_Min_s_int_int.g (k_ : Nat) (a1 : List Int) : Option (Int) :=
  (if decide ((a1.length : Int) < 1) = true then none else (idx a1 0).bind fun x1 => (loopK k_ (fun s1 => (if decide (s1.2 < (a1.length : Int)) = true then (idx a1 s1.2).bind fun x2 => lt (IntKind.i64.wrap (s1.2 + 1)) fun y1 => some (.inl (min s1.1 x2, y1)) else some (.inr (s1.1)))) (x1, 1)).bind (fun j1 => some (j1)))
theorem slices_Min_s_int_int.le (k_ : Nat) (a1 : List Int) : Le (slices_Min_s_int_int.g k_ a1) (slices_Min_s_int_int.f a1) := by
 unfold slices_Min_s_int_int.g slices_Min_s_int_int.f
 repeat' (first | with_reducible refine le_loop fun _ => ?_ | with_reducible refine le_bind ?_ fun _ => ?_ | with_reducible refine le_ite ?_ ?_ | with_reducible refine le_lt fun _ => ?_ | with_reducible refine le_elim (fun _ => ?_) (fun _ => ?_) _ | with_reducible exact le_refl _)
/-! drawbridge/splice.least[int] -/
noncomputable def splice_least_int.f (a1 : List Int) : Option (Int) :=
  (slices_Min_s_int_int.f a1).bind fun r1 => some (r1)
set_option maxRecDepth 100000 in
set_option maxHeartbeats 4000000 in
theorem splice_least_int.spc (v1 : Value) (a1 : List Int) (r : Int) (H : splice_least_int.f a1 = some r) : Spc Try.prog 54 [v1] [Val (Kd.sl (Kd.int .i64)) v1 a1] [] (fun (s : Unit) => .int .i64 r) (fun s => [Ent.pur (InR .i64 r)]) := by
 unfold splice_least_int.f at H
 refine Spc.go Try.func54 rfl (by kernel_rfl) rfl rfl (all_cons (Val.per Per_sl) all_nil) fun F a w h => ?_
 refine Go.seq ?_
 refine Go.reg ?_
 refine ga h (o_assign rfl) rfl fun h => ?_
 refine GoR.done ?_
 refine Go.seq ?_
 refine Go.reg ?_
 refine mv h rfl rfl fun h => ?_
 obtain ⟨r1, er1, H⟩ := bindE H
 refine ga h (o_call (slices_Min_s_int_int.spc v1 a1 r1 er1) rfl [0] [] (by decide) rfl rfl) rfl fun h => ?_
 have g1 := h.mem.pur 0 rfl
 refine ga h (o_assign rfl) rfl fun h => ?_
 refine GoR.done ?_
 rw [← som H]
 exact g_ret (vs := [.int .i64 r1]) h Try.func54 ⟨rfl, trivial⟩ ⟨(), rfl, ((h.mem.pick [] (by decide) rfl).addpur g1)⟩
def splice_least_int.g (k_ : Nat) (a1 : List Int) : Option (Int) :=
  (slices_Min_s_int_int.g k_ a1).bind fun r1 => some (r1)
theorem splice_least_int.le (k_ : Nat) (a1 : List Int) : Le (splice_least_int.g k_ a1) (splice_least_int.f a1) := by
 unfold splice_least_int.g splice_least_int.f
 repeat' (first | with_reducible refine le_loop fun _ => ?_ | with_reducible refine le_bind ?_ fun _ => ?_ | with_reducible refine le_ite ?_ ?_ | with_reducible refine le_lt fun _ => ?_ | with_reducible refine le_elim (fun _ => ?_) (fun _ => ?_) _ | with_reducible apply slices_Min_s_int_int.le | with_reducible exact le_refl _)
/-! slices.Grow[[]byte,byte] -/
noncomputable def slices_Grow_s_byte_byte.f (a1 : Int) : Option ((List Int)) :=
  (if decide (a1 < 0) = true then none else (lt (IntKind.i64.wrap (a1 - (IntKind.i64.wrap (0 - 0)))) fun y1 => (if decide (0 < y1) = true then (mk y1 0).bind fun x1 => (cut x1 0 0).bind fun x2 => some (x2) else some ([]))).bind (fun j1 => some (j1)))
set_option maxRecDepth 100000 in
set_option maxHeartbeats 4000000 in
theorem slices_Grow_s_byte_byte.spc (a1 : Int) (ha1 : InR .i64 a1) (r : (List Int)) (H : slices_Grow_s_byte_byte.f a1 = some r) : Spc Try.prog 61 [.slice none 0 0, .int .i64 a1] [] [] (fun (s : Value) => s) (fun s => [Val (Kd.osl (Kd.int .u8)) s r]) := by
 unfold slices_Grow_s_byte_byte.f at H
 refine Spc.go Try.func61 rfl (by kernel_rfl) rfl rfl all_nil fun F a w h => ?_
 refine Go.seq ?_
 refine Go.reg ?_
 refine ga h (o_assign rfl) rfl fun h => ?_
 refine GoR.done ?_
 refine Go.seq ?_
 refine Go.seq ?_
 refine Go.reg ?_
 refine mv h rfl rfl fun h => ?_
 refine ga h (o_bin rfl rfl rfl) rfl fun h => ?_
 refine GoR.done ?_
 by_cases c1 : decide (a1 < 0) = true
 ·have H := ifT c1 H
  refine g_t h rfl c1 ?_
  cases H
 ·have H := ifF c1 H
  refine g_f h rfl c1 ?_
  refine Go.skip ?_
  refine Go.seq ?_
  obtain ⟨o1, H, G1⟩ := bindE H
  refine g_cut (fun G => ∀ j1 (v2 : Value) (a : Act) (w : World), o1 = j1 → St Try.f61.ntmps F [(0, v2)] [Val (Kd.osl (Kd.int .u8)) v2 j1] a w → G a w) 1 ?_ fun J1 => ?_
  ·intro j1 v2 a w ho_ h
   rw [ho_] at G1
   have H := G1
   refine Go.seq ?_
   refine Go.reg ?_
   refine mv h rfl rfl fun h => ?_
   refine ga h (o_assign rfl) rfl fun h => ?_
   refine GoR.done ?_
   rw [← som H]
   exact g_ret (vs := [v2]) h Try.func61 ⟨rfl, trivial⟩ ⟨v2, rfl, (h.mem.pick [0] (by decide) rfl)⟩
  refine Go.seq ?_
  refine Go.reg ?_
  refine mv h rfl rfl fun h => ?_
  refine mv h rfl rfl fun h => ?_
  refine ga h (o_capn rfl t_v23) rfl fun h => ?_
  refine mv h rfl rfl fun h => ?_
  refine ga h (o_ln (K := (Kd.int .u8)) rfl (rd_pv pv_nil) t_v23) rfl fun h => ?_
  refine ga h (o_bin rfl rfl rfl) rfl fun h => ?_
  refine ga h (o_bin rfl rfl rfl) rfl fun h => ?_
  obtain ⟨y1, ey1, H⟩ := ltE H
  refine ga h (o_assign' rfl (congrArg (fun z => Value.int .i64 z) ey1)) rfl fun h => ?_
  refine GoR.done ?_
  refine Go.seq ?_
  refine Go.reg ?_
  refine mv h rfl rfl fun h => ?_
  refine ga h (o_bin rfl rfl rfl) rfl fun h => ?_
  refine GoR.done ?_
  by_cases c2 : decide (0 < y1) = true
  ·have H := ifT c2 H
   refine g_t h rfl c2 ?_
   refine Go.reg ?_
   refine mv h rfl rfl fun h => ?_
   refine mv h rfl rfl fun h => ?_
   refine ga h (o_capn rfl t_v23) rfl fun h => ?_
   refine ga h (o_nilh rfl rfl t_v23) rfl fun h => ?_
   refine mv h rfl rfl fun h => ?_
   obtain ⟨x1, ex1, H⟩ := bindE H
   refine gs h (o_appz (K := (Kd.int .u8)) rfl rfl ex1 t_a23 t_u3 (by decide) (fun e he => ⟨[.int .u8 0], by cases he; exact t_zc5, z_int⟩)) rfl fun v1 _ _ h => ?_
   refine mv h rfl rfl fun h => ?_
   refine ga h (o_ln (K := (Kd.int .u8)) rfl (rd_pv pv_nil) t_v23) rfl fun h => ?_
   obtain ⟨x2, ex2, H⟩ := bindE H
   refine ga h (o_subh 0 rfl rfl rfl ex2 t_v23) rfl fun h => ?_
   refine ga h (o_assign rfl) rfl fun h => ?_
   refine GoR.done ?_
   exact J1 x2 (subV v1 (0 : Int).toNat (0 : Int).toNat (Kd.n (Kd.int .u8))) _ _ (som H).symm (h.wr [0])
  ·have H := ifF c2 H
   refine g_f h rfl c2 ?_
   refine Go.skip ?_
   replace h := h.mm fun m => m.nilo (Kd.int .u8)
   exact J1 [] (.slice none 0 0) _ _ (som H).symm (h.wr [0])
def slices_Grow_s_byte_byte.g (k_ : Nat) (a1 : Int) : Option ((List Int)) :=
  (if decide (a1 < 0) = true then none else (lt (IntKind.i64.wrap (a1 - (IntKind.i64.wrap (0 - 0)))) fun y1 => (if decide (0 < y1) = true then (mk y1 0).bind fun x1 => (cut x1 0 0).bind fun x2 => some (x2) else some ([]))).bind (fun j1 => some (j1)))
theorem slices_Grow_s_byte_byte.le (k_ : Nat) (a1 : Int) : Le (slices_Grow_s_byte_byte.g k_ a1) (slices_Grow_s_byte_byte.f a1) := by
 unfold slices_Grow_s_byte_byte.g slices_Grow_s_byte_byte.f
 repeat' (first | with_reducible refine le_loop fun _ => ?_ | with_reducible refine le_bind ?_ fun _ => ?_ | with_reducible refine le_ite ?_ ?_ | with_reducible refine le_lt fun _ => ?_ | with_reducible refine le_elim (fun _ => ?_) (fun _ => ?_) _ | with_reducible exact le_refl _)
/-! slices.Concat[[]byte,byte] -/
noncomputable def slices_Concat_s_byte_byte.f (a1 : List (List Int)) : Option ((List Int)) :=
  (loop (fun s1 => (if decide (s1.2 < (a1.length : Int)) = true then (idx a1 s1.2).bind fun x1 => lt (IntKind.i64.wrap (s1.1 + (x1.length : Int))) fun y1 => (if decide (y1 < 0) = true then none else some (.inl (y1, IntKind.i64.wrap (s1.2 + 1)))) else some (.inr (s1.1)))) (0, 0)).bind (fun j1 => (slices_Grow_s_byte_byte.f j1).bind fun r1 => (loop (fun s2 => (if decide (s2.2 < (a1.length : Int)) = true then (idx a1 s2.2).bind fun x2 => (app s2.1 x2).bind fun x3 => some (.inl (x3, IntKind.i64.wrap (s2.2 + 1))) else some (.inr (s2.1)))) (r1, 0)).bind (fun j2 => some (j2)))
set_option maxRecDepth 100000 in
set_option maxHeartbeats 4000000 in
theorem slices_Concat_s_byte_byte.spc (v1 : Value) (a1 : List (List Int)) (r : (List Int)) (H : slices_Concat_s_byte_byte.f a1 = some r) : Spc Try.prog 46 [v1] [Val (Kd.sl (Kd.sl (Kd.int .u8))) v1 a1] [] (fun (s : Value) => s) (fun s => [Val (Kd.osl (Kd.int .u8)) s r]) := by
 unfold slices_Concat_s_byte_byte.f at H
 refine Spc.go Try.func46 rfl (by kernel_rfl) rfl rfl (all_cons (Val.per Per_sl) all_nil) fun F a w h => ?_
 refine Go.seq ?_
 refine Go.reg ?_
 refine ga h (o_assign rfl) rfl fun h => ?_
 refine GoR.done ?_
 refine Go.seq ?_
 refine Go.reg ?_
 refine ga h (o_assign rfl) rfl fun h => ?_
 refine GoR.done ?_
 refine Go.seq ?_
 refine Go.seq ?_
 refine Go.reg ?_
 refine mv h rfl rfl fun h => ?_
 have g1 := (len_at 0 rfl h.mem)
 refine ga h (o_ln rfl (rd_at 0 rfl) t_v100) rfl fun h => ?_
 refine mv h rfl rfl fun h => ?_
 refine GoR.done ?_
 refine Go.block ?_
 obtain ⟨o1, hl, G1⟩ := bindE H
 refine g_cut (fun G => ∀ j1 (a : Act) (w : World), o1 = j1 → InR .i64 j1 → St Try.f46.ntmps F [(0, v1), (3, .int .i64 j1)] [Val (Kd.sl (Kd.sl (Kd.int .u8))) v1 a1] a w → G a w) 2 ?_ fun J1 => ?_
 ·intro j1 a w ho_ g5 h
  rw [ho_] at G1
  have H := G1
  refine Go.seq ?_
  refine Go.reg ?_
  refine mv h rfl rfl fun h => ?_
  obtain ⟨r1, er1, H⟩ := bindE H
  refine gs h (o_call (slices_Grow_s_byte_byte.spc j1 g5 r1 er1) rfl [] [] (by decide) rfl rfl) rfl fun v3 _ _ h => ?_
  refine ga h (o_assign rfl) rfl fun h => ?_
  refine GoR.done ?_
  refine Go.seq ?_
  refine Go.seq ?_
  refine Go.reg ?_
  refine mv h rfl rfl fun h => ?_
  have g6 := (len_at 1 rfl h.mem)
  refine ga h (o_ln rfl (rd_at 1 rfl) t_v100) rfl fun h => ?_
  refine mv h rfl rfl fun h => ?_
  refine GoR.done ?_
  refine Go.block ?_
  obtain ⟨o2, hl, G2⟩ := bindE H
  refine g_cut (fun G => ∀ j2 (v7 : Value) (a : Act) (w : World), o2 = j2 → St Try.f46.ntmps F [(6, v7)] [Val (Kd.osl (Kd.int .u8)) v7 j2] a w → G a w) 2 ?_ fun J2 => ?_
  ·intro j2 v7 a w ho_ h
   rw [ho_] at G2
   have H := G2
   refine Go.seq ?_
   refine Go.reg ?_
   refine mv h rfl rfl fun h => ?_
   refine ga h (o_assign rfl) rfl fun h => ?_
   refine GoR.done ?_
   rw [← som H]
   exact g_ret (vs := [v7]) h Try.func46 ⟨rfl, trivial⟩ ⟨v7, rfl, (h.mem.pick [0] (by decide) rfl)⟩
  refine g_loop (fun s2 G => ∀ (v4 : Value) (a : Act) (w : World), InR .i64 s2.2 → St Try.f46.ntmps F [(6, v4), (25, v1), (26, .int .i64 (a1.length : Int)), (27, .int .i64 s2.2)] [Val (Kd.osl (Kd.int .u8)) v4 s2.1, Val (Kd.sl (Kd.sl (Kd.int .u8))) v1 a1] a w → G a w) hl (fun s2 p2 H i2 => ?_) fun I_ => ?_
  ·intro v4 a w g7 h
   refine Go.seq ?_
   refine Go.reg ?_
   refine ga h (o_bin rfl rfl rfl) rfl fun h => ?_
   refine GoR.done ?_
   refine Go.seq ?_
   by_cases c3 : decide (s2.2 < (a1.length : Int)) = true
   ·have H := ifT c3 H
    refine g_t h rfl c3 ?_
    refine Go.skip ?_
    refine Go.seq ?_
    refine Go.block ?_
    refine Go.seq ?_
    refine Go.reg ?_
    obtain ⟨x2, ex2, H⟩ := bindE H
    refine ga h (o_ix rfl rfl (rd_at 1 rfl) ex2 t_v100) rfl fun h => ?_
    refine gs h (o_lev rfl (rd_at 1 rfl) ex2 t_y23 (by decide)) rfl fun v5 _ _ h => ?_
    refine ga h (o_assign rfl) rfl fun h => ?_
    refine GoR.done ?_
    refine Go.reg ?_
    refine mv h rfl rfl fun h => ?_
    refine mv h rfl rfl fun h => ?_
    obtain ⟨x3, ex3, H⟩ := bindE H
    refine gs h (o_app (K := (Kd.int .u8)) 1 rfl rfl rfl (rd_at 0 rfl) ex3 t_a23 t_n23) rfl fun v6 _ _ h => ?_
    refine ga h (o_assign rfl) rfl fun h => ?_
    refine GoR.done ?_
    refine Go.inBlock ?_
    refine Go.reg ?_
    refine ga h (o_bin rfl rfl rfl) rfl fun h => ?_
    refine mv h rfl rfl fun h => ?_
    refine GoR.done ?_
    have e_ := som H; subst e_
    exact Go.inLoop (nx_in i2 v6 _ _ (wrap_in _ _) (h.wr [1, 2]))
   ·have H := ifF c3 H
    refine g_f h rfl c3 ?_
    refine Go.exit rfl ?_
    have e_ := som H; subst e_
    exact J2 s2.1 v4 _ _ (nx_out i2).symm (h.wr [0])
  ·exact I_ v3 _ _ (show InR .i64 0 by decide) (h.wr [0, 1])
 refine g_loop (fun s1 G => ∀  (a : Act) (w : World), InR .i64 s1.1 → InR .i64 s1.2 → St Try.f46.ntmps F [(0, v1), (3, .int .i64 s1.1), (9, v1), (10, .int .i64 (a1.length : Int)), (11, .int .i64 s1.2)] [Val (Kd.sl (Kd.sl (Kd.int .u8))) v1 a1] a w → G a w) hl (fun s1 p1 H i1 => ?_) fun I_ => ?_
 ·intro  a w g2 g3 h
  refine Go.seq ?_
  refine Go.reg ?_
  refine ga h (o_bin rfl rfl rfl) rfl fun h => ?_
  refine GoR.done ?_
  refine Go.seq ?_
  by_cases c1 : decide (s1.2 < (a1.length : Int)) = true
  ·have H := ifT c1 H
   refine g_t h rfl c1 ?_
   refine Go.skip ?_
   refine Go.seq ?_
   refine Go.block ?_
   refine Go.seq ?_
   refine Go.reg ?_
   obtain ⟨x1, ex1, H⟩ := bindE H
   refine ga h (o_ix rfl rfl (rd_at 0 rfl) ex1 t_v100) rfl fun h => ?_
   refine gs h (o_lev rfl (rd_at 0 rfl) ex1 t_y23 (by decide)) rfl fun v2 _ _ h => ?_
   refine ga h (o_assign rfl) rfl fun h => ?_
   refine GoR.done ?_
   refine Go.seq ?_
   refine Go.reg ?_
   refine mv h rfl rfl fun h => ?_
   refine mv h rfl rfl fun h => ?_
   have g4 := (len_at 0 rfl h.mem)
   refine ga h (o_ln rfl (rd_at 0 rfl) t_v23) rfl fun h => ?_
   refine ga h (o_bin rfl rfl rfl) rfl fun h => ?_
   obtain ⟨y1, ey1, H⟩ := ltE H
   refine ga h (o_assign' rfl (congrArg (fun z => Value.int .i64 z) ey1)) rfl fun h => ?_
   refine GoR.done ?_
   refine Go.seq ?_
   refine Go.reg ?_
   refine mv h rfl rfl fun h => ?_
   refine ga h (o_bin rfl rfl rfl) rfl fun h => ?_
   refine GoR.done ?_
   by_cases c2 : decide (y1 < 0) = true
   ·have H := ifT c2 H
    refine g_t h rfl c2 ?_
    cases H
   ·have H := ifF c2 H
    refine g_f h rfl c2 ?_
    refine Go.skip ?_
    refine Go.inBlock ?_
    refine Go.reg ?_
    refine ga h (o_bin rfl rfl rfl) rfl fun h => ?_
    refine mv h rfl rfl fun h => ?_
    refine GoR.done ?_
    have e_ := som H; subst e_
    exact Go.inLoop (nx_in i1 _ _ (ey1 ▸ (wrap_in _ _)) (wrap_in _ _) (h.wr [1]))
  ·have H := ifF c1 H
   refine g_f h rfl c1 ?_
   refine Go.exit rfl ?_
   have e_ := som H; subst e_
   exact J1 s1.1 _ _ (nx_out i1).symm g2 (h.wr [0])
 ·exact I_ _ _ (show InR .i64 0 by decide) (show InR .i64 0 by decide) (h.wr [0])
def slices_Concat_s_byte_byte.g (k_ : Nat) (a1 : List (List Int)) : Option ((List Int)) :=
  (loopK k_ (fun s1 => (if decide (s1.2 < (a1.length : Int)) = true then (idx a1 s1.2).bind fun x1 => lt (IntKind.i64.wrap (s1.1 + (x1.length : Int))) fun y1 => (if decide (y1 < 0) = true then none else some (.inl (y1, IntKind.i64.wrap (s1.2 + 1)))) else some (.inr (s1.1)))) (0, 0)).bind (fun j1 => (slices_Grow_s_byte_byte.g k_ j1).bind fun r1 => (loopK k_ (fun s2 => (if decide (s2.2 < (a1.length : Int)) = true then (idx a1 s2.2).bind fun x2 => (app s2.1 x2).bind fun x3 => some (.inl (x3, IntKind.i64.wrap (s2.2 + 1))) else some (.inr (s2.1)))) (r1, 0)).bind (fun j2 => some (j2)))
theorem slices_Concat_s_byte_byte.le (k_ : Nat) (a1 : List (List Int)) : Le (slices_Concat_s_byte_byte.g k_ a1) (slices_Concat_s_byte_byte.f a1) := by
 unfold slices_Concat_s_byte_byte.g slices_Concat_s_byte_byte.f
 repeat' (first | with_reducible refine le_loop fun _ => ?_ | with_reducible refine le_bind ?_ fun _ => ?_ | with_reducible refine le_ite ?_ ?_ | with_reducible refine le_lt fun _ => ?_ | with_reducible refine le_elim (fun _ => ?_) (fun _ => ?_) _ | with_reducible apply slices_Grow_s_byte_byte.le | with_reducible exact le_refl _)
/-! (*drawbridge/splice.step).flown -/
noncomputable def splice_step_flown.f (a1 : Tstep) : Option (Int) :=
  lt (IntKind.u32.wrap (a1.Conn.Next - a1.Conn.Una)) fun y1 => some (y1)
set_option maxRecDepth 100000 in
set_option maxHeartbeats 4000000 in
theorem splice_step_flown.spc (b1 : Nat) (a1 : Tstep) (r : Int) (H : splice_step_flown.f a1 = some r) : Spc Try.prog 58 [pt b1] [Pfl KstepR b1 0 a1] [] (fun (s : Unit) => .int .i64 r) (fun s => [Ent.pur (InR .i64 r)]) := by
 unfold splice_step_flown.f at H
 refine Spc.go Try.func58 rfl (by kernel_rfl) rfl rfl (all_cons Per_pfl all_nil) fun F a w h => ?_
 refine Go.seq ?_
 refine Go.reg ?_
 refine ga h (o_assign rfl) rfl fun h => ?_
 refine GoR.done ?_
 refine Go.seq ?_
 replace h := h.wq [(0, pt b1), (2, .int .i64 0)] [Pfl KstepR b1 0 a1] [0]
 refine Go.draw (E := [(0, pt b1), (2, .int .i64 0)]) [] (L := [Pfl KstepR b1 0 a1]) h rfl rfl 10 [cn (pt b1), ce [0] (pt b1), ce [0, 1] (pt b1), ce [0, 1, 2] (.pointer (some ⟨b1, 10, none⟩)), cm [0, 1, 2, 3] [] [] (.int .u32 a1.Conn.Next) fun u => [Ent.pur (InR .u32 a1.Conn.Next)], cn (pt b1), ce [5] (pt b1), ce [5, 6] (pt b1), ce [5, 6, 7] (.pointer (some ⟨b1, 9, none⟩)), cm [5, 6, 7, 8] [] [] (.int .u32 a1.Conn.Una) fun u => [Ent.pur (InR .u32 a1.Conn.Una)]] rfl t_mxo (by kernel_rfl) (by rfl) ?_ fun f1 _ _ h => ?_
 ·exact ox rfl (o_move rfl) (ox rfl (o_nilc rfl) (ox rfl (o_fa rfl t_f75_0 rfl rfl) (ox rfl (o_fa rfl t_f26_10 rfl rfl) (ox rfl (OpS.pur (fun F w m_ => (in2 (pf_sub t_sstepR_Conn_Next 0 rfl m_))) (p_lfx (K := KstepR) (pr := fun x => x.Conn.Next) (y := a1) 0 rfl rfl t_sstepR_Conn_Next rfl X_int t_y22)) (ox rfl (o_move rfl) (ox rfl (o_nilc rfl) (ox rfl (o_fa rfl t_f75_0 rfl rfl) (ox rfl (o_fa rfl t_f26_9 rfl rfl) (ox rfl (OpS.pur (fun F w m_ => (in2 (pf_sub t_sstepR_Conn_Una 0 rfl m_))) (p_lfx (K := KstepR) (pr := fun x => x.Conn.Una) (y := a1) 0 rfl rfl t_sstepR_Conn_Una rfl X_int t_y22)) (obs_nil))))))))))
 replace h := h.wk (E' := [(2, .int .i64 0), (7, .int .u32 a1.Conn.Next), (12, .int .u32 a1.Conn.Una)]) (L' := [Ent.pur (InR .u32 a1.Conn.Next), Ent.pur (InR .u32 a1.Conn.Una), Pfl KstepR b1 0 a1]) (by kernel_rfl) [0, 1, 2] (by decide) (by kernel_rfl)
 have g1 := (Mem.pur 0 rfl h.mem)
 have g2 := (Mem.pur 1 rfl h.mem)
 refine ga h (o_bin rfl rfl rfl) rfl fun h => ?_
 refine ga h (o_convw rfl t_q22 t_u3 (wrap_in _ _) rfl) rfl fun h => ?_
 obtain ⟨y1, ey1, H⟩ := ltE H
 refine ga h (o_assign' rfl (congrArg (fun z => Value.int .i64 z) ey1)) rfl fun h => ?_
 refine GoR.done ?_
 rw [← som H]
 exact g_ret (vs := [.int .i64 y1]) h Try.func58 ⟨rfl, trivial⟩ ⟨(), rfl, ((h.mem.pick [] (by decide) rfl).addpur (ey1 ▸ (inr_wid (k := .u32) (k' := .i64) (wrap_in _ _) rfl)))⟩
def splice_step_flown.g (k_ : Nat) (a1 : Tstep) : Option (Int) :=
  lt (IntKind.u32.wrap (a1.Conn.Next - a1.Conn.Una)) fun y1 => some (y1)
theorem splice_step_flown.le (k_ : Nat) (a1 : Tstep) : Le (splice_step_flown.g k_ a1) (splice_step_flown.f a1) := by
 unfold splice_step_flown.g splice_step_flown.f
 repeat' (first | with_reducible refine le_loop fun _ => ?_ | with_reducible refine le_bind ?_ fun _ => ?_ | with_reducible refine le_ite ?_ ?_ | with_reducible refine le_lt fun _ => ?_ | with_reducible refine le_elim (fun _ => ?_) (fun _ => ?_) _ | with_reducible exact le_refl _)
end Go.Proofs.Ytpcbhkigmnpimaa.S
