/- Contracts, printed by a program of this session. -/
import Derived.Test.YtpcbhkigmnpimaaT2
import Derived.Test.YtpcbhkigmnpimaaT3
import Derived.Test.YtpcbhkigmnpimaaT4
namespace Go.Proofs.Ytpcbhkigmnpimaa.S
open Go Go.SL Go.RowKit
set_option linter.unusedVariables false
set_option linter.unusedSimpArgs false
/-! (*drawbridge/splice.step).again -/
noncomputable def splice_step_again.f (a1 : Tstep) : Option (Tstep) :=
  (splice_step_flown.f a1).bind fun r1 => lt (a1.Conn.ToGuest.length : Int) fun y1 => (if (!a1.Conn.Up) = true then (splice_step_syn.f a1).bind fun r2 => some (r2) else ((if decide (0 < r1) = true then lt (decide (y1 = 0)) fun y2 => some (y2) else some (false))).bind (fun j1 => (if j1 = true then (splice_step_say.f a1 a1.Conn.Una 1 []).bind fun r3 => some (r3) else lt (decide (0 < r1)) fun y3 => (if y3 = true then (splice_least_int.f ([r1, y1, a1.Conn.Mss] : List Int)).bind fun r4 => (cut a1.Conn.ToGuest 0 r4).bind fun x1 => (splice_step_say.f a1 a1.Conn.Una 8 x1).bind fun r5 => some (r5) else lt (decide (0 < y1)) fun y4 => (if y4 = true then (cut a1.Conn.ToGuest 0 1).bind fun x2 => (splice_step_say.f a1 a1.Conn.Una 8 x2).bind fun r6 => lt (⟨(⟨r6.Conn.Id, r6.Conn.Guest, r6.Conn.Gport, r6.Conn.Remote, r6.Conn.Rport, r6.Conn.Opening, r6.Conn.Up, r6.Conn.Done, r6.Conn.Begin, r6.Conn.Una, IntKind.u32.wrap (r6.Conn.Next + 1), r6.Conn.Want, r6.Conn.Win, r6.Conn.Mss, r6.Conn.ToHost, r6.Conn.ToGuest, r6.Conn.Early, r6.Conn.Fin, r6.Conn.Eof, r6.Conn.Shut, r6.Conn.At, r6.Conn.Wait, r6.Conn.Tries⟩ : TConn), r6.now, r6.segs, r6.calls, r6.gone⟩ : Tstep) fun y5 => some (y5) else lt (⟨(⟨a1.Conn.Id, a1.Conn.Guest, a1.Conn.Gport, a1.Conn.Remote, a1.Conn.Rport, a1.Conn.Opening, a1.Conn.Up, a1.Conn.Done, a1.Conn.Begin, a1.Conn.Una, a1.Conn.Next, a1.Conn.Want, a1.Conn.Win, a1.Conn.Mss, a1.Conn.ToHost, a1.Conn.ToGuest, a1.Conn.Early, a1.Conn.Fin, a1.Conn.Eof, a1.Conn.Shut, 0, a1.Conn.Wait, a1.Conn.Tries⟩ : TConn), a1.now, a1.segs, a1.calls, a1.gone⟩ : Tstep) fun y6 => lt (⟨(⟨y6.Conn.Id, y6.Conn.Guest, y6.Conn.Gport, y6.Conn.Remote, y6.Conn.Rport, y6.Conn.Opening, y6.Conn.Up, y6.Conn.Done, y6.Conn.Begin, y6.Conn.Una, y6.Conn.Next, y6.Conn.Want, y6.Conn.Win, y6.Conn.Mss, y6.Conn.ToHost, y6.Conn.ToGuest, y6.Conn.Early, y6.Conn.Fin, y6.Conn.Eof, y6.Conn.Shut, y6.Conn.At, y6.Conn.Wait, 0⟩ : TConn), y6.now, y6.segs, y6.calls, y6.gone⟩ : Tstep) fun y7 => some (y7))))))
set_option maxRecDepth 100000 in
set_option maxHeartbeats 4000000 in
theorem splice_step_again.spc (b1 : Nat) (a1 : Tstep) (r : Tstep) (H : splice_step_again.f a1 = some r) : Spc Try.prog 41 [pt b1] [] [Fld Kstep b1 0 a1] (fun (s : Unit) => .tuple #[]) (fun s => [Fld Kstep b1 0 r]) := by
 unfold splice_step_again.f at H
 refine Spc.go Try.func41 rfl (by kernel_rfl) rfl rfl all_nil fun F a w h => ?_
 refine Go.seq ?_
 replace h := h.wq [(0, pt b1)] [Fld Kstep b1 0 a1] [0]
 obtain ⟨r1, er1, H⟩ := bindE H
 refine Go.draw (E := [(0, pt b1)]) [] (L := [Fld Kstep b1 0 a1]) h rfl rfl 9 [cn (pt b1), cm [0] [] [] (.int .i64 r1) fun u => [Ent.pur (InR .i64 r1)], cn (pt b1), ce [2] (pt b1), ce [2, 3] (pt b1), ce [2, 3, 4] (.pointer (some ⟨b1, 15, none⟩)), cw [2, 3, 4, 5] [] [] fun u => [Val (Kd.sl (Kd.int .u8)) u a1.Conn.ToGuest], cm [2, 3, 4, 5, 6] [6] [] (.int .i64 (a1.Conn.ToGuest.length : Int)) fun u => [], ce [0, 1] (.int .i64 r1)] rfl t_mxo (by kernel_rfl) (by rfl) ?_ fun f1 _ _ h => ?_
 ·exact ox rfl (o_move rfl) (ox rfl (OpS.lend (Lp := [Pfl KstepR b1 0 a1]) (lent_cons (lent_fld (show RO Kstep KstepR from ro_iso (ro_pair (ro_per PConn) (ro_pair (ro_per Per_int) (ro_pair ro_osl (ro_pair ro_osl (ro_last (ro_per Per_bool))))))) 0 rfl) lent_nil) (o_call (splice_step_flown.spc b1 a1 r1 er1) rfl [0] [] (by decide) rfl rfl) (fun _ => (clo_cons cl_pur clo_nil))) (ox rfl (o_move rfl) (ox rfl (o_nilc rfl) (ox rfl (o_fa rfl t_f75_0 rfl rfl) (ox rfl (o_fa rfl t_f26_15 rfl rfl) (oy rfl (o_lfv (K := Kstep) (pr := fun x => x.Conn.ToGuest) (y := a1) 0 rfl rfl t_sstep_Conn_ToGuest rfl Per_sl t_y23) (ox rfl (o_ln rfl (rd_at 0 rfl) t_v23) (ox rfl (o_assign rfl) (obs_nil)))))))))
 replace h := h.wk (E' := [(0, pt b1), (11, .int .i64 (a1.Conn.ToGuest.length : Int)), (2, .int .i64 r1)]) (L' := [Ent.pur (InR .i64 r1), Val (Kd.sl (Kd.int .u8)) (f1 6) a1.Conn.ToGuest, Fld Kstep b1 0 a1]) (by kernel_rfl) [0, 1, 2] (by decide) (by kernel_rfl)
 have g1 := (len_at 1 rfl h.mem)
 have g2 := (Mem.pur 0 rfl h.mem)
 obtain ⟨y1, ey1, H⟩ := ltE H
 refine ga h (o_assign' rfl (congrArg (fun z => Value.int .i64 z) ey1)) rfl fun h => ?_
 refine GoR.done ?_
 refine Go.block ?_
 refine Go.seq ?_
 refine Go.reg ?_
 refine mv h rfl rfl fun h => ?_
 refine ga h (o_nilc rfl) rfl fun h => ?_
 refine ga h (o_fa rfl t_f75_0 rfl rfl) rfl fun h => ?_
 refine ga h (o_fa rfl t_f26_6 rfl rfl) rfl fun h => ?_
 refine ga h (o_lfx 2 rfl rfl t_sstep_Conn_Up rfl X_bool t_y4) rfl fun h => ?_
 refine ga h (o_not rfl) rfl fun h => ?_
 refine ga h (o_assign rfl) rfl fun h => ?_
 refine GoR.done ?_
 by_cases c1 : (!a1.Conn.Up) = true
 ·have H := ifT c1 H
  refine g_t h rfl c1 ?_
  refine Go.reg ?_
  refine mv h rfl rfl fun h => ?_
  obtain ⟨r2, er2, H⟩ := bindE H
  refine ga h (o_call (splice_step_syn.spc b1 a1 r2 er2) rfl [] [2] (by decide) rfl rfl) rfl fun h => ?_
  refine GoR.done ?_
  refine Go.inBlock ?_
  rw [← som H]
  exact g_fin (vs := []) h Try.func41 trivial ⟨(), rfl, (h.mem.pick [0] (by decide) rfl)⟩
 ·have H := ifF c1 H
  refine g_f h rfl c1 ?_
  refine Go.seq ?_
  obtain ⟨o1, H, G1⟩ := bindE H
  refine g_cut (fun G => ∀ j1 (a : Act) (w : World), o1 = j1 → St Try.f41.ntmps F [(0, pt b1), (2, .int .i64 r1), (3, .int .i64 y1), (29, .bool j1)] [Fld Kstep b1 0 a1] a w → G a w) 1 ?_ fun J1 => ?_
  ·intro j1 a w ho_ h
   rw [ho_] at G1
   have H := G1
   by_cases c3 : j1 = true
   ·have H := ifT c3 H
    refine g_t h rfl c3 ?_
    refine Go.reg ?_
    refine mv h rfl rfl fun h => ?_
    refine mv h rfl rfl fun h => ?_
    refine ga h (o_nilc rfl) rfl fun h => ?_
    refine ga h (o_fa rfl t_f75_0 rfl rfl) rfl fun h => ?_
    refine ga h (o_fa rfl t_f26_9 rfl rfl) rfl fun h => ?_
    have g3 := (in2 (fd_sub t_sstep_Conn_Una 0 rfl h.mem))
    refine ga h (o_lfx 0 rfl rfl t_sstep_Conn_Una rfl X_int t_y22) rfl fun h => ?_
    replace h := h.mm fun m => (pv_nil (K := (Kd.int .u8))).ent m
    obtain ⟨r3, er3, H⟩ := bindE H
    refine ga h (o_call (splice_step_say.spc b1 a1 a1.Conn.Una g3 1 (show InR .i64 1 by decide) (.slice none 0 0) [] r3 er3) rfl [0] [1] (by decide) rfl rfl) rfl fun h => ?_
    refine GoR.done ?_
    refine Go.inBlock ?_
    rw [← som H]
    exact g_fin (vs := []) h Try.func41 trivial ⟨(), rfl, (h.mem.pick [0] (by decide) rfl)⟩
   ·have H := ifF c3 H
    refine g_f h rfl c3 ?_
    refine Go.seq ?_
    refine Go.reg ?_
    refine mv h rfl rfl fun h => ?_
    refine ga h (o_bin rfl rfl rfl) rfl fun h => ?_
    obtain ⟨y3, ey3, H⟩ := ltE H
    refine ga h (o_assign' rfl (congrArg Value.bool ey3)) rfl fun h => ?_
    refine GoR.done ?_
    by_cases c4 : y3 = true
    ·have H := ifT c4 H
     refine g_t h rfl c4 ?_
     replace h := h.wq [(0, pt b1), (2, .int .i64 r1), (3, .int .i64 y1)] [Fld Kstep b1 0 a1] [0]
     obtain ⟨r4, er4, H⟩ := bindE H
     obtain ⟨x1, ex1, H⟩ := bindE H
     refine Go.draw (E := [(0, pt b1), (2, .int .i64 r1), (3, .int .i64 y1)]) [] (L := [Fld Kstep b1 0 a1]) h rfl rfl 21 [cn (pt b1), cn (pt b1), ce [1] (pt b1), ce [1, 2] (pt b1), ce [1, 2, 3] (.pointer (some ⟨b1, 9, none⟩)), cm [1, 2, 3, 4] [] [] (.int .u32 a1.Conn.Una) fun u => [Ent.pur (InR .u32 a1.Conn.Una)], cn (pt b1), ce [6] (pt b1), ce [6, 7] (pt b1), ce [6, 7, 8] (.pointer (some ⟨b1, 15, none⟩)), cw [6, 7, 8, 9] [] [] fun u => [Val (Kd.sl (Kd.int .u8)) u a1.Conn.ToGuest], cn (.int .i64 r1), cn (.int .i64 y1), cn (pt b1), ce [13] (pt b1), ce [13, 14] (pt b1), ce [13, 14, 15] (.pointer (some ⟨b1, 13, none⟩)), cm [13, 14, 15, 16] [] [] (.int .i64 a1.Conn.Mss) fun u => [Ent.pur (InR .i64 a1.Conn.Mss)], cw [11, 12, 13, 14, 15, 16, 17] [17] [] fun u => [Val (Kd.sl (Kd.int .i64)) u ([r1, y1, a1.Conn.Mss] : List Int)], cm [11, 12, 13, 14, 15, 16, 17, 18] [18] [] (.int .i64 r4) fun u => [Ent.pur (InR .i64 r4)], cw [6, 7, 8, 9, 10, 11, 12, 13, 14, 15, 16, 17, 18, 19] [10] [] fun u => [Val (Kd.sl (Kd.int .u8)) u x1]] rfl t_mxo (by kernel_rfl) (by rfl) ?_ fun f3 _ _ h => ?_
     ·exact ox rfl (o_move rfl) (ox rfl (o_move rfl) (ox rfl (o_nilc rfl) (ox rfl (o_fa rfl t_f75_0 rfl rfl) (ox rfl (o_fa rfl t_f26_9 rfl rfl) (ox rfl (OpS.pur (fun F w m_ => (in2 (fd_sub t_sstep_Conn_Una 0 rfl m_))) (o_lfx (K := Kstep) (pr := fun x => x.Conn.Una) (y := a1) 0 rfl rfl t_sstep_Conn_Una rfl X_int t_y22)) (ox rfl (o_move rfl) (ox rfl (o_nilc rfl) (ox rfl (o_fa rfl t_f75_0 rfl rfl) (ox rfl (o_fa rfl t_f26_15 rfl rfl) (oy rfl (o_lfv (K := Kstep) (pr := fun x => x.Conn.ToGuest) (y := a1) 0 rfl rfl t_sstep_Conn_ToGuest rfl Per_sl t_y23) (ox rfl (o_move rfl) (ox rfl (o_move rfl) (ox rfl (o_move rfl) (ox rfl (o_nilc rfl) (ox rfl (o_fa rfl t_f75_0 rfl rfl) (ox rfl (o_fa rfl t_f26_13 rfl rfl) (ox rfl (OpS.pur (fun F w m_ => (in2 (fd_sub t_sstep_Conn_Mss 0 rfl m_))) (o_lfx (K := Kstep) (pr := fun x => x.Conn.Mss) (y := a1) 0 rfl rfl t_sstep_Conn_Mss rfl X_int t_y3)) (oy rfl (OpS.fact (p := InR .i64 a1.Conn.Mss) (fun F w m_ => (Mem.pur 0 rfl m_)) fun g6 => (OpS.fact (p := InR .i64 a1.Conn.Mss) (fun F w m_ => (Mem.pur 0 rfl m_)) fun g7 => (OpS.mm (o_bs (K := (Kd.int .i64)) (vs := [.int .i64 r1, .int .i64 y1, .int .i64 a1.Conn.Mss]) (xs := ([r1, y1, a1.Conn.Mss] : List Int)) rfl rfl (pvs_cons (pv_int g2) (pvs_cons (pv_int (ey1 ▸ g1)) (pvs_cons (pv_int g7) pvs_nil))) t_a95 (by decide) (by decide)) (fun _ _ _ m => m.freeze 0 rfl)))) (oc rfl rfl rfl (fun f3 => (o_call (splice_least_int.spc (f3 18) ([r1, y1, a1.Conn.Mss] : List Int) r4 er4) rfl [0] [] (by decide) rfl rfl)) (oy rfl (o_cuth rfl (pv_at Per_sl 0 rfl) rfl ex1 t_v23) (obs_nil)))))))))))))))))))))
     replace h := h.wk (E' := [(46, pt b1), (51, .int .u32 a1.Conn.Una), (66, (f3 20))]) (L' := [Ent.pur (InR .u32 a1.Conn.Una), Val (Kd.sl (Kd.int .u8)) (f3 10) a1.Conn.ToGuest, Ent.pur (InR .i64 a1.Conn.Mss), Val (Kd.sl (Kd.int .i64)) (f3 18) ([r1, y1, a1.Conn.Mss] : List Int), Ent.pur (InR .i64 r4), Val (Kd.sl (Kd.int .u8)) (f3 20) x1, Fld Kstep b1 0 a1]) (by kernel_rfl) [0, 1, 2, 3, 4, 5, 6] (by decide) (by kernel_rfl)
     have g8 := (Mem.pur 0 rfl h.mem)
     obtain ⟨r5, er5, H⟩ := bindE H
     refine ga h (o_call (splice_step_say.spc b1 a1 a1.Conn.Una g8 8 (show InR .i64 8 by decide) (f3 20) x1 r5 er5) rfl [5] [6] (by decide) rfl rfl) rfl fun h => ?_
     refine GoR.done ?_
     refine Go.inBlock ?_
     rw [← som H]
     exact g_fin (vs := []) h Try.func41 trivial ⟨(), rfl, (h.mem.pick [0] (by decide) rfl)⟩
    ·have H := ifF c4 H
     refine g_f h rfl c4 ?_
     refine Go.seq ?_
     refine Go.reg ?_
     refine mv h rfl rfl fun h => ?_
     refine ga h (o_bin rfl rfl rfl) rfl fun h => ?_
     obtain ⟨y4, ey4, H⟩ := ltE H
     refine ga h (o_assign' rfl (congrArg Value.bool ey4)) rfl fun h => ?_
     refine GoR.done ?_
     by_cases c5 : y4 = true
     ·have H := ifT c5 H
      refine g_t h rfl c5 ?_
      refine Go.seq ?_
      replace h := h.wq [(0, pt b1)] [Fld Kstep b1 0 a1] [0]
      obtain ⟨x2, ex2, H⟩ := bindE H
      refine Go.draw (E := [(0, pt b1)]) [] (L := [Fld Kstep b1 0 a1]) h rfl rfl 12 [cn (pt b1), cn (pt b1), ce [1] (pt b1), ce [1, 2] (pt b1), ce [1, 2, 3] (.pointer (some ⟨b1, 9, none⟩)), cm [1, 2, 3, 4] [] [] (.int .u32 a1.Conn.Una) fun u => [Ent.pur (InR .u32 a1.Conn.Una)], cn (pt b1), ce [6] (pt b1), ce [6, 7] (pt b1), ce [6, 7, 8] (.pointer (some ⟨b1, 15, none⟩)), cw [6, 7, 8, 9] [] [] fun u => [Val (Kd.sl (Kd.int .u8)) u a1.Conn.ToGuest], cw [6, 7, 8, 9, 10] [10] [] fun u => [Val (Kd.sl (Kd.int .u8)) u x2]] rfl t_mxo (by kernel_rfl) (by rfl) ?_ fun f4 _ _ h => ?_
      ·exact ox rfl (o_move rfl) (ox rfl (o_move rfl) (ox rfl (o_nilc rfl) (ox rfl (o_fa rfl t_f75_0 rfl rfl) (ox rfl (o_fa rfl t_f26_9 rfl rfl) (ox rfl (OpS.pur (fun F w m_ => (in2 (fd_sub t_sstep_Conn_Una 0 rfl m_))) (o_lfx (K := Kstep) (pr := fun x => x.Conn.Una) (y := a1) 0 rfl rfl t_sstep_Conn_Una rfl X_int t_y22)) (ox rfl (o_move rfl) (ox rfl (o_nilc rfl) (ox rfl (o_fa rfl t_f75_0 rfl rfl) (ox rfl (o_fa rfl t_f26_15 rfl rfl) (oy rfl (o_lfv (K := Kstep) (pr := fun x => x.Conn.ToGuest) (y := a1) 0 rfl rfl t_sstep_Conn_ToGuest rfl Per_sl t_y23) (oy rfl (o_cuth rfl (pv_at Per_sl 0 rfl) rfl ex2 t_v23) (obs_nil))))))))))))
      replace h := h.wk (E' := [(0, pt b1), (71, pt b1), (76, .int .u32 a1.Conn.Una), (82, (f4 11))]) (L' := [Ent.pur (InR .u32 a1.Conn.Una), Val (Kd.sl (Kd.int .u8)) (f4 10) a1.Conn.ToGuest, Val (Kd.sl (Kd.int .u8)) (f4 11) x2, Fld Kstep b1 0 a1]) (by kernel_rfl) [0, 1, 2, 3] (by decide) (by kernel_rfl)
      have g9 := (Mem.pur 0 rfl h.mem)
      obtain ⟨r6, er6, H⟩ := bindE H
      refine ga h (o_call (splice_step_say.spc b1 a1 a1.Conn.Una g9 8 (show InR .i64 8 by decide) (f4 11) x2 r6 er6) rfl [2] [3] (by decide) rfl rfl) rfl fun h => ?_
      refine GoR.done ?_
      refine Go.reg ?_
      refine mv h rfl rfl fun h => ?_
      refine ga h (o_nilc rfl) rfl fun h => ?_
      refine ga h (o_fa rfl t_f75_0 rfl rfl) rfl fun h => ?_
      refine ga h (o_fa rfl t_f26_10 rfl rfl) rfl fun h => ?_
      have g10 := (in2 (fd_sub t_sstep_Conn_Next 0 rfl h.mem))
      refine ga h (o_lfx 0 rfl rfl t_sstep_Conn_Next rfl X_int t_y22) rfl fun h => ?_
      refine ga h (o_bin rfl rfl rfl) rfl fun h => ?_
      refine ga h (o_nilc rfl) rfl fun h => ?_
      refine ga h (o_fa rfl t_f75_0 rfl rfl) rfl fun h => ?_
      refine ga h (o_fa rfl t_f26_10 rfl rfl) rfl fun h => ?_
      obtain ⟨y5, ey5, H⟩ := ltE H
      refine gs0 h (o_stp (x0 := r6) (y := IntKind.u32.wrap (r6.Conn.Next + 1)) 0 t_ustep_10_1 rfl rfl rfl rfl (pv_int (wrap_in _ _)) t_w22) fun _ _ _ h => ?_
      rw [ey5] at h
      refine GoR.done ?_
      refine Go.inBlock ?_
      rw [← som H]
      exact g_fin (vs := []) h Try.func41 trivial ⟨(), rfl, (h.mem.pick [0] (by decide) rfl)⟩
     ·have H := ifF c5 H
      refine g_f h rfl c5 ?_
      refine Go.reg ?_
      refine mv h rfl rfl fun h => ?_
      refine mv h rfl rfl fun h => ?_
      refine ga h (o_nilc rfl) rfl fun h => ?_
      refine ga h (o_fa rfl t_f75_0 rfl rfl) rfl fun h => ?_
      refine ga h (o_fa rfl t_f26_20 rfl rfl) rfl fun h => ?_
      obtain ⟨y6, ey6, H⟩ := ltE H
      refine gs0 h (o_stp (x0 := a1) (y := 0) 0 t_ustep_20_1 rfl rfl rfl rfl (pv_int (show InR .i64 0 by decide)) t_w3) fun _ _ _ h => ?_
      rw [ey6] at h
      refine ga h (o_nilc rfl) rfl fun h => ?_
      refine ga h (o_fa rfl t_f75_0 rfl rfl) rfl fun h => ?_
      refine ga h (o_fa rfl t_f26_22 rfl rfl) rfl fun h => ?_
      obtain ⟨y7, ey7, H⟩ := ltE H
      refine gs0 h (o_stp (x0 := y6) (y := 0) 0 t_ustep_22_1 rfl rfl rfl rfl (pv_int (show InR .i64 0 by decide)) t_w3) fun _ _ _ h => ?_
      rw [ey7] at h
      refine GoR.done ?_
      refine Go.inBlock ?_
      rw [← som H]
      exact g_fin (vs := []) h Try.func41 trivial ⟨(), rfl, (h.mem.pick [0] (by decide) rfl)⟩
  refine Go.reg ?_
  refine mv h rfl rfl fun h => ?_
  refine ga h (o_bin rfl rfl rfl) rfl fun h => ?_
  refine mv h rfl rfl fun h => ?_
  by_cases c2 : decide (0 < r1) = true
  ·have H := ifT c2 H
   refine gg h rfl rfl c2 (o_move rfl) rfl fun _ _ _ h => ?_
   refine gg h rfl rfl c2 (o_bin rfl rfl rfl) rfl fun _ _ _ h => ?_
   refine ga h (o_pickT rfl rfl c2) rfl fun h => ?_
   obtain ⟨y2, ey2, H⟩ := ltE H
   refine ga h (o_assign' rfl (congrArg Value.bool ey2)) rfl fun h => ?_
   refine GoR.done ?_
   exact J1 y2 _ _ (som H).symm (h.wr [2])
  ·have H := ifF c2 H
   refine gk h rfl rfl (nb_f c2) rfl fun _ h => ?_
   refine gk h rfl rfl (nb_f c2) rfl fun _ h => ?_
   refine ga h (o_pickF rfl rfl c2) rfl fun h => ?_
   refine ga h (o_assign rfl) rfl fun h => ?_
   refine GoR.done ?_
   exact J1 false _ _ (som H).symm (h.wr [2])
def splice_step_again.g (k_ : Nat) (a1 : Tstep) : Option (Tstep) :=
  (splice_step_flown.g k_ a1).bind fun r1 => lt (a1.Conn.ToGuest.length : Int) fun y1 => (if (!a1.Conn.Up) = true then (splice_step_syn.g k_ a1).bind fun r2 => some (r2) else ((if decide (0 < r1) = true then lt (decide (y1 = 0)) fun y2 => some (y2) else some (false))).bind (fun j1 => (if j1 = true then (splice_step_say.g k_ a1 a1.Conn.Una 1 []).bind fun r3 => some (r3) else lt (decide (0 < r1)) fun y3 => (if y3 = true then (splice_least_int.g k_ ([r1, y1, a1.Conn.Mss] : List Int)).bind fun r4 => (cut a1.Conn.ToGuest 0 r4).bind fun x1 => (splice_step_say.g k_ a1 a1.Conn.Una 8 x1).bind fun r5 => some (r5) else lt (decide (0 < y1)) fun y4 => (if y4 = true then (cut a1.Conn.ToGuest 0 1).bind fun x2 => (splice_step_say.g k_ a1 a1.Conn.Una 8 x2).bind fun r6 => lt (⟨(⟨r6.Conn.Id, r6.Conn.Guest, r6.Conn.Gport, r6.Conn.Remote, r6.Conn.Rport, r6.Conn.Opening, r6.Conn.Up, r6.Conn.Done, r6.Conn.Begin, r6.Conn.Una, IntKind.u32.wrap (r6.Conn.Next + 1), r6.Conn.Want, r6.Conn.Win, r6.Conn.Mss, r6.Conn.ToHost, r6.Conn.ToGuest, r6.Conn.Early, r6.Conn.Fin, r6.Conn.Eof, r6.Conn.Shut, r6.Conn.At, r6.Conn.Wait, r6.Conn.Tries⟩ : TConn), r6.now, r6.segs, r6.calls, r6.gone⟩ : Tstep) fun y5 => some (y5) else lt (⟨(⟨a1.Conn.Id, a1.Conn.Guest, a1.Conn.Gport, a1.Conn.Remote, a1.Conn.Rport, a1.Conn.Opening, a1.Conn.Up, a1.Conn.Done, a1.Conn.Begin, a1.Conn.Una, a1.Conn.Next, a1.Conn.Want, a1.Conn.Win, a1.Conn.Mss, a1.Conn.ToHost, a1.Conn.ToGuest, a1.Conn.Early, a1.Conn.Fin, a1.Conn.Eof, a1.Conn.Shut, 0, a1.Conn.Wait, a1.Conn.Tries⟩ : TConn), a1.now, a1.segs, a1.calls, a1.gone⟩ : Tstep) fun y6 => lt (⟨(⟨y6.Conn.Id, y6.Conn.Guest, y6.Conn.Gport, y6.Conn.Remote, y6.Conn.Rport, y6.Conn.Opening, y6.Conn.Up, y6.Conn.Done, y6.Conn.Begin, y6.Conn.Una, y6.Conn.Next, y6.Conn.Want, y6.Conn.Win, y6.Conn.Mss, y6.Conn.ToHost, y6.Conn.ToGuest, y6.Conn.Early, y6.Conn.Fin, y6.Conn.Eof, y6.Conn.Shut, y6.Conn.At, y6.Conn.Wait, 0⟩ : TConn), y6.now, y6.segs, y6.calls, y6.gone⟩ : Tstep) fun y7 => some (y7))))))
theorem splice_step_again.le (k_ : Nat) (a1 : Tstep) : Le (splice_step_again.g k_ a1) (splice_step_again.f a1) := by
 unfold splice_step_again.g splice_step_again.f
 repeat' (first | with_reducible refine le_loop fun _ => ?_ | with_reducible refine le_bind ?_ fun _ => ?_ | with_reducible refine le_ite ?_ ?_ | with_reducible refine le_lt fun _ => ?_ | with_reducible refine le_elim (fun _ => ?_) (fun _ => ?_) _ | with_reducible apply splice_least_int.le | with_reducible apply splice_step_flown.le | with_reducible apply splice_step_say.le | with_reducible apply splice_step_syn.le | with_reducible exact le_refl _)
/-! drawbridge/splice.Tick -/
noncomputable def splice_Tick.f (a1 : TConn) (a2 : Int) : Option (TConn × (List TSeg) × (List TCall) × Bool) :=
  (splice_begin.f a1 a2).bind fun r1 => (r1.1).bind fun y1 => ((if (!r1.2) = true then some (true) else (if decide (y1.Conn.At = 0) = true then some (true) else some (decide (a2 < y1.Conn.At))))).bind (fun j1 => (if j1 = true then some ((a1, [], [], false)) else (if decide (y1.Conn.Tries = 6) = true then (splice_step_say.f y1 y1.Conn.Next 4 []).bind fun r2 => (splice_step_call.f r2 4 []).bind fun r3 => some ((r3.Conn, r3.segs, r3.calls, true)) else lt (⟨(⟨y1.Conn.Id, y1.Conn.Guest, y1.Conn.Gport, y1.Conn.Remote, y1.Conn.Rport, y1.Conn.Opening, y1.Conn.Up, y1.Conn.Done, y1.Conn.Begin, y1.Conn.Una, y1.Conn.Next, y1.Conn.Want, y1.Conn.Win, y1.Conn.Mss, y1.Conn.ToHost, y1.Conn.ToGuest, y1.Conn.Early, y1.Conn.Fin, y1.Conn.Eof, y1.Conn.Shut, y1.Conn.At, y1.Conn.Wait, IntKind.i64.wrap (y1.Conn.Tries + 1)⟩ : TConn), y1.now, y1.segs, y1.calls, y1.gone⟩ : Tstep) fun y2 => lt (⟨(⟨y2.Conn.Id, y2.Conn.Guest, y2.Conn.Gport, y2.Conn.Remote, y2.Conn.Rport, y2.Conn.Opening, y2.Conn.Up, y2.Conn.Done, y2.Conn.Begin, y2.Conn.Una, y2.Conn.Next, y2.Conn.Want, y2.Conn.Win, y2.Conn.Mss, y2.Conn.ToHost, y2.Conn.ToGuest, y2.Conn.Early, y2.Conn.Fin, y2.Conn.Eof, y2.Conn.Shut, y2.Conn.At, min (IntKind.i64.wrap (2 * y2.Conn.Wait)) 32, y2.Conn.Tries⟩ : TConn), y2.now, y2.segs, y2.calls, y2.gone⟩ : Tstep) fun y3 => lt (⟨(⟨y3.Conn.Id, y3.Conn.Guest, y3.Conn.Gport, y3.Conn.Remote, y3.Conn.Rport, y3.Conn.Opening, y3.Conn.Up, y3.Conn.Done, y3.Conn.Begin, y3.Conn.Una, y3.Conn.Next, y3.Conn.Want, y3.Conn.Win, y3.Conn.Mss, y3.Conn.ToHost, y3.Conn.ToGuest, y3.Conn.Early, y3.Conn.Fin, y3.Conn.Eof, y3.Conn.Shut, IntKind.i64.wrap (a2 + y3.Conn.Wait), y3.Conn.Wait, y3.Conn.Tries⟩ : TConn), y3.now, y3.segs, y3.calls, y3.gone⟩ : Tstep) fun y4 => (splice_step_again.f y4).bind fun r4 => some ((r4.Conn, r4.segs, r4.calls, false)))))
set_option maxRecDepth 100000 in
set_option maxHeartbeats 4000000 in
theorem splice_Tick.spc (v1 : Value) (a1 : TConn) (a2 : Int) (ha2 : InR .i64 a2) (r : TConn × (List TSeg) × (List TCall) × Bool) (H : splice_Tick.f a1 a2 = some r) : Spc Try.prog 26 [v1, .int .i64 a2] [Val KConn v1 a1] [] (fun (s : Value × Value × Value) => .tuple #[s.1, s.2.1, s.2.2, .bool r.2.2.2]) (fun s => [Val KConn s.1 r.1, Val (Kd.osl KSeg) s.2.1 r.2.1, Val (Kd.osl KCall) s.2.2 r.2.2.1]) := by
 unfold splice_Tick.f at H
 refine Spc.go Try.func26 rfl (by kernel_rfl) rfl rfl (all_cons (Val.per PConn) all_nil) fun F a w h => ?_
 refine Go.seq ?_
 refine Go.reg ?_
 refine gs h (o_box (K := KConn) rfl (pv_at PConn 0 rfl)) rfl fun b1 _ _ h => ?_
 refine gs h (o_alloc (K := KConn) (z := (.agg #[.int .i64 0, .int .u32 0, .int .i64 0, .int .u32 0, .int .i64 0, .bool false, .bool false, .bool false, .int .u32 0, .int .u32 0, .int .u32 0, .int .u32 0, .int .i64 0, .int .i64 0, .slice none 0 0, .slice none 0 0, .slice none 0 0, .bool false, .bool false, .bool false, .int .i64 0, .int .i64 0, .int .i64 0])) rfl ZConn) rfl fun b2 _ _ h => ?_
 iterate 3 (refine ga h (o_assign rfl) rfl fun h => ?_)
 refine GoR.done ?_
 refine Go.seq ?_
 refine Go.reg ?_
 refine gs h (o_ldv 1 rfl rfl PConn t_y26) rfl fun v2 _ _ h => ?_
 refine mv h rfl rfl fun h => ?_
 obtain ⟨r1, er1, H⟩ := bindE H
 refine gs h (o_call (splice_begin.spc v2 a1 a2 ha2 r1 er1) rfl [0] [] (by decide) rfl rfl) rfl fun v3 _ _ h => ?_
 refine mv h rfl rfl fun h => ?_
 refine ga h (o_extract rfl rfl) rfl fun h => ?_
 refine ga h (o_extract rfl rfl) rfl fun h => ?_
 refine ga h (o_assign rfl) rfl fun h => ?_
 refine ga h (o_assign rfl) rfl fun h => ?_
 refine GoR.done ?_
 refine Go.seq ?_
 refine Go.seq ?_
 obtain ⟨y1, ey1, H⟩ := bindE H
 obtain ⟨b3, eb3, h⟩ := h.unb 0 rfl ey1
 subst eb3
 obtain ⟨o1, H, G1⟩ := bindE H
 refine g_cut (fun G => ∀ j1 (a : Act) (w : World), o1 = j1 → St Try.f26.ntmps F [(1, .int .i64 a2), (2, pt b1), (4, pt b2), (8, pt b3), (34, .bool j1)] [Fld Kstep b3 0 y1, Fld KConn b2 0 zConn, Fld KConn b1 0 a1] a w → G a w) 1 ?_ fun J1 => ?_
 ·intro j1 a w ho_ h
  rw [ho_] at G1
  have H := G1
  by_cases c3 : j1 = true
  ·have H := ifT c3 H
   refine g_t h rfl c3 ?_
   refine Go.seq ?_
   refine Go.reg ?_
   refine gs h (o_ldv 2 rfl rfl PConn t_y26) rfl fun v4 _ _ h => ?_
   refine gs0 h (o_st 2 rfl rfl rfl (pv_at PConn 0 rfl) rfl t_w26) fun _ _ _ h => ?_
   iterate 3 (refine ga h (o_assign rfl) rfl fun h => ?_)
   refine GoR.done ?_
   obtain ⟨v5, h, u1⟩ := h.peek 2 rfl PConn t_y26
   replace h := h.mm fun m => m.nilo KSeg
   replace h := h.mm fun m => m.nilo KCall
   rw [← som H]
   exact g_ret (vs := [v5, .slice none 0 0, .slice none 0 0, .bool false]) h Try.func26 ⟨⟨_, rfl, u1⟩, ⟨rfl, ⟨rfl, ⟨rfl, trivial⟩⟩⟩⟩ ⟨(v5, .slice none 0 0, .slice none 0 0), rfl, (h.mem.pick [2, 1, 0] (by decide) rfl)⟩
  ·have H := ifF c3 H
   refine g_f h rfl c3 ?_
   refine Go.skip ?_
   refine Go.seq ?_
   refine Go.seq ?_
   refine Go.reg ?_
   refine mv h rfl rfl fun h => ?_
   refine ga h (o_nilc rfl) rfl fun h => ?_
   refine ga h (o_fa rfl t_f75_0 rfl rfl) rfl fun h => ?_
   refine ga h (o_fa rfl t_f26_22 rfl rfl) rfl fun h => ?_
   have g3 := (in2 (fd_sub t_sstep_Conn_Tries 0 rfl h.mem))
   refine ga h (o_lfx 0 rfl rfl t_sstep_Conn_Tries rfl X_int t_y3) rfl fun h => ?_
   refine ga h (o_bin rfl rfl rfl) rfl fun h => ?_
   refine GoR.done ?_
   by_cases c4 : decide (y1.Conn.Tries = 6) = true
   ·have H := ifT c4 H
    refine g_t h rfl c4 ?_
    refine Go.seq ?_
    refine Go.reg ?_
    refine mv h rfl rfl fun h => ?_
    refine mv h rfl rfl fun h => ?_
    refine ga h (o_nilc rfl) rfl fun h => ?_
    refine ga h (o_fa rfl t_f75_0 rfl rfl) rfl fun h => ?_
    refine ga h (o_fa rfl t_f26_10 rfl rfl) rfl fun h => ?_
    have g4 := (in2 (fd_sub t_sstep_Conn_Next 0 rfl h.mem))
    refine ga h (o_lfx 0 rfl rfl t_sstep_Conn_Next rfl X_int t_y22) rfl fun h => ?_
    replace h := h.mm fun m => (pv_nil (K := (Kd.int .u8))).ent m
    obtain ⟨r2, er2, H⟩ := bindE H
    refine ga h (o_call (splice_step_say.spc b3 y1 y1.Conn.Next g4 4 (show InR .i64 4 by decide) (.slice none 0 0) [] r2 er2) rfl [0] [1] (by decide) rfl rfl) rfl fun h => ?_
    refine GoR.done ?_
    refine Go.seq ?_
    refine Go.reg ?_
    refine mv h rfl rfl fun h => ?_
    replace h := h.mm fun m => (pv_nil (K := (Kd.int .u8))).ent m
    obtain ⟨r3, er3, H⟩ := bindE H
    refine ga h (o_call (splice_step_call.spc b3 r2 4 (show InR .i64 4 by decide) (.slice none 0 0) [] r3 er3) rfl [0] [1] (by decide) rfl rfl) rfl fun h => ?_
    refine GoR.done ?_
    refine Go.seq ?_
    replace h := h.mm fun m => (m.take (i := 0) rfl).opn (cstep _ _)
    obtain ⟨v7, h⟩ := h.unp 2 rfl
    obtain ⟨v8, h⟩ := h.unp 4 rfl
    replace h := h.wq [(4, pt b2), (8, pt b3)] [Fld KConn b2 0 zConn, Fld (Kd.eq v8) b3 25 (), Fld (Kd.eq v7) b3 24 (), Fld KConn b3 0 r3.Conn, Fld (Kd.int .i64) b3 23 r3.now, Val (Kd.osl KSeg) v7 r3.segs, Val (Kd.osl KCall) v8 r3.calls, Fld Kd.bool b3 26 r3.gone, Val (Kd.sl (Kd.int .u8)) (.slice none 0 0) [], Val (Kd.sl (Kd.int .u8)) (.slice none 0 0) [], Fld KConn b1 0 a1] [12, 0, 1, 2, 3, 4, 5, 6, 8, 10, 13]
    refine Go.draw (E := [(4, pt b2), (8, pt b3)]) [] (L := [Fld (Kd.eq v8) b3 25 (), Fld (Kd.eq v7) b3 24 (), Fld KConn b3 0 r3.Conn, Fld (Kd.int .i64) b3 23 r3.now, Val (Kd.osl KSeg) v7 r3.segs, Val (Kd.osl KCall) v8 r3.calls, Fld Kd.bool b3 26 r3.gone, Val (Kd.sl (Kd.int .u8)) (.slice none 0 0) [], Val (Kd.sl (Kd.int .u8)) (.slice none 0 0) [], Fld KConn b1 0 a1]) h rfl rfl 14 [cn (pt b3), ce [0] (pt b3), ce [0, 1] (pt b3), cw [0, 1, 2] [] [] fun u => [Val KConn u r3.Conn], cn (pt b3), ce [4] (pt b3), ce [4, 5] (.pointer (some ⟨b3, 24, none⟩)), ce [4, 5, 6] (v7), cn (pt b3), ce [8] (pt b3), ce [8, 9] (.pointer (some ⟨b3, 25, none⟩)), ce [8, 9, 10] (v8), cm [0, 1, 2, 3] [14, 3] [14] (undef) fun u => [Fld KConn b2 0 r3.Conn], ce [0, 1, 2, 3, 4, 5, 6, 7, 12] (v7), cm [] [] [] undef fun u => [Fld KConn b2 0 zConn]] rfl t_mxo (by kernel_rfl) (by rfl) ?_ fun f2 _ _ h => ?_
    ·exact ox rfl (o_move rfl) (ox rfl (o_nilc rfl) (ox rfl (o_fa rfl t_f75_0 rfl rfl) (oy rfl (o_ldv 2 rfl rfl PConn t_y26) (ox rfl (o_move rfl) (ox rfl (o_nilc rfl) (ox rfl (o_fa rfl t_f75_2 rfl rfl) (ox rfl (o_ldx 1 rfl rfl X_eq t_y31) (ox rfl (o_move rfl) (ox rfl (o_nilc rfl) (ox rfl (o_fa rfl t_f75_3 rfl rfl) (ox rfl (o_ldx 0 rfl rfl X_eq t_y32) (ox rfl (o_st 0 rfl rfl rfl (pv_at PConn 1 rfl) rfl t_w26) (ox rfl (o_assign rfl) (obs_nil))))))))))))))
    replace h := h.wk (E' := [(4, pt b2), (62, v8), (5, v7)]) (L' := [Val KConn (f2 3) r3.Conn, Fld KConn b2 0 r3.Conn, Fld (Kd.eq v8) b3 25 (), Fld (Kd.eq v7) b3 24 (), Fld KConn b3 0 r3.Conn, Fld (Kd.int .i64) b3 23 r3.now, Val (Kd.osl KSeg) v7 r3.segs, Val (Kd.osl KCall) v8 r3.calls, Fld Kd.bool b3 26 r3.gone, Val (Kd.sl (Kd.int .u8)) (.slice none 0 0) [], Val (Kd.sl (Kd.int .u8)) (.slice none 0 0) [], Fld KConn b1 0 a1]) (by kernel_rfl) [0, 1, 2, 3, 4, 5, 6, 7, 8, 9, 10, 11] (by decide) (by kernel_rfl)
    refine ga h (o_assign rfl) rfl fun h => ?_
    refine ga h (o_assign rfl) rfl fun h => ?_
    refine GoR.done ?_
    obtain ⟨v10, h, u2⟩ := h.peek 1 rfl PConn t_y26
    rw [← som H]
    exact g_ret (vs := [v10, v7, v8, .bool true]) h Try.func26 ⟨⟨_, rfl, u2⟩, ⟨rfl, ⟨rfl, ⟨rfl, trivial⟩⟩⟩⟩ ⟨(v10, v7, v8), rfl, (h.mem.pick [0, 7, 8] (by decide) rfl)⟩
   ·have H := ifF c4 H
    refine g_f h rfl c4 ?_
    refine Go.skip ?_
    refine Go.seq ?_
    refine Go.reg ?_
    refine mv h rfl rfl fun h => ?_
    refine ga h (o_nilc rfl) rfl fun h => ?_
    refine ga h (o_fa rfl t_f75_0 rfl rfl) rfl fun h => ?_
    refine ga h (o_fa rfl t_f26_22 rfl rfl) rfl fun h => ?_
    have g5 := (in2 (fd_sub t_sstep_Conn_Tries 0 rfl h.mem))
    refine ga h (o_lfx 0 rfl rfl t_sstep_Conn_Tries rfl X_int t_y3) rfl fun h => ?_
    refine ga h (o_bin rfl rfl rfl) rfl fun h => ?_
    refine ga h (o_nilc rfl) rfl fun h => ?_
    refine ga h (o_fa rfl t_f75_0 rfl rfl) rfl fun h => ?_
    refine ga h (o_fa rfl t_f26_22 rfl rfl) rfl fun h => ?_
    obtain ⟨y2, ey2, H⟩ := ltE H
    refine gs0 h (o_stp (x0 := y1) (y := IntKind.i64.wrap (y1.Conn.Tries + 1)) 0 t_ustep_22_1 rfl rfl rfl rfl (pv_int (wrap_in _ _)) t_w3) fun _ _ _ h => ?_
    rw [ey2] at h
    refine GoR.done ?_
    refine Go.seq ?_
    refine Go.reg ?_
    refine mv h rfl rfl fun h => ?_
    refine mv h rfl rfl fun h => ?_
    refine ga h (o_nilc rfl) rfl fun h => ?_
    refine ga h (o_fa rfl t_f75_0 rfl rfl) rfl fun h => ?_
    refine ga h (o_fa rfl t_f26_21 rfl rfl) rfl fun h => ?_
    have g6 := (in2 (fd_sub t_sstep_Conn_Wait 0 rfl h.mem))
    refine ga h (o_lfx 0 rfl rfl t_sstep_Conn_Wait rfl X_int t_y3) rfl fun h => ?_
    refine ga h (o_bin rfl rfl rfl) rfl fun h => ?_
    refine ga h (o_min rfl rfl) rfl fun h => ?_
    refine ga h (o_nilc rfl) rfl fun h => ?_
    refine ga h (o_fa rfl t_f75_0 rfl rfl) rfl fun h => ?_
    refine ga h (o_fa rfl t_f26_21 rfl rfl) rfl fun h => ?_
    obtain ⟨y3, ey3, H⟩ := ltE H
    refine gs0 h (o_stp (x0 := y2) (y := min (IntKind.i64.wrap (2 * y2.Conn.Wait)) 32) 0 t_ustep_21_1 rfl rfl rfl rfl (pv_int (inr_min (wrap_in _ _) (show InR .i64 32 by decide))) t_w3) fun _ _ _ h => ?_
    rw [ey3] at h
    refine GoR.done ?_
    refine Go.seq ?_
    refine Go.reg ?_
    iterate 3 (refine ga h (o_move rfl) rfl fun h => ?_)
    refine ga h (o_nilc rfl) rfl fun h => ?_
    refine ga h (o_fa rfl t_f75_0 rfl rfl) rfl fun h => ?_
    refine ga h (o_fa rfl t_f26_21 rfl rfl) rfl fun h => ?_
    have g7 := (in2 (fd_sub t_sstep_Conn_Wait 0 rfl h.mem))
    refine ga h (o_lfx 0 rfl rfl t_sstep_Conn_Wait rfl X_int t_y3) rfl fun h => ?_
    refine ga h (o_bin rfl rfl rfl) rfl fun h => ?_
    refine ga h (o_nilc rfl) rfl fun h => ?_
    refine ga h (o_fa rfl t_f75_0 rfl rfl) rfl fun h => ?_
    refine ga h (o_fa rfl t_f26_20 rfl rfl) rfl fun h => ?_
    obtain ⟨y4, ey4, H⟩ := ltE H
    refine gs0 h (o_stp (x0 := y3) (y := IntKind.i64.wrap (a2 + y3.Conn.Wait)) 0 t_ustep_20_1 rfl rfl rfl rfl (pv_int (wrap_in _ _)) t_w3) fun _ _ _ h => ?_
    rw [ey4] at h
    refine GoR.done ?_
    refine Go.seq ?_
    refine Go.reg ?_
    refine mv h rfl rfl fun h => ?_
    obtain ⟨r4, er4, H⟩ := bindE H
    refine ga h (o_call (splice_step_again.spc b3 y4 r4 er4) rfl [] [0] (by decide) rfl rfl) rfl fun h => ?_
    refine GoR.done ?_
    refine Go.seq ?_
    replace h := h.mm fun m => (m.take (i := 0) rfl).opn (cstep _ _)
    obtain ⟨v12, h⟩ := h.unp 2 rfl
    obtain ⟨v13, h⟩ := h.unp 4 rfl
    replace h := h.wq [(4, pt b2), (8, pt b3)] [Fld KConn b2 0 zConn, Fld (Kd.eq v13) b3 25 (), Fld (Kd.eq v12) b3 24 (), Fld KConn b3 0 r4.Conn, Fld (Kd.int .i64) b3 23 r4.now, Val (Kd.osl KSeg) v12 r4.segs, Val (Kd.osl KCall) v13 r4.calls, Fld Kd.bool b3 26 r4.gone, Fld KConn b1 0 a1] [9, 0, 1, 2, 3, 4, 5, 6, 10]
    refine Go.draw (E := [(4, pt b2), (8, pt b3)]) [] (L := [Fld (Kd.eq v13) b3 25 (), Fld (Kd.eq v12) b3 24 (), Fld KConn b3 0 r4.Conn, Fld (Kd.int .i64) b3 23 r4.now, Val (Kd.osl KSeg) v12 r4.segs, Val (Kd.osl KCall) v13 r4.calls, Fld Kd.bool b3 26 r4.gone, Fld KConn b1 0 a1]) h rfl rfl 14 [cn (pt b3), ce [0] (pt b3), ce [0, 1] (pt b3), cw [0, 1, 2] [] [] fun u => [Val KConn u r4.Conn], cn (pt b3), ce [4] (pt b3), ce [4, 5] (.pointer (some ⟨b3, 24, none⟩)), ce [4, 5, 6] (v12), cn (pt b3), ce [8] (pt b3), ce [8, 9] (.pointer (some ⟨b3, 25, none⟩)), ce [8, 9, 10] (v13), cm [0, 1, 2, 3] [14, 3] [14] (undef) fun u => [Fld KConn b2 0 r4.Conn], ce [0, 1, 2, 3, 4, 5, 6, 7, 12] (v12), cm [] [] [] undef fun u => [Fld KConn b2 0 zConn]] rfl t_mxo (by kernel_rfl) (by rfl) ?_ fun f4 _ _ h => ?_
    ·exact ox rfl (o_move rfl) (ox rfl (o_nilc rfl) (ox rfl (o_fa rfl t_f75_0 rfl rfl) (oy rfl (o_ldv 2 rfl rfl PConn t_y26) (ox rfl (o_move rfl) (ox rfl (o_nilc rfl) (ox rfl (o_fa rfl t_f75_2 rfl rfl) (ox rfl (o_ldx 1 rfl rfl X_eq t_y31) (ox rfl (o_move rfl) (ox rfl (o_nilc rfl) (ox rfl (o_fa rfl t_f75_3 rfl rfl) (ox rfl (o_ldx 0 rfl rfl X_eq t_y32) (ox rfl (o_st 0 rfl rfl rfl (pv_at PConn 1 rfl) rfl t_w26) (ox rfl (o_assign rfl) (obs_nil))))))))))))))
    replace h := h.wk (E' := [(4, pt b2), (107, v13), (5, v12)]) (L' := [Val KConn (f4 3) r4.Conn, Fld KConn b2 0 r4.Conn, Fld (Kd.eq v13) b3 25 (), Fld (Kd.eq v12) b3 24 (), Fld KConn b3 0 r4.Conn, Fld (Kd.int .i64) b3 23 r4.now, Val (Kd.osl KSeg) v12 r4.segs, Val (Kd.osl KCall) v13 r4.calls, Fld Kd.bool b3 26 r4.gone, Fld KConn b1 0 a1]) (by kernel_rfl) [0, 1, 2, 3, 4, 5, 6, 7, 8, 9] (by decide) (by kernel_rfl)
    refine ga h (o_assign rfl) rfl fun h => ?_
    refine ga h (o_assign rfl) rfl fun h => ?_
    refine GoR.done ?_
    obtain ⟨v15, h, u3⟩ := h.peek 1 rfl PConn t_y26
    rw [← som H]
    exact g_ret (vs := [v15, v12, v13, .bool false]) h Try.func26 ⟨⟨_, rfl, u3⟩, ⟨rfl, ⟨rfl, ⟨rfl, trivial⟩⟩⟩⟩ ⟨(v15, v12, v13), rfl, (h.mem.pick [0, 7, 8] (by decide) rfl)⟩
 refine Go.reg ?_
 refine mv h rfl rfl fun h => ?_
 refine ga h (o_not rfl) rfl fun h => ?_
 refine mv h rfl rfl fun h => ?_
 by_cases c1 : (!r1.2) = true
 ·have H := ifT c1 H
  iterate 6 (refine gk h rfl rfl (nb_t c1) rfl fun _ h => ?_)
  refine ga h (o_pickT rfl rfl c1) rfl fun h => ?_
  refine mv h rfl rfl fun h => ?_
  iterate 7 (refine gk h rfl rfl (nb_t rfl) rfl fun _ h => ?_)
  refine ga h (o_pickT rfl rfl rfl) rfl fun h => ?_
  refine GoR.done ?_
  exact J1 true _ _ (som H).symm (h.wr [0, 2, 3])
 ·have H := ifF c1 H
  refine gg h rfl rfl (nbF c1) (o_move rfl) rfl fun _ _ _ h => ?_
  refine gg h rfl rfl (nbF c1) (o_nilc rfl) rfl fun _ _ _ h => ?_
  refine gg h rfl rfl (nbF c1) (o_fa rfl t_f75_0 rfl rfl) rfl fun _ _ _ h => ?_
  refine gg h rfl rfl (nbF c1) (o_fa rfl t_f26_20 rfl rfl) rfl fun _ _ _ h => ?_
  have g1 := (in2 (fd_sub t_sstep_Conn_At 0 rfl h.mem))
  refine gg h rfl rfl (nbF c1) (o_lfx 0 rfl rfl t_sstep_Conn_At rfl X_int t_y3) rfl fun _ _ _ h => ?_
  refine gg h rfl rfl (nbF c1) (o_bin rfl rfl rfl) rfl fun _ _ _ h => ?_
  refine ga h (o_pickF rfl rfl c1) rfl fun h => ?_
  refine mv h rfl rfl fun h => ?_
  by_cases c2 : decide (y1.Conn.At = 0) = true
  ·have H := ifT c2 H
   iterate 7 (refine gk h rfl rfl (nb_t c2) rfl fun _ h => ?_)
   refine ga h (o_pickT rfl rfl c2) rfl fun h => ?_
   refine GoR.done ?_
   exact J1 true _ _ (som H).symm (h.wr [0, 2, 3])
  ·have H := ifF c2 H
   refine gg h rfl rfl (nbF c2) (o_move rfl) rfl fun _ _ _ h => ?_
   refine gg h rfl rfl (nbF c2) (o_move rfl) rfl fun _ _ _ h => ?_
   refine gg h rfl rfl (nbF c2) (o_nilc rfl) rfl fun _ _ _ h => ?_
   refine gg h rfl rfl (nbF c2) (o_fa rfl t_f75_0 rfl rfl) rfl fun _ _ _ h => ?_
   refine gg h rfl rfl (nbF c2) (o_fa rfl t_f26_20 rfl rfl) rfl fun _ _ _ h => ?_
   have g2 := (in2 (fd_sub t_sstep_Conn_At 0 rfl h.mem))
   refine gg h rfl rfl (nbF c2) (o_lfx 0 rfl rfl t_sstep_Conn_At rfl X_int t_y3) rfl fun _ _ _ h => ?_
   refine gg h rfl rfl (nbF c2) (o_bin rfl rfl rfl) rfl fun _ _ _ h => ?_
   refine ga h (o_pickF rfl rfl c2) rfl fun h => ?_
   refine GoR.done ?_
   exact J1 (decide (a2 < y1.Conn.At)) _ _ (som H).symm (h.wr [0, 2, 3])
def splice_Tick.g (k_ : Nat) (a1 : TConn) (a2 : Int) : Option (TConn × (List TSeg) × (List TCall) × Bool) :=
  (splice_begin.g k_ a1 a2).bind fun r1 => (r1.1).bind fun y1 => ((if (!r1.2) = true then some (true) else (if decide (y1.Conn.At = 0) = true then some (true) else some (decide (a2 < y1.Conn.At))))).bind (fun j1 => (if j1 = true then some ((a1, [], [], false)) else (if decide (y1.Conn.Tries = 6) = true then (splice_step_say.g k_ y1 y1.Conn.Next 4 []).bind fun r2 => (splice_step_call.g k_ r2 4 []).bind fun r3 => some ((r3.Conn, r3.segs, r3.calls, true)) else lt (⟨(⟨y1.Conn.Id, y1.Conn.Guest, y1.Conn.Gport, y1.Conn.Remote, y1.Conn.Rport, y1.Conn.Opening, y1.Conn.Up, y1.Conn.Done, y1.Conn.Begin, y1.Conn.Una, y1.Conn.Next, y1.Conn.Want, y1.Conn.Win, y1.Conn.Mss, y1.Conn.ToHost, y1.Conn.ToGuest, y1.Conn.Early, y1.Conn.Fin, y1.Conn.Eof, y1.Conn.Shut, y1.Conn.At, y1.Conn.Wait, IntKind.i64.wrap (y1.Conn.Tries + 1)⟩ : TConn), y1.now, y1.segs, y1.calls, y1.gone⟩ : Tstep) fun y2 => lt (⟨(⟨y2.Conn.Id, y2.Conn.Guest, y2.Conn.Gport, y2.Conn.Remote, y2.Conn.Rport, y2.Conn.Opening, y2.Conn.Up, y2.Conn.Done, y2.Conn.Begin, y2.Conn.Una, y2.Conn.Next, y2.Conn.Want, y2.Conn.Win, y2.Conn.Mss, y2.Conn.ToHost, y2.Conn.ToGuest, y2.Conn.Early, y2.Conn.Fin, y2.Conn.Eof, y2.Conn.Shut, y2.Conn.At, min (IntKind.i64.wrap (2 * y2.Conn.Wait)) 32, y2.Conn.Tries⟩ : TConn), y2.now, y2.segs, y2.calls, y2.gone⟩ : Tstep) fun y3 => lt (⟨(⟨y3.Conn.Id, y3.Conn.Guest, y3.Conn.Gport, y3.Conn.Remote, y3.Conn.Rport, y3.Conn.Opening, y3.Conn.Up, y3.Conn.Done, y3.Conn.Begin, y3.Conn.Una, y3.Conn.Next, y3.Conn.Want, y3.Conn.Win, y3.Conn.Mss, y3.Conn.ToHost, y3.Conn.ToGuest, y3.Conn.Early, y3.Conn.Fin, y3.Conn.Eof, y3.Conn.Shut, IntKind.i64.wrap (a2 + y3.Conn.Wait), y3.Conn.Wait, y3.Conn.Tries⟩ : TConn), y3.now, y3.segs, y3.calls, y3.gone⟩ : Tstep) fun y4 => (splice_step_again.g k_ y4).bind fun r4 => some ((r4.Conn, r4.segs, r4.calls, false)))))
theorem splice_Tick.le (k_ : Nat) (a1 : TConn) (a2 : Int) : Le (splice_Tick.g k_ a1 a2) (splice_Tick.f a1 a2) := by
 unfold splice_Tick.g splice_Tick.f
 repeat' (first | with_reducible refine le_loop fun _ => ?_ | with_reducible refine le_bind ?_ fun _ => ?_ | with_reducible refine le_ite ?_ ?_ | with_reducible refine le_lt fun _ => ?_ | with_reducible refine le_elim (fun _ => ?_) (fun _ => ?_) _ | with_reducible apply splice_begin.le | with_reducible apply splice_step_again.le | with_reducible apply splice_step_call.le | with_reducible apply splice_step_say.le | with_reducible exact le_refl _)
end Go.Proofs.Ytpcbhkigmnpimaa.S
