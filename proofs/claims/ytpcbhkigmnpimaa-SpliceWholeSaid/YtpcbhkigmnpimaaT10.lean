/- Contracts, printed by a program of this session. -/
import Derived.Test.YtpcbhkigmnpimaaT2
import Derived.Test.YtpcbhkigmnpimaaT3
import Derived.Test.YtpcbhkigmnpimaaT4
import Derived.Test.YtpcbhkigmnpimaaT7
import Derived.Test.YtpcbhkigmnpimaaT8
import Derived.Test.YtpcbhkigmnpimaaT9
namespace Go.Proofs.Ytpcbhkigmnpimaa.S
open Go Go.SL Go.RowKit
set_option linter.unusedVariables false
set_option linter.unusedSimpArgs false
/-! (*drawbridge/splice.step).text -/
noncomputable def splice_step_text.f (a1 : Tstep) (a2 : TSeg) : Option (Tstep) :=
  lt (decide (0 < (bits .and .i64 a2.Flags 1))) fun y1 => ((if (!a1.Conn.Fin) = true then (splice_step_data.f a1 a2).bind fun r1 => ((if y1 = true then some (decide (r1.Conn.Want = (IntKind.u32.wrap (a2.Seq + (IntKind.u32.wrap (a2.Data.length : Int)))))) else some (false))).bind (fun j1 => (if j1 = true then lt (⟨(⟨r1.Conn.Id, r1.Conn.Guest, r1.Conn.Gport, r1.Conn.Remote, r1.Conn.Rport, r1.Conn.Opening, r1.Conn.Up, r1.Conn.Done, r1.Conn.Begin, r1.Conn.Una, r1.Conn.Next, r1.Conn.Want, r1.Conn.Win, r1.Conn.Mss, r1.Conn.ToHost, r1.Conn.ToGuest, r1.Conn.Early, true, r1.Conn.Eof, r1.Conn.Shut, r1.Conn.At, r1.Conn.Wait, r1.Conn.Tries⟩ : TConn), r1.now, r1.segs, r1.calls, r1.gone⟩ : Tstep) fun y2 => lt (⟨(⟨y2.Conn.Id, y2.Conn.Guest, y2.Conn.Gport, y2.Conn.Remote, y2.Conn.Rport, y2.Conn.Opening, y2.Conn.Up, y2.Conn.Done, y2.Conn.Begin, y2.Conn.Una, y2.Conn.Next, y2.Conn.Want, y2.Conn.Win, y2.Conn.Mss, y2.Conn.ToHost, y2.Conn.ToGuest, [], y2.Conn.Fin, y2.Conn.Eof, y2.Conn.Shut, y2.Conn.At, y2.Conn.Wait, y2.Conn.Tries⟩ : TConn), y2.now, y2.segs, y2.calls, y2.gone⟩ : Tstep) fun y3 => lt (⟨(⟨y3.Conn.Id, y3.Conn.Guest, y3.Conn.Gport, y3.Conn.Remote, y3.Conn.Rport, y3.Conn.Opening, y3.Conn.Up, y3.Conn.Done, y3.Conn.Begin, y3.Conn.Una, y3.Conn.Next, IntKind.u32.wrap (y3.Conn.Want + 1), y3.Conn.Win, y3.Conn.Mss, y3.Conn.ToHost, y3.Conn.ToGuest, y3.Conn.Early, y3.Conn.Fin, y3.Conn.Eof, y3.Conn.Shut, y3.Conn.At, y3.Conn.Wait, y3.Conn.Tries⟩ : TConn), y3.now, y3.segs, y3.calls, y3.gone⟩ : Tstep) fun y4 => some (y4) else some (r1))) else some (a1))).bind (fun j2 => (((if y1 = true then some (true) else some (decide (0 < (a2.Data.length : Int))))).bind (fun j3 => (if j3 = true then (splice_step_ack.f j2).bind fun r2 => some (r2) else some (j2)))).bind (fun j4 => (splice_step_shut.f j4).bind fun r3 => (splice_step_push.f r3).bind fun r4 => ((if r4.Conn.Done = true then lt (⟨r4.Conn, r4.now, r4.segs, r4.calls, r4.Conn.Shut⟩ : Tstep) fun y5 => some (y5) else lt (⟨r4.Conn, r4.now, r4.segs, r4.calls, false⟩ : Tstep) fun y6 => some (y6))).bind (fun z_ => some (z_))))
set_option maxRecDepth 100000 in
set_option maxHeartbeats 4000000 in
theorem splice_step_text.spc (b1 : Nat) (a1 : Tstep) (v1 : Value) (a2 : TSeg) (r : Tstep) (H : splice_step_text.f a1 a2 = some r) : Spc Try.prog 52 [pt b1, v1] [Val KSeg v1 a2] [Fld Kstep b1 0 a1] (fun (s : Unit) => .tuple #[]) (fun s => [Fld Kstep b1 0 r]) := by
 unfold splice_step_text.f at H
 refine Spc.go Try.func52 rfl (by kernel_rfl) rfl rfl (all_cons (Val.per PSeg) all_nil) fun F a w h => ?_
 refine Go.seq ?_
 refine Go.reg ?_
 refine gs h (o_box (K := KSeg) rfl (pv_at PSeg 0 rfl)) rfl fun b2 _ _ h => ?_
 refine GoR.done ?_
 refine Go.seq ?_
 refine Go.reg ?_
 refine ga h (o_fa rfl t_f30_4 rfl rfl) rfl fun h => ?_
 have g1 := (in2 (fd_sub sSeg_Flags 0 rfl h.mem))
 refine ga h (o_lfx 0 rfl rfl sSeg_Flags rfl X_int t_y3) rfl fun h => ?_
 refine ga h (o_bin rfl rfl rfl) rfl fun h => ?_
 refine ga h (o_bin rfl rfl rfl) rfl fun h => ?_
 obtain ⟨y1, ey1, H⟩ := ltE H
 refine ga h (o_assign' rfl (congrArg Value.bool ey1)) rfl fun h => ?_
 refine GoR.done ?_
 refine Go.seq ?_
 obtain ⟨o1, H, G1⟩ := bindE H
 refine g_cut (fun G => ∀ j2 (a : Act) (w : World), o1 = j2 → St Try.f52.ntmps F [(0, pt b1), (3, pt b2), (4, .bool y1)] [Fld Kstep b1 0 j2, Fld KSeg b2 0 a2] a w → G a w) 1 ?_ fun J2 => ?_
 ·intro j2 a w ho_ h
  rw [ho_] at G1
  have H := G1
  refine Go.seq ?_
  obtain ⟨o3, H, G3⟩ := bindE H
  refine g_cut (fun G => ∀ j4 (a : Act) (w : World), o3 = j4 → St Try.f52.ntmps F [(0, pt b1)] [Fld Kstep b1 0 j4, Fld KSeg b2 0 a2] a w → G a w) 1 ?_ fun J4 => ?_
  ·intro j4 a w ho_ h
   rw [ho_] at G3
   have H := G3
   refine Go.seq ?_
   refine Go.reg ?_
   refine mv h rfl rfl fun h => ?_
   obtain ⟨r3, er3, H⟩ := bindE H
   refine ga h (o_call (splice_step_shut.spc b1 j4 r3 er3) rfl [] [0] (by decide) rfl rfl) rfl fun h => ?_
   refine GoR.done ?_
   refine Go.seq ?_
   refine Go.reg ?_
   refine mv h rfl rfl fun h => ?_
   obtain ⟨r4, er4, H⟩ := bindE H
   refine ga h (o_call (splice_step_push.spc b1 r3 r4 er4) rfl [] [0] (by decide) rfl rfl) rfl fun h => ?_
   refine GoR.done ?_
   obtain ⟨o5, H, G5⟩ := bindE H
   refine Go.reg ?_
   refine mv h rfl rfl fun h => ?_
   refine mv h rfl rfl fun h => ?_
   refine ga h (o_nilc rfl) rfl fun h => ?_
   refine ga h (o_fa rfl t_f75_0 rfl rfl) rfl fun h => ?_
   refine ga h (o_fa rfl t_f26_7 rfl rfl) rfl fun h => ?_
   refine ga h (o_lfx 0 rfl rfl t_sstep_Conn_Done rfl X_bool t_y4) rfl fun h => ?_
   refine mv h rfl rfl fun h => ?_
   by_cases c6 : r4.Conn.Done = true
   ·have H := ifT c6 H
    refine gg h rfl rfl c6 (o_move rfl) rfl fun _ _ _ h => ?_
    refine gg h rfl rfl c6 (o_nilc rfl) rfl fun _ _ _ h => ?_
    refine gg h rfl rfl c6 (o_fa rfl t_f75_0 rfl rfl) rfl fun _ _ _ h => ?_
    refine gg h rfl rfl c6 (o_fa rfl t_f26_19 rfl rfl) rfl fun _ _ _ h => ?_
    refine gg h rfl rfl c6 (o_lfx 0 rfl rfl t_sstep_Conn_Shut rfl X_bool t_y4) rfl fun _ _ _ h => ?_
    refine ga h (o_pickT rfl rfl c6) rfl fun h => ?_
    refine ga h (o_nilc rfl) rfl fun h => ?_
    refine ga h (o_fa rfl t_f75_4 rfl rfl) rfl fun h => ?_
    obtain ⟨y5, ey5, H⟩ := ltE H
    refine gs0 h (o_stp (x0 := r4) (y := r4.Conn.Shut) 0 t_ustep_26_1 rfl rfl rfl rfl pv_bool t_w4) fun _ _ _ h => ?_
    rw [ey5] at h
    refine GoR.done ?_
    rw [← som H] at G5
    have H := G5
    rw [← som H]
    exact g_fin (vs := []) h Try.func52 trivial ⟨(), rfl, (h.mem.pick [0] (by decide) rfl)⟩
   ·have H := ifF c6 H
    iterate 5 (refine gk h rfl rfl (nb_f c6) rfl fun _ h => ?_)
    refine ga h (o_pickF rfl rfl c6) rfl fun h => ?_
    refine ga h (o_nilc rfl) rfl fun h => ?_
    refine ga h (o_fa rfl t_f75_4 rfl rfl) rfl fun h => ?_
    obtain ⟨y6, ey6, H⟩ := ltE H
    refine gs0 h (o_stp (x0 := r4) (y := false) 0 t_ustep_26_1 rfl rfl rfl rfl pv_bool t_w4) fun _ _ _ h => ?_
    rw [ey6] at h
    refine GoR.done ?_
    rw [← som H] at G5
    have H := G5
    rw [← som H]
    exact g_fin (vs := []) h Try.func52 trivial ⟨(), rfl, (h.mem.pick [0] (by decide) rfl)⟩
  refine Go.seq ?_
  obtain ⟨o4, H, G4⟩ := bindE H
  refine g_cut (fun G => ∀ j3 (a : Act) (w : World), o4 = j3 → St Try.f52.ntmps F [(0, pt b1), (57, .bool j3)] [Fld Kstep b1 0 j2, Fld KSeg b2 0 a2] a w → G a w) 1 ?_ fun J3 => ?_
  ·intro j3 a w ho_ h
   rw [ho_] at G4
   have H := G4
   by_cases c5 : j3 = true
   ·have H := ifT c5 H
    refine g_t h rfl c5 ?_
    refine Go.reg ?_
    refine mv h rfl rfl fun h => ?_
    obtain ⟨r2, er2, H⟩ := bindE H
    refine ga h (o_call (splice_step_ack.spc b1 j2 r2 er2) rfl [] [0] (by decide) rfl rfl) rfl fun h => ?_
    refine GoR.done ?_
    exact J4 r2 _ _ (som H).symm (h.wr [0, 2])
   ·have H := ifF c5 H
    refine g_f h rfl c5 ?_
    refine Go.skip ?_
    exact J4 j2 _ _ (som H).symm (h.wr [0, 1])
  refine Go.reg ?_
  refine mv h rfl rfl fun h => ?_
  refine mv h rfl rfl fun h => ?_
  by_cases c4 : y1 = true
  ·have H := ifT c4 H
   iterate 4 (refine gk h rfl rfl (nb_t c4) rfl fun _ h => ?_)
   refine ga h (o_pickT rfl rfl c4) rfl fun h => ?_
   refine GoR.done ?_
   exact J3 true _ _ (som H).symm (h.wr [0, 1])
  ·have H := ifF c4 H
   refine gg h rfl rfl (nbF c4) (o_fa rfl t_f30_7 rfl rfl) rfl fun _ _ _ h => ?_
   refine gg h rfl rfl (nbF c4) (o_lfv 1 rfl rfl sSeg_Data rfl Per_sl t_y23) rfl fun v4 _ _ h => ?_
   have g4 := (len_at 0 rfl h.mem)
   refine gg h rfl rfl (nbF c4) (o_ln rfl (rd_at 0 rfl) t_v23) rfl fun _ _ _ h => ?_
   refine gg h rfl rfl (nbF c4) (o_bin rfl rfl rfl) rfl fun _ _ _ h => ?_
   refine ga h (o_pickF rfl rfl c4) rfl fun h => ?_
   refine GoR.done ?_
   exact J3 (decide (0 < (a2.Data.length : Int))) _ _ (som H).symm (h.wr [1, 2])
 refine Go.seq ?_
 refine Go.reg ?_
 refine mv h rfl rfl fun h => ?_
 refine ga h (o_nilc rfl) rfl fun h => ?_
 refine ga h (o_fa rfl t_f75_0 rfl rfl) rfl fun h => ?_
 refine ga h (o_fa rfl t_f26_17 rfl rfl) rfl fun h => ?_
 refine ga h (o_lfx 2 rfl rfl t_sstep_Conn_Fin rfl X_bool t_y4) rfl fun h => ?_
 refine ga h (o_not rfl) rfl fun h => ?_
 refine GoR.done ?_
 by_cases c1 : (!a1.Conn.Fin) = true
 ·have H := ifT c1 H
  refine g_t h rfl c1 ?_
  refine Go.seq ?_
  refine Go.reg ?_
  refine mv h rfl rfl fun h => ?_
  refine gs h (o_ldv 0 rfl rfl PSeg t_y30) rfl fun v2 _ _ h => ?_
  obtain ⟨r1, er1, H⟩ := bindE H
  refine ga h (o_call (splice_step_data.spc b1 a1 v2 a2 r1 er1) rfl [0] [3] (by decide) rfl rfl) rfl fun h => ?_
  refine GoR.done ?_
  refine Go.seq ?_
  replace h := h.wq [(0, pt b1), (3, pt b2), (4, .bool y1)] [Fld Kstep b1 0 r1, Val KSeg v2 a2, Fld KSeg b2 0 a2, Val KSeg v1 a2] [0, 1, 2, 3]
  obtain ⟨o2, H, G2⟩ := bindE H
  refine g_cut (fun G => ∀ j1 (a : Act) (w : World), o2 = j1 → St Try.f52.ntmps F [(0, pt b1), (3, pt b2), (4, .bool y1), (33, .bool j1)] [Fld Kstep b1 0 r1, Fld KSeg b2 0 a2] a w → G a w) 1 ?_ fun J1 => ?_
  ·intro j1 a w ho_ h
   rw [ho_] at G2
   have H := G2
   by_cases c3 : j1 = true
   ·have H := ifT c3 H
    refine g_t h rfl c3 ?_
    refine Go.seq ?_
    refine Go.reg ?_
    refine mv h rfl rfl fun h => ?_
    refine mv h rfl rfl fun h => ?_
    refine ga h (o_nilc rfl) rfl fun h => ?_
    refine ga h (o_fa rfl t_f75_0 rfl rfl) rfl fun h => ?_
    refine ga h (o_fa rfl t_f26_17 rfl rfl) rfl fun h => ?_
    obtain ⟨y2, ey2, H⟩ := ltE H
    refine gs0 h (o_stp (x0 := r1) (y := true) 0 t_ustep_17_1 rfl rfl rfl rfl pv_bool t_w4) fun _ _ _ h => ?_
    rw [ey2] at h
    refine ga h (o_nilc rfl) rfl fun h => ?_
    refine ga h (o_fa rfl t_f75_0 rfl rfl) rfl fun h => ?_
    refine ga h (o_fa rfl t_f26_16 rfl rfl) rfl fun h => ?_
    obtain ⟨y3, ey3, H⟩ := ltE H
    refine gs0 h (o_stp (x0 := y2) (y := []) 0 t_ustep_16_1 rfl rfl rfl rfl pv_nil t_w24) fun _ _ _ h => ?_
    rw [ey3] at h
    refine GoR.done ?_
    refine Go.reg ?_
    refine mv h rfl rfl fun h => ?_
    refine ga h (o_nilc rfl) rfl fun h => ?_
    refine ga h (o_fa rfl t_f75_0 rfl rfl) rfl fun h => ?_
    refine ga h (o_fa rfl t_f26_11 rfl rfl) rfl fun h => ?_
    have g3 := (in2 (fd_sub t_sstep_Conn_Want 0 rfl h.mem))
    refine ga h (o_lfx 0 rfl rfl t_sstep_Conn_Want rfl X_int t_y22) rfl fun h => ?_
    refine ga h (o_bin rfl rfl rfl) rfl fun h => ?_
    refine ga h (o_nilc rfl) rfl fun h => ?_
    refine ga h (o_fa rfl t_f75_0 rfl rfl) rfl fun h => ?_
    refine ga h (o_fa rfl t_f26_11 rfl rfl) rfl fun h => ?_
    obtain ⟨y4, ey4, H⟩ := ltE H
    refine gs0 h (o_stp (x0 := y3) (y := IntKind.u32.wrap (y3.Conn.Want + 1)) 0 t_ustep_11_1 rfl rfl rfl rfl (pv_int (wrap_in _ _)) t_w22) fun _ _ _ h => ?_
    rw [ey4] at h
    refine GoR.done ?_
    exact J2 y4 _ _ (som H).symm (h.wr [0, 1])
   ·have H := ifF c3 H
    refine g_f h rfl c3 ?_
    refine Go.skip ?_
    exact J2 r1 _ _ (som H).symm (h.wr [0, 1])
  by_cases c2 : y1 = true
  ·have H := ifT c2 H
   refine Go.draw (E := [(0, pt b1), (3, pt b2), (4, .bool y1)]) [] (L := [Fld Kstep b1 0 r1, Val KSeg v2 a2, Fld KSeg b2 0 a2, Val KSeg v1 a2]) h rfl rfl 14 [cn (.bool y1), ce [0] (.bool y1), ce [0, 1] (pt b1), ce [0, 1, 2] (pt b1), ce [0, 1, 2, 3] (pt b1), ce [0, 1, 2, 3, 4] (.pointer (some ⟨b1, 11, none⟩)), cm [0, 1, 2, 3, 4, 5] [] [] (.int .u32 r1.Conn.Want) fun u => [Ent.pur (InR .u32 r1.Conn.Want)], ce [0, 1] (.pointer (some ⟨b2, 2, none⟩)), cm [0, 1, 7] [] [] (.int .u32 a2.Seq) fun u => [Ent.pur (InR .u32 a2.Seq)], ce [0, 1] (.pointer (some ⟨b2, 7, none⟩)), cw [0, 1, 9] [] [] fun u => [Val (Kd.sl (Kd.int .u8)) u a2.Data], cm [0, 1, 9, 10] [10] [] (.int .i64 (a2.Data.length : Int)) fun u => [], ce [0, 1, 9, 10, 11] (.int .u32 (IntKind.u32.wrap (a2.Data.length : Int))), ce [0, 1, 7, 8, 9, 10, 11, 12] (.int .u32 (IntKind.u32.wrap (a2.Seq + (IntKind.u32.wrap (a2.Data.length : Int)))))] rfl t_mxo (by kernel_rfl) (by rfl) ?_ fun f1 _ _ h => ?_
   ·exact ox rfl (o_move rfl) (ox rfl (o_move rfl) (og rfl rfl (fun _ => rfl) c2 (o_move rfl) (og rfl rfl (fun _ => rfl) c2 (o_nilc rfl) (og rfl rfl (fun _ => rfl) c2 (o_fa rfl t_f75_0 rfl rfl) (og rfl rfl (fun _ => rfl) c2 (o_fa rfl t_f26_11 rfl rfl) (og rfl rfl (fun _ => rfl) c2 (OpS.pur (fun F w m_ => (in2 (fd_sub t_sstep_Conn_Want 0 rfl m_))) (o_lfx (K := Kstep) (pr := fun x => x.Conn.Want) (y := r1) 0 rfl rfl t_sstep_Conn_Want rfl X_int t_y22)) (og rfl rfl (fun _ => rfl) c2 (o_fa rfl t_f30_2 rfl rfl) (og rfl rfl (fun _ => rfl) c2 (OpS.pur (fun F w m_ => (in2 (fd_sub sSeg_Seq 2 rfl m_))) (o_lfx 2 rfl rfl sSeg_Seq rfl X_int t_y22)) (og rfl rfl (fun _ => rfl) c2 (o_fa rfl t_f30_7 rfl rfl) (obs_cons (ob_own rfl (gok_some rfl rfl rfl (fun _ => rfl) c2) rfl fun f1 => (o_lfv 2 rfl rfl sSeg_Data rfl Per_sl t_y23)) (og rfl rfl (fun _ => rfl) c2 (o_ln rfl (rd_at 0 rfl) t_v23) (og rfl rfl (fun _ => rfl) c2 (o_conv rfl t_q3 t_u22) (og rfl rfl (fun _ => rfl) c2 (o_bin rfl rfl rfl) (obs_nil))))))))))))))
   replace h := h.wk (E' := [(0, pt b1), (3, pt b2), (4, .bool y1), (19, .bool y1), (24, .int .u32 r1.Conn.Want), (31, .int .u32 (IntKind.u32.wrap (a2.Seq + (IntKind.u32.wrap (a2.Data.length : Int)))))]) (L' := [Ent.pur (InR .u32 r1.Conn.Want), Ent.pur (InR .u32 a2.Seq), Val (Kd.sl (Kd.int .u8)) (f1 10) a2.Data, Fld Kstep b1 0 r1, Val KSeg v2 a2, Fld KSeg b2 0 a2, Val KSeg v1 a2]) (by kernel_rfl) [0, 1, 2, 3, 4, 5, 6] (by decide) (by kernel_rfl)
   have g2 := (Mem.pur 0 rfl h.mem)
   refine gg h rfl rfl c2 (o_bin rfl rfl rfl) rfl fun _ _ _ h => ?_
   refine ga h (o_pickT rfl rfl c2) rfl fun h => ?_
   refine GoR.done ?_
   exact J1 (decide (r1.Conn.Want = (IntKind.u32.wrap (a2.Seq + (IntKind.u32.wrap (a2.Data.length : Int)))))) _ _ (som H).symm (h.wr [3, 5])
  ·have H := ifF c2 H
   refine Go.draw (E := [(0, pt b1), (3, pt b2), (4, .bool y1)]) [] (L := [Fld Kstep b1 0 r1, Val KSeg v2 a2, Fld KSeg b2 0 a2, Val KSeg v1 a2]) h rfl rfl 14 [cn (.bool y1), ce [0] (.bool y1), ⟨[1], [], [], true, .con undef, none, fun u => [], []⟩, ⟨[1], [], [], true, .con undef, none, fun u => [], []⟩, ⟨[1], [], [], true, .con undef, none, fun u => [], []⟩, ⟨[1], [], [], true, .con undef, none, fun u => [], []⟩, ⟨[1], [], [], true, .con undef, none, fun u => [], []⟩, ⟨[1], [], [], true, .con undef, none, fun u => [], []⟩, ⟨[1], [], [], true, .con undef, none, fun u => [], []⟩, ⟨[1], [], [], true, .con undef, none, fun u => [], []⟩, ⟨[1], [], [], true, .con undef, none, fun u => [], []⟩, ⟨[1], [], [], true, .con undef, none, fun u => [], []⟩, ⟨[1], [], [], true, .con undef, none, fun u => [], []⟩, ⟨[1], [], [], true, .con undef, none, fun u => [], []⟩] rfl t_mxo (by kernel_rfl) (by rfl) ?_ fun f1 _ _ h => ?_
   ·exact ox rfl (o_move rfl) (ox rfl (o_move rfl) (oj rfl rfl (fun _ => rfl) (nb_f c2) (oj rfl rfl (fun _ => rfl) (nb_f c2) (oj rfl rfl (fun _ => rfl) (nb_f c2) (oj rfl rfl (fun _ => rfl) (nb_f c2) (oj rfl rfl (fun _ => rfl) (nb_f c2) (oj rfl rfl (fun _ => rfl) (nb_f c2) (oj rfl rfl (fun _ => rfl) (nb_f c2) (oj rfl rfl (fun _ => rfl) (nb_f c2) (oj rfl rfl (fun _ => rfl) (nb_f c2) (oj rfl rfl (fun _ => rfl) (nb_f c2) (oj rfl rfl (fun _ => rfl) (nb_f c2) (oj rfl rfl (fun _ => rfl) (nb_f c2) (obs_nil))))))))))))))
   replace h := h.wk (E' := [(0, pt b1), (3, pt b2), (4, .bool y1), (19, .bool y1)]) (L' := [Fld Kstep b1 0 r1, Val KSeg v2 a2, Fld KSeg b2 0 a2, Val KSeg v1 a2]) (by kernel_rfl) [0, 1, 2, 3] (by decide) (by kernel_rfl)
   refine gk h rfl rfl (nb_f c2) rfl fun _ h => ?_
   refine ga h (o_pickF rfl rfl c2) rfl fun h => ?_
   refine GoR.done ?_
   exact J1 false _ _ (som H).symm (h.wr [0, 2])
 ·have H := ifF c1 H
  refine g_f h rfl c1 ?_
  refine Go.skip ?_
  exact J2 a1 _ _ (som H).symm (h.wr [2, 0])
def splice_step_text.g (k_ : Nat) (a1 : Tstep) (a2 : TSeg) : Option (Tstep) :=
  lt (decide (0 < (bits .and .i64 a2.Flags 1))) fun y1 => ((if (!a1.Conn.Fin) = true then (splice_step_data.g k_ a1 a2).bind fun r1 => ((if y1 = true then some (decide (r1.Conn.Want = (IntKind.u32.wrap (a2.Seq + (IntKind.u32.wrap (a2.Data.length : Int)))))) else some (false))).bind (fun j1 => (if j1 = true then lt (⟨(⟨r1.Conn.Id, r1.Conn.Guest, r1.Conn.Gport, r1.Conn.Remote, r1.Conn.Rport, r1.Conn.Opening, r1.Conn.Up, r1.Conn.Done, r1.Conn.Begin, r1.Conn.Una, r1.Conn.Next, r1.Conn.Want, r1.Conn.Win, r1.Conn.Mss, r1.Conn.ToHost, r1.Conn.ToGuest, r1.Conn.Early, true, r1.Conn.Eof, r1.Conn.Shut, r1.Conn.At, r1.Conn.Wait, r1.Conn.Tries⟩ : TConn), r1.now, r1.segs, r1.calls, r1.gone⟩ : Tstep) fun y2 => lt (⟨(⟨y2.Conn.Id, y2.Conn.Guest, y2.Conn.Gport, y2.Conn.Remote, y2.Conn.Rport, y2.Conn.Opening, y2.Conn.Up, y2.Conn.Done, y2.Conn.Begin, y2.Conn.Una, y2.Conn.Next, y2.Conn.Want, y2.Conn.Win, y2.Conn.Mss, y2.Conn.ToHost, y2.Conn.ToGuest, [], y2.Conn.Fin, y2.Conn.Eof, y2.Conn.Shut, y2.Conn.At, y2.Conn.Wait, y2.Conn.Tries⟩ : TConn), y2.now, y2.segs, y2.calls, y2.gone⟩ : Tstep) fun y3 => lt (⟨(⟨y3.Conn.Id, y3.Conn.Guest, y3.Conn.Gport, y3.Conn.Remote, y3.Conn.Rport, y3.Conn.Opening, y3.Conn.Up, y3.Conn.Done, y3.Conn.Begin, y3.Conn.Una, y3.Conn.Next, IntKind.u32.wrap (y3.Conn.Want + 1), y3.Conn.Win, y3.Conn.Mss, y3.Conn.ToHost, y3.Conn.ToGuest, y3.Conn.Early, y3.Conn.Fin, y3.Conn.Eof, y3.Conn.Shut, y3.Conn.At, y3.Conn.Wait, y3.Conn.Tries⟩ : TConn), y3.now, y3.segs, y3.calls, y3.gone⟩ : Tstep) fun y4 => some (y4) else some (r1))) else some (a1))).bind (fun j2 => (((if y1 = true then some (true) else some (decide (0 < (a2.Data.length : Int))))).bind (fun j3 => (if j3 = true then (splice_step_ack.g k_ j2).bind fun r2 => some (r2) else some (j2)))).bind (fun j4 => (splice_step_shut.g k_ j4).bind fun r3 => (splice_step_push.g k_ r3).bind fun r4 => ((if r4.Conn.Done = true then lt (⟨r4.Conn, r4.now, r4.segs, r4.calls, r4.Conn.Shut⟩ : Tstep) fun y5 => some (y5) else lt (⟨r4.Conn, r4.now, r4.segs, r4.calls, false⟩ : Tstep) fun y6 => some (y6))).bind (fun z_ => some (z_))))
theorem splice_step_text.le (k_ : Nat) (a1 : Tstep) (a2 : TSeg) : Le (splice_step_text.g k_ a1 a2) (splice_step_text.f a1 a2) := by
 unfold splice_step_text.g splice_step_text.f
 repeat' (first | with_reducible refine le_loop fun _ => ?_ | with_reducible refine le_bind ?_ fun _ => ?_ | with_reducible refine le_ite ?_ ?_ | with_reducible refine le_lt fun _ => ?_ | with_reducible refine le_elim (fun _ => ?_) (fun _ => ?_) _ | with_reducible apply splice_step_ack.le | with_reducible apply splice_step_data.le | with_reducible apply splice_step_push.le | with_reducible apply splice_step_shut.le | with_reducible exact le_refl _)
/-! (*drawbridge/splice.step).take -/
noncomputable def splice_step_take.f (a1 : Tstep) (a2 : TSeg) : Option (Tstep) :=
  lt (decide (0 < (bits .and .i64 a2.Flags 4))) fun y1 => (if y1 = true then (if decide (a2.Seq = a1.Conn.Want) = true then (splice_step_call.f a1 4 []).bind fun r1 => lt (⟨r1.Conn, r1.now, r1.segs, r1.calls, true⟩ : Tstep) fun y2 => some (y2) else some (a1)) else (if a1.Conn.Opening = true then some (a1) else ((if decide (0 < (bits .and .i64 a2.Flags 2)) = true then (if decide ((bits .and .i64 a2.Flags 16) = 0) = true then (if (!a1.Conn.Up) = true then lt (decide ((IntKind.u32.wrap (a2.Seq + 1)) = a1.Conn.Want)) fun y3 => some (y3) else some (false)) else some (false)) else some (false))).bind (fun j1 => (if j1 = true then (splice_step_syn.f a1).bind fun r2 => some (r2) else lt (decide (0 < (bits .and .i64 a2.Flags 2))) fun y4 => (if y4 = true then (splice_step_ack.f a1).bind fun r3 => some (r3) else ((if decide (0 < (bits .and .i64 a2.Flags 16)) = true then (splice_step_acked.f a1 a2).bind fun r4 => some ((r4.1, r4.2)) else some ((false, a1)))).bind (fun j2 => (if j2.1 = true then (splice_step_text.f j2.2 a2).bind fun r5 => some (r5) else some (j2.2))))))))
set_option maxRecDepth 100000 in
set_option maxHeartbeats 4000000 in
theorem splice_step_take.spc (b1 : Nat) (a1 : Tstep) (v1 : Value) (a2 : TSeg) (r : Tstep) (H : splice_step_take.f a1 a2 = some r) : Spc Try.prog 29 [pt b1, v1] [Val KSeg v1 a2] [Fld Kstep b1 0 a1] (fun (s : Unit) => .tuple #[]) (fun s => [Fld Kstep b1 0 r]) := by
 unfold splice_step_take.f at H
 refine Spc.go Try.func29 rfl (by kernel_rfl) rfl rfl (all_cons (Val.per PSeg) all_nil) fun F a w h => ?_
 refine Go.seq ?_
 refine Go.reg ?_
 refine gs h (o_box (K := KSeg) rfl (pv_at PSeg 0 rfl)) rfl fun b2 _ _ h => ?_
 refine GoR.done ?_
 refine Go.seq ?_
 refine Go.reg ?_
 refine ga h (o_fa rfl t_f30_4 rfl rfl) rfl fun h => ?_
 have g1 := (in2 (fd_sub sSeg_Flags 0 rfl h.mem))
 refine ga h (o_lfx 0 rfl rfl sSeg_Flags rfl X_int t_y3) rfl fun h => ?_
 refine ga h (o_assign rfl) rfl fun h => ?_
 refine GoR.done ?_
 refine Go.block ?_
 refine Go.seq ?_
 refine Go.reg ?_
 refine mv h rfl rfl fun h => ?_
 refine ga h (o_bin rfl rfl rfl) rfl fun h => ?_
 refine ga h (o_bin rfl rfl rfl) rfl fun h => ?_
 obtain ⟨y1, ey1, H⟩ := ltE H
 refine ga h (o_assign' rfl (congrArg Value.bool ey1)) rfl fun h => ?_
 refine GoR.done ?_
 by_cases c1 : y1 = true
 ·have H := ifT c1 H
  refine g_t h rfl c1 ?_
  refine Go.seq ?_
  replace h := h.wq [(0, pt b1), (3, pt b2)] [Fld KSeg b2 0 a2, Val KSeg v1 a2, Fld Kstep b1 0 a1] [0, 1, 2]
  refine Go.draw (E := [(0, pt b1), (3, pt b2)]) [] (L := [Fld KSeg b2 0 a2, Val KSeg v1 a2, Fld Kstep b1 0 a1]) h rfl rfl 7 [cn (.pointer (some ⟨b2, 2, none⟩)), cm [0] [] [] (.int .u32 a2.Seq) fun u => [Ent.pur (InR .u32 a2.Seq)], cn (pt b1), ce [2] (pt b1), ce [2, 3] (pt b1), ce [2, 3, 4] (.pointer (some ⟨b1, 11, none⟩)), cm [2, 3, 4, 5] [] [] (.int .u32 a1.Conn.Want) fun u => [Ent.pur (InR .u32 a1.Conn.Want)]] rfl t_mxo (by kernel_rfl) (by rfl) ?_ fun f1 _ _ h => ?_
  ·exact ox rfl (o_fa rfl t_f30_2 rfl rfl) (ox rfl (OpS.pur (fun F w m_ => (in2 (fd_sub sSeg_Seq 0 rfl m_))) (o_lfx 0 rfl rfl sSeg_Seq rfl X_int t_y22)) (ox rfl (o_move rfl) (ox rfl (o_nilc rfl) (ox rfl (o_fa rfl t_f75_0 rfl rfl) (ox rfl (o_fa rfl t_f26_11 rfl rfl) (ox rfl (OpS.pur (fun F w m_ => (in2 (fd_sub t_sstep_Conn_Want 2 rfl m_))) (o_lfx (K := Kstep) (pr := fun x => x.Conn.Want) (y := a1) 2 rfl rfl t_sstep_Conn_Want rfl X_int t_y22)) (obs_nil)))))))
  replace h := h.wk (E' := [(0, pt b1), (12, .int .u32 a2.Seq), (17, .int .u32 a1.Conn.Want)]) (L' := [Ent.pur (InR .u32 a2.Seq), Ent.pur (InR .u32 a1.Conn.Want), Fld KSeg b2 0 a2, Val KSeg v1 a2, Fld Kstep b1 0 a1]) (by kernel_rfl) [0, 1, 2, 3, 4] (by decide) (by kernel_rfl)
  have g2 := (Mem.pur 0 rfl h.mem)
  have g3 := (Mem.pur 1 rfl h.mem)
  refine ga h (o_bin rfl rfl rfl) rfl fun h => ?_
  refine GoR.done ?_
  by_cases c2 : decide (a2.Seq = a1.Conn.Want) = true
  ·have H := ifT c2 H
   refine g_t h rfl c2 ?_
   refine Go.seq ?_
   refine Go.reg ?_
   refine mv h rfl rfl fun h => ?_
   replace h := h.mm fun m => (pv_nil (K := (Kd.int .u8))).ent m
   obtain ⟨r1, er1, H⟩ := bindE H
   refine ga h (o_call (splice_step_call.spc b1 a1 4 (show InR .i64 4 by decide) (.slice none 0 0) [] r1 er1) rfl [0] [5] (by decide) rfl rfl) rfl fun h => ?_
   refine GoR.done ?_
   refine Go.reg ?_
   refine mv h rfl rfl fun h => ?_
   refine ga h (o_nilc rfl) rfl fun h => ?_
   refine ga h (o_fa rfl t_f75_4 rfl rfl) rfl fun h => ?_
   obtain ⟨y2, ey2, H⟩ := ltE H
   refine gs0 h (o_stp (x0 := r1) (y := true) 0 t_ustep_26_1 rfl rfl rfl rfl pv_bool t_w4) fun _ _ _ h => ?_
   rw [ey2] at h
   refine GoR.done ?_
   refine Go.inBlock ?_
   rw [← som H]
   exact g_fin (vs := []) h Try.func29 trivial ⟨(), rfl, (h.mem.pick [0] (by decide) rfl)⟩
  ·have H := ifF c2 H
   refine g_f h rfl c2 ?_
   refine Go.skip ?_
   refine Go.inBlock ?_
   rw [← som H]
   exact g_fin (vs := []) h Try.func29 trivial ⟨(), rfl, (h.mem.pick [4] (by decide) rfl)⟩
 ·have H := ifF c1 H
  refine g_f h rfl c1 ?_
  refine Go.seq ?_
  refine Go.reg ?_
  refine mv h rfl rfl fun h => ?_
  refine ga h (o_nilc rfl) rfl fun h => ?_
  refine ga h (o_fa rfl t_f75_0 rfl rfl) rfl fun h => ?_
  refine ga h (o_fa rfl t_f26_5 rfl rfl) rfl fun h => ?_
  refine ga h (o_lfx 2 rfl rfl t_sstep_Conn_Opening rfl X_bool t_y4) rfl fun h => ?_
  refine ga h (o_assign rfl) rfl fun h => ?_
  refine GoR.done ?_
  by_cases c3 : a1.Conn.Opening = true
  ·have H := ifT c3 H
   refine g_t h rfl c3 ?_
   refine Go.skip ?_
   refine Go.inBlock ?_
   rw [← som H]
   exact g_fin (vs := []) h Try.func29 trivial ⟨(), rfl, (h.mem.pick [2] (by decide) rfl)⟩
  ·have H := ifF c3 H
   refine g_f h rfl c3 ?_
   refine Go.seq ?_
   replace h := h.wq [(0, pt b1), (3, pt b2), (4, .int .i64 a2.Flags)] [Fld KSeg b2 0 a2, Val KSeg v1 a2, Fld Kstep b1 0 a1] [0, 1, 2]
   obtain ⟨o1, H, G1⟩ := bindE H
   refine g_cut (fun G => ∀ j1 (a : Act) (w : World), o1 = j1 → St Try.f29.ntmps F [(0, pt b1), (3, pt b2), (4, .int .i64 a2.Flags), (30, .bool j1)] [Fld KSeg b2 0 a2, Fld Kstep b1 0 a1] a w → G a w) 1 ?_ fun J1 => ?_
   ·intro j1 a w ho_ h
    rw [ho_] at G1
    have H := G1
    by_cases c7 : j1 = true
    ·have H := ifT c7 H
     refine g_t h rfl c7 ?_
     refine Go.reg ?_
     refine mv h rfl rfl fun h => ?_
     obtain ⟨r2, er2, H⟩ := bindE H
     refine ga h (o_call (splice_step_syn.spc b1 a1 r2 er2) rfl [] [1] (by decide) rfl rfl) rfl fun h => ?_
     refine GoR.done ?_
     refine Go.inBlock ?_
     rw [← som H]
     exact g_fin (vs := []) h Try.func29 trivial ⟨(), rfl, (h.mem.pick [0] (by decide) rfl)⟩
    ·have H := ifF c7 H
     refine g_f h rfl c7 ?_
     refine Go.seq ?_
     refine Go.reg ?_
     refine mv h rfl rfl fun h => ?_
     refine ga h (o_bin rfl rfl rfl) rfl fun h => ?_
     refine ga h (o_bin rfl rfl rfl) rfl fun h => ?_
     obtain ⟨y4, ey4, H⟩ := ltE H
     refine ga h (o_assign' rfl (congrArg Value.bool ey4)) rfl fun h => ?_
     refine GoR.done ?_
     by_cases c8 : y4 = true
     ·have H := ifT c8 H
      refine g_t h rfl c8 ?_
      refine Go.reg ?_
      refine mv h rfl rfl fun h => ?_
      obtain ⟨r3, er3, H⟩ := bindE H
      refine ga h (o_call (splice_step_ack.spc b1 a1 r3 er3) rfl [] [1] (by decide) rfl rfl) rfl fun h => ?_
      refine GoR.done ?_
      refine Go.inBlock ?_
      rw [← som H]
      exact g_fin (vs := []) h Try.func29 trivial ⟨(), rfl, (h.mem.pick [0] (by decide) rfl)⟩
     ·have H := ifF c8 H
      refine g_f h rfl c8 ?_
      refine Go.seq ?_
      obtain ⟨o2, H, G2⟩ := bindE H
      refine g_cut (fun G => ∀ j2 (a : Act) (w : World), o2 = j2 → St Try.f29.ntmps F [(0, pt b1), (3, pt b2), (66, .bool j2.1)] [Fld Kstep b1 0 j2.2, Fld KSeg b2 0 a2] a w → G a w) 1 ?_ fun J2 => ?_
      ·intro j2 a w ho_ h
       rw [ho_] at G2
       have H := G2
       by_cases c10 : j2.1 = true
       ·have H := ifT c10 H
        refine g_t h rfl c10 ?_
        refine Go.reg ?_
        refine mv h rfl rfl fun h => ?_
        refine gs h (o_ldv 1 rfl rfl PSeg t_y30) rfl fun v3 _ _ h => ?_
        obtain ⟨r5, er5, H⟩ := bindE H
        refine ga h (o_call (splice_step_text.spc b1 j2.2 v3 a2 r5 er5) rfl [0] [1] (by decide) rfl rfl) rfl fun h => ?_
        refine GoR.done ?_
        refine Go.inBlock ?_
        rw [← som H]
        exact g_fin (vs := []) h Try.func29 trivial ⟨(), rfl, (h.mem.pick [0] (by decide) rfl)⟩
       ·have H := ifF c10 H
        refine g_f h rfl c10 ?_
        refine Go.skip ?_
        refine Go.inBlock ?_
        rw [← som H]
        exact g_fin (vs := []) h Try.func29 trivial ⟨(), rfl, (h.mem.pick [0] (by decide) rfl)⟩
      refine Go.reg ?_
      refine mv h rfl rfl fun h => ?_
      refine ga h (o_bin rfl rfl rfl) rfl fun h => ?_
      refine ga h (o_bin rfl rfl rfl) rfl fun h => ?_
      refine mv h rfl rfl fun h => ?_
      by_cases c9 : decide (0 < (bits .and .i64 a2.Flags 16)) = true
      ·have H := ifT c9 H
       refine gg h rfl rfl c9 (o_move rfl) rfl fun _ _ _ h => ?_
       refine gg h rfl rfl c9 (o_ldv 0 rfl rfl PSeg t_y30) rfl fun v2 _ _ h => ?_
       obtain ⟨r4, er4, H⟩ := bindE H
       refine gg h rfl rfl c9 (o_call (splice_step_acked.spc b1 a1 v2 a2 r4 er4) rfl [0] [2] (by decide) rfl rfl) rfl fun _ _ _ h => ?_
       refine ga h (o_pickT rfl rfl c9) rfl fun h => ?_
       refine ga h (o_assign rfl) rfl fun h => ?_
       refine GoR.done ?_
       exact J2 (r4.1, r4.2) _ _ (som H).symm (h.wr [0, 2])
      ·have H := ifF c9 H
       iterate 3 (refine gk h rfl rfl (nb_f c9) rfl fun _ h => ?_)
       refine ga h (o_pickF rfl rfl c9) rfl fun h => ?_
       refine ga h (o_assign rfl) rfl fun h => ?_
       refine GoR.done ?_
       exact J2 (false, a1) _ _ (som H).symm (h.wr [1, 0])
   by_cases c4 : decide (0 < (bits .and .i64 a2.Flags 2)) = true
   ·have H := ifT c4 H
    by_cases c5 : decide ((bits .and .i64 a2.Flags 16) = 0) = true
    ·have H := ifT c5 H
     by_cases c6 : (!a1.Conn.Up) = true
     ·have H := ifT c6 H
      refine Go.draw (E := [(0, pt b1), (3, pt b2), (4, .int .i64 a2.Flags)]) [] (L := [Fld KSeg b2 0 a2, Val KSeg v1 a2, Fld Kstep b1 0 a1]) h rfl rfl 25 [cn (.int .i64 a2.Flags), ce [0] (.int .i64 (bits .and .i64 a2.Flags 2)), ce [0, 1] (.bool (decide (0 < (bits .and .i64 a2.Flags 2)))), ce [0, 1, 2] (.bool (decide (0 < (bits .and .i64 a2.Flags 2)))), ce [0, 1, 2, 3] (.int .i64 a2.Flags), ce [0, 1, 2, 3, 4] (.int .i64 (bits .and .i64 a2.Flags 16)), ce [0, 1, 2, 3, 4, 5] (.bool (decide ((bits .and .i64 a2.Flags 16) = 0))), ce [0, 1, 2, 3, 4, 5, 6] (.bool (decide ((bits .and .i64 a2.Flags 16) = 0))), ce [0, 1, 2, 3, 4, 5, 6, 7] (.bool (decide ((bits .and .i64 a2.Flags 16) = 0))), ce [0, 1, 2, 3, 4, 5, 6, 7, 8] (pt b1), ce [0, 1, 2, 3, 4, 5, 6, 7, 8, 9] (pt b1), ce [0, 1, 2, 3, 4, 5, 6, 7, 8, 9, 10] (pt b1), ce [0, 1, 2, 3, 4, 5, 6, 7, 8, 9, 10, 11] (.pointer (some ⟨b1, 6, none⟩)), ce [0, 1, 2, 3, 4, 5, 6, 7, 8, 9, 10, 11, 12] (.bool a1.Conn.Up), ce [0, 1, 2, 3, 4, 5, 6, 7, 8, 9, 10, 11, 12, 13] (.bool (!a1.Conn.Up)), ce [0, 1, 2, 3, 4, 5, 6, 7, 8, 9, 10, 11, 12, 13, 14] (.bool (!a1.Conn.Up)), ce [0, 1, 2, 3, 4, 5, 6, 7, 8, 9, 10, 11, 12, 13, 14, 15] (.bool (!a1.Conn.Up)), ce [0, 1, 2, 3, 4, 5, 6, 7, 8, 9, 10, 11, 12, 13, 14, 15, 16] (.pointer (some ⟨b2, 2, none⟩)), cm [0, 1, 2, 3, 4, 5, 6, 7, 8, 9, 10, 11, 12, 13, 14, 15, 16, 17] [] [] (.int .u32 a2.Seq) fun u => [Ent.pur (InR .u32 a2.Seq)], ce [0, 1, 2, 3, 4, 5, 6, 7, 8, 9, 10, 11, 12, 13, 14, 15, 16, 17, 18] (.int .u32 (IntKind.u32.wrap (a2.Seq + 1))), ce [0, 1, 2, 3, 4, 5, 6, 7, 8, 9, 10, 11, 12, 13, 14, 15, 16] (pt b1), ce [0, 1, 2, 3, 4, 5, 6, 7, 8, 9, 10, 11, 12, 13, 14, 15, 16, 20] (pt b1), ce [0, 1, 2, 3, 4, 5, 6, 7, 8, 9, 10, 11, 12, 13, 14, 15, 16, 20, 21] (pt b1), ce [0, 1, 2, 3, 4, 5, 6, 7, 8, 9, 10, 11, 12, 13, 14, 15, 16, 20, 21, 22] (.pointer (some ⟨b1, 11, none⟩)), cm [0, 1, 2, 3, 4, 5, 6, 7, 8, 9, 10, 11, 12, 13, 14, 15, 16, 20, 21, 22, 23] [] [] (.int .u32 a1.Conn.Want) fun u => [Ent.pur (InR .u32 a1.Conn.Want)]] rfl t_mxo (by kernel_rfl) (by rfl) ?_ fun f2 _ _ h => ?_
      ·exact ox rfl (o_move rfl) (ox rfl (o_bin rfl rfl rfl) (ox rfl (o_bin rfl rfl rfl) (ox rfl (o_move rfl) (og rfl rfl (fun _ => rfl) c4 (o_move rfl) (og rfl rfl (fun _ => rfl) c4 (o_bin rfl rfl rfl) (og rfl rfl (fun _ => rfl) c4 (o_bin rfl rfl rfl) (ox rfl (o_pickT rfl rfl c4) (ox rfl (o_move rfl) (og rfl rfl (fun _ => rfl) c5 (o_move rfl) (og rfl rfl (fun _ => rfl) c5 (o_nilc rfl) (og rfl rfl (fun _ => rfl) c5 (o_fa rfl t_f75_0 rfl rfl) (og rfl rfl (fun _ => rfl) c5 (o_fa rfl t_f26_6 rfl rfl) (og rfl rfl (fun _ => rfl) c5 (o_lfx (K := Kstep) (pr := fun x => x.Conn.Up) (y := a1) 2 rfl rfl t_sstep_Conn_Up rfl X_bool t_y4) (og rfl rfl (fun _ => rfl) c5 (o_not rfl) (ox rfl (o_pickT rfl rfl c5) (ox rfl (o_move rfl) (og rfl rfl (fun _ => rfl) c6 (o_fa rfl t_f30_2 rfl rfl) (og rfl rfl (fun _ => rfl) c6 (OpS.pur (fun F w m_ => (in2 (fd_sub sSeg_Seq 0 rfl m_))) (o_lfx 0 rfl rfl sSeg_Seq rfl X_int t_y22)) (og rfl rfl (fun _ => rfl) c6 (o_bin rfl rfl rfl) (og rfl rfl (fun _ => rfl) c6 (o_move rfl) (og rfl rfl (fun _ => rfl) c6 (o_nilc rfl) (og rfl rfl (fun _ => rfl) c6 (o_fa rfl t_f75_0 rfl rfl) (og rfl rfl (fun _ => rfl) c6 (o_fa rfl t_f26_11 rfl rfl) (og rfl rfl (fun _ => rfl) c6 (OpS.pur (fun F w m_ => (in2 (fd_sub t_sstep_Conn_Want 2 rfl m_))) (o_lfx (K := Kstep) (pr := fun x => x.Conn.Want) (y := a1) 2 rfl rfl t_sstep_Conn_Want rfl X_int t_y22)) (obs_nil)))))))))))))))))))))))))
      replace h := h.wk (E' := [(0, pt b1), (3, pt b2), (4, .int .i64 a2.Flags), (47, .bool (!a1.Conn.Up)), (50, .int .u32 (IntKind.u32.wrap (a2.Seq + 1))), (55, .int .u32 a1.Conn.Want)]) (L' := [Ent.pur (InR .u32 a2.Seq), Ent.pur (InR .u32 a1.Conn.Want), Fld KSeg b2 0 a2, Val KSeg v1 a2, Fld Kstep b1 0 a1]) (by kernel_rfl) [0, 1, 2, 3, 4] (by decide) (by kernel_rfl)
      have g4 := (Mem.pur 1 rfl h.mem)
      refine gg h rfl rfl c6 (o_bin rfl rfl rfl) rfl fun _ _ _ h => ?_
      refine ga h (o_pickT rfl rfl c6) rfl fun h => ?_
      obtain ⟨y3, ey3, H⟩ := ltE H
      refine ga h (o_assign' rfl (congrArg Value.bool ey3)) rfl fun h => ?_
      refine GoR.done ?_
      exact J1 y3 _ _ (som H).symm (h.wr [2, 4])
     ·have H := ifF c6 H
      refine Go.draw (E := [(0, pt b1), (3, pt b2), (4, .int .i64 a2.Flags)]) [] (L := [Fld KSeg b2 0 a2, Val KSeg v1 a2, Fld Kstep b1 0 a1]) h rfl rfl 25 [cn (.int .i64 a2.Flags), ce [0] (.int .i64 (bits .and .i64 a2.Flags 2)), ce [0, 1] (.bool (decide (0 < (bits .and .i64 a2.Flags 2)))), ce [0, 1, 2] (.bool (decide (0 < (bits .and .i64 a2.Flags 2)))), ce [0, 1, 2, 3] (.int .i64 a2.Flags), ce [0, 1, 2, 3, 4] (.int .i64 (bits .and .i64 a2.Flags 16)), ce [0, 1, 2, 3, 4, 5] (.bool (decide ((bits .and .i64 a2.Flags 16) = 0))), ce [0, 1, 2, 3, 4, 5, 6] (.bool (decide ((bits .and .i64 a2.Flags 16) = 0))), ce [0, 1, 2, 3, 4, 5, 6, 7] (.bool (decide ((bits .and .i64 a2.Flags 16) = 0))), ce [0, 1, 2, 3, 4, 5, 6, 7, 8] (pt b1), ce [0, 1, 2, 3, 4, 5, 6, 7, 8, 9] (pt b1), ce [0, 1, 2, 3, 4, 5, 6, 7, 8, 9, 10] (pt b1), ce [0, 1, 2, 3, 4, 5, 6, 7, 8, 9, 10, 11] (.pointer (some ⟨b1, 6, none⟩)), ce [0, 1, 2, 3, 4, 5, 6, 7, 8, 9, 10, 11, 12] (.bool a1.Conn.Up), ce [0, 1, 2, 3, 4, 5, 6, 7, 8, 9, 10, 11, 12, 13] (.bool (!a1.Conn.Up)), ce [0, 1, 2, 3, 4, 5, 6, 7, 8, 9, 10, 11, 12, 13, 14] (.bool (!a1.Conn.Up)), ce [0, 1, 2, 3, 4, 5, 6, 7, 8, 9, 10, 11, 12, 13, 14, 15] (.bool (!a1.Conn.Up)), ⟨[16], [], [], true, .con undef, none, fun u => [], []⟩, ⟨[16], [], [], true, .con undef, none, fun u => [], []⟩, ⟨[16], [], [], true, .con undef, none, fun u => [], []⟩, ⟨[16], [], [], true, .con undef, none, fun u => [], []⟩, ⟨[16], [], [], true, .con undef, none, fun u => [], []⟩, ⟨[16], [], [], true, .con undef, none, fun u => [], []⟩, ⟨[16], [], [], true, .con undef, none, fun u => [], []⟩, ⟨[16], [], [], true, .con undef, none, fun u => [], []⟩] rfl t_mxo (by kernel_rfl) (by rfl) ?_ fun f2 _ _ h => ?_
      ·exact ox rfl (o_move rfl) (ox rfl (o_bin rfl rfl rfl) (ox rfl (o_bin rfl rfl rfl) (ox rfl (o_move rfl) (og rfl rfl (fun _ => rfl) c4 (o_move rfl) (og rfl rfl (fun _ => rfl) c4 (o_bin rfl rfl rfl) (og rfl rfl (fun _ => rfl) c4 (o_bin rfl rfl rfl) (ox rfl (o_pickT rfl rfl c4) (ox rfl (o_move rfl) (og rfl rfl (fun _ => rfl) c5 (o_move rfl) (og rfl rfl (fun _ => rfl) c5 (o_nilc rfl) (og rfl rfl (fun _ => rfl) c5 (o_fa rfl t_f75_0 rfl rfl) (og rfl rfl (fun _ => rfl) c5 (o_fa rfl t_f26_6 rfl rfl) (og rfl rfl (fun _ => rfl) c5 (o_lfx (K := Kstep) (pr := fun x => x.Conn.Up) (y := a1) 2 rfl rfl t_sstep_Conn_Up rfl X_bool t_y4) (og rfl rfl (fun _ => rfl) c5 (o_not rfl) (ox rfl (o_pickT rfl rfl c5) (ox rfl (o_move rfl) (oj rfl rfl (fun _ => rfl) (nb_f c6) (oj rfl rfl (fun _ => rfl) (nb_f c6) (oj rfl rfl (fun _ => rfl) (nb_f c6) (oj rfl rfl (fun _ => rfl) (nb_f c6) (oj rfl rfl (fun _ => rfl) (nb_f c6) (oj rfl rfl (fun _ => rfl) (nb_f c6) (oj rfl rfl (fun _ => rfl) (nb_f c6) (oj rfl rfl (fun _ => rfl) (nb_f c6) (obs_nil)))))))))))))))))))))))))
      replace h := h.wk (E' := [(0, pt b1), (3, pt b2), (4, .int .i64 a2.Flags), (47, .bool (!a1.Conn.Up))]) (L' := [Fld KSeg b2 0 a2, Val KSeg v1 a2, Fld Kstep b1 0 a1]) (by kernel_rfl) [0, 1, 2] (by decide) (by kernel_rfl)
      refine gk h rfl rfl (nb_f c6) rfl fun _ h => ?_
      refine ga h (o_pickF rfl rfl c6) rfl fun h => ?_
      refine ga h (o_assign rfl) rfl fun h => ?_
      refine GoR.done ?_
      exact J1 false _ _ (som H).symm (h.wr [0, 2])
    ·have H := ifF c5 H
     refine Go.draw (E := [(0, pt b1), (3, pt b2), (4, .int .i64 a2.Flags)]) [] (L := [Fld KSeg b2 0 a2, Val KSeg v1 a2, Fld Kstep b1 0 a1]) h rfl rfl 25 [cn (.int .i64 a2.Flags), ce [0] (.int .i64 (bits .and .i64 a2.Flags 2)), ce [0, 1] (.bool (decide (0 < (bits .and .i64 a2.Flags 2)))), ce [0, 1, 2] (.bool (decide (0 < (bits .and .i64 a2.Flags 2)))), ce [0, 1, 2, 3] (.int .i64 a2.Flags), ce [0, 1, 2, 3, 4] (.int .i64 (bits .and .i64 a2.Flags 16)), ce [0, 1, 2, 3, 4, 5] (.bool (decide ((bits .and .i64 a2.Flags 16) = 0))), ce [0, 1, 2, 3, 4, 5, 6] (.bool (decide ((bits .and .i64 a2.Flags 16) = 0))), ce [0, 1, 2, 3, 4, 5, 6, 7] (.bool (decide ((bits .and .i64 a2.Flags 16) = 0))), ⟨[8], [], [], true, .con undef, none, fun u => [], []⟩, ⟨[8], [], [], true, .con undef, none, fun u => [], []⟩, ⟨[8], [], [], true, .con undef, none, fun u => [], []⟩, ⟨[8], [], [], true, .con undef, none, fun u => [], []⟩, ⟨[8], [], [], true, .con undef, none, fun u => [], []⟩, ⟨[8], [], [], true, .con undef, none, fun u => [], []⟩, ce [0, 1, 2, 3, 4, 5, 6, 7, 8, 9, 10, 11, 12, 13, 14] (.bool false), ce [0, 1, 2, 3, 4, 5, 6, 7, 8, 9, 10, 11, 12, 13, 14, 15] (.bool false), ⟨[16], [], [], true, .con undef, none, fun u => [], []⟩, ⟨[16], [], [], true, .con undef, none, fun u => [], []⟩, ⟨[16], [], [], true, .con undef, none, fun u => [], []⟩, ⟨[16], [], [], true, .con undef, none, fun u => [], []⟩, ⟨[16], [], [], true, .con undef, none, fun u => [], []⟩, ⟨[16], [], [], true, .con undef, none, fun u => [], []⟩, ⟨[16], [], [], true, .con undef, none, fun u => [], []⟩, ⟨[16], [], [], true, .con undef, none, fun u => [], []⟩] rfl t_mxo (by kernel_rfl) (by rfl) ?_ fun f2 _ _ h => ?_
     ·exact ox rfl (o_move rfl) (ox rfl (o_bin rfl rfl rfl) (ox rfl (o_bin rfl rfl rfl) (ox rfl (o_move rfl) (og rfl rfl (fun _ => rfl) c4 (o_move rfl) (og rfl rfl (fun _ => rfl) c4 (o_bin rfl rfl rfl) (og rfl rfl (fun _ => rfl) c4 (o_bin rfl rfl rfl) (ox rfl (o_pickT rfl rfl c4) (ox rfl (o_move rfl) (oj rfl rfl (fun _ => rfl) (nb_f c5) (oj rfl rfl (fun _ => rfl) (nb_f c5) (oj rfl rfl (fun _ => rfl) (nb_f c5) (oj rfl rfl (fun _ => rfl) (nb_f c5) (oj rfl rfl (fun _ => rfl) (nb_f c5) (oj rfl rfl (fun _ => rfl) (nb_f c5) (ox rfl (o_pickF rfl rfl c5) (ox rfl (o_move rfl) (obs_cons (ob_skip rfl rfl rfl rfl (fun _ => rfl) (nb_f Bool.false_ne_true) rfl rfl rfl rfl) (obs_cons (ob_skip rfl rfl rfl rfl (fun _ => rfl) (nb_f Bool.false_ne_true) rfl rfl rfl rfl) (obs_cons (ob_skip rfl rfl rfl rfl (fun _ => rfl) (nb_f Bool.false_ne_true) rfl rfl rfl rfl) (obs_cons (ob_skip rfl rfl rfl rfl (fun _ => rfl) (nb_f Bool.false_ne_true) rfl rfl rfl rfl) (obs_cons (ob_skip rfl rfl rfl rfl (fun _ => rfl) (nb_f Bool.false_ne_true) rfl rfl rfl rfl) (obs_cons (ob_skip rfl rfl rfl rfl (fun _ => rfl) (nb_f Bool.false_ne_true) rfl rfl rfl rfl) (obs_cons (ob_skip rfl rfl rfl rfl (fun _ => rfl) (nb_f Bool.false_ne_true) rfl rfl rfl rfl) (obs_cons (ob_skip rfl rfl rfl rfl (fun _ => rfl) (nb_f Bool.false_ne_true) rfl rfl rfl rfl) (obs_nil)))))))))))))))))))))))))
     replace h := h.wk (E' := [(0, pt b1), (3, pt b2), (4, .int .i64 a2.Flags), (47, .bool false)]) (L' := [Fld KSeg b2 0 a2, Val KSeg v1 a2, Fld Kstep b1 0 a1]) (by kernel_rfl) [0, 1, 2] (by decide) (by kernel_rfl)
     refine gk h rfl rfl (nb_f Bool.false_ne_true) rfl fun _ h => ?_
     refine ga h (o_pickF rfl rfl Bool.false_ne_true) rfl fun h => ?_
     refine ga h (o_assign rfl) rfl fun h => ?_
     refine GoR.done ?_
     exact J1 false _ _ (som H).symm (h.wr [0, 2])
   ·have H := ifF c4 H
    refine Go.draw (E := [(0, pt b1), (3, pt b2), (4, .int .i64 a2.Flags)]) [] (L := [Fld KSeg b2 0 a2, Val KSeg v1 a2, Fld Kstep b1 0 a1]) h rfl rfl 25 [cn (.int .i64 a2.Flags), ce [0] (.int .i64 (bits .and .i64 a2.Flags 2)), ce [0, 1] (.bool (decide (0 < (bits .and .i64 a2.Flags 2)))), ce [0, 1, 2] (.bool (decide (0 < (bits .and .i64 a2.Flags 2)))), ⟨[3], [], [], true, .con undef, none, fun u => [], []⟩, ⟨[3], [], [], true, .con undef, none, fun u => [], []⟩, ⟨[3], [], [], true, .con undef, none, fun u => [], []⟩, ce [0, 1, 2, 3, 4, 5, 6] (.bool false), ce [0, 1, 2, 3, 4, 5, 6, 7] (.bool false), ⟨[8], [], [], true, .con undef, none, fun u => [], []⟩, ⟨[8], [], [], true, .con undef, none, fun u => [], []⟩, ⟨[8], [], [], true, .con undef, none, fun u => [], []⟩, ⟨[8], [], [], true, .con undef, none, fun u => [], []⟩, ⟨[8], [], [], true, .con undef, none, fun u => [], []⟩, ⟨[8], [], [], true, .con undef, none, fun u => [], []⟩, ce [0, 1, 2, 3, 4, 5, 6, 7, 8, 9, 10, 11, 12, 13, 14] (.bool false), ce [0, 1, 2, 3, 4, 5, 6, 7, 8, 9, 10, 11, 12, 13, 14, 15] (.bool false), ⟨[16], [], [], true, .con undef, none, fun u => [], []⟩, ⟨[16], [], [], true, .con undef, none, fun u => [], []⟩, ⟨[16], [], [], true, .con undef, none, fun u => [], []⟩, ⟨[16], [], [], true, .con undef, none, fun u => [], []⟩, ⟨[16], [], [], true, .con undef, none, fun u => [], []⟩, ⟨[16], [], [], true, .con undef, none, fun u => [], []⟩, ⟨[16], [], [], true, .con undef, none, fun u => [], []⟩, ⟨[16], [], [], true, .con undef, none, fun u => [], []⟩] rfl t_mxo (by kernel_rfl) (by rfl) ?_ fun f2 _ _ h => ?_
    ·exact ox rfl (o_move rfl) (ox rfl (o_bin rfl rfl rfl) (ox rfl (o_bin rfl rfl rfl) (ox rfl (o_move rfl) (oj rfl rfl (fun _ => rfl) (nb_f c4) (oj rfl rfl (fun _ => rfl) (nb_f c4) (oj rfl rfl (fun _ => rfl) (nb_f c4) (ox rfl (o_pickF rfl rfl c4) (ox rfl (o_move rfl) (obs_cons (ob_skip rfl rfl rfl rfl (fun _ => rfl) (nb_f Bool.false_ne_true) rfl rfl rfl rfl) (obs_cons (ob_skip rfl rfl rfl rfl (fun _ => rfl) (nb_f Bool.false_ne_true) rfl rfl rfl rfl) (obs_cons (ob_skip rfl rfl rfl rfl (fun _ => rfl) (nb_f Bool.false_ne_true) rfl rfl rfl rfl) (obs_cons (ob_skip rfl rfl rfl rfl (fun _ => rfl) (nb_f Bool.false_ne_true) rfl rfl rfl rfl) (obs_cons (ob_skip rfl rfl rfl rfl (fun _ => rfl) (nb_f Bool.false_ne_true) rfl rfl rfl rfl) (obs_cons (ob_skip rfl rfl rfl rfl (fun _ => rfl) (nb_f Bool.false_ne_true) rfl rfl rfl rfl) (ox rfl (o_pickF rfl rfl Bool.false_ne_true) (ox rfl (o_move rfl) (obs_cons (ob_skip rfl rfl rfl rfl (fun _ => rfl) (nb_f Bool.false_ne_true) rfl rfl rfl rfl) (obs_cons (ob_skip rfl rfl rfl rfl (fun _ => rfl) (nb_f Bool.false_ne_true) rfl rfl rfl rfl) (obs_cons (ob_skip rfl rfl rfl rfl (fun _ => rfl) (nb_f Bool.false_ne_true) rfl rfl rfl rfl) (obs_cons (ob_skip rfl rfl rfl rfl (fun _ => rfl) (nb_f Bool.false_ne_true) rfl rfl rfl rfl) (obs_cons (ob_skip rfl rfl rfl rfl (fun _ => rfl) (nb_f Bool.false_ne_true) rfl rfl rfl rfl) (obs_cons (ob_skip rfl rfl rfl rfl (fun _ => rfl) (nb_f Bool.false_ne_true) rfl rfl rfl rfl) (obs_cons (ob_skip rfl rfl rfl rfl (fun _ => rfl) (nb_f Bool.false_ne_true) rfl rfl rfl rfl) (obs_cons (ob_skip rfl rfl rfl rfl (fun _ => rfl) (nb_f Bool.false_ne_true) rfl rfl rfl rfl) (obs_nil)))))))))))))))))))))))))
    replace h := h.wk (E' := [(0, pt b1), (3, pt b2), (4, .int .i64 a2.Flags), (47, .bool false)]) (L' := [Fld KSeg b2 0 a2, Val KSeg v1 a2, Fld Kstep b1 0 a1]) (by kernel_rfl) [0, 1, 2] (by decide) (by kernel_rfl)
    refine gk h rfl rfl (nb_f Bool.false_ne_true) rfl fun _ h => ?_
    refine ga h (o_pickF rfl rfl Bool.false_ne_true) rfl fun h => ?_
    refine ga h (o_assign rfl) rfl fun h => ?_
    refine GoR.done ?_
    exact J1 false _ _ (som H).symm (h.wr [0, 2])
def splice_step_take.g (k_ : Nat) (a1 : Tstep) (a2 : TSeg) : Option (Tstep) :=
  lt (decide (0 < (bits .and .i64 a2.Flags 4))) fun y1 => (if y1 = true then (if decide (a2.Seq = a1.Conn.Want) = true then (splice_step_call.g k_ a1 4 []).bind fun r1 => lt (⟨r1.Conn, r1.now, r1.segs, r1.calls, true⟩ : Tstep) fun y2 => some (y2) else some (a1)) else (if a1.Conn.Opening = true then some (a1) else ((if decide (0 < (bits .and .i64 a2.Flags 2)) = true then (if decide ((bits .and .i64 a2.Flags 16) = 0) = true then (if (!a1.Conn.Up) = true then lt (decide ((IntKind.u32.wrap (a2.Seq + 1)) = a1.Conn.Want)) fun y3 => some (y3) else some (false)) else some (false)) else some (false))).bind (fun j1 => (if j1 = true then (splice_step_syn.g k_ a1).bind fun r2 => some (r2) else lt (decide (0 < (bits .and .i64 a2.Flags 2))) fun y4 => (if y4 = true then (splice_step_ack.g k_ a1).bind fun r3 => some (r3) else ((if decide (0 < (bits .and .i64 a2.Flags 16)) = true then (splice_step_acked.g k_ a1 a2).bind fun r4 => some ((r4.1, r4.2)) else some ((false, a1)))).bind (fun j2 => (if j2.1 = true then (splice_step_text.g k_ j2.2 a2).bind fun r5 => some (r5) else some (j2.2))))))))
theorem splice_step_take.le (k_ : Nat) (a1 : Tstep) (a2 : TSeg) : Le (splice_step_take.g k_ a1 a2) (splice_step_take.f a1 a2) := by
 unfold splice_step_take.g splice_step_take.f
 repeat' (first | with_reducible refine le_loop fun _ => ?_ | with_reducible refine le_bind ?_ fun _ => ?_ | with_reducible refine le_ite ?_ ?_ | with_reducible refine le_lt fun _ => ?_ | with_reducible refine le_elim (fun _ => ?_) (fun _ => ?_) _ | with_reducible apply splice_step_ack.le | with_reducible apply splice_step_acked.le | with_reducible apply splice_step_call.le | with_reducible apply splice_step_syn.le | with_reducible apply splice_step_text.le | with_reducible exact le_refl _)
/-! drawbridge/splice.Take -/
noncomputable def splice_Take.f (a1 : TConn) (a2 : Int) (a3 : TSeg) : Option (TConn × (List TSeg) × (List TCall) × Bool) :=
  (splice_begin.f a1 a2).bind fun r1 => (seg_Put.f a3 0 0).bind fun r2 => ((if (!decide (r2.2 = 0)) = true then some (true) else some ((!r1.2)))).bind (fun j1 => (if j1 = true then some ((a1, [], [], false)) else (r1.1).bind fun y1 => (splice_step_take.f y1 a3).bind fun r3 => some ((r3.Conn, r3.segs, r3.calls, r3.gone))))
set_option maxRecDepth 100000 in
set_option maxHeartbeats 4000000 in
theorem splice_Take.spc (v1 : Value) (a1 : TConn) (a2 : Int) (ha2 : InR .i64 a2) (v2 : Value) (a3 : TSeg) (r : TConn × (List TSeg) × (List TCall) × Bool) (H : splice_Take.f a1 a2 a3 = some r) : Spc Try.prog 12 [v1, .int .i64 a2, v2] [Val KConn v1 a1, Val KSeg v2 a3] [] (fun (s : Value × Value × Value) => .tuple #[s.1, s.2.1, s.2.2, .bool r.2.2.2]) (fun s => [Val KConn s.1 r.1, Val (Kd.osl KSeg) s.2.1 r.2.1, Val (Kd.osl KCall) s.2.2 r.2.2.1]) := by
 unfold splice_Take.f at H
 refine Spc.go Try.func12 rfl (by kernel_rfl) rfl rfl (all_cons (Val.per PConn) (all_cons (Val.per PSeg) all_nil)) fun F a w h => ?_
 refine Go.seq ?_
 refine Go.reg ?_
 refine gs h (o_box (K := KConn) rfl (pv_at PConn 0 rfl)) rfl fun b1 _ _ h => ?_
 refine gs h (o_box (K := KSeg) rfl (pv_at PSeg 2 rfl)) rfl fun b2 _ _ h => ?_
 refine gs h (o_alloc (K := KConn) (z := (.agg #[.int .i64 0, .int .u32 0, .int .i64 0, .int .u32 0, .int .i64 0, .bool false, .bool false, .bool false, .int .u32 0, .int .u32 0, .int .u32 0, .int .u32 0, .int .i64 0, .int .i64 0, .slice none 0 0, .slice none 0 0, .slice none 0 0, .bool false, .bool false, .bool false, .int .i64 0, .int .i64 0, .int .i64 0])) rfl ZConn) rfl fun b3 _ _ h => ?_
 iterate 3 (refine ga h (o_assign rfl) rfl fun h => ?_)
 refine GoR.done ?_
 refine Go.seq ?_
 refine Go.reg ?_
 refine gs h (o_ldv 2 rfl rfl PConn t_y26) rfl fun v3 _ _ h => ?_
 refine mv h rfl rfl fun h => ?_
 obtain ⟨r1, er1, H⟩ := bindE H
 refine gs h (o_call (splice_begin.spc v3 a1 a2 ha2 r1 er1) rfl [0] [] (by decide) rfl rfl) rfl fun v4 _ _ h => ?_
 refine mv h rfl rfl fun h => ?_
 refine ga h (o_extract rfl rfl) rfl fun h => ?_
 refine ga h (o_extract rfl rfl) rfl fun h => ?_
 refine ga h (o_assign rfl) rfl fun h => ?_
 refine ga h (o_assign rfl) rfl fun h => ?_
 refine GoR.done ?_
 refine Go.seq ?_
 refine Go.seq ?_
 refine Go.reg ?_
 refine gs h (o_ldv 3 rfl rfl PSeg t_y30) rfl fun v5 _ _ h => ?_
 obtain ⟨r2, er2, H⟩ := bindE H
 refine gs h (o_call (seg_Put.spc v5 a3 0 (show InR .u32 0 by decide) 0 (show InR .u32 0 by decide) r2 er2) rfl [0] [] (by decide) rfl rfl) rfl fun v6 _ _ h => ?_
 have g1 := h.mem.pur 0 rfl
 refine mv h rfl rfl fun h => ?_
 refine ga h (o_extract rfl rfl) rfl fun h => ?_
 refine ga h (o_extract rfl rfl) rfl fun h => ?_
 refine ga h (o_assign rfl) rfl fun h => ?_
 refine ga h (o_assign rfl) rfl fun h => ?_
 refine GoR.done ?_
 refine Go.seq ?_
 obtain ⟨o1, H, G1⟩ := bindE H
 refine g_cut (fun G => ∀ j1 (a : Act) (w : World), o1 = j1 → St Try.f12.ntmps F [(3, pt b1), (5, pt b2), (6, pt b3), (10, v4), (30, .bool j1)] [Val (Kd.obx Kstep) v4 r1.1, Fld KConn b3 0 zConn, Fld KSeg b2 0 a3, Fld KConn b1 0 a1] a w → G a w) 1 ?_ fun J1 => ?_
 ·intro j1 a w ho_ h
  rw [ho_] at G1
  have H := G1
  by_cases c2 : j1 = true
  ·have H := ifT c2 H
   refine g_t h rfl c2 ?_
   refine Go.seq ?_
   refine Go.reg ?_
   refine gs h (o_ldv 3 rfl rfl PConn t_y26) rfl fun v7 _ _ h => ?_
   refine gs0 h (o_st 2 rfl rfl rfl (pv_at PConn 0 rfl) rfl t_w26) fun _ _ _ h => ?_
   iterate 3 (refine ga h (o_assign rfl) rfl fun h => ?_)
   refine GoR.done ?_
   obtain ⟨v8, h, u1⟩ := h.peek 2 rfl PConn t_y26
   replace h := h.mm fun m => m.nilo KSeg
   replace h := h.mm fun m => m.nilo KCall
   rw [← som H]
   exact g_ret (vs := [v8, .slice none 0 0, .slice none 0 0, .bool false]) h Try.func12 ⟨⟨_, rfl, u1⟩, ⟨rfl, ⟨rfl, ⟨rfl, trivial⟩⟩⟩⟩ ⟨(v8, .slice none 0 0, .slice none 0 0), rfl, (h.mem.pick [2, 1, 0] (by decide) rfl)⟩
  ·have H := ifF c2 H
   refine g_f h rfl c2 ?_
   refine Go.skip ?_
   refine Go.seq ?_
   obtain ⟨y1, ey1, H⟩ := bindE H
   obtain ⟨b4, eb4, h⟩ := h.unb 0 rfl ey1
   subst eb4
   refine Go.reg ?_
   refine mv h rfl rfl fun h => ?_
   refine gs h (o_ldv 2 rfl rfl PSeg t_y30) rfl fun v9 _ _ h => ?_
   obtain ⟨r3, er3, H⟩ := bindE H
   refine ga h (o_call (splice_step_take.spc b4 y1 v9 a3 r3 er3) rfl [0] [1] (by decide) rfl rfl) rfl fun h => ?_
   refine GoR.done ?_
   refine Go.seq ?_
   replace h := h.mm fun m => (m.take (i := 0) rfl).opn (cstep _ _)
   obtain ⟨v11, h⟩ := h.unp 2 rfl
   obtain ⟨v12, h⟩ := h.unp 4 rfl
   replace h := h.wq [(6, pt b3), (10, pt b4)] [Fld KConn b3 0 zConn, Fld (Kd.eq v12) b4 25 (), Fld (Kd.eq v11) b4 24 (), Fld KConn b4 0 r3.Conn, Fld (Kd.int .i64) b4 23 r3.now, Val (Kd.osl KSeg) v11 r3.segs, Val (Kd.osl KCall) v12 r3.calls, Fld Kd.bool b4 26 r3.gone, Val KSeg v9 a3, Fld KSeg b2 0 a3, Fld KConn b1 0 a1] [10, 0, 1, 2, 3, 4, 5, 6, 8, 11, 12]
   refine Go.draw (E := [(6, pt b3), (10, pt b4)]) [] (L := [Fld (Kd.eq v12) b4 25 (), Fld (Kd.eq v11) b4 24 (), Fld KConn b4 0 r3.Conn, Fld (Kd.int .i64) b4 23 r3.now, Val (Kd.osl KSeg) v11 r3.segs, Val (Kd.osl KCall) v12 r3.calls, Fld Kd.bool b4 26 r3.gone, Val KSeg v9 a3, Fld KSeg b2 0 a3, Fld KConn b1 0 a1]) h rfl rfl 19 [cn (pt b4), ce [0] (pt b4), ce [0, 1] (pt b4), cw [0, 1, 2] [] [] fun u => [Val KConn u r3.Conn], cn (pt b4), ce [4] (pt b4), ce [4, 5] (.pointer (some ⟨b4, 24, none⟩)), ce [4, 5, 6] (v11), cn (pt b4), ce [8] (pt b4), ce [8, 9] (.pointer (some ⟨b4, 25, none⟩)), ce [8, 9, 10] (v12), cn (pt b4), ce [12] (pt b4), ce [12, 13] (.pointer (some ⟨b4, 26, none⟩)), ce [12, 13, 14] (.bool r3.gone), cm [0, 1, 2, 3] [19, 3] [19] (undef) fun u => [Fld KConn b3 0 r3.Conn], ce [0, 1, 2, 3, 4, 5, 6, 7, 16] (v11), ce [0, 1, 2, 3, 8, 9, 10, 11, 16] (v12), cm [] [] [] undef fun u => [Fld KConn b3 0 zConn]] rfl t_mxo (by kernel_rfl) (by rfl) ?_ fun f2 _ _ h => ?_
   ·exact ox rfl (o_move rfl) (ox rfl (o_nilc rfl) (ox rfl (o_fa rfl t_f75_0 rfl rfl) (oy rfl (o_ldv 2 rfl rfl PConn t_y26) (ox rfl (o_move rfl) (ox rfl (o_nilc rfl) (ox rfl (o_fa rfl t_f75_2 rfl rfl) (ox rfl (o_ldx 1 rfl rfl X_eq t_y31) (ox rfl (o_move rfl) (ox rfl (o_nilc rfl) (ox rfl (o_fa rfl t_f75_3 rfl rfl) (ox rfl (o_ldx 0 rfl rfl X_eq t_y32) (ox rfl (o_move rfl) (ox rfl (o_nilc rfl) (ox rfl (o_fa rfl t_f75_4 rfl rfl) (ox rfl (o_ldx 6 rfl rfl X_bool t_y4) (ox rfl (o_st 0 rfl rfl rfl (pv_at PConn 1 rfl) rfl t_w26) (ox rfl (o_assign rfl) (ox rfl (o_assign rfl) (obs_nil)))))))))))))))))))
   replace h := h.wk (E' := [(6, pt b3), (50, .bool r3.gone), (7, v11), (8, v12)]) (L' := [Val KConn (f2 3) r3.Conn, Fld KConn b3 0 r3.Conn, Fld (Kd.eq v12) b4 25 (), Fld (Kd.eq v11) b4 24 (), Fld KConn b4 0 r3.Conn, Fld (Kd.int .i64) b4 23 r3.now, Val (Kd.osl KSeg) v11 r3.segs, Val (Kd.osl KCall) v12 r3.calls, Fld Kd.bool b4 26 r3.gone, Val KSeg v9 a3, Fld KSeg b2 0 a3, Fld KConn b1 0 a1]) (by kernel_rfl) [0, 1, 2, 3, 4, 5, 6, 7, 8, 9, 10, 11] (by decide) (by kernel_rfl)
   refine ga h (o_assign rfl) rfl fun h => ?_
   refine GoR.done ?_
   obtain ⟨v14, h, u2⟩ := h.peek 1 rfl PConn t_y26
   rw [← som H]
   exact g_ret (vs := [v14, v11, v12, .bool r3.gone]) h Try.func12 ⟨⟨_, rfl, u2⟩, ⟨rfl, ⟨rfl, ⟨rfl, trivial⟩⟩⟩⟩ ⟨(v14, v11, v12), rfl, (h.mem.pick [0, 7, 8] (by decide) rfl)⟩
 refine Go.reg ?_
 refine mv h rfl rfl fun h => ?_
 refine ga h (o_bin rfl rfl rfl) rfl fun h => ?_
 refine mv h rfl rfl fun h => ?_
 by_cases c1 : (!decide (r2.2 = 0)) = true
 ·have H := ifT c1 H
  refine gk h rfl rfl (nb_t c1) rfl fun _ h => ?_
  refine gk h rfl rfl (nb_t c1) rfl fun _ h => ?_
  refine ga h (o_pickT rfl rfl c1) rfl fun h => ?_
  refine GoR.done ?_
  exact J1 true _ _ (som H).symm (h.wr [3, 5, 6, 7])
 ·have H := ifF c1 H
  refine gg h rfl rfl (nbF c1) (o_move rfl) rfl fun _ _ _ h => ?_
  refine gg h rfl rfl (nbF c1) (o_not rfl) rfl fun _ _ _ h => ?_
  refine ga h (o_pickF rfl rfl c1) rfl fun h => ?_
  refine GoR.done ?_
  exact J1 (!r1.2) _ _ (som H).symm (h.wr [3, 5, 6, 7])
def splice_Take.g (k_ : Nat) (a1 : TConn) (a2 : Int) (a3 : TSeg) : Option (TConn × (List TSeg) × (List TCall) × Bool) :=
  (splice_begin.g k_ a1 a2).bind fun r1 => (seg_Put.g k_ a3 0 0).bind fun r2 => ((if (!decide (r2.2 = 0)) = true then some (true) else some ((!r1.2)))).bind (fun j1 => (if j1 = true then some ((a1, [], [], false)) else (r1.1).bind fun y1 => (splice_step_take.g k_ y1 a3).bind fun r3 => some ((r3.Conn, r3.segs, r3.calls, r3.gone))))
theorem splice_Take.le (k_ : Nat) (a1 : TConn) (a2 : Int) (a3 : TSeg) : Le (splice_Take.g k_ a1 a2 a3) (splice_Take.f a1 a2 a3) := by
 unfold splice_Take.g splice_Take.f
 repeat' (first | with_reducible refine le_loop fun _ => ?_ | with_reducible refine le_bind ?_ fun _ => ?_ | with_reducible refine le_ite ?_ ?_ | with_reducible refine le_lt fun _ => ?_ | with_reducible refine le_elim (fun _ => ?_) (fun _ => ?_) _ | with_reducible apply seg_Put.le | with_reducible apply splice_begin.le | with_reducible apply splice_step_take.le | with_reducible exact le_refl _)
end Go.Proofs.Ytpcbhkigmnpimaa.S
