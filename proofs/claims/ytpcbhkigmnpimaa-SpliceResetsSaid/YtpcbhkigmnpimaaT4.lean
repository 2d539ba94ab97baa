/- Contracts, printed by a program of this session. -/
import Derived.Test.YtpcbhkigmnpimaaT3
namespace Go.Proofs.Ytpcbhkigmnpimaa.S
open Go Go.SL Go.RowKit
set_option linter.unusedVariables false
set_option linter.unusedSimpArgs false
/-! (*drawbridge/splice.step).syn -/
noncomputable def splice_step_syn.f (a1 : Tstep) : Option (Tstep) :=
  (splice_step_say.f a1 a1.Conn.Begin 2 []).bind fun r1 => (idx r1.segs (IntKind.i64.wrap ((r1.segs.length : Int) - 1))).bind fun x1 => lt (r1.segs.set (IntKind.i64.wrap ((r1.segs.length : Int) - 1)).toNat (⟨x1.Src, x1.Dst, x1.Seq, x1.Ack, x1.Flags, x1.Win, 1460, x1.Data⟩ : TSeg)) fun y1 => some ((⟨r1.Conn, r1.now, y1, r1.calls, r1.gone⟩ : Tstep))
set_option maxRecDepth 100000 in
set_option maxHeartbeats 4000000 in
theorem splice_step_syn.spc (b1 : Nat) (a1 : Tstep) (r : Tstep) (H : splice_step_syn.f a1 = some r) : Spc Try.prog 49 [.pointer (some ⟨b1, 0, none⟩)] [] [Fld Kstep b1 0 a1] (fun (s : Unit) => .tuple #[]) (fun s => [Fld Kstep b1 0 r]) := by
 unfold splice_step_syn.f at H
 refine Spc.go Try.func49 rfl (by kernel_rfl) rfl rfl all_nil fun F a w h => ?_
 refine Go.seq ?_
 refine Go.reg ?_
 refine gs h (o_move rfl) rfl fun _ _ _ h => ?_
 refine gs h (o_move rfl) rfl fun _ _ _ h => ?_
 refine gs h (o_nilc rfl) rfl fun _ _ _ h => ?_
 refine gs h (o_fa rfl t_f75_0 rfl rfl) rfl fun _ _ _ h => ?_
 refine gs h (o_fa rfl t_f26_8 rfl rfl) rfl fun _ _ _ h => ?_
 have g1 := (in2 (fd_sub t_sstep_Conn_Begin 0 rfl h.mem))
 refine gs h (o_lfx 0 rfl rfl t_sstep_Conn_Begin rfl X_int t_y22) rfl fun _ _ _ h => ?_
 replace h := h.mm fun m => (pv_nil (K := (Kd.int .u8))).ent m
 obtain ⟨r1, er1, H⟩ := bindE H
 refine gs h (o_call (splice_step_say.spc b1 a1 a1.Conn.Begin g1 2 (show InR .i64 2 by decide) (.slice none 0 0) [] r1 er1) rfl [0] [1] (by decide) rfl rfl) rfl fun _ _ _ h => ?_
 refine GoR.done ?_
 replace h := h.mm fun m => (m.take (i := 0) rfl).opn (cstep _ _)
 obtain ⟨v1, h⟩ := h.unp 2 rfl
 obtain ⟨v2, h⟩ := h.unp 4 rfl
 replace h := h.wk (E' := [(0, .pointer (some ⟨b1, 0, none⟩))]) (L' := [Fld (Kd.eq v2) b1 25 (), Fld (Kd.eq v1) b1 24 (), Fld KConn b1 0 r1.Conn, Fld (Kd.int .i64) b1 23 r1.now, Val (Kd.osl KSeg) v1 r1.segs, Val (Kd.osl KCall) v2 r1.calls, Fld Kd.bool b1 26 r1.gone, Val (Kd.sl (Kd.int .u8)) (.slice none 0 0) []]) (by rfl) [0, 1, 2, 3, 4, 5, 6, 8] (by decide) (by rfl)
 refine Go.draw (E := [(0, .pointer (some ⟨b1, 0, none⟩))]) [] (L := [Fld (Kd.eq v2) b1 25 (), Fld (Kd.eq v1) b1 24 (), Fld KConn b1 0 r1.Conn, Fld (Kd.int .i64) b1 23 r1.now, Val (Kd.osl KSeg) v1 r1.segs, Val (Kd.osl KCall) v2 r1.calls, Fld Kd.bool b1 26 r1.gone, Val (Kd.sl (Kd.int .u8)) (.slice none 0 0) []]) h rfl rfl 10 [⟨[], [], [], false, .con (.pointer (some ⟨b1, 0, none⟩)), none, fun u => [], []⟩, ⟨[0], [], [], false, .con (.pointer (some ⟨b1, 0, none⟩)), none, fun u => [], []⟩, ⟨[0, 1], [], [], false, .con (.pointer (some ⟨b1, 24, none⟩)), none, fun u => [], []⟩, ⟨[0, 1, 2], [], [], false, .con (v1), none, fun u => [], []⟩, ⟨[], [], [], false, .con (.pointer (some ⟨b1, 0, none⟩)), none, fun u => [], []⟩, ⟨[4], [], [], false, .con (.pointer (some ⟨b1, 0, none⟩)), none, fun u => [], []⟩, ⟨[4, 5], [], [], false, .con (.pointer (some ⟨b1, 24, none⟩)), none, fun u => [], []⟩, ⟨[4, 5, 6], [], [], false, .con (v1), none, fun u => [], []⟩, ⟨[4, 5, 6, 7], [], [], false, .con (.int .i64 (r1.segs.length : Int)), none, fun u => [], []⟩, ⟨[4, 5, 6, 7, 8], [], [], false, .con (.int .i64 (IntKind.i64.wrap ((r1.segs.length : Int) - 1))), none, fun u => [], []⟩] rfl t_mxo (by kernel_rfl) (by rfl) ?_ fun f2 _ _ h => ?_
 ·exact obs_cons (ob_con rfl (gok_none rfl) rfl fun f2 => (o_move rfl)) (obs_cons (ob_con rfl (gok_none rfl) rfl fun f2 => (o_nilc rfl)) (obs_cons (ob_con rfl (gok_none rfl) rfl fun f2 => (o_fa rfl t_f75_2 rfl rfl)) (obs_cons (ob_con rfl (gok_none rfl) rfl fun f2 => (o_ldx 1 rfl rfl X_eq t_y31)) (obs_cons (ob_con rfl (gok_none rfl) rfl fun f2 => (o_move rfl)) (obs_cons (ob_con rfl (gok_none rfl) rfl fun f2 => (o_nilc rfl)) (obs_cons (ob_con rfl (gok_none rfl) rfl fun f2 => (o_fa rfl t_f75_2 rfl rfl)) (obs_cons (ob_con rfl (gok_none rfl) rfl fun f2 => (o_ldx 1 rfl rfl X_eq t_y31)) (obs_cons (ob_con rfl (gok_none rfl) rfl fun f2 => (o_ln rfl (rd_own 4 rfl) t_v31)) (obs_cons (ob_con rfl (gok_none rfl) rfl fun f2 => (o_bin rfl rfl rfl)) (obs_nil))))))))))
 replace h := h.wk (E' := [(12, v1), (18, .int .i64 (IntKind.i64.wrap ((r1.segs.length : Int) - 1)))]) (L' := [Fld (Kd.eq v2) b1 25 (), Fld (Kd.eq v1) b1 24 (), Fld KConn b1 0 r1.Conn, Fld (Kd.int .i64) b1 23 r1.now, Val (Kd.osl KSeg) v1 r1.segs, Val (Kd.osl KCall) v2 r1.calls, Fld Kd.bool b1 26 r1.gone, Val (Kd.sl (Kd.int .u8)) (.slice none 0 0) []]) (by kernel_rfl) [0, 1, 2, 3, 4, 5, 6, 7] (by decide) (by kernel_rfl)
 obtain ⟨x1, ex1, H⟩ := bindE H
 refine gs h (o_ix rfl rfl (rd_own 4 rfl) ex1 t_v31) rfl fun _ _ _ h => ?_
 refine gs h (o_fae (k' := (IntKind.i64.wrap ((r1.segs.length : Int) - 1)).toNat * Kd.n KSeg + 6) rfl (rd_own 4 rfl) ex1 (by decide) t_f30_6 rfl rfl) rfl fun _ _ _ h => ?_
 obtain ⟨y1, ey1, H⟩ := ltE H
 refine gs0 h (o_stes 4 t_uSeg_6_1 rfl rfl rfl rfl (pv_int (show InR .i64 1460 by decide)) ex1 t_w3 (by decide)) fun _ _ _ h => ?_
 rw [ey1] at h
 refine GoR.done ?_
 replace h := h.mm fun m => (m.pull (Lo := [Fld (Kd.eq v1) b1 24 (), Val (Kd.osl KSeg) v1 y1]) [1, 4] (by decide) rfl).pck
 replace h := h.mm fun m => (m.pull (Lo := [Fld (Kd.eq v2) b1 25 (), Val (Kd.osl KCall) v2 r1.calls]) [1, 6] (by decide) rfl).pck
 replace h := h.mm fun m => (m.pull (Lo := [Fld KConn b1 0 r1.Conn, Fld (Kd.int .i64) b1 23 r1.now, Fld (Kd.osl KSeg) b1 24 y1, Fld (Kd.osl KCall) b1 25 r1.calls, Fld Kd.bool b1 26 r1.gone]) [4, 5, 1, 0, 8] (by decide) rfl).cls (cstep _ (⟨r1.Conn, r1.now, y1, r1.calls, r1.gone⟩ : Tstep))
 rw [← som H]
 exact g_fin (vs := []) h Try.func49 trivial ⟨(), rfl, (h.mem.pick [0] (by decide) rfl)⟩
def splice_step_syn.g (k_ : Nat) (a1 : Tstep) : Option (Tstep) :=
  (splice_step_say.g k_ a1 a1.Conn.Begin 2 []).bind fun r1 => (idx r1.segs (IntKind.i64.wrap ((r1.segs.length : Int) - 1))).bind fun x1 => lt (r1.segs.set (IntKind.i64.wrap ((r1.segs.length : Int) - 1)).toNat (⟨x1.Src, x1.Dst, x1.Seq, x1.Ack, x1.Flags, x1.Win, 1460, x1.Data⟩ : TSeg)) fun y1 => some ((⟨r1.Conn, r1.now, y1, r1.calls, r1.gone⟩ : Tstep))
theorem splice_step_syn.le (k_ : Nat) (a1 : Tstep) : Le (splice_step_syn.g k_ a1) (splice_step_syn.f a1) := by
 unfold splice_step_syn.g splice_step_syn.f
 repeat' (first | with_reducible refine le_loop fun _ => ?_ | with_reducible refine le_bind ?_ fun _ => ?_ | with_reducible refine le_ite ?_ ?_ | with_reducible refine le_lt fun _ => ?_ | with_reducible refine le_elim (fun _ => ?_) (fun _ => ?_) _ | with_reducible apply splice_step_say.le | with_reducible exact le_refl _)
/-! (*drawbridge/splice.step).open -/
noncomputable def splice_step_open.f (a1 : Tstep) (a2 : TTell) : Option (Int × Tstep) :=
  ((if a1.Conn.Opening = true then lt (⟨(⟨a1.Conn.Id, a1.Conn.Guest, a1.Conn.Gport, a1.Conn.Remote, a1.Conn.Rport, false, a1.Conn.Up, a1.Conn.Done, a1.Conn.Begin, a1.Conn.Una, a1.Conn.Next, a1.Conn.Want, a1.Conn.Win, a1.Conn.Mss, a1.Conn.ToHost, a1.Conn.ToGuest, a1.Conn.Early, a1.Conn.Fin, a1.Conn.Eof, a1.Conn.Shut, a1.Conn.At, a1.Conn.Wait, a1.Conn.Tries⟩ : TConn), a1.now, a1.segs, a1.calls, a1.gone⟩ : Tstep) fun y1 => lt (⟨(⟨y1.Conn.Id, y1.Conn.Guest, y1.Conn.Gport, y1.Conn.Remote, y1.Conn.Rport, y1.Conn.Opening, y1.Conn.Up, y1.Conn.Done, y1.Conn.Begin, y1.Conn.Una, IntKind.u32.wrap (y1.Conn.Next + 1), y1.Conn.Want, y1.Conn.Win, y1.Conn.Mss, y1.Conn.ToHost, y1.Conn.ToGuest, y1.Conn.Early, y1.Conn.Fin, y1.Conn.Eof, y1.Conn.Shut, y1.Conn.At, y1.Conn.Wait, y1.Conn.Tries⟩ : TConn), y1.now, y1.segs, y1.calls, y1.gone⟩ : Tstep) fun y2 => (splice_step_arm.f y2).bind fun r1 => (splice_step_syn.f r1).bind fun r2 => some (r2) else some (a1))).bind (fun j1 => some ((0, j1)))
set_option maxRecDepth 100000 in
set_option maxHeartbeats 4000000 in
theorem splice_step_open.spc (b1 : Nat) (a1 : Tstep) (v1 : Value) (a2 : TTell) (r : Int × Tstep) (H : splice_step_open.f a1 a2 = some r) : Spc Try.prog 34 [.pointer (some ⟨b1, 0, none⟩), v1] [Val KTell v1 a2] [Fld Kstep b1 0 a1] (fun (s : Unit) => .int .i64 r.1) (fun s => [Ent.pur (InR .i64 r.1), Fld Kstep b1 0 r.2]) := by
 unfold splice_step_open.f at H
 refine Spc.go Try.func34 rfl (by kernel_rfl) rfl rfl (all_cons (Val.per PTell) all_nil) fun F a w h => ?_
 refine Go.seq ?_
 refine Go.reg ?_
 refine gs h (o_box (K := KTell) rfl (pv_at PTell 0 rfl)) rfl fun b2 _ _ h => ?_
 refine gs h (o_assign rfl) rfl fun _ _ _ h => ?_
 refine GoR.done ?_
 refine Go.seq ?_
 obtain ⟨o1, H, G1⟩ := bindE H
 refine g_cut (fun G => ∀ j1 (a : Act) (w : World), o1 = j1 → St Try.f34.ntmps F [] [Fld Kstep b1 0 j1, Fld KTell b2 0 a2] a w → G a w) 1 ?_ fun J1 => ?_
 ·intro j1 a w ho_ h
  rw [ho_] at G1
  have H := G1
  refine Go.seq ?_
  refine Go.reg ?_
  refine gs h (o_assign rfl) rfl fun _ _ _ h => ?_
  refine GoR.done ?_
  rw [← som H]
  exact g_ret (vs := [.int .i64 0]) h Try.func34 ⟨rfl, trivial⟩ ⟨(), rfl, ((h.mem.pick [0] (by decide) rfl).addpur (show InR .i64 0 by decide))⟩
 refine Go.seq ?_
 refine Go.reg ?_
 refine gs h (o_move rfl) rfl fun _ _ _ h => ?_
 refine gs h (o_nilc rfl) rfl fun _ _ _ h => ?_
 refine gs h (o_fa rfl t_f75_0 rfl rfl) rfl fun _ _ _ h => ?_
 refine gs h (o_fa rfl t_f26_5 rfl rfl) rfl fun _ _ _ h => ?_
 refine gs h (o_lfx 2 rfl rfl t_sstep_Conn_Opening rfl X_bool t_y4) rfl fun _ _ _ h => ?_
 refine GoR.done ?_
 by_cases c1 : a1.Conn.Opening = true
 ·have H := ifT c1 H
  refine g_t h rfl c1 ?_
  refine Go.seq ?_
  refine Go.reg ?_
  refine gs h (o_move rfl) rfl fun _ _ _ h => ?_
  refine gs h (o_nilc rfl) rfl fun _ _ _ h => ?_
  refine gs h (o_fa rfl t_f75_0 rfl rfl) rfl fun _ _ _ h => ?_
  refine gs h (o_fa rfl t_f26_5 rfl rfl) rfl fun _ _ _ h => ?_
  obtain ⟨y1, ey1, H⟩ := ltE H
  refine gs0 h (o_stp (x0 := a1) (y := false) 2 t_ustep_5_1 rfl rfl rfl rfl pv_bool t_w4) fun _ _ _ h => ?_
  rw [ey1] at h
  refine GoR.done ?_
  refine Go.seq ?_
  refine Go.reg ?_
  refine gs h (o_move rfl) rfl fun _ _ _ h => ?_
  refine gs h (o_nilc rfl) rfl fun _ _ _ h => ?_
  refine gs h (o_fa rfl t_f75_0 rfl rfl) rfl fun _ _ _ h => ?_
  refine gs h (o_fa rfl t_f26_10 rfl rfl) rfl fun _ _ _ h => ?_
  have g1 := (in2 (fd_sub t_sstep_Conn_Next 2 rfl h.mem))
  refine gs h (o_lfx 2 rfl rfl t_sstep_Conn_Next rfl X_int t_y22) rfl fun _ _ _ h => ?_
  refine gs h (o_bin rfl rfl rfl) rfl fun _ _ _ h => ?_
  refine gs h (o_nilc rfl) rfl fun _ _ _ h => ?_
  refine gs h (o_fa rfl t_f75_0 rfl rfl) rfl fun _ _ _ h => ?_
  refine gs h (o_fa rfl t_f26_10 rfl rfl) rfl fun _ _ _ h => ?_
  obtain ⟨y2, ey2, H⟩ := ltE H
  refine gs0 h (o_stp (x0 := y1) (y := IntKind.u32.wrap (y1.Conn.Next + 1)) 2 t_ustep_10_1 rfl rfl rfl rfl (pv_int (wrap_in _ _)) t_w22) fun _ _ _ h => ?_
  rw [ey2] at h
  refine GoR.done ?_
  refine Go.seq ?_
  refine Go.reg ?_
  refine gs h (o_move rfl) rfl fun _ _ _ h => ?_
  obtain ⟨r1, er1, H⟩ := bindE H
  refine gs h (o_call (splice_step_arm.spc b1 y2 r1 er1) rfl [] [2] (by decide) rfl rfl) rfl fun _ _ _ h => ?_
  refine GoR.done ?_
  refine Go.reg ?_
  refine gs h (o_move rfl) rfl fun _ _ _ h => ?_
  obtain ⟨r2, er2, H⟩ := bindE H
  refine gs h (o_call (splice_step_syn.spc b1 r1 r2 er2) rfl [] [0] (by decide) rfl rfl) rfl fun _ _ _ h => ?_
  refine GoR.done ?_
  exact J1 r2 _ _ (som H).symm (h.wk (by rfl) [0, 2] (by decide) (by rfl))
 ·have H := ifF c1 H
  refine g_f h rfl c1 ?_
  refine Go.skip ?_
  exact J1 a1 _ _ (som H).symm (h.wk (by rfl) [2, 0] (by decide) (by rfl))
def splice_step_open.g (k_ : Nat) (a1 : Tstep) (a2 : TTell) : Option (Int × Tstep) :=
  ((if a1.Conn.Opening = true then lt (⟨(⟨a1.Conn.Id, a1.Conn.Guest, a1.Conn.Gport, a1.Conn.Remote, a1.Conn.Rport, false, a1.Conn.Up, a1.Conn.Done, a1.Conn.Begin, a1.Conn.Una, a1.Conn.Next, a1.Conn.Want, a1.Conn.Win, a1.Conn.Mss, a1.Conn.ToHost, a1.Conn.ToGuest, a1.Conn.Early, a1.Conn.Fin, a1.Conn.Eof, a1.Conn.Shut, a1.Conn.At, a1.Conn.Wait, a1.Conn.Tries⟩ : TConn), a1.now, a1.segs, a1.calls, a1.gone⟩ : Tstep) fun y1 => lt (⟨(⟨y1.Conn.Id, y1.Conn.Guest, y1.Conn.Gport, y1.Conn.Remote, y1.Conn.Rport, y1.Conn.Opening, y1.Conn.Up, y1.Conn.Done, y1.Conn.Begin, y1.Conn.Una, IntKind.u32.wrap (y1.Conn.Next + 1), y1.Conn.Want, y1.Conn.Win, y1.Conn.Mss, y1.Conn.ToHost, y1.Conn.ToGuest, y1.Conn.Early, y1.Conn.Fin, y1.Conn.Eof, y1.Conn.Shut, y1.Conn.At, y1.Conn.Wait, y1.Conn.Tries⟩ : TConn), y1.now, y1.segs, y1.calls, y1.gone⟩ : Tstep) fun y2 => (splice_step_arm.g k_ y2).bind fun r1 => (splice_step_syn.g k_ r1).bind fun r2 => some (r2) else some (a1))).bind (fun j1 => some ((0, j1)))
theorem splice_step_open.le (k_ : Nat) (a1 : Tstep) (a2 : TTell) : Le (splice_step_open.g k_ a1 a2) (splice_step_open.f a1 a2) := by
 unfold splice_step_open.g splice_step_open.f
 repeat' (first | with_reducible refine le_loop fun _ => ?_ | with_reducible refine le_bind ?_ fun _ => ?_ | with_reducible refine le_ite ?_ ?_ | with_reducible refine le_lt fun _ => ?_ | with_reducible refine le_elim (fun _ => ?_) (fun _ => ?_) _ | with_reducible apply splice_step_arm.le | with_reducible apply splice_step_syn.le | with_reducible exact le_refl _)
/-! (*drawbridge/splice.step).reset -/
noncomputable def splice_step_reset.f (a1 : Tstep) (a2 : TTell) : Option (Int × Tstep) :=
  (splice_step_say.f a1 a1.Conn.Next 4 []).bind fun r1 => lt (⟨r1.Conn, r1.now, r1.segs, r1.calls, true⟩ : Tstep) fun y1 => some ((0, y1))
set_option maxRecDepth 100000 in
set_option maxHeartbeats 4000000 in
theorem splice_step_reset.spc (b1 : Nat) (a1 : Tstep) (v1 : Value) (a2 : TTell) (r : Int × Tstep) (H : splice_step_reset.f a1 a2 = some r) : Spc Try.prog 35 [.pointer (some ⟨b1, 0, none⟩), v1] [Val KTell v1 a2] [Fld Kstep b1 0 a1] (fun (s : Unit) => .int .i64 r.1) (fun s => [Ent.pur (InR .i64 r.1), Fld Kstep b1 0 r.2]) := by
 unfold splice_step_reset.f at H
 refine Spc.go Try.func35 rfl (by kernel_rfl) rfl rfl (all_cons (Val.per PTell) all_nil) fun F a w h => ?_
 refine Go.seq ?_
 refine Go.reg ?_
 refine gs h (o_box (K := KTell) rfl (pv_at PTell 0 rfl)) rfl fun b2 _ _ h => ?_
 refine gs h (o_assign rfl) rfl fun _ _ _ h => ?_
 refine GoR.done ?_
 refine Go.seq ?_
 refine Go.reg ?_
 refine gs h (o_move rfl) rfl fun _ _ _ h => ?_
 refine gs h (o_move rfl) rfl fun _ _ _ h => ?_
 refine gs h (o_nilc rfl) rfl fun _ _ _ h => ?_
 refine gs h (o_fa rfl t_f75_0 rfl rfl) rfl fun _ _ _ h => ?_
 refine gs h (o_fa rfl t_f26_10 rfl rfl) rfl fun _ _ _ h => ?_
 have g1 := (in2 (fd_sub t_sstep_Conn_Next 2 rfl h.mem))
 refine gs h (o_lfx 2 rfl rfl t_sstep_Conn_Next rfl X_int t_y22) rfl fun _ _ _ h => ?_
 replace h := h.mm fun m => (pv_nil (K := (Kd.int .u8))).ent m
 obtain ⟨r1, er1, H⟩ := bindE H
 refine gs h (o_call (splice_step_say.spc b1 a1 a1.Conn.Next g1 4 (show InR .i64 4 by decide) (.slice none 0 0) [] r1 er1) rfl [0] [3] (by decide) rfl rfl) rfl fun _ _ _ h => ?_
 refine GoR.done ?_
 refine Go.seq ?_
 refine Go.reg ?_
 refine gs h (o_move rfl) rfl fun _ _ _ h => ?_
 refine gs h (o_nilc rfl) rfl fun _ _ _ h => ?_
 refine gs h (o_fa rfl t_f75_4 rfl rfl) rfl fun _ _ _ h => ?_
 obtain ⟨y1, ey1, H⟩ := ltE H
 refine gs0 h (o_stp (x0 := r1) (y := true) 0 t_ustep_26_1 rfl rfl rfl rfl pv_bool t_w4) fun _ _ _ h => ?_
 rw [ey1] at h
 refine GoR.done ?_
 refine Go.seq ?_
 refine Go.reg ?_
 refine gs h (o_assign rfl) rfl fun _ _ _ h => ?_
 refine GoR.done ?_
 rw [← som H]
 exact g_ret (vs := [.int .i64 0]) h Try.func35 ⟨rfl, trivial⟩ ⟨(), rfl, ((h.mem.pick [0] (by decide) rfl).addpur (show InR .i64 0 by decide))⟩
def splice_step_reset.g (k_ : Nat) (a1 : Tstep) (a2 : TTell) : Option (Int × Tstep) :=
  (splice_step_say.g k_ a1 a1.Conn.Next 4 []).bind fun r1 => lt (⟨r1.Conn, r1.now, r1.segs, r1.calls, true⟩ : Tstep) fun y1 => some ((0, y1))
theorem splice_step_reset.le (k_ : Nat) (a1 : Tstep) (a2 : TTell) : Le (splice_step_reset.g k_ a1 a2) (splice_step_reset.f a1 a2) := by
 unfold splice_step_reset.g splice_step_reset.f
 repeat' (first | with_reducible refine le_loop fun _ => ?_ | with_reducible refine le_bind ?_ fun _ => ?_ | with_reducible refine le_ite ?_ ?_ | with_reducible refine le_lt fun _ => ?_ | with_reducible refine le_elim (fun _ => ?_) (fun _ => ?_) _ | with_reducible apply splice_step_say.le | with_reducible exact le_refl _)
/-! slices.Min[[]int,int] -/
noncomputable def slices_Min_s_int_int.f (a1 : List Int) : Option (Int) :=
  (if decide ((a1.length : Int) < 1) = true then none else (idx a1 0).bind fun x1 => (loop (fun s1 => (if decide (s1.2 < (a1.length : Int)) = true then (idx a1 s1.2).bind fun x2 => lt (IntKind.i64.wrap (s1.2 + 1)) fun y1 => some (.inl (min s1.1 x2, y1)) else some (.inr (s1.1)))) (x1, 1)).bind (fun j1 => some (j1)))
set_option maxRecDepth 100000 in
set_option maxHeartbeats 4000000 in
theorem slices_Min_s_int_int.spc (v1 : Value) (a1 : List Int) (r : Int) (H : slices_Min_s_int_int.f a1 = some r) : Spc Try.prog 65 [v1] [Val (Kd.sl (Kd.int .i64)) v1 a1] [] (fun (s : Unit) => .int .i64 r) (fun s => [Ent.pur (InR .i64 r)]) := by
 unfold slices_Min_s_int_int.f at H
 refine Spc.go Try.func65 rfl (by kernel_rfl) rfl rfl (all_cons (Val.per Per_sl) all_nil) fun F a w h => ?_
 refine Go.seq ?_
 refine Go.reg ?_
 refine gs h (o_assign rfl) rfl fun _ _ _ h => ?_
 refine GoR.done ?_
 refine Go.seq ?_
 refine Go.seq ?_
 refine Go.reg ?_
 refine gs h (o_move rfl) rfl fun _ _ _ h => ?_
 have g1 := (len_at 0 rfl h.mem)
 refine gs h (o_ln rfl (rd_at 0 rfl) t_v95) rfl fun _ _ _ h => ?_
 refine gs h (o_bin rfl rfl rfl) rfl fun _ _ _ h => ?_
 refine GoR.done ?_
 by_cases c1 : decide ((a1.length : Int) < 1) = true
 ·have H := ifT c1 H
  refine g_t h rfl c1 ?_
  cases H
 ·have H := ifF c1 H
  refine g_f h rfl c1 ?_
  refine Go.skip ?_
  refine Go.seq ?_
  refine Go.reg ?_
  refine gs h (o_move rfl) rfl fun _ _ _ h => ?_
  obtain ⟨x1, ex1, H⟩ := bindE H
  refine gs h (o_ix rfl rfl (rd_at 0 rfl) ex1 t_v95) rfl fun _ _ _ h => ?_
  have g2 := (rd_inr (rd_at 0 rfl) ex1 h.mem)
  refine gs h (o_lex rfl (rd_at 0 rfl) ex1 X_int t_y3 (by decide)) rfl fun _ _ _ h => ?_
  refine gs h (o_assign rfl) rfl fun _ _ _ h => ?_
  refine GoR.done ?_
  refine Go.seq ?_
  refine Go.seq ?_
  refine Go.reg ?_
  refine gs h (o_assign rfl) rfl fun _ _ _ h => ?_
  refine GoR.done ?_
  refine Go.block ?_
  obtain ⟨o1, hl, G1⟩ := bindE H
  refine g_cut (fun G => ∀ j1 (a : Act) (w : World), o1 = j1 → InR .i64 j1 → St Try.f65.ntmps F [(3, .int .i64 j1)] [] a w → G a w) 2 ?_ fun J1 => ?_
  ·intro j1 a w ho_ g7 h
   rw [ho_] at G1
   have H := G1
   refine Go.seq ?_
   refine Go.reg ?_
   refine gs h (o_move rfl) rfl fun _ _ _ h => ?_
   refine gs h (o_assign rfl) rfl fun _ _ _ h => ?_
   refine GoR.done ?_
   rw [← som H]
   exact g_ret (vs := [.int .i64 j1]) h Try.func65 ⟨rfl, trivial⟩ ⟨(), rfl, ((h.mem.pick [] (by decide) rfl).addpur g7)⟩
  refine g_loop (fun s1 G => ∀  (a : Act) (w : World), InR .i64 s1.1 → InR .i64 s1.2 → St Try.f65.ntmps F [(0, v1), (3, .int .i64 s1.1), (4, .int .i64 s1.2)] [Val (Kd.sl (Kd.int .i64)) v1 a1] a w → G a w) hl (fun s1 p1 H i1 => ?_) fun I_ => ?_
  ·intro  a w g3 g4 h
   refine Go.seq ?_
   refine Go.seq ?_
   refine Go.reg ?_
   refine gs h (o_move rfl) rfl fun _ _ _ h => ?_
   refine gs h (o_move rfl) rfl fun _ _ _ h => ?_
   have g5 := (len_at 0 rfl h.mem)
   refine gs h (o_ln rfl (rd_at 0 rfl) t_v95) rfl fun _ _ _ h => ?_
   refine gs h (o_bin rfl rfl rfl) rfl fun _ _ _ h => ?_
   refine GoR.done ?_
   by_cases c2 : decide (s1.2 < (a1.length : Int)) = true
   ·have H := ifT c2 H
    refine g_t h rfl c2 ?_
    refine Go.skip ?_
    refine Go.seq ?_
    refine Go.block ?_
    refine Go.reg ?_
    iterate 3 (refine gs h (o_move rfl) rfl fun _ _ _ h => ?_)
    obtain ⟨x2, ex2, H⟩ := bindE H
    refine gs h (o_ix rfl rfl (rd_at 0 rfl) ex2 t_v95) rfl fun _ _ _ h => ?_
    have g6 := (rd_inr (rd_at 0 rfl) ex2 h.mem)
    refine gs h (o_lex rfl (rd_at 0 rfl) ex2 X_int t_y3 (by decide)) rfl fun _ _ _ h => ?_
    refine gs h (o_min rfl rfl) rfl fun _ _ _ h => ?_
    refine gs h (o_assign rfl) rfl fun _ _ _ h => ?_
    refine GoR.done ?_
    refine Go.inBlock ?_
    refine Go.reg ?_
    refine gs h (o_move rfl) rfl fun _ _ _ h => ?_
    refine gs h (o_bin rfl rfl rfl) rfl fun _ _ _ h => ?_
    obtain ⟨y1, ey1, H⟩ := ltE H
    refine gs h (o_assign' rfl (congrArg (fun z => Value.int .i64 z) ey1)) rfl fun _ _ _ h => ?_
    refine GoR.done ?_
    have e_ := som H; subst e_
    exact Go.inLoop (nx_in i1 _ _ (inr_min g3 g6) (ey1 ▸ (wrap_in _ _)) (h.wk (by rfl) [0] (by decide) (by rfl)))
   ·have H := ifF c2 H
    refine g_f h rfl c2 ?_
    refine Go.exit rfl ?_
    have e_ := som H; subst e_
    exact J1 s1.1 _ _ (nx_out i1).symm g3 (h.wk (by rfl) [] (by decide) (by rfl))
  ·exact I_ _ _ g2 (show InR .i64 1 by decide) (h.wk (by rfl) [0] (by decide) (by rfl))
def slices_Min_s_int_int.g (k_ : Nat) (a1 : List Int) : Option (Int) :=
  (if decide ((a1.length : Int) < 1) = true then none else (idx a1 0).bind fun x1 => (loopK k_ (fun s1 => (if decide (s1.2 < (a1.length : Int)) = true then (idx a1 s1.2).bind fun x2 => lt (IntKind.i64.wrap (s1.2 + 1)) fun y1 => some (.inl (min s1.1 x2, y1)) else some (.inr (s1.1)))) (x1, 1)).bind (fun j1 => some (j1)))
theorem slices_Min_s_int_int.le (k_ : Nat) (a1 : List Int) : Le (slices_Min_s_int_int.g k_ a1) (slices_Min_s_int_int.f a1) := by
 unfold slices_Min_s_int_int.g slices_Min_s_int_int.f
 repeat' (first | with_reducible refine le_loop fun _ => ?_ | with_reducible refine le_bind ?_ fun _ => ?_ | with_reducible refine le_ite ?_ ?_ | with_reducible refine le_lt fun _ => ?_ | with_reducible refine le_elim (fun _ => ?_) (fun _ => ?_) _ | with_reducible exact le_refl _)
/-! drawbridge/splice.least[int] -/
noncomputable def splice_least_int.f (a1 : List Int) : Option (Int) :=
  (slices_Min_s_int_int.f a1).bind fun r1 => some (r1)
set_option maxRecDepth 100000 in
set_option maxHeartbeats 4000000 in
theorem splice_least_int.spc (v1 : Value) (a1 : List Int) (r : Int) (H : splice_least_int.f a1 = some r) : Spc Try.prog 54 [v1] [Val (Kd.sl (Kd.int .i64)) v1 a1] [] (fun (s : Unit) => .int .i64 r) (fun s => [Ent.pur (InR .i64 r)]) := by
 unfold splice_least_int.f at H
 refine Spc.go Try.func54 rfl (by kernel_rfl) rfl rfl (all_cons (Val.per Per_sl) all_nil) fun F a w h => ?_
 refine Go.seq ?_
 refine Go.reg ?_
 refine gs h (o_assign rfl) rfl fun _ _ _ h => ?_
 refine GoR.done ?_
 refine Go.seq ?_
 refine Go.reg ?_
 refine gs h (o_move rfl) rfl fun _ _ _ h => ?_
 obtain ⟨r1, er1, H⟩ := bindE H
 refine gs h (o_call (slices_Min_s_int_int.spc v1 a1 r1 er1) rfl [0] [] (by decide) rfl rfl) rfl fun _ _ _ h => ?_
 have g1 := h.mem.pur 0 rfl
 refine gs h (o_assign rfl) rfl fun _ _ _ h => ?_
 refine GoR.done ?_
 rw [← som H]
 exact g_ret (vs := [.int .i64 r1]) h Try.func54 ⟨rfl, trivial⟩ ⟨(), rfl, ((h.mem.pick [] (by decide) rfl).addpur g1)⟩
def splice_least_int.g (k_ : Nat) (a1 : List Int) : Option (Int) :=
  (slices_Min_s_int_int.g k_ a1).bind fun r1 => some (r1)
theorem splice_least_int.le (k_ : Nat) (a1 : List Int) : Le (splice_least_int.g k_ a1) (splice_least_int.f a1) := by
 unfold splice_least_int.g splice_least_int.f
 repeat' (first | with_reducible refine le_loop fun _ => ?_ | with_reducible refine le_bind ?_ fun _ => ?_ | with_reducible refine le_ite ?_ ?_ | with_reducible refine le_lt fun _ => ?_ | with_reducible refine le_elim (fun _ => ?_) (fun _ => ?_) _ | with_reducible apply slices_Min_s_int_int.le | with_reducible exact le_refl _)
/-! slices.Grow[[]byte,byte] -/
noncomputable def slices_Grow_s_byte_byte.f (a1 : Int) : Option ((List Int)) :=
  (if decide (a1 < 0) = true then none else (lt (IntKind.i64.wrap (a1 - (IntKind.i64.wrap (0 - 0)))) fun y1 => (if decide (0 < y1) = true then (mk y1 0).bind fun x1 => (cut x1 0 0).bind fun x2 => some (x2) else some ([]))).bind (fun j1 => some (j1)))
set_option maxRecDepth 100000 in
set_option maxHeartbeats 4000000 in
theorem slices_Grow_s_byte_byte.spc (a1 : Int) (ha1 : InR .i64 a1) (r : (List Int)) (H : slices_Grow_s_byte_byte.f a1 = some r) : Spc Try.prog 61 [.slice none 0 0, .int .i64 a1] [] [] (fun (s : Value) => s) (fun s => [Val (Kd.osl (Kd.int .u8)) s r]) := by
 unfold slices_Grow_s_byte_byte.f at H
 refine Spc.go Try.func61 rfl (by kernel_rfl) rfl rfl all_nil fun F a w h => ?_
 refine Go.seq ?_
 refine Go.reg ?_
 refine gs h (o_assign rfl) rfl fun _ _ _ h => ?_
 refine GoR.done ?_
 refine Go.seq ?_
 refine Go.seq ?_
 refine Go.reg ?_
 refine gs h (o_move rfl) rfl fun _ _ _ h => ?_
 refine gs h (o_bin rfl rfl rfl) rfl fun _ _ _ h => ?_
 refine GoR.done ?_
 by_cases c1 : decide (a1 < 0) = true
 ·have H := ifT c1 H
  refine g_t h rfl c1 ?_
  cases H
 ·have H := ifF c1 H
  refine g_f h rfl c1 ?_
  refine Go.skip ?_
  refine Go.seq ?_
  obtain ⟨o1, H, G1⟩ := bindE H
  refine g_cut (fun G => ∀ j1 (v2 : Value) (a : Act) (w : World), o1 = j1 → St Try.f61.ntmps F [(0, v2)] [Val (Kd.osl (Kd.int .u8)) v2 j1] a w → G a w) 1 ?_ fun J1 => ?_
  ·intro j1 v2 a w ho_ h
   rw [ho_] at G1
   have H := G1
   refine Go.seq ?_
   refine Go.reg ?_
   refine gs h (o_move rfl) rfl fun _ _ _ h => ?_
   refine gs h (o_assign rfl) rfl fun _ _ _ h => ?_
   refine GoR.done ?_
   rw [← som H]
   exact g_ret (vs := [v2]) h Try.func61 ⟨rfl, trivial⟩ ⟨v2, rfl, (h.mem.pick [0] (by decide) rfl)⟩
  refine Go.seq ?_
  refine Go.reg ?_
  refine gs h (o_move rfl) rfl fun _ _ _ h => ?_
  refine gs h (o_move rfl) rfl fun _ _ _ h => ?_
  refine gs h (o_capn rfl t_v23) rfl fun _ _ _ h => ?_
  refine gs h (o_move rfl) rfl fun _ _ _ h => ?_
  refine gs h (o_ln (K := (Kd.int .u8)) rfl (rd_pv pv_nil) t_v23) rfl fun _ _ _ h => ?_
  refine gs h (o_bin rfl rfl rfl) rfl fun _ _ _ h => ?_
  refine gs h (o_bin rfl rfl rfl) rfl fun _ _ _ h => ?_
  obtain ⟨y1, ey1, H⟩ := ltE H
  refine gs h (o_assign' rfl (congrArg (fun z => Value.int .i64 z) ey1)) rfl fun _ _ _ h => ?_
  refine GoR.done ?_
  refine Go.seq ?_
  refine Go.reg ?_
  refine gs h (o_move rfl) rfl fun _ _ _ h => ?_
  refine gs h (o_bin rfl rfl rfl) rfl fun _ _ _ h => ?_
  refine GoR.done ?_
  by_cases c2 : decide (0 < y1) = true
  ·have H := ifT c2 H
   refine g_t h rfl c2 ?_
   refine Go.reg ?_
   refine gs h (o_move rfl) rfl fun _ _ _ h => ?_
   refine gs h (o_move rfl) rfl fun _ _ _ h => ?_
   refine gs h (o_capn rfl t_v23) rfl fun _ _ _ h => ?_
   refine gs h (o_nilh rfl rfl t_v23) rfl fun _ _ _ h => ?_
   refine gs h (o_move rfl) rfl fun _ _ _ h => ?_
   obtain ⟨x1, ex1, H⟩ := bindE H
   refine gs h (o_appz (K := (Kd.int .u8)) rfl rfl ex1 t_a23 t_u3 (by decide) (fun e he => ⟨[.int .u8 0], by cases he; exact t_zc5, z_int⟩)) rfl fun v1 _ _ h => ?_
   refine gs h (o_move rfl) rfl fun _ _ _ h => ?_
   refine gs h (o_ln (K := (Kd.int .u8)) rfl (rd_pv pv_nil) t_v23) rfl fun _ _ _ h => ?_
   obtain ⟨x2, ex2, H⟩ := bindE H
   refine gs h (o_subh 0 rfl rfl rfl ex2 t_v23) rfl fun _ _ _ h => ?_
   refine gs h (o_assign rfl) rfl fun _ _ _ h => ?_
   refine GoR.done ?_
   exact J1 x2 (subV v1 (0 : Int).toNat (0 : Int).toNat (Kd.n (Kd.int .u8))) _ _ (som H).symm (h.wk (by rfl) [0] (by decide) (by rfl))
  ·have H := ifF c2 H
   refine g_f h rfl c2 ?_
   refine Go.skip ?_
   replace h := h.mm fun m => m.nilo (Kd.int .u8)
   exact J1 [] (.slice none 0 0) _ _ (som H).symm (h.wk (by rfl) [0] (by decide) (by rfl))
def slices_Grow_s_byte_byte.g (k_ : Nat) (a1 : Int) : Option ((List Int)) :=
  (if decide (a1 < 0) = true then none else (lt (IntKind.i64.wrap (a1 - (IntKind.i64.wrap (0 - 0)))) fun y1 => (if decide (0 < y1) = true then (mk y1 0).bind fun x1 => (cut x1 0 0).bind fun x2 => some (x2) else some ([]))).bind (fun j1 => some (j1)))
theorem slices_Grow_s_byte_byte.le (k_ : Nat) (a1 : Int) : Le (slices_Grow_s_byte_byte.g k_ a1) (slices_Grow_s_byte_byte.f a1) := by
 unfold slices_Grow_s_byte_byte.g slices_Grow_s_byte_byte.f
 repeat' (first | with_reducible refine le_loop fun _ => ?_ | with_reducible refine le_bind ?_ fun _ => ?_ | with_reducible refine le_ite ?_ ?_ | with_reducible refine le_lt fun _ => ?_ | with_reducible refine le_elim (fun _ => ?_) (fun _ => ?_) _ | with_reducible exact le_refl _)
/-! slices.Concat[[]byte,byte] -/
noncomputable def slices_Concat_s_byte_byte.f (a1 : List (List Int)) : Option ((List Int)) :=
  (loop (fun s1 => (if decide (s1.2 < (a1.length : Int)) = true then (idx a1 s1.2).bind fun x1 => lt (IntKind.i64.wrap (s1.1 + (x1.length : Int))) fun y1 => (if decide (y1 < 0) = true then none else some (.inl (y1, IntKind.i64.wrap (s1.2 + 1)))) else some (.inr (s1.1)))) (0, 0)).bind (fun j1 => (slices_Grow_s_byte_byte.f j1).bind fun r1 => (loop (fun s2 => (if decide (s2.2 < (a1.length : Int)) = true then (idx a1 s2.2).bind fun x2 => (app s2.1 x2).bind fun x3 => some (.inl (x3, IntKind.i64.wrap (s2.2 + 1))) else some (.inr (s2.1)))) (r1, 0)).bind (fun j2 => some (j2)))
set_option maxRecDepth 100000 in
set_option maxHeartbeats 4000000 in
theorem slices_Concat_s_byte_byte.spc (v1 : Value) (a1 : List (List Int)) (r : (List Int)) (H : slices_Concat_s_byte_byte.f a1 = some r) : Spc Try.prog 46 [v1] [Val (Kd.sl (Kd.sl (Kd.int .u8))) v1 a1] [] (fun (s : Value) => s) (fun s => [Val (Kd.osl (Kd.int .u8)) s r]) := by
 unfold slices_Concat_s_byte_byte.f at H
 refine Spc.go Try.func46 rfl (by kernel_rfl) rfl rfl (all_cons (Val.per Per_sl) all_nil) fun F a w h => ?_
 refine Go.seq ?_
 refine Go.reg ?_
 refine gs h (o_assign rfl) rfl fun _ _ _ h => ?_
 refine GoR.done ?_
 refine Go.seq ?_
 refine Go.reg ?_
 refine gs h (o_assign rfl) rfl fun _ _ _ h => ?_
 refine GoR.done ?_
 refine Go.seq ?_
 refine Go.seq ?_
 refine Go.reg ?_
 refine gs h (o_move rfl) rfl fun _ _ _ h => ?_
 have g1 := (len_at 0 rfl h.mem)
 refine gs h (o_ln rfl (rd_at 0 rfl) t_v100) rfl fun _ _ _ h => ?_
 refine gs h (o_move rfl) rfl fun _ _ _ h => ?_
 refine GoR.done ?_
 refine Go.block ?_
 obtain ⟨o1, hl, G1⟩ := bindE H
 refine g_cut (fun G => ∀ j1 (a : Act) (w : World), o1 = j1 → InR .i64 j1 → St Try.f46.ntmps F [(0, v1), (3, .int .i64 j1)] [Val (Kd.sl (Kd.sl (Kd.int .u8))) v1 a1] a w → G a w) 2 ?_ fun J1 => ?_
 ·intro j1 a w ho_ g5 h
  rw [ho_] at G1
  have H := G1
  refine Go.seq ?_
  refine Go.reg ?_
  refine gs h (o_move rfl) rfl fun _ _ _ h => ?_
  obtain ⟨r1, er1, H⟩ := bindE H
  refine gs h (o_call (slices_Grow_s_byte_byte.spc j1 g5 r1 er1) rfl [] [] (by decide) rfl rfl) rfl fun v3 _ _ h => ?_
  refine gs h (o_assign rfl) rfl fun _ _ _ h => ?_
  refine GoR.done ?_
  refine Go.seq ?_
  refine Go.seq ?_
  refine Go.reg ?_
  refine gs h (o_move rfl) rfl fun _ _ _ h => ?_
  have g6 := (len_at 1 rfl h.mem)
  refine gs h (o_ln rfl (rd_at 1 rfl) t_v100) rfl fun _ _ _ h => ?_
  refine gs h (o_move rfl) rfl fun _ _ _ h => ?_
  refine GoR.done ?_
  refine Go.block ?_
  obtain ⟨o2, hl, G2⟩ := bindE H
  refine g_cut (fun G => ∀ j2 (v7 : Value) (a : Act) (w : World), o2 = j2 → St Try.f46.ntmps F [(6, v7)] [Val (Kd.osl (Kd.int .u8)) v7 j2] a w → G a w) 2 ?_ fun J2 => ?_
  ·intro j2 v7 a w ho_ h
   rw [ho_] at G2
   have H := G2
   refine Go.seq ?_
   refine Go.reg ?_
   refine gs h (o_move rfl) rfl fun _ _ _ h => ?_
   refine gs h (o_assign rfl) rfl fun _ _ _ h => ?_
   refine GoR.done ?_
   rw [← som H]
   exact g_ret (vs := [v7]) h Try.func46 ⟨rfl, trivial⟩ ⟨v7, rfl, (h.mem.pick [0] (by decide) rfl)⟩
  refine g_loop (fun s2 G => ∀ (v4 : Value) (a : Act) (w : World), InR .i64 s2.2 → St Try.f46.ntmps F [(6, v4), (25, v1), (26, .int .i64 (a1.length : Int)), (27, .int .i64 s2.2)] [Val (Kd.osl (Kd.int .u8)) v4 s2.1, Val (Kd.sl (Kd.sl (Kd.int .u8))) v1 a1] a w → G a w) hl (fun s2 p2 H i2 => ?_) fun I_ => ?_
  ·intro v4 a w g7 h
   refine Go.seq ?_
   refine Go.reg ?_
   refine gs h (o_bin rfl rfl rfl) rfl fun _ _ _ h => ?_
   refine GoR.done ?_
   refine Go.seq ?_
   by_cases c3 : decide (s2.2 < (a1.length : Int)) = true
   ·have H := ifT c3 H
    refine g_t h rfl c3 ?_
    refine Go.skip ?_
    refine Go.seq ?_
    refine Go.block ?_
    refine Go.seq ?_
    refine Go.reg ?_
    obtain ⟨x2, ex2, H⟩ := bindE H
    refine gs h (o_ix rfl rfl (rd_at 1 rfl) ex2 t_v100) rfl fun _ _ _ h => ?_
    refine gs h (o_lev rfl (rd_at 1 rfl) ex2 t_y23 (by decide)) rfl fun v5 _ _ h => ?_
    refine gs h (o_assign rfl) rfl fun _ _ _ h => ?_
    refine GoR.done ?_
    refine Go.reg ?_
    refine gs h (o_move rfl) rfl fun _ _ _ h => ?_
    refine gs h (o_move rfl) rfl fun _ _ _ h => ?_
    obtain ⟨x3, ex3, H⟩ := bindE H
    refine gs h (o_app (K := (Kd.int .u8)) 1 rfl rfl rfl (rd_at 0 rfl) ex3 t_a23 t_n23) rfl fun v6 _ _ h => ?_
    refine gs h (o_assign rfl) rfl fun _ _ _ h => ?_
    refine GoR.done ?_
    refine Go.inBlock ?_
    refine Go.reg ?_
    refine gs h (o_bin rfl rfl rfl) rfl fun _ _ _ h => ?_
    refine gs h (o_move rfl) rfl fun _ _ _ h => ?_
    refine GoR.done ?_
    have e_ := som H; subst e_
    exact Go.inLoop (nx_in i2 v6 _ _ (wrap_in _ _) (h.wk (by rfl) [1, 2] (by decide) (by rfl)))
   ·have H := ifF c3 H
    refine g_f h rfl c3 ?_
    refine Go.exit rfl ?_
    have e_ := som H; subst e_
    exact J2 s2.1 v4 _ _ (nx_out i2).symm (h.wk (by rfl) [0] (by decide) (by rfl))
  ·exact I_ v3 _ _ (show InR .i64 0 by decide) (h.wk (by rfl) [0, 1] (by decide) (by rfl))
 refine g_loop (fun s1 G => ∀  (a : Act) (w : World), InR .i64 s1.1 → InR .i64 s1.2 → St Try.f46.ntmps F [(0, v1), (3, .int .i64 s1.1), (9, v1), (10, .int .i64 (a1.length : Int)), (11, .int .i64 s1.2)] [Val (Kd.sl (Kd.sl (Kd.int .u8))) v1 a1] a w → G a w) hl (fun s1 p1 H i1 => ?_) fun I_ => ?_
 ·intro  a w g2 g3 h
  refine Go.seq ?_
  refine Go.reg ?_
  refine gs h (o_bin rfl rfl rfl) rfl fun _ _ _ h => ?_
  refine GoR.done ?_
  refine Go.seq ?_
  by_cases c1 : decide (s1.2 < (a1.length : Int)) = true
  ·have H := ifT c1 H
   refine g_t h rfl c1 ?_
   refine Go.skip ?_
   refine Go.seq ?_
   refine Go.block ?_
   refine Go.seq ?_
   refine Go.reg ?_
   obtain ⟨x1, ex1, H⟩ := bindE H
   refine gs h (o_ix rfl rfl (rd_at 0 rfl) ex1 t_v100) rfl fun _ _ _ h => ?_
   refine gs h (o_lev rfl (rd_at 0 rfl) ex1 t_y23 (by decide)) rfl fun v2 _ _ h => ?_
   refine gs h (o_assign rfl) rfl fun _ _ _ h => ?_
   refine GoR.done ?_
   refine Go.seq ?_
   refine Go.reg ?_
   refine gs h (o_move rfl) rfl fun _ _ _ h => ?_
   refine gs h (o_move rfl) rfl fun _ _ _ h => ?_
   have g4 := (len_at 0 rfl h.mem)
   refine gs h (o_ln rfl (rd_at 0 rfl) t_v23) rfl fun _ _ _ h => ?_
   refine gs h (o_bin rfl rfl rfl) rfl fun _ _ _ h => ?_
   obtain ⟨y1, ey1, H⟩ := ltE H
   refine gs h (o_assign' rfl (congrArg (fun z => Value.int .i64 z) ey1)) rfl fun _ _ _ h => ?_
   refine GoR.done ?_
   refine Go.seq ?_
   refine Go.reg ?_
   refine gs h (o_move rfl) rfl fun _ _ _ h => ?_
   refine gs h (o_bin rfl rfl rfl) rfl fun _ _ _ h => ?_
   refine GoR.done ?_
   by_cases c2 : decide (y1 < 0) = true
   ·have H := ifT c2 H
    refine g_t h rfl c2 ?_
    cases H
   ·have H := ifF c2 H
    refine g_f h rfl c2 ?_
    refine Go.skip ?_
    refine Go.inBlock ?_
    refine Go.reg ?_
    refine gs h (o_bin rfl rfl rfl) rfl fun _ _ _ h => ?_
    refine gs h (o_move rfl) rfl fun _ _ _ h => ?_
    refine GoR.done ?_
    have e_ := som H; subst e_
    exact Go.inLoop (nx_in i1 _ _ (ey1 ▸ (wrap_in _ _)) (wrap_in _ _) (h.wk (by rfl) [1] (by decide) (by rfl)))
  ·have H := ifF c1 H
   refine g_f h rfl c1 ?_
   refine Go.exit rfl ?_
   have e_ := som H; subst e_
   exact J1 s1.1 _ _ (nx_out i1).symm g2 (h.wk (by rfl) [0] (by decide) (by rfl))
 ·exact I_ _ _ (show InR .i64 0 by decide) (show InR .i64 0 by decide) (h.wk (by rfl) [0] (by decide) (by rfl))
def slices_Concat_s_byte_byte.g (k_ : Nat) (a1 : List (List Int)) : Option ((List Int)) :=
  (loopK k_ (fun s1 => (if decide (s1.2 < (a1.length : Int)) = true then (idx a1 s1.2).bind fun x1 => lt (IntKind.i64.wrap (s1.1 + (x1.length : Int))) fun y1 => (if decide (y1 < 0) = true then none else some (.inl (y1, IntKind.i64.wrap (s1.2 + 1)))) else some (.inr (s1.1)))) (0, 0)).bind (fun j1 => (slices_Grow_s_byte_byte.g k_ j1).bind fun r1 => (loopK k_ (fun s2 => (if decide (s2.2 < (a1.length : Int)) = true then (idx a1 s2.2).bind fun x2 => (app s2.1 x2).bind fun x3 => some (.inl (x3, IntKind.i64.wrap (s2.2 + 1))) else some (.inr (s2.1)))) (r1, 0)).bind (fun j2 => some (j2)))
theorem slices_Concat_s_byte_byte.le (k_ : Nat) (a1 : List (List Int)) : Le (slices_Concat_s_byte_byte.g k_ a1) (slices_Concat_s_byte_byte.f a1) := by
 unfold slices_Concat_s_byte_byte.g slices_Concat_s_byte_byte.f
 repeat' (first | with_reducible refine le_loop fun _ => ?_ | with_reducible refine le_bind ?_ fun _ => ?_ | with_reducible refine le_ite ?_ ?_ | with_reducible refine le_lt fun _ => ?_ | with_reducible refine le_elim (fun _ => ?_) (fun _ => ?_) _ | with_reducible apply slices_Grow_s_byte_byte.le | with_reducible exact le_refl _)
/-! (*drawbridge/splice.step).flown -/
noncomputable def splice_step_flown.f (a1 : Tstep) : Option (Int) :=
  lt (IntKind.u32.wrap (a1.Conn.Next - a1.Conn.Una)) fun y1 => some (y1)
set_option maxRecDepth 100000 in
set_option maxHeartbeats 4000000 in
theorem splice_step_flown.spc (b1 : Nat) (a1 : Tstep) (r : Int) (H : splice_step_flown.f a1 = some r) : Spc Try.prog 58 [.pointer (some ⟨b1, 0, none⟩)] [Pfl KstepR b1 0 a1] [] (fun (s : Unit) => .int .i64 r) (fun s => [Ent.pur (InR .i64 r)]) := by
 unfold splice_step_flown.f at H
 refine Spc.go Try.func58 rfl (by kernel_rfl) rfl rfl (all_cons Per_pfl all_nil) fun F a w h => ?_
 refine Go.seq ?_
 refine Go.reg ?_
 refine gs h (o_assign rfl) rfl fun _ _ _ h => ?_
 refine GoR.done ?_
 refine Go.seq ?_
 replace h := h.wk (E' := [(0, .pointer (some ⟨b1, 0, none⟩)), (2, .int .i64 0)]) (L' := [Pfl KstepR b1 0 a1]) (by rfl) [0] (by decide) (by rfl)
 refine Go.draw (E := [(0, .pointer (some ⟨b1, 0, none⟩)), (2, .int .i64 0)]) [] (L := [Pfl KstepR b1 0 a1]) h rfl rfl 10 [⟨[], [], [], false, .con (.pointer (some ⟨b1, 0, none⟩)), none, fun u => [], []⟩, ⟨[0], [], [], false, .con (.pointer (some ⟨b1, 0, none⟩)), none, fun u => [], []⟩, ⟨[0, 1], [], [], false, .con (.pointer (some ⟨b1, 0, none⟩)), none, fun u => [], []⟩, ⟨[0, 1, 2], [], [], false, .con (.pointer (some ⟨b1, 10, none⟩)), none, fun u => [], []⟩, ⟨[0, 1, 2, 3], [], [], false, .con (.int .u32 a1.Conn.Next), none, fun u => [Ent.pur (InR .u32 a1.Conn.Next)], []⟩, ⟨[], [], [], false, .con (.pointer (some ⟨b1, 0, none⟩)), none, fun u => [], []⟩, ⟨[5], [], [], false, .con (.pointer (some ⟨b1, 0, none⟩)), none, fun u => [], []⟩, ⟨[5, 6], [], [], false, .con (.pointer (some ⟨b1, 0, none⟩)), none, fun u => [], []⟩, ⟨[5, 6, 7], [], [], false, .con (.pointer (some ⟨b1, 9, none⟩)), none, fun u => [], []⟩, ⟨[5, 6, 7, 8], [], [], false, .con (.int .u32 a1.Conn.Una), none, fun u => [Ent.pur (InR .u32 a1.Conn.Una)], []⟩] rfl t_mxo (by kernel_rfl) (by rfl) ?_ fun f1 _ _ h => ?_
 ·exact obs_cons (ob_con rfl (gok_none rfl) rfl fun f1 => (o_move rfl)) (obs_cons (ob_con rfl (gok_none rfl) rfl fun f1 => (o_nilc rfl)) (obs_cons (ob_con rfl (gok_none rfl) rfl fun f1 => (o_fa rfl t_f75_0 rfl rfl)) (obs_cons (ob_con rfl (gok_none rfl) rfl fun f1 => (o_fa rfl t_f26_10 rfl rfl)) (obs_cons (ob_con rfl (gok_none rfl) rfl fun f1 => (OpS.pur (fun F w m_ => (in2 (pf_sub t_sstepR_Conn_Next 0 rfl m_))) (p_lfx (K := KstepR) (pr := fun x => x.Conn.Next) (y := a1) 0 rfl rfl t_sstepR_Conn_Next rfl X_int t_y22))) (obs_cons (ob_con rfl (gok_none rfl) rfl fun f1 => (o_move rfl)) (obs_cons (ob_con rfl (gok_none rfl) rfl fun f1 => (o_nilc rfl)) (obs_cons (ob_con rfl (gok_none rfl) rfl fun f1 => (o_fa rfl t_f75_0 rfl rfl)) (obs_cons (ob_con rfl (gok_none rfl) rfl fun f1 => (o_fa rfl t_f26_9 rfl rfl)) (obs_cons (ob_con rfl (gok_none rfl) rfl fun f1 => (OpS.pur (fun F w m_ => (in2 (pf_sub t_sstepR_Conn_Una 0 rfl m_))) (p_lfx (K := KstepR) (pr := fun x => x.Conn.Una) (y := a1) 0 rfl rfl t_sstepR_Conn_Una rfl X_int t_y22))) (obs_nil))))))))))
 replace h := h.wk (E' := [(2, .int .i64 0), (7, .int .u32 a1.Conn.Next), (12, .int .u32 a1.Conn.Una)]) (L' := [Ent.pur (InR .u32 a1.Conn.Next), Ent.pur (InR .u32 a1.Conn.Una), Pfl KstepR b1 0 a1]) (by kernel_rfl) [0, 1, 2] (by decide) (by kernel_rfl)
 have g1 := (Mem.pur 0 rfl h.mem)
 have g2 := (Mem.pur 1 rfl h.mem)
 refine gs h (o_bin rfl rfl rfl) rfl fun _ _ _ h => ?_
 refine gs h (o_convw rfl t_q22 t_u3 (wrap_in _ _) rfl) rfl fun _ _ _ h => ?_
 obtain ⟨y1, ey1, H⟩ := ltE H
 refine gs h (o_assign' rfl (congrArg (fun z => Value.int .i64 z) ey1)) rfl fun _ _ _ h => ?_
 refine GoR.done ?_
 rw [← som H]
 exact g_ret (vs := [.int .i64 y1]) h Try.func58 ⟨rfl, trivial⟩ ⟨(), rfl, ((h.mem.pick [] (by decide) rfl).addpur (ey1 ▸ (inr_wid (k := .u32) (k' := .i64) (wrap_in _ _) rfl)))⟩
def splice_step_flown.g (k_ : Nat) (a1 : Tstep) : Option (Int) :=
  lt (IntKind.u32.wrap (a1.Conn.Next - a1.Conn.Una)) fun y1 => some (y1)
theorem splice_step_flown.le (k_ : Nat) (a1 : Tstep) : Le (splice_step_flown.g k_ a1) (splice_step_flown.f a1) := by
 unfold splice_step_flown.g splice_step_flown.f
 repeat' (first | with_reducible refine le_loop fun _ => ?_ | with_reducible refine le_bind ?_ fun _ => ?_ | with_reducible refine le_ite ?_ ?_ | with_reducible refine le_lt fun _ => ?_ | with_reducible refine le_elim (fun _ => ?_) (fun _ => ?_) _ | with_reducible exact le_refl _)
end Go.Proofs.Ytpcbhkigmnpimaa.S
