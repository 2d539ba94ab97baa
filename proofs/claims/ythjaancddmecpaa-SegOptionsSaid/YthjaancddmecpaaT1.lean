/- Contracts, printed by a program of this session. -/
import Derived.Test.YthjaancddmecpaaT0
namespace Go.Proofs.Ythjaancddmecpaa.S
open Go Go.SL Go.RowKit
set_option linter.unusedVariables false
set_option linter.unusedSimpArgs false
/-! drawbridge/seg.of -/
noncomputable def seg_of.f (a1 : TSeg) : Option (Thead) :=
  some ((⟨IntKind.u16.wrap a1.Src, IntKind.u16.wrap a1.Dst, a1.Seq, a1.Ack, IntKind.u8.wrap a1.Flags, IntKind.u16.wrap a1.Win⟩ : Thead))
set_option maxRecDepth 100000 in
set_option maxHeartbeats 4000000 in
theorem seg_of.spc (v1 : Value) (a1 : TSeg) (r : Thead) (H : seg_of.f a1 = some r) : Spc Try.prog 23 [v1] [Val KSeg v1 a1] [] (fun (s : Value) => s) (fun s => [Val Khead s r]) := by
 unfold seg_of.f at H
 refine Spc.go Try.func23 rfl (by kernel_rfl) rfl rfl (all_cons (Val.per PSeg) all_nil) fun F a w h => ?_
 refine Go.seq ?_
 refine Go.reg ?_
 refine gs h (o_box (K := KSeg) rfl (pv_at PSeg 0 rfl)) rfl fun b1 _ _ h => ?_
 refine gs h (o_alloc (K := Khead) (z := (.agg #[.int .u16 0, .int .u16 0, .int .u32 0, .int .u32 0, .int .u8 0, .int .u16 0])) rfl Zhead) rfl fun b2 _ _ h => ?_
 refine GoR.done ?_
 refine Go.seq ?_
 refine Go.reg ?_
 refine gs h (o_fa rfl t_f25_0 rfl rfl) rfl fun _ _ _ h => ?_
 have g1 := (in2 (fd_sub sSeg_Src 1 rfl h.mem))
 refine gs h (o_lfx 1 rfl rfl sSeg_Src rfl X_int t_y3) rfl fun _ _ _ h => ?_
 refine gs h (o_conv rfl t_q3 t_u52) rfl fun _ _ _ h => ?_
 refine gs h (o_fa rfl t_f25_1 rfl rfl) rfl fun _ _ _ h => ?_
 have g2 := (in2 (fd_sub sSeg_Dst 1 rfl h.mem))
 refine gs h (o_lfx 1 rfl rfl sSeg_Dst rfl X_int t_y3) rfl fun _ _ _ h => ?_
 refine gs h (o_conv rfl t_q3 t_u52) rfl fun _ _ _ h => ?_
 refine gs h (o_fa rfl t_f25_2 rfl rfl) rfl fun _ _ _ h => ?_
 have g3 := (in2 (fd_sub sSeg_Seq 1 rfl h.mem))
 refine gs h (o_lfx 1 rfl rfl sSeg_Seq rfl X_int t_y22) rfl fun _ _ _ h => ?_
 refine gs h (o_fa rfl t_f25_3 rfl rfl) rfl fun _ _ _ h => ?_
 have g4 := (in2 (fd_sub sSeg_Ack 1 rfl h.mem))
 refine gs h (o_lfx 1 rfl rfl sSeg_Ack rfl X_int t_y22) rfl fun _ _ _ h => ?_
 refine gs h (o_fa rfl t_f25_4 rfl rfl) rfl fun _ _ _ h => ?_
 have g5 := (in2 (fd_sub sSeg_Flags 1 rfl h.mem))
 refine gs h (o_lfx 1 rfl rfl sSeg_Flags rfl X_int t_y3) rfl fun _ _ _ h => ?_
 refine gs h (o_conv rfl t_q3 t_u5) rfl fun _ _ _ h => ?_
 refine gs h (o_fa rfl t_f25_5 rfl rfl) rfl fun _ _ _ h => ?_
 have g6 := (in2 (fd_sub sSeg_Win 1 rfl h.mem))
 refine gs h (o_lfx 1 rfl rfl sSeg_Win rfl X_int t_y3) rfl fun _ _ _ h => ?_
 refine gs h (o_conv rfl t_q3 t_u52) rfl fun _ _ _ h => ?_
 refine gs h (o_build (K := Khead) (x := (⟨IntKind.u16.wrap a1.Src, IntKind.u16.wrap a1.Dst, a1.Seq, a1.Ack, IntKind.u8.wrap a1.Flags, IntKind.u16.wrap a1.Win⟩ : Thead)) (ps := [(0, .int .u16 (IntKind.u16.wrap a1.Src)), (1, .int .u16 (IntKind.u16.wrap a1.Dst)), (2, .int .u32 a1.Seq), (3, .int .u32 a1.Ack), (4, .int .u8 (IntKind.u8.wrap a1.Flags)), (5, .int .u16 (IntKind.u16.wrap a1.Win))]) rfl (zs := zshead) rfl t_b54 rfl (show PB (Kd.pair (Kd.int .u16) (Kd.pair (Kd.int .u16) (Kd.pair (Kd.int .u32) (Kd.pair (Kd.int .u32) (Kd.pair (Kd.int .u8) (Kd.last (Kd.int .u16))))))) (IntKind.u16.wrap a1.Src, IntKind.u16.wrap a1.Dst, a1.Seq, a1.Ack, IntKind.u8.wrap a1.Flags, IntKind.u16.wrap a1.Win) 0 zshead _ _ from (pb_part (pv_int (wrap_in _ _)) rfl (pb_part (pv_int (wrap_in _ _)) rfl (pb_part (pv_int g3) rfl (pb_part (pv_int g4) rfl (pb_part (pv_int (wrap_in _ _)) rfl (pb_lastp (pv_int (wrap_in _ _)) rfl)))))))) rfl fun v2 _ _ h => ?_
 refine gs0 h (o_st 1 rfl rfl rfl (pv_at Phead 0 rfl) rfl t_w54) fun _ _ _ h => ?_
 refine GoR.done ?_
 obtain ⟨v3, h, u1⟩ := h.peek 1 rfl Phead t_y54
 rw [← som H]
 exact g_ret (vs := [v3]) h Try.func23 ⟨⟨_, rfl, u1⟩, trivial⟩ ⟨v3, rfl, (h.mem.pick [0] (by decide) rfl)⟩
def seg_of.g (k_ : Nat) (a1 : TSeg) : Option (Thead) :=
  some ((⟨IntKind.u16.wrap a1.Src, IntKind.u16.wrap a1.Dst, a1.Seq, a1.Ack, IntKind.u8.wrap a1.Flags, IntKind.u16.wrap a1.Win⟩ : Thead))
theorem seg_of.le (k_ : Nat) (a1 : TSeg) : Le (seg_of.g k_ a1) (seg_of.f a1) := by
 unfold seg_of.g seg_of.f
 repeat' (first | with_reducible refine le_loop fun _ => ?_ | with_reducible refine le_bind ?_ fun _ => ?_ | with_reducible refine le_ite ?_ ?_ | with_reducible refine le_lt fun _ => ?_ | with_reducible refine le_elim (fun _ => ?_) (fun _ => ?_) _ | with_reducible exact le_refl _)
/-! (drawbridge/seg.head).seg -/
noncomputable def seg_head_seg.f (a1 : Thead) : Option (TSeg) :=
  some ((⟨a1.src, a1.dst, a1.seq, a1.ack, a1.flags, a1.win, 0, []⟩ : TSeg))
set_option maxRecDepth 100000 in
set_option maxHeartbeats 4000000 in
theorem seg_head_seg.spc (v1 : Value) (a1 : Thead) (r : TSeg) (H : seg_head_seg.f a1 = some r) : Spc Try.prog 35 [v1] [Val Khead v1 a1] [] (fun (s : Value) => s) (fun s => [Val KSeg s r]) := by
 unfold seg_head_seg.f at H
 refine Spc.go Try.func35 rfl (by kernel_rfl) rfl rfl (all_cons (Val.per Phead) all_nil) fun F a w h => ?_
 refine Go.seq ?_
 refine Go.reg ?_
 refine gs h (o_box (K := Khead) rfl (pv_at Phead 0 rfl)) rfl fun b1 _ _ h => ?_
 refine gs h (o_alloc (K := KSeg) (z := (.agg #[.int .i64 0, .int .i64 0, .int .u32 0, .int .u32 0, .int .i64 0, .int .i64 0, .int .i64 0, .slice none 0 0])) rfl ZSeg) rfl fun b2 _ _ h => ?_
 refine GoR.done ?_
 refine Go.seq ?_
 refine Go.reg ?_
 refine gs h (o_fa rfl t_f54_0 rfl rfl) rfl fun _ _ _ h => ?_
 have g1 := (in2 (fd_sub shead_src 1 rfl h.mem))
 refine gs h (o_lfx 1 rfl rfl shead_src rfl X_int t_y52) rfl fun _ _ _ h => ?_
 refine gs h (o_convw rfl t_q52 t_u3 g1 rfl) rfl fun _ _ _ h => ?_
 refine gs h (o_fa rfl t_f54_1 rfl rfl) rfl fun _ _ _ h => ?_
 have g2 := (in2 (fd_sub shead_dst 1 rfl h.mem))
 refine gs h (o_lfx 1 rfl rfl shead_dst rfl X_int t_y52) rfl fun _ _ _ h => ?_
 refine gs h (o_convw rfl t_q52 t_u3 g2 rfl) rfl fun _ _ _ h => ?_
 refine gs h (o_fa rfl t_f54_2 rfl rfl) rfl fun _ _ _ h => ?_
 have g3 := (in2 (fd_sub shead_seq 1 rfl h.mem))
 refine gs h (o_lfx 1 rfl rfl shead_seq rfl X_int t_y22) rfl fun _ _ _ h => ?_
 refine gs h (o_fa rfl t_f54_3 rfl rfl) rfl fun _ _ _ h => ?_
 have g4 := (in2 (fd_sub shead_ack 1 rfl h.mem))
 refine gs h (o_lfx 1 rfl rfl shead_ack rfl X_int t_y22) rfl fun _ _ _ h => ?_
 refine gs h (o_fa rfl t_f54_4 rfl rfl) rfl fun _ _ _ h => ?_
 have g5 := (in2 (fd_sub shead_flags 1 rfl h.mem))
 refine gs h (o_lfx 1 rfl rfl shead_flags rfl X_int t_y5) rfl fun _ _ _ h => ?_
 refine gs h (o_convw rfl t_q5 t_u3 g5 rfl) rfl fun _ _ _ h => ?_
 refine gs h (o_fa rfl t_f54_5 rfl rfl) rfl fun _ _ _ h => ?_
 have g6 := (in2 (fd_sub shead_win 1 rfl h.mem))
 refine gs h (o_lfx 1 rfl rfl shead_win rfl X_int t_y52) rfl fun _ _ _ h => ?_
 refine gs h (o_convw rfl t_q52 t_u3 g6 rfl) rfl fun _ _ _ h => ?_
 refine gs h (o_build (K := KSeg) (x := (⟨a1.src, a1.dst, a1.seq, a1.ack, a1.flags, a1.win, 0, []⟩ : TSeg)) (ps := [(0, .int .i64 a1.src), (1, .int .i64 a1.dst), (2, .int .u32 a1.seq), (3, .int .u32 a1.ack), (4, .int .i64 a1.flags), (5, .int .i64 a1.win)]) rfl (zs := zsSeg) rfl t_b25 rfl (show PB (Kd.pair (Kd.int .i64) (Kd.pair (Kd.int .i64) (Kd.pair (Kd.int .u32) (Kd.pair (Kd.int .u32) (Kd.pair (Kd.int .i64) (Kd.pair (Kd.int .i64) (Kd.pair (Kd.int .i64) (Kd.last (Kd.sl (Kd.int .u8)))))))))) (a1.src, a1.dst, a1.seq, a1.ack, a1.flags, a1.win, 0, []) 0 zsSeg _ _ from (pb_part (pv_int (inr_wid (k := .u16) (k' := .i64) g1 rfl)) rfl (pb_part (pv_int (inr_wid (k := .u16) (k' := .i64) g2 rfl)) rfl (pb_part (pv_int g3) rfl (pb_part (pv_int g4) rfl (pb_part (pv_int (inr_wid (k := .u8) (k' := .i64) g5 rfl)) rfl (pb_part (pv_int (inr_wid (k := .u16) (k' := .i64) g6 rfl)) rfl (pb_zero z_int (pb_lastz z_sl)))))))))) rfl fun v2 _ _ h => ?_
 refine gs0 h (o_st 1 rfl rfl rfl (pv_at PSeg 0 rfl) rfl t_w25) fun _ _ _ h => ?_
 refine GoR.done ?_
 obtain ⟨v3, h, u1⟩ := h.peek 1 rfl PSeg t_y25
 rw [← som H]
 exact g_ret (vs := [v3]) h Try.func35 ⟨⟨_, rfl, u1⟩, trivial⟩ ⟨v3, rfl, (h.mem.pick [0] (by decide) rfl)⟩
def seg_head_seg.g (k_ : Nat) (a1 : Thead) : Option (TSeg) :=
  some ((⟨a1.src, a1.dst, a1.seq, a1.ack, a1.flags, a1.win, 0, []⟩ : TSeg))
theorem seg_head_seg.le (k_ : Nat) (a1 : Thead) : Le (seg_head_seg.g k_ a1) (seg_head_seg.f a1) := by
 unfold seg_head_seg.g seg_head_seg.f
 repeat' (first | with_reducible refine le_loop fun _ => ?_ | with_reducible refine le_bind ?_ fun _ => ?_ | with_reducible refine le_ite ?_ ?_ | with_reducible refine le_lt fun _ => ?_ | with_reducible refine le_elim (fun _ => ?_) (fun _ => ?_) _ | with_reducible exact le_refl _)
end Go.Proofs.Ythjaancddmecpaa.S
