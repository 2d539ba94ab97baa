/- Contracts, printed by a program of this session. -/
import Derived.Test.YtpcbhkigmnpimaaT3
import Derived.Test.YtpcbhkigmnpimaaT5
namespace Go.Proofs.Ytpcbhkigmnpimaa.S
open Go Go.SL Go.RowKit
set_option linter.unusedVariables false
set_option linter.unusedSimpArgs false
/-! drawbridge/seg.same -/
noncomputable def seg_same.f (a1 : TSeg) : Option (Bool) :=
  (seg_of.f a1).bind fun r1 => (seg_head_seg.f r1).bind fun r2 => ((if decide (a1.Flags ≤ 63) = true then (if decide (r2.Src = a1.Src) = true then (if decide (r2.Dst = a1.Dst) = true then (if decide (r2.Flags = a1.Flags) = true then (if decide (r2.Win = a1.Win) = true then (seg_of.f r2).bind fun r3 => (seg_of.f a1).bind fun r4 => lt (decide (r3.src = r4.src) && (decide (r3.dst = r4.dst) && (decide (r3.seq = r4.seq) && (decide (r3.ack = r4.ack) && (decide (r3.flags = r4.flags) && (decide (r3.win = r4.win))))))) fun y1 => some (y1) else some (false)) else some (false)) else some (false)) else some (false)) else some (false))).bind (fun j1 => some (j1))
set_option maxRecDepth 100000 in
set_option maxHeartbeats 4000000 in
theorem seg_same.spc (v1 : Value) (a1 : TSeg) (r : Bool) (H : seg_same.f a1 = some r) : Spc Try.prog 42 [v1] [Val KSeg v1 a1] [] (fun (s : Unit) => .bool r) (fun s => []) := by
 unfold seg_same.f at H
 refine Spc.go Try.func42 rfl (by kernel_rfl) rfl rfl (all_cons (Val.per PSeg) all_nil) fun F a w h => ?_
 refine Go.seq ?_
 refine Go.reg ?_
 refine gs h (o_box (K := KSeg) rfl (pv_at PSeg 0 rfl)) rfl fun b1 _ _ h => ?_
 refine ga h (o_assign rfl) rfl fun h => ?_
 refine GoR.done ?_
 refine Go.seq ?_
 refine Go.reg ?_
 refine gs h (o_ldv 0 rfl rfl PSeg t_y30) rfl fun v2 _ _ h => ?_
 obtain ⟨r1, er1, H⟩ := bindE H
 refine gs h (o_call (seg_of.spc v2 a1 r1 er1) rfl [0] [] (by decide) rfl rfl) rfl fun v3 _ _ h => ?_
 obtain ⟨r2, er2, H⟩ := bindE H
 refine gs h (o_call (seg_head_seg.spc v3 r1 r2 er2) rfl [0] [] (by decide) rfl rfl) rfl fun v4 _ _ h => ?_
 refine gs h (o_alloc (K := KSeg) (z := (.agg #[.int .i64 0, .int .i64 0, .int .u32 0, .int .u32 0, .int .i64 0, .int .i64 0, .int .i64 0, .slice none 0 0])) rfl ZSeg) rfl fun b2 _ _ h => ?_
 refine gs0 h (o_st 0 rfl rfl rfl (pv_at PSeg 1 rfl) rfl t_w30) fun _ _ _ h => ?_
 refine GoR.done ?_
 refine Go.seq ?_
 replace h := h.wq [(1, pt b1), (2, .bool false), (3, pt b2)] [Fld KSeg b2 0 r2, Val KSeg v4 r2, Val Khead v3 r1, Val KSeg v2 a1, Fld KSeg b1 0 a1, Val KSeg v1 a1] [0, 1, 2, 3, 4, 5]
 obtain ⟨o1, H, G1⟩ := bindE H
 refine g_cut (fun G => ∀ j1 (a : Act) (w : World), o1 = j1 → St Try.f42.ntmps F [(2, .bool j1)] [Fld KSeg b2 0 r2, Fld KSeg b1 0 a1] a w → G a w) 1 ?_ fun J1 => ?_
 ·intro j1 a w ho_ h
  rw [ho_] at G1
  have H := G1
  rw [← som H]
  exact g_ret (vs := [.bool j1]) h Try.func42 ⟨rfl, trivial⟩ ⟨(), rfl, (h.mem.pick [] (by decide) rfl)⟩
 by_cases c1 : decide (a1.Flags ≤ 63) = true
 ·have H := ifT c1 H
  by_cases c2 : decide (r2.Src = a1.Src) = true
  ·have H := ifT c2 H
   by_cases c3 : decide (r2.Dst = a1.Dst) = true
   ·have H := ifT c3 H
    by_cases c4 : decide (r2.Flags = a1.Flags) = true
    ·have H := ifT c4 H
     by_cases c5 : decide (r2.Win = a1.Win) = true
     ·have H := ifT c5 H
      obtain ⟨r3, er3, H⟩ := bindE H
      refine Go.draw (E := [(1, pt b1), (2, .bool false), (3, pt b2)]) [] (L := [Fld KSeg b2 0 r2, Val KSeg v4 r2, Val Khead v3 r1, Val KSeg v2 a1, Fld KSeg b1 0 a1, Val KSeg v1 a1]) h rfl rfl 35 [cn (.pointer (some ⟨b1, 4, none⟩)), cm [0] [] [] (.int .i64 a1.Flags) fun u => [Ent.pur (InR .i64 a1.Flags)], ce [0, 1] (.bool (decide (a1.Flags ≤ 63))), ce [0, 1, 2] (.bool (decide (a1.Flags ≤ 63))), ce [0, 1, 2, 3] (pt b2), cm [0, 1, 2, 3, 4] [] [] (.int .i64 r2.Src) fun u => [Ent.pur (InR .i64 r2.Src)], ce [0, 1, 2, 3] (pt b1), cm [0, 1, 2, 3, 6] [] [] (.int .i64 a1.Src) fun u => [Ent.pur (InR .i64 a1.Src)], ce [0, 1, 2, 3, 4, 5, 6, 7] (.bool (decide (r2.Src = a1.Src))), ce [0, 1, 2, 3, 4, 5, 6, 7, 8] (.bool (decide (r2.Src = a1.Src))), ce [0, 1, 2, 3, 4, 5, 6, 7, 8, 9] (.bool (decide (r2.Src = a1.Src))), ce [0, 1, 2, 3, 4, 5, 6, 7, 8, 9, 10] (.pointer (some ⟨b2, 1, none⟩)), cm [0, 1, 2, 3, 4, 5, 6, 7, 8, 9, 10, 11] [] [] (.int .i64 r2.Dst) fun u => [Ent.pur (InR .i64 r2.Dst)], ce [0, 1, 2, 3, 4, 5, 6, 7, 8, 9, 10] (.pointer (some ⟨b1, 1, none⟩)), cm [0, 1, 2, 3, 4, 5, 6, 7, 8, 9, 10, 13] [] [] (.int .i64 a1.Dst) fun u => [Ent.pur (InR .i64 a1.Dst)], ce [0, 1, 2, 3, 4, 5, 6, 7, 8, 9, 10, 11, 12, 13, 14] (.bool (decide (r2.Dst = a1.Dst))), ce [0, 1, 2, 3, 4, 5, 6, 7, 8, 9, 10, 11, 12, 13, 14, 15] (.bool (decide (r2.Dst = a1.Dst))), ce [0, 1, 2, 3, 4, 5, 6, 7, 8, 9, 10, 11, 12, 13, 14, 15, 16] (.bool (decide (r2.Dst = a1.Dst))), ce [0, 1, 2, 3, 4, 5, 6, 7, 8, 9, 10, 11, 12, 13, 14, 15, 16, 17] (.pointer (some ⟨b2, 4, none⟩)), cm [0, 1, 2, 3, 4, 5, 6, 7, 8, 9, 10, 11, 12, 13, 14, 15, 16, 17, 18] [] [] (.int .i64 r2.Flags) fun u => [Ent.pur (InR .i64 r2.Flags)], ce [0, 1, 2, 3, 4, 5, 6, 7, 8, 9, 10, 11, 12, 13, 14, 15, 16, 17] (.pointer (some ⟨b1, 4, none⟩)), cm [0, 1, 2, 3, 4, 5, 6, 7, 8, 9, 10, 11, 12, 13, 14, 15, 16, 17, 20] [] [] (.int .i64 a1.Flags) fun u => [Ent.pur (InR .i64 a1.Flags)], ce [0, 1, 2, 3, 4, 5, 6, 7, 8, 9, 10, 11, 12, 13, 14, 15, 16, 17, 18, 19, 20, 21] (.bool (decide (r2.Flags = a1.Flags))), ce [0, 1, 2, 3, 4, 5, 6, 7, 8, 9, 10, 11, 12, 13, 14, 15, 16, 17, 18, 19, 20, 21, 22] (.bool (decide (r2.Flags = a1.Flags))), ce [0, 1, 2, 3, 4, 5, 6, 7, 8, 9, 10, 11, 12, 13, 14, 15, 16, 17, 18, 19, 20, 21, 22, 23] (.bool (decide (r2.Flags = a1.Flags))), ce [0, 1, 2, 3, 4, 5, 6, 7, 8, 9, 10, 11, 12, 13, 14, 15, 16, 17, 18, 19, 20, 21, 22, 23, 24] (.pointer (some ⟨b2, 5, none⟩)), cm [0, 1, 2, 3, 4, 5, 6, 7, 8, 9, 10, 11, 12, 13, 14, 15, 16, 17, 18, 19, 20, 21, 22, 23, 24, 25] [] [] (.int .i64 r2.Win) fun u => [Ent.pur (InR .i64 r2.Win)], ce [0, 1, 2, 3, 4, 5, 6, 7, 8, 9, 10, 11, 12, 13, 14, 15, 16, 17, 18, 19, 20, 21, 22, 23, 24] (.pointer (some ⟨b1, 5, none⟩)), cm [0, 1, 2, 3, 4, 5, 6, 7, 8, 9, 10, 11, 12, 13, 14, 15, 16, 17, 18, 19, 20, 21, 22, 23, 24, 27] [] [] (.int .i64 a1.Win) fun u => [Ent.pur (InR .i64 a1.Win)], ce [0, 1, 2, 3, 4, 5, 6, 7, 8, 9, 10, 11, 12, 13, 14, 15, 16, 17, 18, 19, 20, 21, 22, 23, 24, 25, 26, 27, 28] (.bool (decide (r2.Win = a1.Win))), ce [0, 1, 2, 3, 4, 5, 6, 7, 8, 9, 10, 11, 12, 13, 14, 15, 16, 17, 18, 19, 20, 21, 22, 23, 24, 25, 26, 27, 28, 29] (.bool (decide (r2.Win = a1.Win))), ce [0, 1, 2, 3, 4, 5, 6, 7, 8, 9, 10, 11, 12, 13, 14, 15, 16, 17, 18, 19, 20, 21, 22, 23, 24, 25, 26, 27, 28, 29, 30] (.bool (decide (r2.Win = a1.Win))), cw [0, 1, 2, 3, 4, 5, 6, 7, 8, 9, 10, 11, 12, 13, 14, 15, 16, 17, 18, 19, 20, 21, 22, 23, 24, 25, 26, 27, 28, 29, 30, 31] [] [] fun u => [Val KSeg u r2], cw [0, 1, 2, 3, 4, 5, 6, 7, 8, 9, 10, 11, 12, 13, 14, 15, 16, 17, 18, 19, 20, 21, 22, 23, 24, 25, 26, 27, 28, 29, 30, 31, 32] [32] [] fun u => [Val Khead u r3], cw [0, 1, 2, 3, 4, 5, 6, 7, 8, 9, 10, 11, 12, 13, 14, 15, 16, 17, 18, 19, 20, 21, 22, 23, 24, 25, 26, 27, 28, 29, 30, 31] [] [] fun u => [Val KSeg u a1]] rfl t_mxo (by kernel_rfl) (by rfl) ?_ fun f1 _ _ h => ?_
      ·exact ox rfl (o_fa rfl t_f30_4 rfl rfl) (ox rfl (OpS.pur (fun F w m_ => (in2 (fd_sub sSeg_Flags 4 rfl m_))) (o_lfx 4 rfl rfl sSeg_Flags rfl X_int t_y3)) (ox rfl (o_bin rfl rfl rfl) (ox rfl (o_move rfl) (og rfl rfl (fun _ => rfl) c1 (o_fa rfl t_f30_0 rfl rfl) (og rfl rfl (fun _ => rfl) c1 (OpS.pur (fun F w m_ => (in2 (fd_sub sSeg_Src 0 rfl m_))) (o_lfx 0 rfl rfl sSeg_Src rfl X_int t_y3)) (og rfl rfl (fun _ => rfl) c1 (o_fa rfl t_f30_0 rfl rfl) (og rfl rfl (fun _ => rfl) c1 (OpS.pur (fun F w m_ => (in2 (fd_sub sSeg_Src 4 rfl m_))) (o_lfx 4 rfl rfl sSeg_Src rfl X_int t_y3)) (og rfl rfl (fun _ => rfl) c1 (o_bin rfl rfl rfl) (ox rfl (o_pickT rfl rfl c1) (ox rfl (o_move rfl) (og rfl rfl (fun _ => rfl) c2 (o_fa rfl t_f30_1 rfl rfl) (og rfl rfl (fun _ => rfl) c2 (OpS.pur (fun F w m_ => (in2 (fd_sub sSeg_Dst 0 rfl m_))) (o_lfx 0 rfl rfl sSeg_Dst rfl X_int t_y3)) (og rfl rfl (fun _ => rfl) c2 (o_fa rfl t_f30_1 rfl rfl) (og rfl rfl (fun _ => rfl) c2 (OpS.pur (fun F w m_ => (in2 (fd_sub sSeg_Dst 4 rfl m_))) (o_lfx 4 rfl rfl sSeg_Dst rfl X_int t_y3)) (og rfl rfl (fun _ => rfl) c2 (o_bin rfl rfl rfl) (ox rfl (o_pickT rfl rfl c2) (ox rfl (o_move rfl) (og rfl rfl (fun _ => rfl) c3 (o_fa rfl t_f30_4 rfl rfl) (og rfl rfl (fun _ => rfl) c3 (OpS.pur (fun F w m_ => (in2 (fd_sub sSeg_Flags 0 rfl m_))) (o_lfx 0 rfl rfl sSeg_Flags rfl X_int t_y3)) (og rfl rfl (fun _ => rfl) c3 (o_fa rfl t_f30_4 rfl rfl) (og rfl rfl (fun _ => rfl) c3 (OpS.pur (fun F w m_ => (in2 (fd_sub sSeg_Flags 4 rfl m_))) (o_lfx 4 rfl rfl sSeg_Flags rfl X_int t_y3)) (og rfl rfl (fun _ => rfl) c3 (o_bin rfl rfl rfl) (ox rfl (o_pickT rfl rfl c3) (ox rfl (o_move rfl) (og rfl rfl (fun _ => rfl) c4 (o_fa rfl t_f30_5 rfl rfl) (og rfl rfl (fun _ => rfl) c4 (OpS.pur (fun F w m_ => (in2 (fd_sub sSeg_Win 0 rfl m_))) (o_lfx 0 rfl rfl sSeg_Win rfl X_int t_y3)) (og rfl rfl (fun _ => rfl) c4 (o_fa rfl t_f30_5 rfl rfl) (og rfl rfl (fun _ => rfl) c4 (OpS.pur (fun F w m_ => (in2 (fd_sub sSeg_Win 4 rfl m_))) (o_lfx 4 rfl rfl sSeg_Win rfl X_int t_y3)) (og rfl rfl (fun _ => rfl) c4 (o_bin rfl rfl rfl) (ox rfl (o_pickT rfl rfl c4) (ox rfl (o_move rfl) (obs_cons (ob_own rfl (gok_some rfl rfl rfl (fun _ => rfl) c5) rfl fun f1 => (o_ldv 0 rfl rfl PSeg t_y30)) (obs_cons (ob_own rfl (gok_some rfl rfl rfl (fun _ => rfl) c5) rfl fun f1 => (o_call (seg_of.spc (f1 32) r2 r3 er3) rfl [0] [] (by decide) rfl rfl)) (obs_cons (ob_own rfl (gok_some rfl rfl rfl (fun _ => rfl) c5) rfl fun f1 => (o_ldv 4 rfl rfl PSeg t_y30)) (obs_nil)))))))))))))))))))))))))))))))))))
      replace h := h.wk (E' := [(2, .bool false), (38, .bool (decide (r2.Win = a1.Win))), (40, (f1 33)), (41, (f1 34))]) (L' := [Ent.pur (InR .i64 a1.Flags), Ent.pur (InR .i64 r2.Src), Ent.pur (InR .i64 a1.Src), Ent.pur (InR .i64 r2.Dst), Ent.pur (InR .i64 a1.Dst), Ent.pur (InR .i64 r2.Flags), Ent.pur (InR .i64 a1.Flags), Ent.pur (InR .i64 r2.Win), Ent.pur (InR .i64 a1.Win), Val KSeg (f1 32) r2, Val Khead (f1 33) r3, Val KSeg (f1 34) a1, Fld KSeg b2 0 r2, Val KSeg v4 r2, Val Khead v3 r1, Val KSeg v2 a1, Fld KSeg b1 0 a1, Val KSeg v1 a1]) (by kernel_rfl) [0, 1, 2, 3, 4, 5, 6, 7, 8, 9, 10, 11, 12, 13, 14, 15, 16, 17] (by decide) (by kernel_rfl)
      obtain ⟨r4, er4, H⟩ := bindE H
      refine gg h rfl rfl c5 (o_call (seg_of.spc (f1 34) a1 r4 er4) rfl [11] [] (by decide) rfl rfl) rfl fun v8 _ _ h => ?_
      refine gg h rfl rfl c5 (o_eqv rfl rfl (pv_at Phead 11 rfl) (pv_at Phead 0 rfl) rfl t_e90 (.cons shead_src (eq_int t_u88) (.cons shead_dst (eq_int t_u88) (.cons shead_seq (eq_int t_u22) (.cons shead_ack (eq_int t_u22) (.cons shead_flags (eq_int t_u5) (.last shead_win (eq_int t_u88)))))))) rfl fun _ _ _ h => ?_
      refine ga h (o_pickT rfl rfl c5) rfl fun h => ?_
      obtain ⟨y1, ey1, H⟩ := ltE H
      refine ga h (o_assign' rfl (congrArg Value.bool ey1)) rfl fun h => ?_
      refine GoR.done ?_
      exact J1 y1 _ _ (som H).symm (h.wr [13, 17])
     ·have H := ifF c5 H
      refine Go.draw (E := [(1, pt b1), (2, .bool false), (3, pt b2)]) [] (L := [Fld KSeg b2 0 r2, Val KSeg v4 r2, Val Khead v3 r1, Val KSeg v2 a1, Fld KSeg b1 0 a1, Val KSeg v1 a1]) h rfl rfl 35 [cn (.pointer (some ⟨b1, 4, none⟩)), cm [0] [] [] (.int .i64 a1.Flags) fun u => [Ent.pur (InR .i64 a1.Flags)], ce [0, 1] (.bool (decide (a1.Flags ≤ 63))), ce [0, 1, 2] (.bool (decide (a1.Flags ≤ 63))), ce [0, 1, 2, 3] (pt b2), cm [0, 1, 2, 3, 4] [] [] (.int .i64 r2.Src) fun u => [Ent.pur (InR .i64 r2.Src)], ce [0, 1, 2, 3] (pt b1), cm [0, 1, 2, 3, 6] [] [] (.int .i64 a1.Src) fun u => [Ent.pur (InR .i64 a1.Src)], ce [0, 1, 2, 3, 4, 5, 6, 7] (.bool (decide (r2.Src = a1.Src))), ce [0, 1, 2, 3, 4, 5, 6, 7, 8] (.bool (decide (r2.Src = a1.Src))), ce [0, 1, 2, 3, 4, 5, 6, 7, 8, 9] (.bool (decide (r2.Src = a1.Src))), ce [0, 1, 2, 3, 4, 5, 6, 7, 8, 9, 10] (.pointer (some ⟨b2, 1, none⟩)), cm [0, 1, 2, 3, 4, 5, 6, 7, 8, 9, 10, 11] [] [] (.int .i64 r2.Dst) fun u => [Ent.pur (InR .i64 r2.Dst)], ce [0, 1, 2, 3, 4, 5, 6, 7, 8, 9, 10] (.pointer (some ⟨b1, 1, none⟩)), cm [0, 1, 2, 3, 4, 5, 6, 7, 8, 9, 10, 13] [] [] (.int .i64 a1.Dst) fun u => [Ent.pur (InR .i64 a1.Dst)], ce [0, 1, 2, 3, 4, 5, 6, 7, 8, 9, 10, 11, 12, 13, 14] (.bool (decide (r2.Dst = a1.Dst))), ce [0, 1, 2, 3, 4, 5, 6, 7, 8, 9, 10, 11, 12, 13, 14, 15] (.bool (decide (r2.Dst = a1.Dst))), ce [0, 1, 2, 3, 4, 5, 6, 7, 8, 9, 10, 11, 12, 13, 14, 15, 16] (.bool (decide (r2.Dst = a1.Dst))), ce [0, 1, 2, 3, 4, 5, 6, 7, 8, 9, 10, 11, 12, 13, 14, 15, 16, 17] (.pointer (some ⟨b2, 4, none⟩)), cm [0, 1, 2, 3, 4, 5, 6, 7, 8, 9, 10, 11, 12, 13, 14, 15, 16, 17, 18] [] [] (.int .i64 r2.Flags) fun u => [Ent.pur (InR .i64 r2.Flags)], ce [0, 1, 2, 3, 4, 5, 6, 7, 8, 9, 10, 11, 12, 13, 14, 15, 16, 17] (.pointer (some ⟨b1, 4, none⟩)), cm [0, 1, 2, 3, 4, 5, 6, 7, 8, 9, 10, 11, 12, 13, 14, 15, 16, 17, 20] [] [] (.int .i64 a1.Flags) fun u => [Ent.pur (InR .i64 a1.Flags)], ce [0, 1, 2, 3, 4, 5, 6, 7, 8, 9, 10, 11, 12, 13, 14, 15, 16, 17, 18, 19, 20, 21] (.bool (decide (r2.Flags = a1.Flags))), ce [0, 1, 2, 3, 4, 5, 6, 7, 8, 9, 10, 11, 12, 13, 14, 15, 16, 17, 18, 19, 20, 21, 22] (.bool (decide (r2.Flags = a1.Flags))), ce [0, 1, 2, 3, 4, 5, 6, 7, 8, 9, 10, 11, 12, 13, 14, 15, 16, 17, 18, 19, 20, 21, 22, 23] (.bool (decide (r2.Flags = a1.Flags))), ce [0, 1, 2, 3, 4, 5, 6, 7, 8, 9, 10, 11, 12, 13, 14, 15, 16, 17, 18, 19, 20, 21, 22, 23, 24] (.pointer (some ⟨b2, 5, none⟩)), cm [0, 1, 2, 3, 4, 5, 6, 7, 8, 9, 10, 11, 12, 13, 14, 15, 16, 17, 18, 19, 20, 21, 22, 23, 24, 25] [] [] (.int .i64 r2.Win) fun u => [Ent.pur (InR .i64 r2.Win)], ce [0, 1, 2, 3, 4, 5, 6, 7, 8, 9, 10, 11, 12, 13, 14, 15, 16, 17, 18, 19, 20, 21, 22, 23, 24] (.pointer (some ⟨b1, 5, none⟩)), cm [0, 1, 2, 3, 4, 5, 6, 7, 8, 9, 10, 11, 12, 13, 14, 15, 16, 17, 18, 19, 20, 21, 22, 23, 24, 27] [] [] (.int .i64 a1.Win) fun u => [Ent.pur (InR .i64 a1.Win)], ce [0, 1, 2, 3, 4, 5, 6, 7, 8, 9, 10, 11, 12, 13, 14, 15, 16, 17, 18, 19, 20, 21, 22, 23, 24, 25, 26, 27, 28] (.bool (decide (r2.Win = a1.Win))), ce [0, 1, 2, 3, 4, 5, 6, 7, 8, 9, 10, 11, 12, 13, 14, 15, 16, 17, 18, 19, 20, 21, 22, 23, 24, 25, 26, 27, 28, 29] (.bool (decide (r2.Win = a1.Win))), ce [0, 1, 2, 3, 4, 5, 6, 7, 8, 9, 10, 11, 12, 13, 14, 15, 16, 17, 18, 19, 20, 21, 22, 23, 24, 25, 26, 27, 28, 29, 30] (.bool (decide (r2.Win = a1.Win))), ⟨[31], [], [], true, .con undef, none, fun u => [], []⟩, ⟨[31], [], [], true, .con undef, none, fun u => [], []⟩, ⟨[31], [], [], true, .con undef, none, fun u => [], []⟩] rfl t_mxo (by kernel_rfl) (by rfl) ?_ fun f1 _ _ h => ?_
      ·exact ox rfl (o_fa rfl t_f30_4 rfl rfl) (ox rfl (OpS.pur (fun F w m_ => (in2 (fd_sub sSeg_Flags 4 rfl m_))) (o_lfx 4 rfl rfl sSeg_Flags rfl X_int t_y3)) (ox rfl (o_bin rfl rfl rfl) (ox rfl (o_move rfl) (og rfl rfl (fun _ => rfl) c1 (o_fa rfl t_f30_0 rfl rfl) (og rfl rfl (fun _ => rfl) c1 (OpS.pur (fun F w m_ => (in2 (fd_sub sSeg_Src 0 rfl m_))) (o_lfx 0 rfl rfl sSeg_Src rfl X_int t_y3)) (og rfl rfl (fun _ => rfl) c1 (o_fa rfl t_f30_0 rfl rfl) (og rfl rfl (fun _ => rfl) c1 (OpS.pur (fun F w m_ => (in2 (fd_sub sSeg_Src 4 rfl m_))) (o_lfx 4 rfl rfl sSeg_Src rfl X_int t_y3)) (og rfl rfl (fun _ => rfl) c1 (o_bin rfl rfl rfl) (ox rfl (o_pickT rfl rfl c1) (ox rfl (o_move rfl) (og rfl rfl (fun _ => rfl) c2 (o_fa rfl t_f30_1 rfl rfl) (og rfl rfl (fun _ => rfl) c2 (OpS.pur (fun F w m_ => (in2 (fd_sub sSeg_Dst 0 rfl m_))) (o_lfx 0 rfl rfl sSeg_Dst rfl X_int t_y3)) (og rfl rfl (fun _ => rfl) c2 (o_fa rfl t_f30_1 rfl rfl) (og rfl rfl (fun _ => rfl) c2 (OpS.pur (fun F w m_ => (in2 (fd_sub sSeg_Dst 4 rfl m_))) (o_lfx 4 rfl rfl sSeg_Dst rfl X_int t_y3)) (og rfl rfl (fun _ => rfl) c2 (o_bin rfl rfl rfl) (ox rfl (o_pickT rfl rfl c2) (ox rfl (o_move rfl) (og rfl rfl (fun _ => rfl) c3 (o_fa rfl t_f30_4 rfl rfl) (og rfl rfl (fun _ => rfl) c3 (OpS.pur (fun F w m_ => (in2 (fd_sub sSeg_Flags 0 rfl m_))) (o_lfx 0 rfl rfl sSeg_Flags rfl X_int t_y3)) (og rfl rfl (fun _ => rfl) c3 (o_fa rfl t_f30_4 rfl rfl) (og rfl rfl (fun _ => rfl) c3 (OpS.pur (fun F w m_ => (in2 (fd_sub sSeg_Flags 4 rfl m_))) (o_lfx 4 rfl rfl sSeg_Flags rfl X_int t_y3)) (og rfl rfl (fun _ => rfl) c3 (o_bin rfl rfl rfl) (ox rfl (o_pickT rfl rfl c3) (ox rfl (o_move rfl) (og rfl rfl (fun _ => rfl) c4 (o_fa rfl t_f30_5 rfl rfl) (og rfl rfl (fun _ => rfl) c4 (OpS.pur (fun F w m_ => (in2 (fd_sub sSeg_Win 0 rfl m_))) (o_lfx 0 rfl rfl sSeg_Win rfl X_int t_y3)) (og rfl rfl (fun _ => rfl) c4 (o_fa rfl t_f30_5 rfl rfl) (og rfl rfl (fun _ => rfl) c4 (OpS.pur (fun F w m_ => (in2 (fd_sub sSeg_Win 4 rfl m_))) (o_lfx 4 rfl rfl sSeg_Win rfl X_int t_y3)) (og rfl rfl (fun _ => rfl) c4 (o_bin rfl rfl rfl) (ox rfl (o_pickT rfl rfl c4) (ox rfl (o_move rfl) (oj rfl rfl (fun _ => rfl) (nb_f c5) (oj rfl rfl (fun _ => rfl) (nb_f c5) (oj rfl rfl (fun _ => rfl) (nb_f c5) (obs_nil)))))))))))))))))))))))))))))))))))
      replace h := h.wk (E' := [(2, .bool false), (38, .bool (decide (r2.Win = a1.Win)))]) (L' := [Ent.pur (InR .i64 a1.Flags), Ent.pur (InR .i64 r2.Src), Ent.pur (InR .i64 a1.Src), Ent.pur (InR .i64 r2.Dst), Ent.pur (InR .i64 a1.Dst), Ent.pur (InR .i64 r2.Flags), Ent.pur (InR .i64 a1.Flags), Ent.pur (InR .i64 r2.Win), Ent.pur (InR .i64 a1.Win), Fld KSeg b2 0 r2, Val KSeg v4 r2, Val Khead v3 r1, Val KSeg v2 a1, Fld KSeg b1 0 a1, Val KSeg v1 a1]) (by kernel_rfl) [0, 1, 2, 3, 4, 5, 6, 7, 8, 9, 10, 11, 12, 13, 14] (by decide) (by kernel_rfl)
      refine gk h rfl rfl (nb_f c5) rfl fun _ h => ?_
      refine gk h rfl rfl (nb_f c5) rfl fun _ h => ?_
      refine ga h (o_pickF rfl rfl c5) rfl fun h => ?_
      refine ga h (o_assign rfl) rfl fun h => ?_
      refine GoR.done ?_
      exact J1 false _ _ (som H).symm (h.wr [9, 13])
    ·have H := ifF c4 H
     refine Go.draw (E := [(1, pt b1), (2, .bool false), (3, pt b2)]) [] (L := [Fld KSeg b2 0 r2, Val KSeg v4 r2, Val Khead v3 r1, Val KSeg v2 a1, Fld KSeg b1 0 a1, Val KSeg v1 a1]) h rfl rfl 35 [cn (.pointer (some ⟨b1, 4, none⟩)), cm [0] [] [] (.int .i64 a1.Flags) fun u => [Ent.pur (InR .i64 a1.Flags)], ce [0, 1] (.bool (decide (a1.Flags ≤ 63))), ce [0, 1, 2] (.bool (decide (a1.Flags ≤ 63))), ce [0, 1, 2, 3] (pt b2), cm [0, 1, 2, 3, 4] [] [] (.int .i64 r2.Src) fun u => [Ent.pur (InR .i64 r2.Src)], ce [0, 1, 2, 3] (pt b1), cm [0, 1, 2, 3, 6] [] [] (.int .i64 a1.Src) fun u => [Ent.pur (InR .i64 a1.Src)], ce [0, 1, 2, 3, 4, 5, 6, 7] (.bool (decide (r2.Src = a1.Src))), ce [0, 1, 2, 3, 4, 5, 6, 7, 8] (.bool (decide (r2.Src = a1.Src))), ce [0, 1, 2, 3, 4, 5, 6, 7, 8, 9] (.bool (decide (r2.Src = a1.Src))), ce [0, 1, 2, 3, 4, 5, 6, 7, 8, 9, 10] (.pointer (some ⟨b2, 1, none⟩)), cm [0, 1, 2, 3, 4, 5, 6, 7, 8, 9, 10, 11] [] [] (.int .i64 r2.Dst) fun u => [Ent.pur (InR .i64 r2.Dst)], ce [0, 1, 2, 3, 4, 5, 6, 7, 8, 9, 10] (.pointer (some ⟨b1, 1, none⟩)), cm [0, 1, 2, 3, 4, 5, 6, 7, 8, 9, 10, 13] [] [] (.int .i64 a1.Dst) fun u => [Ent.pur (InR .i64 a1.Dst)], ce [0, 1, 2, 3, 4, 5, 6, 7, 8, 9, 10, 11, 12, 13, 14] (.bool (decide (r2.Dst = a1.Dst))), ce [0, 1, 2, 3, 4, 5, 6, 7, 8, 9, 10, 11, 12, 13, 14, 15] (.bool (decide (r2.Dst = a1.Dst))), ce [0, 1, 2, 3, 4, 5, 6, 7, 8, 9, 10, 11, 12, 13, 14, 15, 16] (.bool (decide (r2.Dst = a1.Dst))), ce [0, 1, 2, 3, 4, 5, 6, 7, 8, 9, 10, 11, 12, 13, 14, 15, 16, 17] (.pointer (some ⟨b2, 4, none⟩)), cm [0, 1, 2, 3, 4, 5, 6, 7, 8, 9, 10, 11, 12, 13, 14, 15, 16, 17, 18] [] [] (.int .i64 r2.Flags) fun u => [Ent.pur (InR .i64 r2.Flags)], ce [0, 1, 2, 3, 4, 5, 6, 7, 8, 9, 10, 11, 12, 13, 14, 15, 16, 17] (.pointer (some ⟨b1, 4, none⟩)), cm [0, 1, 2, 3, 4, 5, 6, 7, 8, 9, 10, 11, 12, 13, 14, 15, 16, 17, 20] [] [] (.int .i64 a1.Flags) fun u => [Ent.pur (InR .i64 a1.Flags)], ce [0, 1, 2, 3, 4, 5, 6, 7, 8, 9, 10, 11, 12, 13, 14, 15, 16, 17, 18, 19, 20, 21] (.bool (decide (r2.Flags = a1.Flags))), ce [0, 1, 2, 3, 4, 5, 6, 7, 8, 9, 10, 11, 12, 13, 14, 15, 16, 17, 18, 19, 20, 21, 22] (.bool (decide (r2.Flags = a1.Flags))), ce [0, 1, 2, 3, 4, 5, 6, 7, 8, 9, 10, 11, 12, 13, 14, 15, 16, 17, 18, 19, 20, 21, 22, 23] (.bool (decide (r2.Flags = a1.Flags))), ⟨[24], [], [], true, .con undef, none, fun u => [], []⟩, ⟨[24], [], [], true, .con undef, none, fun u => [], []⟩, ⟨[24], [], [], true, .con undef, none, fun u => [], []⟩, ⟨[24], [], [], true, .con undef, none, fun u => [], []⟩, ⟨[24], [], [], true, .con undef, none, fun u => [], []⟩, ce [0, 1, 2, 3, 4, 5, 6, 7, 8, 9, 10, 11, 12, 13, 14, 15, 16, 17, 18, 19, 20, 21, 22, 23, 24, 25, 26, 27, 28, 29] (.bool false), ce [0, 1, 2, 3, 4, 5, 6, 7, 8, 9, 10, 11, 12, 13, 14, 15, 16, 17, 18, 19, 20, 21, 22, 23, 24, 25, 26, 27, 28, 29, 30] (.bool false), ⟨[31], [], [], true, .con undef, none, fun u => [], []⟩, ⟨[31], [], [], true, .con undef, none, fun u => [], []⟩, ⟨[31], [], [], true, .con undef, none, fun u => [], []⟩] rfl t_mxo (by kernel_rfl) (by rfl) ?_ fun f1 _ _ h => ?_
     ·exact ox rfl (o_fa rfl t_f30_4 rfl rfl) (ox rfl (OpS.pur (fun F w m_ => (in2 (fd_sub sSeg_Flags 4 rfl m_))) (o_lfx 4 rfl rfl sSeg_Flags rfl X_int t_y3)) (ox rfl (o_bin rfl rfl rfl) (ox rfl (o_move rfl) (og rfl rfl (fun _ => rfl) c1 (o_fa rfl t_f30_0 rfl rfl) (og rfl rfl (fun _ => rfl) c1 (OpS.pur (fun F w m_ => (in2 (fd_sub sSeg_Src 0 rfl m_))) (o_lfx 0 rfl rfl sSeg_Src rfl X_int t_y3)) (og rfl rfl (fun _ => rfl) c1 (o_fa rfl t_f30_0 rfl rfl) (og rfl rfl (fun _ => rfl) c1 (OpS.pur (fun F w m_ => (in2 (fd_sub sSeg_Src 4 rfl m_))) (o_lfx 4 rfl rfl sSeg_Src rfl X_int t_y3)) (og rfl rfl (fun _ => rfl) c1 (o_bin rfl rfl rfl) (ox rfl (o_pickT rfl rfl c1) (ox rfl (o_move rfl) (og rfl rfl (fun _ => rfl) c2 (o_fa rfl t_f30_1 rfl rfl) (og rfl rfl (fun _ => rfl) c2 (OpS.pur (fun F w m_ => (in2 (fd_sub sSeg_Dst 0 rfl m_))) (o_lfx 0 rfl rfl sSeg_Dst rfl X_int t_y3)) (og rfl rfl (fun _ => rfl) c2 (o_fa rfl t_f30_1 rfl rfl) (og rfl rfl (fun _ => rfl) c2 (OpS.pur (fun F w m_ => (in2 (fd_sub sSeg_Dst 4 rfl m_))) (o_lfx 4 rfl rfl sSeg_Dst rfl X_int t_y3)) (og rfl rfl (fun _ => rfl) c2 (o_bin rfl rfl rfl) (ox rfl (o_pickT rfl rfl c2) (ox rfl (o_move rfl) (og rfl rfl (fun _ => rfl) c3 (o_fa rfl t_f30_4 rfl rfl) (og rfl rfl (fun _ => rfl) c3 (OpS.pur (fun F w m_ => (in2 (fd_sub sSeg_Flags 0 rfl m_))) (o_lfx 0 rfl rfl sSeg_Flags rfl X_int t_y3)) (og rfl rfl (fun _ => rfl) c3 (o_fa rfl t_f30_4 rfl rfl) (og rfl rfl (fun _ => rfl) c3 (OpS.pur (fun F w m_ => (in2 (fd_sub sSeg_Flags 4 rfl m_))) (o_lfx 4 rfl rfl sSeg_Flags rfl X_int t_y3)) (og rfl rfl (fun _ => rfl) c3 (o_bin rfl rfl rfl) (ox rfl (o_pickT rfl rfl c3) (ox rfl (o_move rfl) (oj rfl rfl (fun _ => rfl) (nb_f c4) (oj rfl rfl (fun _ => rfl) (nb_f c4) (oj rfl rfl (fun _ => rfl) (nb_f c4) (oj rfl rfl (fun _ => rfl) (nb_f c4) (oj rfl rfl (fun _ => rfl) (nb_f c4) (ox rfl (o_pickF rfl rfl c4) (ox rfl (o_move rfl) (obs_cons (ob_skip rfl rfl rfl rfl (fun _ => rfl) (nb_f Bool.false_ne_true) rfl rfl rfl rfl) (obs_cons (ob_skip rfl rfl rfl rfl (fun _ => rfl) (nb_f Bool.false_ne_true) rfl rfl rfl rfl) (obs_cons (ob_skip rfl rfl rfl rfl (fun _ => rfl) (nb_f Bool.false_ne_true) rfl rfl rfl rfl) (obs_nil)))))))))))))))))))))))))))))))))))
     replace h := h.wk (E' := [(2, .bool false), (38, .bool false)]) (L' := [Ent.pur (InR .i64 a1.Flags), Ent.pur (InR .i64 r2.Src), Ent.pur (InR .i64 a1.Src), Ent.pur (InR .i64 r2.Dst), Ent.pur (InR .i64 a1.Dst), Ent.pur (InR .i64 r2.Flags), Ent.pur (InR .i64 a1.Flags), Fld KSeg b2 0 r2, Val KSeg v4 r2, Val Khead v3 r1, Val KSeg v2 a1, Fld KSeg b1 0 a1, Val KSeg v1 a1]) (by kernel_rfl) [0, 1, 2, 3, 4, 5, 6, 7, 8, 9, 10, 11, 12] (by decide) (by kernel_rfl)
     refine gk h rfl rfl (nb_f Bool.false_ne_true) rfl fun _ h => ?_
     refine gk h rfl rfl (nb_f Bool.false_ne_true) rfl fun _ h => ?_
     refine ga h (o_pickF rfl rfl Bool.false_ne_true) rfl fun h => ?_
     refine ga h (o_assign rfl) rfl fun h => ?_
     refine GoR.done ?_
     exact J1 false _ _ (som H).symm (h.wr [7, 11])
   ·have H := ifF c3 H
    refine Go.draw (E := [(1, pt b1), (2, .bool false), (3, pt b2)]) [] (L := [Fld KSeg b2 0 r2, Val KSeg v4 r2, Val Khead v3 r1, Val KSeg v2 a1, Fld KSeg b1 0 a1, Val KSeg v1 a1]) h rfl rfl 35 [cn (.pointer (some ⟨b1, 4, none⟩)), cm [0] [] [] (.int .i64 a1.Flags) fun u => [Ent.pur (InR .i64 a1.Flags)], ce [0, 1] (.bool (decide (a1.Flags ≤ 63))), ce [0, 1, 2] (.bool (decide (a1.Flags ≤ 63))), ce [0, 1, 2, 3] (pt b2), cm [0, 1, 2, 3, 4] [] [] (.int .i64 r2.Src) fun u => [Ent.pur (InR .i64 r2.Src)], ce [0, 1, 2, 3] (pt b1), cm [0, 1, 2, 3, 6] [] [] (.int .i64 a1.Src) fun u => [Ent.pur (InR .i64 a1.Src)], ce [0, 1, 2, 3, 4, 5, 6, 7] (.bool (decide (r2.Src = a1.Src))), ce [0, 1, 2, 3, 4, 5, 6, 7, 8] (.bool (decide (r2.Src = a1.Src))), ce [0, 1, 2, 3, 4, 5, 6, 7, 8, 9] (.bool (decide (r2.Src = a1.Src))), ce [0, 1, 2, 3, 4, 5, 6, 7, 8, 9, 10] (.pointer (some ⟨b2, 1, none⟩)), cm [0, 1, 2, 3, 4, 5, 6, 7, 8, 9, 10, 11] [] [] (.int .i64 r2.Dst) fun u => [Ent.pur (InR .i64 r2.Dst)], ce [0, 1, 2, 3, 4, 5, 6, 7, 8, 9, 10] (.pointer (some ⟨b1, 1, none⟩)), cm [0, 1, 2, 3, 4, 5, 6, 7, 8, 9, 10, 13] [] [] (.int .i64 a1.Dst) fun u => [Ent.pur (InR .i64 a1.Dst)], ce [0, 1, 2, 3, 4, 5, 6, 7, 8, 9, 10, 11, 12, 13, 14] (.bool (decide (r2.Dst = a1.Dst))), ce [0, 1, 2, 3, 4, 5, 6, 7, 8, 9, 10, 11, 12, 13, 14, 15] (.bool (decide (r2.Dst = a1.Dst))), ce [0, 1, 2, 3, 4, 5, 6, 7, 8, 9, 10, 11, 12, 13, 14, 15, 16] (.bool (decide (r2.Dst = a1.Dst))), ⟨[17], [], [], true, .con undef, none, fun u => [], []⟩, ⟨[17], [], [], true, .con undef, none, fun u => [], []⟩, ⟨[17], [], [], true, .con undef, none, fun u => [], []⟩, ⟨[17], [], [], true, .con undef, none, fun u => [], []⟩, ⟨[17], [], [], true, .con undef, none, fun u => [], []⟩, ce [0, 1, 2, 3, 4, 5, 6, 7, 8, 9, 10, 11, 12, 13, 14, 15, 16, 17, 18, 19, 20, 21, 22] (.bool false), ce [0, 1, 2, 3, 4, 5, 6, 7, 8, 9, 10, 11, 12, 13, 14, 15, 16, 17, 18, 19, 20, 21, 22, 23] (.bool false), ⟨[24], [], [], true, .con undef, none, fun u => [], []⟩, ⟨[24], [], [], true, .con undef, none, fun u => [], []⟩, ⟨[24], [], [], true, .con undef, none, fun u => [], []⟩, ⟨[24], [], [], true, .con undef, none, fun u => [], []⟩, ⟨[24], [], [], true, .con undef, none, fun u => [], []⟩, ce [0, 1, 2, 3, 4, 5, 6, 7, 8, 9, 10, 11, 12, 13, 14, 15, 16, 17, 18, 19, 20, 21, 22, 23, 24, 25, 26, 27, 28, 29] (.bool false), ce [0, 1, 2, 3, 4, 5, 6, 7, 8, 9, 10, 11, 12, 13, 14, 15, 16, 17, 18, 19, 20, 21, 22, 23, 24, 25, 26, 27, 28, 29, 30] (.bool false), ⟨[31], [], [], true, .con undef, none, fun u => [], []⟩, ⟨[31], [], [], true, .con undef, none, fun u => [], []⟩, ⟨[31], [], [], true, .con undef, none, fun u => [], []⟩] rfl t_mxo (by kernel_rfl) (by rfl) ?_ fun f1 _ _ h => ?_
    ·exact ox rfl (o_fa rfl t_f30_4 rfl rfl) (ox rfl (OpS.pur (fun F w m_ => (in2 (fd_sub sSeg_Flags 4 rfl m_))) (o_lfx 4 rfl rfl sSeg_Flags rfl X_int t_y3)) (ox rfl (o_bin rfl rfl rfl) (ox rfl (o_move rfl) (og rfl rfl (fun _ => rfl) c1 (o_fa rfl t_f30_0 rfl rfl) (og rfl rfl (fun _ => rfl) c1 (OpS.pur (fun F w m_ => (in2 (fd_sub sSeg_Src 0 rfl m_))) (o_lfx 0 rfl rfl sSeg_Src rfl X_int t_y3)) (og rfl rfl (fun _ => rfl) c1 (o_fa rfl t_f30_0 rfl rfl) (og rfl rfl (fun _ => rfl) c1 (OpS.pur (fun F w m_ => (in2 (fd_sub sSeg_Src 4 rfl m_))) (o_lfx 4 rfl rfl sSeg_Src rfl X_int t_y3)) (og rfl rfl (fun _ => rfl) c1 (o_bin rfl rfl rfl) (ox rfl (o_pickT rfl rfl c1) (ox rfl (o_move rfl) (og rfl rfl (fun _ => rfl) c2 (o_fa rfl t_f30_1 rfl rfl) (og rfl rfl (fun _ => rfl) c2 (OpS.pur (fun F w m_ => (in2 (fd_sub sSeg_Dst 0 rfl m_))) (o_lfx 0 rfl rfl sSeg_Dst rfl X_int t_y3)) (og rfl rfl (fun _ => rfl) c2 (o_fa rfl t_f30_1 rfl rfl) (og rfl rfl (fun _ => rfl) c2 (OpS.pur (fun F w m_ => (in2 (fd_sub sSeg_Dst 4 rfl m_))) (o_lfx 4 rfl rfl sSeg_Dst rfl X_int t_y3)) (og rfl rfl (fun _ => rfl) c2 (o_bin rfl rfl rfl) (ox rfl (o_pickT rfl rfl c2) (ox rfl (o_move rfl) (oj rfl rfl (fun _ => rfl) (nb_f c3) (oj rfl rfl (fun _ => rfl) (nb_f c3) (oj rfl rfl (fun _ => rfl) (nb_f c3) (oj rfl rfl (fun _ => rfl) (nb_f c3) (oj rfl rfl (fun _ => rfl) (nb_f c3) (ox rfl (o_pickF rfl rfl c3) (ox rfl (o_move rfl) (obs_cons (ob_skip rfl rfl rfl rfl (fun _ => rfl) (nb_f Bool.false_ne_true) rfl rfl rfl rfl) (obs_cons (ob_skip rfl rfl rfl rfl (fun _ => rfl) (nb_f Bool.false_ne_true) rfl rfl rfl rfl) (obs_cons (ob_skip rfl rfl rfl rfl (fun _ => rfl) (nb_f Bool.false_ne_true) rfl rfl rfl rfl) (obs_cons (ob_skip rfl rfl rfl rfl (fun _ => rfl) (nb_f Bool.false_ne_true) rfl rfl rfl rfl) (obs_cons (ob_skip rfl rfl rfl rfl (fun _ => rfl) (nb_f Bool.false_ne_true) rfl rfl rfl rfl) (ox rfl (o_pickF rfl rfl Bool.false_ne_true) (ox rfl (o_move rfl) (obs_cons (ob_skip rfl rfl rfl rfl (fun _ => rfl) (nb_f Bool.false_ne_true) rfl rfl rfl rfl) (obs_cons (ob_skip rfl rfl rfl rfl (fun _ => rfl) (nb_f Bool.false_ne_true) rfl rfl rfl rfl) (obs_cons (ob_skip rfl rfl rfl rfl (fun _ => rfl) (nb_f Bool.false_ne_true) rfl rfl rfl rfl) (obs_nil)))))))))))))))))))))))))))))))))))
    replace h := h.wk (E' := [(2, .bool false), (38, .bool false)]) (L' := [Ent.pur (InR .i64 a1.Flags), Ent.pur (InR .i64 r2.Src), Ent.pur (InR .i64 a1.Src), Ent.pur (InR .i64 r2.Dst), Ent.pur (InR .i64 a1.Dst), Fld KSeg b2 0 r2, Val KSeg v4 r2, Val Khead v3 r1, Val KSeg v2 a1, Fld KSeg b1 0 a1, Val KSeg v1 a1]) (by kernel_rfl) [0, 1, 2, 3, 4, 5, 6, 7, 8, 9, 10] (by decide) (by kernel_rfl)
    refine gk h rfl rfl (nb_f Bool.false_ne_true) rfl fun _ h => ?_
    refine gk h rfl rfl (nb_f Bool.false_ne_true) rfl fun _ h => ?_
    refine ga h (o_pickF rfl rfl Bool.false_ne_true) rfl fun h => ?_
    refine ga h (o_assign rfl) rfl fun h => ?_
    refine GoR.done ?_
    exact J1 false _ _ (som H).symm (h.wr [5, 9])
  ·have H := ifF c2 H
   refine Go.draw (E := [(1, pt b1), (2, .bool false), (3, pt b2)]) [] (L := [Fld KSeg b2 0 r2, Val KSeg v4 r2, Val Khead v3 r1, Val KSeg v2 a1, Fld KSeg b1 0 a1, Val KSeg v1 a1]) h rfl rfl 35 [cn (.pointer (some ⟨b1, 4, none⟩)), cm [0] [] [] (.int .i64 a1.Flags) fun u => [Ent.pur (InR .i64 a1.Flags)], ce [0, 1] (.bool (decide (a1.Flags ≤ 63))), ce [0, 1, 2] (.bool (decide (a1.Flags ≤ 63))), ce [0, 1, 2, 3] (pt b2), cm [0, 1, 2, 3, 4] [] [] (.int .i64 r2.Src) fun u => [Ent.pur (InR .i64 r2.Src)], ce [0, 1, 2, 3] (pt b1), cm [0, 1, 2, 3, 6] [] [] (.int .i64 a1.Src) fun u => [Ent.pur (InR .i64 a1.Src)], ce [0, 1, 2, 3, 4, 5, 6, 7] (.bool (decide (r2.Src = a1.Src))), ce [0, 1, 2, 3, 4, 5, 6, 7, 8] (.bool (decide (r2.Src = a1.Src))), ce [0, 1, 2, 3, 4, 5, 6, 7, 8, 9] (.bool (decide (r2.Src = a1.Src))), ⟨[10], [], [], true, .con undef, none, fun u => [], []⟩, ⟨[10], [], [], true, .con undef, none, fun u => [], []⟩, ⟨[10], [], [], true, .con undef, none, fun u => [], []⟩, ⟨[10], [], [], true, .con undef, none, fun u => [], []⟩, ⟨[10], [], [], true, .con undef, none, fun u => [], []⟩, ce [0, 1, 2, 3, 4, 5, 6, 7, 8, 9, 10, 11, 12, 13, 14, 15] (.bool false), ce [0, 1, 2, 3, 4, 5, 6, 7, 8, 9, 10, 11, 12, 13, 14, 15, 16] (.bool false), ⟨[17], [], [], true, .con undef, none, fun u => [], []⟩, ⟨[17], [], [], true, .con undef, none, fun u => [], []⟩, ⟨[17], [], [], true, .con undef, none, fun u => [], []⟩, ⟨[17], [], [], true, .con undef, none, fun u => [], []⟩, ⟨[17], [], [], true, .con undef, none, fun u => [], []⟩, ce [0, 1, 2, 3, 4, 5, 6, 7, 8, 9, 10, 11, 12, 13, 14, 15, 16, 17, 18, 19, 20, 21, 22] (.bool false), ce [0, 1, 2, 3, 4, 5, 6, 7, 8, 9, 10, 11, 12, 13, 14, 15, 16, 17, 18, 19, 20, 21, 22, 23] (.bool false), ⟨[24], [], [], true, .con undef, none, fun u => [], []⟩, ⟨[24], [], [], true, .con undef, none, fun u => [], []⟩, ⟨[24], [], [], true, .con undef, none, fun u => [], []⟩, ⟨[24], [], [], true, .con undef, none, fun u => [], []⟩, ⟨[24], [], [], true, .con undef, none, fun u => [], []⟩, ce [0, 1, 2, 3, 4, 5, 6, 7, 8, 9, 10, 11, 12, 13, 14, 15, 16, 17, 18, 19, 20, 21, 22, 23, 24, 25, 26, 27, 28, 29] (.bool false), ce [0, 1, 2, 3, 4, 5, 6, 7, 8, 9, 10, 11, 12, 13, 14, 15, 16, 17, 18, 19, 20, 21, 22, 23, 24, 25, 26, 27, 28, 29, 30] (.bool false), ⟨[31], [], [], true, .con undef, none, fun u => [], []⟩, ⟨[31], [], [], true, .con undef, none, fun u => [], []⟩, ⟨[31], [], [], true, .con undef, none, fun u => [], []⟩] rfl t_mxo (by kernel_rfl) (by rfl) ?_ fun f1 _ _ h => ?_
   ·exact ox rfl (o_fa rfl t_f30_4 rfl rfl) (ox rfl (OpS.pur (fun F w m_ => (in2 (fd_sub sSeg_Flags 4 rfl m_))) (o_lfx 4 rfl rfl sSeg_Flags rfl X_int t_y3)) (ox rfl (o_bin rfl rfl rfl) (ox rfl (o_move rfl) (og rfl rfl (fun _ => rfl) c1 (o_fa rfl t_f30_0 rfl rfl) (og rfl rfl (fun _ => rfl) c1 (OpS.pur (fun F w m_ => (in2 (fd_sub sSeg_Src 0 rfl m_))) (o_lfx 0 rfl rfl sSeg_Src rfl X_int t_y3)) (og rfl rfl (fun _ => rfl) c1 (o_fa rfl t_f30_0 rfl rfl) (og rfl rfl (fun _ => rfl) c1 (OpS.pur (fun F w m_ => (in2 (fd_sub sSeg_Src 4 rfl m_))) (o_lfx 4 rfl rfl sSeg_Src rfl X_int t_y3)) (og rfl rfl (fun _ => rfl) c1 (o_bin rfl rfl rfl) (ox rfl (o_pickT rfl rfl c1) (ox rfl (o_move rfl) (oj rfl rfl (fun _ => rfl) (nb_f c2) (oj rfl rfl (fun _ => rfl) (nb_f c2) (oj rfl rfl (fun _ => rfl) (nb_f c2) (oj rfl rfl (fun _ => rfl) (nb_f c2) (oj rfl rfl (fun _ => rfl) (nb_f c2) (ox rfl (o_pickF rfl rfl c2) (ox rfl (o_move rfl) (obs_cons (ob_skip rfl rfl rfl rfl (fun _ => rfl) (nb_f Bool.false_ne_true) rfl rfl rfl rfl) (obs_cons (ob_skip rfl rfl rfl rfl (fun _ => rfl) (nb_f Bool.false_ne_true) rfl rfl rfl rfl) (obs_cons (ob_skip rfl rfl rfl rfl (fun _ => rfl) (nb_f Bool.false_ne_true) rfl rfl rfl rfl) (obs_cons (ob_skip rfl rfl rfl rfl (fun _ => rfl) (nb_f Bool.false_ne_true) rfl rfl rfl rfl) (obs_cons (ob_skip rfl rfl rfl rfl (fun _ => rfl) (nb_f Bool.false_ne_true) rfl rfl rfl rfl) (ox rfl (o_pickF rfl rfl Bool.false_ne_true) (ox rfl (o_move rfl) (obs_cons (ob_skip rfl rfl rfl rfl (fun _ => rfl) (nb_f Bool.false_ne_true) rfl rfl rfl rfl) (obs_cons (ob_skip rfl rfl rfl rfl (fun _ => rfl) (nb_f Bool.false_ne_true) rfl rfl rfl rfl) (obs_cons (ob_skip rfl rfl rfl rfl (fun _ => rfl) (nb_f Bool.false_ne_true) rfl rfl rfl rfl) (obs_cons (ob_skip rfl rfl rfl rfl (fun _ => rfl) (nb_f Bool.false_ne_true) rfl rfl rfl rfl) (obs_cons (ob_skip rfl rfl rfl rfl (fun _ => rfl) (nb_f Bool.false_ne_true) rfl rfl rfl rfl) (ox rfl (o_pickF rfl rfl Bool.false_ne_true) (ox rfl (o_move rfl) (obs_cons (ob_skip rfl rfl rfl rfl (fun _ => rfl) (nb_f Bool.false_ne_true) rfl rfl rfl rfl) (obs_cons (ob_skip rfl rfl rfl rfl (fun _ => rfl) (nb_f Bool.false_ne_true) rfl rfl rfl rfl) (obs_cons (ob_skip rfl rfl rfl rfl (fun _ => rfl) (nb_f Bool.false_ne_true) rfl rfl rfl rfl) (obs_nil)))))))))))))))))))))))))))))))))))
   replace h := h.wk (E' := [(2, .bool false), (38, .bool false)]) (L' := [Ent.pur (InR .i64 a1.Flags), Ent.pur (InR .i64 r2.Src), Ent.pur (InR .i64 a1.Src), Fld KSeg b2 0 r2, Val KSeg v4 r2, Val Khead v3 r1, Val KSeg v2 a1, Fld KSeg b1 0 a1, Val KSeg v1 a1]) (by kernel_rfl) [0, 1, 2, 3, 4, 5, 6, 7, 8] (by decide) (by kernel_rfl)
   refine gk h rfl rfl (nb_f Bool.false_ne_true) rfl fun _ h => ?_
   refine gk h rfl rfl (nb_f Bool.false_ne_true) rfl fun _ h => ?_
   refine ga h (o_pickF rfl rfl Bool.false_ne_true) rfl fun h => ?_
   refine ga h (o_assign rfl) rfl fun h => ?_
   refine GoR.done ?_
   exact J1 false _ _ (som H).symm (h.wr [3, 7])
 ·have H := ifF c1 H
  refine Go.draw (E := [(1, pt b1), (2, .bool false), (3, pt b2)]) [] (L := [Fld KSeg b2 0 r2, Val KSeg v4 r2, Val Khead v3 r1, Val KSeg v2 a1, Fld KSeg b1 0 a1, Val KSeg v1 a1]) h rfl rfl 35 [cn (.pointer (some ⟨b1, 4, none⟩)), cm [0] [] [] (.int .i64 a1.Flags) fun u => [Ent.pur (InR .i64 a1.Flags)], ce [0, 1] (.bool (decide (a1.Flags ≤ 63))), ce [0, 1, 2] (.bool (decide (a1.Flags ≤ 63))), ⟨[3], [], [], true, .con undef, none, fun u => [], []⟩, ⟨[3], [], [], true, .con undef, none, fun u => [], []⟩, ⟨[3], [], [], true, .con undef, none, fun u => [], []⟩, ⟨[3], [], [], true, .con undef, none, fun u => [], []⟩, ⟨[3], [], [], true, .con undef, none, fun u => [], []⟩, ce [0, 1, 2, 3, 4, 5, 6, 7, 8] (.bool false), ce [0, 1, 2, 3, 4, 5, 6, 7, 8, 9] (.bool false), ⟨[10], [], [], true, .con undef, none, fun u => [], []⟩, ⟨[10], [], [], true, .con undef, none, fun u => [], []⟩, ⟨[10], [], [], true, .con undef, none, fun u => [], []⟩, ⟨[10], [], [], true, .con undef, none, fun u => [], []⟩, ⟨[10], [], [], true, .con undef, none, fun u => [], []⟩, ce [0, 1, 2, 3, 4, 5, 6, 7, 8, 9, 10, 11, 12, 13, 14, 15] (.bool false), ce [0, 1, 2, 3, 4, 5, 6, 7, 8, 9, 10, 11, 12, 13, 14, 15, 16] (.bool false), ⟨[17], [], [], true, .con undef, none, fun u => [], []⟩, ⟨[17], [], [], true, .con undef, none, fun u => [], []⟩, ⟨[17], [], [], true, .con undef, none, fun u => [], []⟩, ⟨[17], [], [], true, .con undef, none, fun u => [], []⟩, ⟨[17], [], [], true, .con undef, none, fun u => [], []⟩, ce [0, 1, 2, 3, 4, 5, 6, 7, 8, 9, 10, 11, 12, 13, 14, 15, 16, 17, 18, 19, 20, 21, 22] (.bool false), ce [0, 1, 2, 3, 4, 5, 6, 7, 8, 9, 10, 11, 12, 13, 14, 15, 16, 17, 18, 19, 20, 21, 22, 23] (.bool false), ⟨[24], [], [], true, .con undef, none, fun u => [], []⟩, ⟨[24], [], [], true, .con undef, none, fun u => [], []⟩, ⟨[24], [], [], true, .con undef, none, fun u => [], []⟩, ⟨[24], [], [], true, .con undef, none, fun u => [], []⟩, ⟨[24], [], [], true, .con undef, none, fun u => [], []⟩, ce [0, 1, 2, 3, 4, 5, 6, 7, 8, 9, 10, 11, 12, 13, 14, 15, 16, 17, 18, 19, 20, 21, 22, 23, 24, 25, 26, 27, 28, 29] (.bool false), ce [0, 1, 2, 3, 4, 5, 6, 7, 8, 9, 10, 11, 12, 13, 14, 15, 16, 17, 18, 19, 20, 21, 22, 23, 24, 25, 26, 27, 28, 29, 30] (.bool false), ⟨[31], [], [], true, .con undef, none, fun u => [], []⟩, ⟨[31], [], [], true, .con undef, none, fun u => [], []⟩, ⟨[31], [], [], true, .con undef, none, fun u => [], []⟩] rfl t_mxo (by kernel_rfl) (by rfl) ?_ fun f1 _ _ h => ?_
  ·exact ox rfl (o_fa rfl t_f30_4 rfl rfl) (ox rfl (OpS.pur (fun F w m_ => (in2 (fd_sub sSeg_Flags 4 rfl m_))) (o_lfx 4 rfl rfl sSeg_Flags rfl X_int t_y3)) (ox rfl (o_bin rfl rfl rfl) (ox rfl (o_move rfl) (oj rfl rfl (fun _ => rfl) (nb_f c1) (oj rfl rfl (fun _ => rfl) (nb_f c1) (oj rfl rfl (fun _ => rfl) (nb_f c1) (oj rfl rfl (fun _ => rfl) (nb_f c1) (oj rfl rfl (fun _ => rfl) (nb_f c1) (ox rfl (o_pickF rfl rfl c1) (ox rfl (o_move rfl) (obs_cons (ob_skip rfl rfl rfl rfl (fun _ => rfl) (nb_f Bool.false_ne_true) rfl rfl rfl rfl) (obs_cons (ob_skip rfl rfl rfl rfl (fun _ => rfl) (nb_f Bool.false_ne_true) rfl rfl rfl rfl) (obs_cons (ob_skip rfl rfl rfl rfl (fun _ => rfl) (nb_f Bool.false_ne_true) rfl rfl rfl rfl) (obs_cons (ob_skip rfl rfl rfl rfl (fun _ => rfl) (nb_f Bool.false_ne_true) rfl rfl rfl rfl) (obs_cons (ob_skip rfl rfl rfl rfl (fun _ => rfl) (nb_f Bool.false_ne_true) rfl rfl rfl rfl) (ox rfl (o_pickF rfl rfl Bool.false_ne_true) (ox rfl (o_move rfl) (obs_cons (ob_skip rfl rfl rfl rfl (fun _ => rfl) (nb_f Bool.false_ne_true) rfl rfl rfl rfl) (obs_cons (ob_skip rfl rfl rfl rfl (fun _ => rfl) (nb_f Bool.false_ne_true) rfl rfl rfl rfl) (obs_cons (ob_skip rfl rfl rfl rfl (fun _ => rfl) (nb_f Bool.false_ne_true) rfl rfl rfl rfl) (obs_cons (ob_skip rfl rfl rfl rfl (fun _ => rfl) (nb_f Bool.false_ne_true) rfl rfl rfl rfl) (obs_cons (ob_skip rfl rfl rfl rfl (fun _ => rfl) (nb_f Bool.false_ne_true) rfl rfl rfl rfl) (ox rfl (o_pickF rfl rfl Bool.false_ne_true) (ox rfl (o_move rfl) (obs_cons (ob_skip rfl rfl rfl rfl (fun _ => rfl) (nb_f Bool.false_ne_true) rfl rfl rfl rfl) (obs_cons (ob_skip rfl rfl rfl rfl (fun _ => rfl) (nb_f Bool.false_ne_true) rfl rfl rfl rfl) (obs_cons (ob_skip rfl rfl rfl rfl (fun _ => rfl) (nb_f Bool.false_ne_true) rfl rfl rfl rfl) (obs_cons (ob_skip rfl rfl rfl rfl (fun _ => rfl) (nb_f Bool.false_ne_true) rfl rfl rfl rfl) (obs_cons (ob_skip rfl rfl rfl rfl (fun _ => rfl) (nb_f Bool.false_ne_true) rfl rfl rfl rfl) (ox rfl (o_pickF rfl rfl Bool.false_ne_true) (ox rfl (o_move rfl) (obs_cons (ob_skip rfl rfl rfl rfl (fun _ => rfl) (nb_f Bool.false_ne_true) rfl rfl rfl rfl) (obs_cons (ob_skip rfl rfl rfl rfl (fun _ => rfl) (nb_f Bool.false_ne_true) rfl rfl rfl rfl) (obs_cons (ob_skip rfl rfl rfl rfl (fun _ => rfl) (nb_f Bool.false_ne_true) rfl rfl rfl rfl) (obs_nil)))))))))))))))))))))))))))))))))))
  replace h := h.wk (E' := [(2, .bool false), (38, .bool false)]) (L' := [Ent.pur (InR .i64 a1.Flags), Fld KSeg b2 0 r2, Val KSeg v4 r2, Val Khead v3 r1, Val KSeg v2 a1, Fld KSeg b1 0 a1, Val KSeg v1 a1]) (by kernel_rfl) [0, 1, 2, 3, 4, 5, 6] (by decide) (by kernel_rfl)
  refine gk h rfl rfl (nb_f Bool.false_ne_true) rfl fun _ h => ?_
  refine gk h rfl rfl (nb_f Bool.false_ne_true) rfl fun _ h => ?_
  refine ga h (o_pickF rfl rfl Bool.false_ne_true) rfl fun h => ?_
  refine ga h (o_assign rfl) rfl fun h => ?_
  refine GoR.done ?_
  exact J1 false _ _ (som H).symm (h.wr [1, 5])
def seg_same.g (k_ : Nat) (a1 : TSeg) : Option (Bool) :=
  (seg_of.g k_ a1).bind fun r1 => (seg_head_seg.g k_ r1).bind fun r2 => ((if decide (a1.Flags ≤ 63) = true then (if decide (r2.Src = a1.Src) = true then (if decide (r2.Dst = a1.Dst) = true then (if decide (r2.Flags = a1.Flags) = true then (if decide (r2.Win = a1.Win) = true then (seg_of.g k_ r2).bind fun r3 => (seg_of.g k_ a1).bind fun r4 => lt (decide (r3.src = r4.src) && (decide (r3.dst = r4.dst) && (decide (r3.seq = r4.seq) && (decide (r3.ack = r4.ack) && (decide (r3.flags = r4.flags) && (decide (r3.win = r4.win))))))) fun y1 => some (y1) else some (false)) else some (false)) else some (false)) else some (false)) else some (false))).bind (fun j1 => some (j1))
theorem seg_same.le (k_ : Nat) (a1 : TSeg) : Le (seg_same.g k_ a1) (seg_same.f a1) := by
 unfold seg_same.g seg_same.f
 repeat' (first | with_reducible refine le_loop fun _ => ?_ | with_reducible refine le_bind ?_ fun _ => ?_ | with_reducible refine le_ite ?_ ?_ | with_reducible refine le_lt fun _ => ?_ | with_reducible refine le_elim (fun _ => ?_) (fun _ => ?_) _ | with_reducible apply seg_head_seg.le | with_reducible apply seg_of.le | with_reducible exact le_refl _)
/-! slices.Reverse[[]byte,byte] -/
noncomputable def slices_Reverse_s_byte_byte.f (a1 : List Int) : Option ((List Int)) :=
  lt (IntKind.i64.wrap ((a1.length : Int) - 1)) fun y1 => (loop (fun s1 => (if decide (s1.2.1 < s1.2.2) = true then (idx s1.1 s1.2.2).bind fun x1 => (idx s1.1 s1.2.1).bind fun x2 => (idx s1.1 s1.2.1).bind fun x3 => (idx (s1.1.set s1.2.1.toNat x1) s1.2.2).bind fun x4 => lt ((s1.1.set s1.2.1.toNat x1).set s1.2.2.toNat x2) fun y2 => lt (IntKind.i64.wrap (s1.2.1 + 1)) fun y3 => lt (IntKind.i64.wrap (s1.2.2 - 1)) fun y4 => some (.inl (y2, y3, y4)) else some (.inr (s1.1)))) (a1, 0, y1)).bind (fun z_ => some (z_))
set_option maxRecDepth 100000 in
set_option maxHeartbeats 4000000 in
theorem slices_Reverse_s_byte_byte.spc (v1 : Value) (a1 : List Int) (r : (List Int)) (H : slices_Reverse_s_byte_byte.f a1 = some r) : Spc Try.prog 60 [v1] [] [Val (Kd.osl (Kd.int .u8)) v1 a1] (fun (s : Unit) => .tuple #[]) (fun s => [Val (Kd.osl (Kd.int .u8)) v1 r]) := by
 unfold slices_Reverse_s_byte_byte.f at H
 refine Spc.go Try.func60 rfl (by kernel_rfl) rfl rfl all_nil fun F a w h => ?_
 refine Go.seq ?_
 refine Go.reg ?_
 refine mv h rfl rfl fun h => ?_
 have g1 := (len_own 0 rfl h.mem)
 refine ga h (o_ln rfl (rd_own 0 rfl) t_v23) rfl fun h => ?_
 refine ga h (o_bin rfl rfl rfl) rfl fun h => ?_
 refine ga h (o_assign rfl) rfl fun h => ?_
 obtain ⟨y1, ey1, H⟩ := ltE H
 refine ga h (o_assign' rfl (congrArg (fun z => Value.int .i64 z) ey1)) rfl fun h => ?_
 refine GoR.done ?_
 refine Go.block ?_
 obtain ⟨o1, hl, G1⟩ := bindE H
 refine g_loop (fun s1 G => ∀  (a : Act) (w : World), InR .i64 s1.2.1 → InR .i64 s1.2.2 → St Try.f60.ntmps F [(0, v1), (2, .int .i64 s1.2.1), (3, .int .i64 s1.2.2)] [Val (Kd.osl (Kd.int .u8)) v1 s1.1] a w → G a w) hl (fun s1 p1 H i1 => ?_) fun I_ => ?_
 ·intro  a w g2 g3 h
  refine Go.seq ?_
  refine Go.seq ?_
  refine Go.reg ?_
  refine mv h rfl rfl fun h => ?_
  refine mv h rfl rfl fun h => ?_
  refine ga h (o_bin rfl rfl rfl) rfl fun h => ?_
  refine GoR.done ?_
  by_cases c1 : decide (s1.2.1 < s1.2.2) = true
  ·have H := ifT c1 H
   refine g_t h rfl c1 ?_
   refine Go.skip ?_
   refine Go.seq ?_
   refine Go.block ?_
   replace h := h.wq [(0, v1), (2, .int .i64 s1.2.1), (3, .int .i64 s1.2.2)] [Val (Kd.osl (Kd.int .u8)) v1 s1.1] [0]
   obtain ⟨x1, ex1, H⟩ := bindE H
   obtain ⟨x2, ex2, H⟩ := bindE H
   obtain ⟨x3, ex3, H⟩ := bindE H
   refine Go.draw (E := [(0, v1), (2, .int .i64 s1.2.1), (3, .int .i64 s1.2.2)]) [] (L := []) h rfl rfl 14 [cn (v1), cn (.int .i64 s1.2.1), cn (v1), cn (.int .i64 s1.2.2), cn (v1), cn (.int .i64 s1.2.2), cm [4, 5] [14] [] (elemP v1 (s1.2.2.toNat * Kd.n (Kd.int .u8))) fun u => [], cm [4, 5, 6] [14] [] (.int .u8 x1) fun u => [Ent.pur (InR .u8 x1)], cn (v1), cn (.int .i64 s1.2.1), cm [8, 9] [14] [] (elemP v1 (s1.2.1.toNat * Kd.n (Kd.int .u8))) fun u => [], cm [8, 9, 10] [14] [] (.int .u8 x2) fun u => [Ent.pur (InR .u8 x2)], cm [0, 1] [14] [] (elemP v1 (s1.2.1.toNat * Kd.n (Kd.int .u8))) fun u => [], cm [0, 1, 4, 5, 6, 7, 12] [14, 7] [14] (undef) fun u => [Val (Kd.osl (Kd.int .u8)) v1 (s1.1.set s1.2.1.toNat x1)], cm [] [] [] undef fun u => [Val (Kd.osl (Kd.int .u8)) v1 s1.1]] rfl t_mxo (by kernel_rfl) (by rfl) ?_ fun f1 _ _ h => ?_
   ·exact ox rfl (o_move rfl) (ox rfl (o_move rfl) (ox rfl (o_move rfl) (ox rfl (o_move rfl) (ox rfl (o_move rfl) (ox rfl (o_move rfl) (ox rfl (o_ix rfl rfl (rd_own 0 rfl) ex1 t_v23) (ox rfl (OpS.pur (fun F w m_ => (rd_inr (rd_own 0 rfl) ex1 m_)) (o_lex rfl (rd_own 0 rfl) ex1 X_int t_y5 (by decide))) (ox rfl (o_move rfl) (ox rfl (o_move rfl) (ox rfl (o_ix rfl rfl (rd_own 0 rfl) ex2 t_v23) (ox rfl (OpS.pur (fun F w m_ => (rd_inr (rd_own 0 rfl) ex2 m_)) (o_lex rfl (rd_own 0 rfl) ex2 X_int t_y5 (by decide))) (ox rfl (o_ix rfl rfl (rd_own 0 rfl) ex3 t_v23) (ox rfl (OpS.fact (p := InR .u8 x1) (fun F w m_ => (Mem.pur 1 rfl m_)) fun g4 => (o_ste 0 rfl rfl rfl (pv_int g4) ex3 t_w5 (by decide))) (obs_nil))))))))))))))
   replace h := h.wk (E' := [(0, v1), (2, .int .i64 s1.2.1), (3, .int .i64 s1.2.2), (16, v1), (17, .int .i64 s1.2.2), (25, .int .u8 x2)]) (L' := [Ent.pur (InR .u8 x1), Ent.pur (InR .u8 x2), Val (Kd.osl (Kd.int .u8)) v1 (s1.1.set s1.2.1.toNat x1)]) (by kernel_rfl) [0, 1, 2] (by decide) (by kernel_rfl)
   have g5 := (Mem.pur 1 rfl h.mem)
   obtain ⟨x4, ex4, H⟩ := bindE H
   refine ga h (o_ix rfl rfl (rd_own 2 rfl) ex4 t_v23) rfl fun h => ?_
   obtain ⟨y2, ey2, H⟩ := ltE H
   refine gs0 h (o_ste 2 rfl rfl rfl (pv_int g5) ex4 t_w5 (by decide)) fun _ _ _ h => ?_
   rw [ey2] at h
   refine GoR.done ?_
   refine Go.inBlock ?_
   refine Go.reg ?_
   refine mv h rfl rfl fun h => ?_
   refine ga h (o_bin rfl rfl rfl) rfl fun h => ?_
   refine mv h rfl rfl fun h => ?_
   refine ga h (o_bin rfl rfl rfl) rfl fun h => ?_
   obtain ⟨y3, ey3, H⟩ := ltE H
   refine ga h (o_assign' rfl (congrArg (fun z => Value.int .i64 z) ey3)) rfl fun h => ?_
   obtain ⟨y4, ey4, H⟩ := ltE H
   refine ga h (o_assign' rfl (congrArg (fun z => Value.int .i64 z) ey4)) rfl fun h => ?_
   refine GoR.done ?_
   have e_ := som H; subst e_
   exact Go.inLoop (nx_in i1 _ _ (ey3 ▸ (wrap_in _ _)) (ey4 ▸ (wrap_in _ _)) (h.wr [2]))
  ·have H := ifF c1 H
   refine g_f h rfl c1 ?_
   refine Go.exit rfl ?_
   have e_ := som H; subst e_
   rw [← nx_out i1] at G1
   have H := G1
   rw [← som H]
   exact g_fin (vs := []) h Try.func60 trivial ⟨(), rfl, (h.mem.pick [0] (by decide) rfl)⟩
 ·exact I_ _ _ (show InR .i64 0 by decide) (ey1 ▸ (wrap_in _ _)) (h.wr [0])
def slices_Reverse_s_byte_byte.g (k_ : Nat) (a1 : List Int) : Option ((List Int)) :=
  lt (IntKind.i64.wrap ((a1.length : Int) - 1)) fun y1 => (loopK k_ (fun s1 => (if decide (s1.2.1 < s1.2.2) = true then (idx s1.1 s1.2.2).bind fun x1 => (idx s1.1 s1.2.1).bind fun x2 => (idx s1.1 s1.2.1).bind fun x3 => (idx (s1.1.set s1.2.1.toNat x1) s1.2.2).bind fun x4 => lt ((s1.1.set s1.2.1.toNat x1).set s1.2.2.toNat x2) fun y2 => lt (IntKind.i64.wrap (s1.2.1 + 1)) fun y3 => lt (IntKind.i64.wrap (s1.2.2 - 1)) fun y4 => some (.inl (y2, y3, y4)) else some (.inr (s1.1)))) (a1, 0, y1)).bind (fun z_ => some (z_))
theorem slices_Reverse_s_byte_byte.le (k_ : Nat) (a1 : List Int) : Le (slices_Reverse_s_byte_byte.g k_ a1) (slices_Reverse_s_byte_byte.f a1) := by
 unfold slices_Reverse_s_byte_byte.g slices_Reverse_s_byte_byte.f
 repeat' (first | with_reducible refine le_loop fun _ => ?_ | with_reducible refine le_bind ?_ fun _ => ?_ | with_reducible refine le_ite ?_ ?_ | with_reducible refine le_lt fun _ => ?_ | with_reducible refine le_elim (fun _ => ?_) (fun _ => ?_) _ | with_reducible exact le_refl _)
/-! drawbridge/bits.Put -/
noncomputable def bits_Put.f (a1 : Int) (a2 : Int) (a3 : Bool) : Option ((List Int)) :=
  (mk (max 0 (min a2 8)) 0).bind fun x1 => (loop (fun s1 => (if decide (s1.2 < (x1.length : Int)) = true then if 0 ≤ (IntKind.i64.wrap (8 * s1.2)) then ((idx s1.1 s1.2).bind fun x2 => lt (s1.1.set s1.2.toNat (IntKind.u8.wrap (ishr .u64 a1 (IntKind.i64.wrap (8 * s1.2))))) fun y1 => some (.inl (y1, IntKind.i64.wrap (s1.2 + 1)))) else none else some (.inr (s1.1)))) (x1, 0)).bind (fun j1 => ((if a3 = true then (slices_Reverse_s_byte_byte.f j1).bind fun r1 => some (r1) else some (j1))).bind (fun j2 => some (j2)))
set_option maxRecDepth 100000 in
set_option maxHeartbeats 4000000 in
theorem bits_Put.spc (a1 : Int) (ha1 : InR .u64 a1) (a2 : Int) (ha2 : InR .i64 a2) (a3 : Bool) (r : (List Int)) (H : bits_Put.f a1 a2 a3 = some r) : Spc Try.prog 44 [.int .u64 a1, .int .i64 a2, .bool a3] [] [] (fun (s : Value) => s) (fun s => [Val (Kd.osl (Kd.int .u8)) s r]) := by
 unfold bits_Put.f at H
 refine Spc.go Try.func44 rfl (by kernel_rfl) rfl rfl all_nil fun F a w h => ?_
 refine Go.seq ?_
 refine Go.reg ?_
 refine ga h (o_assign rfl) rfl fun h => ?_
 refine GoR.done ?_
 refine Go.seq ?_
 refine Go.reg ?_
 refine mv h rfl rfl fun h => ?_
 refine ga h (o_min rfl rfl) rfl fun h => ?_
 refine ga h (o_max rfl rfl) rfl fun h => ?_
 obtain ⟨x1, ex1, H⟩ := bindE H
 refine gs h (o_mk (K := (Kd.int .u8)) rfl rfl ex1 t_a23 (by decide) (fun e he => ⟨[.int .u8 0], by cases he; exact t_zc5, z_int⟩)) rfl fun v1 _ _ h => ?_
 refine ga h (o_assign rfl) rfl fun h => ?_
 refine GoR.done ?_
 refine Go.seq ?_
 refine Go.seq ?_
 refine Go.reg ?_
 refine mv h rfl rfl fun h => ?_
 have g1 := (len_own 0 rfl h.mem)
 refine ga h (o_ln rfl (rd_own 0 rfl) t_v23) rfl fun h => ?_
 refine mv h rfl rfl fun h => ?_
 refine GoR.done ?_
 refine Go.block ?_
 obtain ⟨o1, hl, G1⟩ := bindE H
 refine g_cut (fun G => ∀ j1 (v2 : Value) (a : Act) (w : World), o1 = j1 → St Try.f44.ntmps F [(2, .bool a3), (7, v2)] [Val (Kd.osl (Kd.int .u8)) v2 j1] a w → G a w) 2 ?_ fun J1 => ?_
 ·intro j1 v2 a w ho_ h
  rw [ho_] at G1
  have H := G1
  refine Go.seq ?_
  obtain ⟨o2, H, G2⟩ := bindE H
  refine g_cut (fun G => ∀ j2 (a : Act) (w : World), o2 = j2 → St Try.f44.ntmps F [(7, v2)] [Val (Kd.osl (Kd.int .u8)) v2 j2] a w → G a w) 1 ?_ fun J2 => ?_
  ·intro j2 a w ho_ h
   rw [ho_] at G2
   have H := G2
   refine Go.seq ?_
   refine Go.reg ?_
   refine mv h rfl rfl fun h => ?_
   refine ga h (o_assign rfl) rfl fun h => ?_
   refine GoR.done ?_
   rw [← som H]
   exact g_ret (vs := [v2]) h Try.func44 ⟨rfl, trivial⟩ ⟨v2, rfl, (h.mem.pick [0] (by decide) rfl)⟩
  refine Go.seq ?_
  refine Go.reg ?_
  refine mv h rfl rfl fun h => ?_
  refine GoR.done ?_
  by_cases c2 : a3 = true
  ·have H := ifT c2 H
   refine g_t h rfl c2 ?_
   refine Go.reg ?_
   refine mv h rfl rfl fun h => ?_
   obtain ⟨r1, er1, H⟩ := bindE H
   refine ga h (o_call (slices_Reverse_s_byte_byte.spc v2 j1 r1 er1) rfl [] [0] (by decide) rfl rfl) rfl fun h => ?_
   refine GoR.done ?_
   exact J2 r1 _ _ (som H).symm (h.wr [0])
  ·have H := ifF c2 H
   refine g_f h rfl c2 ?_
   refine Go.skip ?_
   exact J2 j1 _ _ (som H).symm (h.wr [0])
 refine g_loop (fun s1 G => ∀  (a : Act) (w : World), InR .i64 s1.2 → St Try.f44.ntmps F [(0, .int .u64 a1), (2, .bool a3), (7, v1), (14, .int .i64 (x1.length : Int)), (15, .int .i64 s1.2)] [Val (Kd.osl (Kd.int .u8)) v1 s1.1] a w → G a w) hl (fun s1 p1 H i1 => ?_) fun I_ => ?_
 ·intro  a w g2 h
  refine Go.seq ?_
  refine Go.reg ?_
  refine ga h (o_bin rfl rfl rfl) rfl fun h => ?_
  refine GoR.done ?_
  refine Go.seq ?_
  by_cases c1 : decide (s1.2 < (x1.length : Int)) = true
  ·have H := ifT c1 H
   refine g_t h rfl c1 ?_
   refine Go.skip ?_
   refine Go.seq ?_
   refine Go.block ?_
   refine Go.seq ?_
   refine Go.reg ?_
   refine mv h rfl rfl fun h => ?_
   refine ga h (o_assign rfl) rfl fun h => ?_
   refine GoR.done ?_
   refine Go.reg ?_
   iterate 4 (refine ga h (o_move rfl) rfl fun h => ?_)
   refine ga h (o_bin rfl rfl rfl) rfl fun h => ?_
   obtain ⟨q1, H⟩ := ifS H
   refine ga h (o_shr rfl rfl q1) rfl fun h => ?_
   refine ga h (o_conv rfl t_q85 t_u5) rfl fun h => ?_
   obtain ⟨x2, ex2, H⟩ := bindE H
   refine ga h (o_ix rfl rfl (rd_own 0 rfl) ex2 t_v23) rfl fun h => ?_
   obtain ⟨y1, ey1, H⟩ := ltE H
   refine gs0 h (o_ste 0 rfl rfl rfl (pv_int (wrap_in _ _)) ex2 t_w5 (by decide)) fun _ _ _ h => ?_
   rw [ey1] at h
   refine GoR.done ?_
   refine Go.inBlock ?_
   refine Go.reg ?_
   refine ga h (o_bin rfl rfl rfl) rfl fun h => ?_
   refine mv h rfl rfl fun h => ?_
   refine GoR.done ?_
   have e_ := som H; subst e_
   exact Go.inLoop (nx_in i1 _ _ (wrap_in _ _) (h.wr [0]))
  ·have H := ifF c1 H
   refine g_f h rfl c1 ?_
   refine Go.exit rfl ?_
   have e_ := som H; subst e_
   exact J1 s1.1 v1 _ _ (nx_out i1).symm (h.wr [0])
 ·exact I_ _ _ (show InR .i64 0 by decide) (h.wr [0])
def bits_Put.g (k_ : Nat) (a1 : Int) (a2 : Int) (a3 : Bool) : Option ((List Int)) :=
  (mk (max 0 (min a2 8)) 0).bind fun x1 => (loopK k_ (fun s1 => (if decide (s1.2 < (x1.length : Int)) = true then if 0 ≤ (IntKind.i64.wrap (8 * s1.2)) then ((idx s1.1 s1.2).bind fun x2 => lt (s1.1.set s1.2.toNat (IntKind.u8.wrap (ishr .u64 a1 (IntKind.i64.wrap (8 * s1.2))))) fun y1 => some (.inl (y1, IntKind.i64.wrap (s1.2 + 1)))) else none else some (.inr (s1.1)))) (x1, 0)).bind (fun j1 => ((if a3 = true then (slices_Reverse_s_byte_byte.g k_ j1).bind fun r1 => some (r1) else some (j1))).bind (fun j2 => some (j2)))
theorem bits_Put.le (k_ : Nat) (a1 : Int) (a2 : Int) (a3 : Bool) : Le (bits_Put.g k_ a1 a2 a3) (bits_Put.f a1 a2 a3) := by
 unfold bits_Put.g bits_Put.f
 repeat' (first | with_reducible refine le_loop fun _ => ?_ | with_reducible refine le_bind ?_ fun _ => ?_ | with_reducible refine le_ite ?_ ?_ | with_reducible refine le_lt fun _ => ?_ | with_reducible refine le_elim (fun _ => ?_) (fun _ => ?_) _ | with_reducible apply slices_Reverse_s_byte_byte.le | with_reducible exact le_refl _)
/-! drawbridge/seg.Put$1 -/
noncomputable def seg_Put_1.f (a1 : Int) (a2 : Int) : Option ((List Int)) :=
  (bits_Put.f a1 a2 true).bind fun r1 => some (r1)
set_option maxRecDepth 100000 in
set_option maxHeartbeats 4000000 in
theorem seg_Put_1.spc (a1 : Int) (ha1 : InR .u64 a1) (a2 : Int) (ha2 : InR .i64 a2) (r : (List Int)) (H : seg_Put_1.f a1 a2 = some r) : Spc Try.prog 43 [.int .u64 a1, .int .i64 a2] [] [] (fun (s : Value) => s) (fun s => [Val (Kd.osl (Kd.int .u8)) s r]) := by
 unfold seg_Put_1.f at H
 refine Spc.go Try.func43 rfl (by kernel_rfl) rfl rfl all_nil fun F a w h => ?_
 refine Go.seq ?_
 refine Go.reg ?_
 refine ga h (o_assign rfl) rfl fun h => ?_
 refine GoR.done ?_
 refine Go.seq ?_
 refine Go.reg ?_
 refine mv h rfl rfl fun h => ?_
 refine mv h rfl rfl fun h => ?_
 obtain ⟨r1, er1, H⟩ := bindE H
 refine gs h (o_call (bits_Put.spc a1 ha1 a2 ha2 true r1 er1) rfl [] [] (by decide) rfl rfl) rfl fun v1 _ _ h => ?_
 refine ga h (o_assign rfl) rfl fun h => ?_
 refine GoR.done ?_
 rw [← som H]
 exact g_ret (vs := [v1]) h Try.func43 ⟨rfl, trivial⟩ ⟨v1, rfl, (h.mem.pick [0] (by decide) rfl)⟩
def seg_Put_1.g (k_ : Nat) (a1 : Int) (a2 : Int) : Option ((List Int)) :=
  (bits_Put.g k_ a1 a2 true).bind fun r1 => some (r1)
theorem seg_Put_1.le (k_ : Nat) (a1 : Int) (a2 : Int) : Le (seg_Put_1.g k_ a1 a2) (seg_Put_1.f a1 a2) := by
 unfold seg_Put_1.g seg_Put_1.f
 repeat' (first | with_reducible refine le_loop fun _ => ?_ | with_reducible refine le_bind ?_ fun _ => ?_ | with_reducible refine le_ite ?_ ?_ | with_reducible refine le_lt fun _ => ?_ | with_reducible refine le_elim (fun _ => ?_) (fun _ => ?_) _ | with_reducible apply bits_Put.le | with_reducible exact le_refl _)
/-! drawbridge/sum.Pseudo -/
noncomputable def sum_Pseudo.f (a1 : Int) (a2 : Int) (a3 : Int) (a4 : Int) : Option ((List Int)) :=
  (bits_Put.f a1 4 true).bind fun r1 => (bits_Put.f a2 4 true).bind fun r2 => (bits_Put.f (IntKind.u64.wrap a4) 2 true).bind fun r3 => (slices_Concat_s_byte_byte.f ([r1, r2, ([0, IntKind.u8.wrap a3] : List Int), r3] : List (List Int))).bind fun r4 => some (r4)
set_option maxRecDepth 100000 in
set_option maxHeartbeats 4000000 in
theorem sum_Pseudo.spc (a1 : Int) (ha1 : InR .u32 a1) (a2 : Int) (ha2 : InR .u32 a2) (a3 : Int) (ha3 : InR .i64 a3) (a4 : Int) (ha4 : InR .i64 a4) (r : (List Int)) (H : sum_Pseudo.f a1 a2 a3 a4 = some r) : Spc Try.prog 62 [.int .u32 a1, .int .u32 a2, .int .i64 a3, .int .i64 a4] [] [] (fun (s : Value) => s) (fun s => [Val (Kd.osl (Kd.int .u8)) s r]) := by
 unfold sum_Pseudo.f at H
 refine Spc.go Try.func62 rfl (by kernel_rfl) rfl rfl all_nil fun F a w h => ?_
 refine Go.seq ?_
 refine Go.reg ?_
 refine ga h (o_assign rfl) rfl fun h => ?_
 refine GoR.done ?_
 refine Go.seq ?_
 refine Go.reg ?_
 refine mv h rfl rfl fun h => ?_
 refine ga h (o_convw rfl t_q22 t_u85 ha1 rfl) rfl fun h => ?_
 obtain ⟨r1, er1, H⟩ := bindE H
 refine gs h (o_call (bits_Put.spc a1 (inr_wid (k := .u32) (k' := .u64) ha1 rfl) 4 (show InR .i64 4 by decide) true r1 er1) rfl [] [] (by decide) rfl rfl) rfl fun v1 _ _ h => ?_
 refine mv h rfl rfl fun h => ?_
 refine ga h (o_convw rfl t_q22 t_u85 ha2 rfl) rfl fun h => ?_
 obtain ⟨r2, er2, H⟩ := bindE H
 refine gs h (o_call (bits_Put.spc a2 (inr_wid (k := .u32) (k' := .u64) ha2 rfl) 4 (show InR .i64 4 by decide) true r2 er2) rfl [] [] (by decide) rfl rfl) rfl fun v2 _ _ h => ?_
 refine mv h rfl rfl fun h => ?_
 refine ga h (o_conv rfl t_q3 t_u5) rfl fun h => ?_
 refine gs h (o_bs (K := (Kd.int .u8)) (vs := [.int .u8 0, .int .u8 (IntKind.u8.wrap a3)]) (xs := ([0, IntKind.u8.wrap a3] : List Int)) rfl rfl (pvs_cons (pv_int (show InR .u8 0 by decide)) (pvs_cons (pv_int (wrap_in _ _)) pvs_nil)) t_a23 (by decide) (by decide)) rfl fun v3 _ _ h => ?_
 refine mv h rfl rfl fun h => ?_
 refine ga h (o_conv rfl t_q3 t_u85) rfl fun h => ?_
 obtain ⟨r3, er3, H⟩ := bindE H
 refine gs h (o_call (bits_Put.spc (IntKind.u64.wrap a4) (wrap_in _ _) 2 (show InR .i64 2 by decide) true r3 er3) rfl [] [] (by decide) rfl rfl) rfl fun v4 _ _ h => ?_
 replace h := h.mm fun m => m.freeze 3 rfl
 replace h := h.mm fun m => m.freeze 2 rfl
 replace h := h.mm fun m => m.freeze 1 rfl
 replace h := h.mm fun m => m.freeze 0 rfl
 refine gs h (o_bs (K := (Kd.sl (Kd.int .u8))) (vs := [v1, v2, v3, v4]) (xs := ([r1, r2, ([0, IntKind.u8.wrap a3] : List Int), r3] : List (List Int))) rfl rfl (pvs_cons (pv_at Per_sl 3 rfl) (pvs_cons (pv_at Per_sl 2 rfl) (pvs_cons (pv_at Per_sl 1 rfl) (pvs_cons (pv_at Per_sl 0 rfl) pvs_nil)))) t_a100 (by decide) (by decide)) rfl fun v5 _ _ h => ?_
 replace h := h.mm fun m => m.freeze 0 rfl
 obtain ⟨r4, er4, H⟩ := bindE H
 refine gs h (o_call (slices_Concat_s_byte_byte.spc v5 ([r1, r2, ([0, IntKind.u8.wrap a3] : List Int), r3] : List (List Int)) r4 er4) rfl [0] [] (by decide) rfl rfl) rfl fun v6 _ _ h => ?_
 refine ga h (o_assign rfl) rfl fun h => ?_
 refine GoR.done ?_
 rw [← som H]
 exact g_ret (vs := [v6]) h Try.func62 ⟨rfl, trivial⟩ ⟨v6, rfl, (h.mem.pick [0] (by decide) rfl)⟩
def sum_Pseudo.g (k_ : Nat) (a1 : Int) (a2 : Int) (a3 : Int) (a4 : Int) : Option ((List Int)) :=
  (bits_Put.g k_ a1 4 true).bind fun r1 => (bits_Put.g k_ a2 4 true).bind fun r2 => (bits_Put.g k_ (IntKind.u64.wrap a4) 2 true).bind fun r3 => (slices_Concat_s_byte_byte.g k_ ([r1, r2, ([0, IntKind.u8.wrap a3] : List Int), r3] : List (List Int))).bind fun r4 => some (r4)
theorem sum_Pseudo.le (k_ : Nat) (a1 : Int) (a2 : Int) (a3 : Int) (a4 : Int) : Le (sum_Pseudo.g k_ a1 a2 a3 a4) (sum_Pseudo.f a1 a2 a3 a4) := by
 unfold sum_Pseudo.g sum_Pseudo.f
 repeat' (first | with_reducible refine le_loop fun _ => ?_ | with_reducible refine le_bind ?_ fun _ => ?_ | with_reducible refine le_ite ?_ ?_ | with_reducible refine le_lt fun _ => ?_ | with_reducible refine le_elim (fun _ => ?_) (fun _ => ?_) _ | with_reducible apply bits_Put.le | with_reducible apply slices_Concat_s_byte_byte.le | with_reducible exact le_refl _)
end Go.Proofs.Ytpcbhkigmnpimaa.S
