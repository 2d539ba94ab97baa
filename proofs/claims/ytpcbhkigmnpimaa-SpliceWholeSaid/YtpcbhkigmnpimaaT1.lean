/- Contracts, printed by a program of this session. -/
import Derived.Test.YtpcbhkigmnpimaaT0
namespace Go.Proofs.Ytpcbhkigmnpimaa.S
open Go Go.SL Go.RowKit
set_option linter.unusedVariables false
set_option linter.unusedSimpArgs false
/-! cmp.Or[int] -/
noncomputable def cmp_Or_int.f (a1 : List Int) : Option (Int) :=
  (loop (fun s1 => (if decide (s1 < (a1.length : Int)) = true then (idx a1 s1).bind fun x1 => (if (!decide (x1 = 0)) = true then some (.inr (.inr (x1))) else some (.inl (IntKind.i64.wrap (s1 + 1)))) else some (.inr (.inl (()))))) 0).bind (Sum.elim (fun j1 => some (0)) (fun z_ => some (z_)))
set_option maxRecDepth 100000 in
set_option maxHeartbeats 4000000 in
theorem cmp_Or_int.spc (v1 : Value) (a1 : List Int) (r : Int) (H : cmp_Or_int.f a1 = some r) : Spc Try.prog 32 [v1] [Val (Kd.sl (Kd.int .i64)) v1 a1] [] (fun (s : Unit) => .int .i64 r) (fun s => [Ent.pur (InR .i64 r)]) := by
 unfold cmp_Or_int.f at H
 refine Spc.go Try.func32 rfl (by kernel_rfl) rfl rfl (all_cons (Val.per Per_sl) all_nil) fun F a w h => ?_
 refine Go.seq ?_
 refine Go.reg ?_
 refine ga h (o_assign rfl) rfl fun h => ?_
 refine GoR.done ?_
 refine Go.seq ?_
 refine Go.reg ?_
 refine ga h (o_assign rfl) rfl fun h => ?_
 refine GoR.done ?_
 refine Go.seq ?_
 refine Go.seq ?_
 refine Go.reg ?_
 refine mv h rfl rfl fun h => ?_
 have g1 := (len_at 0 rfl h.mem)
 refine ga h (o_ln rfl (rd_at 0 rfl) t_v95) rfl fun h => ?_
 refine mv h rfl rfl fun h => ?_
 refine GoR.done ?_
 refine Go.block ?_
 obtain ⟨o1, hl, G1⟩ := bindE H
 refine g_cut (fun G => ∀ j1 (a : Act) (w : World), o1 = .inl (j1) → St Try.f32.ntmps F [(3, .int .i64 0)] [] a w → G a w) 2 ?_ fun J1 => ?_
 ·intro j1 a w ho_ h
  rw [ho_] at G1
  have H := eInl G1
  refine Go.seq ?_
  refine Go.reg ?_
  refine mv h rfl rfl fun h => ?_
  refine ga h (o_assign rfl) rfl fun h => ?_
  refine GoR.done ?_
  rw [← som H]
  exact g_ret (vs := [.int .i64 0]) h Try.func32 ⟨rfl, trivial⟩ ⟨(), rfl, ((h.mem.pick [] (by decide) rfl).addpur (show InR .i64 0 by decide))⟩
 refine g_loop (fun s1 G => ∀  (a : Act) (w : World), InR .i64 s1 → St Try.f32.ntmps F [(3, .int .i64 0), (6, v1), (7, .int .i64 (a1.length : Int)), (8, .int .i64 s1)] [Val (Kd.sl (Kd.int .i64)) v1 a1] a w → G a w) hl (fun s1 p1 H i1 => ?_) fun I_ => ?_
 ·intro  a w g2 h
  refine Go.seq ?_
  refine Go.reg ?_
  refine ga h (o_bin rfl rfl rfl) rfl fun h => ?_
  refine GoR.done ?_
  refine Go.seq ?_
  by_cases c1 : decide (s1 < (a1.length : Int)) = true
  ·have H := ifT c1 H
   refine g_t h rfl c1 ?_
   refine Go.skip ?_
   refine Go.seq ?_
   refine Go.block ?_
   refine Go.seq ?_
   refine Go.reg ?_
   obtain ⟨x1, ex1, H⟩ := bindE H
   refine ga h (o_ix rfl rfl (rd_at 0 rfl) ex1 t_v95) rfl fun h => ?_
   have g3 := (rd_inr (rd_at 0 rfl) ex1 h.mem)
   refine ga h (o_lex rfl (rd_at 0 rfl) ex1 X_int t_y3 (by decide)) rfl fun h => ?_
   refine ga h (o_assign rfl) rfl fun h => ?_
   refine GoR.done ?_
   refine Go.seq ?_
   refine Go.reg ?_
   refine mv h rfl rfl fun h => ?_
   refine mv h rfl rfl fun h => ?_
   refine ga h (o_bin rfl rfl rfl) rfl fun h => ?_
   refine GoR.done ?_
   by_cases c2 : (!decide (x1 = 0)) = true
   ·have H := ifT c2 H
    refine g_t h rfl c2 ?_
    refine Go.seq ?_
    refine Go.reg ?_
    refine mv h rfl rfl fun h => ?_
    refine ga h (o_assign rfl) rfl fun h => ?_
    refine GoR.done ?_
    have e_ := som H; subst e_
    rw [← nx_out i1] at G1
    have H := G1
    rw [← som H]
    exact g_ret (vs := [.int .i64 x1]) h Try.func32 ⟨rfl, trivial⟩ ⟨(), rfl, ((h.mem.pick [] (by decide) rfl).addpur g3)⟩
   ·have H := ifF c2 H
    refine g_f h rfl c2 ?_
    refine Go.skip ?_
    refine Go.inBlock ?_
    refine Go.reg ?_
    refine ga h (o_bin rfl rfl rfl) rfl fun h => ?_
    refine mv h rfl rfl fun h => ?_
    refine GoR.done ?_
    have e_ := som H; subst e_
    exact Go.inLoop (nx_in i1 _ _ (wrap_in _ _) (h.wr [0]))
  ·have H := ifF c1 H
   refine g_f h rfl c1 ?_
   refine Go.exit rfl ?_
   have e_ := som H; subst e_
   exact J1 () _ _ (nx_out i1).symm (h.wr [])
 ·exact I_ _ _ (show InR .i64 0 by decide) (h.wr [0])
def cmp_Or_int.g (k_ : Nat) (a1 : List Int) : Option (Int) :=
  (loopK k_ (fun s1 => (if decide (s1 < (a1.length : Int)) = true then (idx a1 s1).bind fun x1 => (if (!decide (x1 = 0)) = true then some (.inr (.inr (x1))) else some (.inl (IntKind.i64.wrap (s1 + 1)))) else some (.inr (.inl (()))))) 0).bind (Sum.elim (fun j1 => some (0)) (fun z_ => some (z_)))
theorem cmp_Or_int.le (k_ : Nat) (a1 : List Int) : Le (cmp_Or_int.g k_ a1) (cmp_Or_int.f a1) := by
 unfold cmp_Or_int.g cmp_Or_int.f
 repeat' (first | with_reducible refine le_loop fun _ => ?_ | with_reducible refine le_bind ?_ fun _ => ?_ | with_reducible refine le_ite ?_ ?_ | with_reducible refine le_lt fun _ => ?_ | with_reducible refine le_elim (fun _ => ?_) (fun _ => ?_) _ | with_reducible exact le_refl _)
/-! drawbridge/splice.Open -/
noncomputable def splice_Open.f (a1 : TSeg) (a2 : Int) (a3 : Int) (a4 : Int) (a5 : Int) : Option (TConn × Bool) :=
  lt (decide ((bits .and .i64 a1.Flags 23) = 2)) fun y1 => ((if (!y1) = true then some (true) else (if (!decide ((ishr .i64 a1.Src 16) = 0)) = true then some (true) else (if (!decide ((ishr .i64 a1.Dst 16) = 0)) = true then some (true) else (if (!decide ((ishr .i64 a1.Win 16) = 0)) = true then some (true) else (if decide (a4 < 1) = true then some (true) else some (decide (8 < a4)))))))).bind (fun j1 => (if j1 = true then some (((⟨0, 0, 0, 0, 0, false, false, false, 0, 0, 0, 0, 0, 0, [], [], [], false, false, false, 0, 0, 0⟩ : TConn), false)) else (cmp_Or_int.f ([a1.Mss, 536] : List Int)).bind fun r1 => lt (⟨a4, a2, a1.Src, a3, a1.Dst, true, false, false, a5, a5, a5, IntKind.u32.wrap (a1.Seq + 1), a1.Win, min (max r1 64) 1460, [], [], [], false, false, false, 0, 0, 0⟩ : TConn) fun y2 => some ((y2, true))))
set_option maxRecDepth 100000 in
set_option maxHeartbeats 4000000 in
theorem splice_Open.spc (v1 : Value) (a1 : TSeg) (a2 : Int) (ha2 : InR .u32 a2) (a3 : Int) (ha3 : InR .u32 a3) (a4 : Int) (ha4 : InR .i64 a4) (a5 : Int) (ha5 : InR .u32 a5) (r : TConn × Bool) (H : splice_Open.f a1 a2 a3 a4 a5 = some r) : Spc Try.prog 24 [v1, .int .u32 a2, .int .u32 a3, .int .i64 a4, .int .u32 a5] [Val KSeg v1 a1] [] (fun (s : Value) => .tuple #[s, .bool r.2]) (fun s => [Val KConn s r.1]) := by
 unfold splice_Open.f at H
 refine Spc.go Try.func24 rfl (by kernel_rfl) rfl rfl (all_cons (Val.per PSeg) all_nil) fun F a w h => ?_
 refine Go.seq ?_
 refine Go.reg ?_
 refine gs h (o_box (K := KSeg) rfl (pv_at PSeg 0 rfl)) rfl fun b1 _ _ h => ?_
 refine gs h (o_alloc (K := KConn) (z := (.agg #[.int .i64 0, .int .u32 0, .int .i64 0, .int .u32 0, .int .i64 0, .bool false, .bool false, .bool false, .int .u32 0, .int .u32 0, .int .u32 0, .int .u32 0, .int .i64 0, .int .i64 0, .slice none 0 0, .slice none 0 0, .slice none 0 0, .bool false, .bool false, .bool false, .int .i64 0, .int .i64 0, .int .i64 0])) rfl ZConn) rfl fun b2 _ _ h => ?_
 refine ga h (o_assign rfl) rfl fun h => ?_
 refine GoR.done ?_
 refine Go.seq ?_
 refine Go.reg ?_
 refine ga h (o_fa rfl t_f30_4 rfl rfl) rfl fun h => ?_
 have g1 := (in2 (fd_sub sSeg_Flags 1 rfl h.mem))
 refine ga h (o_lfx 1 rfl rfl sSeg_Flags rfl X_int t_y3) rfl fun h => ?_
 refine ga h (o_bin rfl rfl rfl) rfl fun h => ?_
 refine ga h (o_bin rfl rfl rfl) rfl fun h => ?_
 obtain ⟨y1, ey1, H⟩ := ltE H
 refine ga h (o_assign' rfl (congrArg Value.bool ey1)) rfl fun h => ?_
 refine GoR.done ?_
 refine Go.seq ?_
 refine Go.seq ?_
 obtain ⟨o1, H, G1⟩ := bindE H
 refine g_cut (fun G => ∀ j1 (a : Act) (w : World), o1 = j1 → St Try.f24.ntmps F [(1, .int .u32 a2), (2, .int .u32 a3), (3, .int .i64 a4), (4, .int .u32 a5), (5, pt b1), (10, pt b2), (45, .bool j1)] [Fld KConn b2 0 zConn, Fld KSeg b1 0 a1] a w → G a w) 1 ?_ fun J1 => ?_
 ·intro j1 a w ho_ h
  rw [ho_] at G1
  have H := G1
  by_cases c6 : j1 = true
  ·have H := ifT c6 H
   refine g_t h rfl c6 ?_
   refine Go.seq ?_
   refine Go.reg ?_
   refine gs h (o_build (K := KConn) (x := (⟨0, 0, 0, 0, 0, false, false, false, 0, 0, 0, 0, 0, 0, [], [], [], false, false, false, 0, 0, 0⟩ : TConn)) (ps := []) rfl (zs := zsConn) rfl t_b26 rfl (show PB (Kd.pair (Kd.int .i64) (Kd.pair (Kd.int .u32) (Kd.pair (Kd.int .i64) (Kd.pair (Kd.int .u32) (Kd.pair (Kd.int .i64) (Kd.pair Kd.bool (Kd.pair Kd.bool (Kd.pair Kd.bool (Kd.pair (Kd.int .u32) (Kd.pair (Kd.int .u32) (Kd.pair (Kd.int .u32) (Kd.pair (Kd.int .u32) (Kd.pair (Kd.int .i64) (Kd.pair (Kd.int .i64) (Kd.pair (Kd.sl (Kd.int .u8)) (Kd.pair (Kd.sl (Kd.int .u8)) (Kd.pair (Kd.sl KEarly) (Kd.pair Kd.bool (Kd.pair Kd.bool (Kd.pair Kd.bool (Kd.pair (Kd.int .i64) (Kd.pair (Kd.int .i64) (Kd.last (Kd.int .i64)))))))))))))))))))))))) (0, 0, 0, 0, 0, false, false, false, 0, 0, 0, 0, 0, 0, [], [], [], false, false, false, 0, 0, 0) 0 zsConn _ _ from (pb_zero z_int (pb_zero z_int (pb_zero z_int (pb_zero z_int (pb_zero z_int (pb_zero z_bool (pb_zero z_bool (pb_zero z_bool (pb_zero z_int (pb_zero z_int (pb_zero z_int (pb_zero z_int (pb_zero z_int (pb_zero z_int (pb_zero z_sl (pb_zero z_sl (pb_zero z_sl (pb_zero z_bool (pb_zero z_bool (pb_zero z_bool (pb_zero z_int (pb_zero z_int (pb_lastz z_int))))))))))))))))))))))))) rfl fun v2 _ _ h => ?_
   refine gs0 h (o_st 1 rfl rfl rfl (pv_at PConn 0 rfl) rfl t_w26) fun _ _ _ h => ?_
   refine ga h (o_assign rfl) rfl fun h => ?_
   refine GoR.done ?_
   obtain ⟨v3, h, u1⟩ := h.peek 1 rfl PConn t_y26
   rw [← som H]
   exact g_ret (vs := [v3, .bool false]) h Try.func24 ⟨⟨_, rfl, u1⟩, ⟨rfl, trivial⟩⟩ ⟨v3, rfl, (h.mem.pick [0] (by decide) rfl)⟩
  ·have H := ifF c6 H
   refine g_f h rfl c6 ?_
   refine Go.skip ?_
   refine Go.seq ?_
   refine Go.reg ?_
   refine mv h rfl rfl fun h => ?_
   refine mv h rfl rfl fun h => ?_
   refine ga h (o_fa rfl t_f30_0 rfl rfl) rfl fun h => ?_
   have g5 := (in2 (fd_sub sSeg_Src 1 rfl h.mem))
   refine ga h (o_lfx 1 rfl rfl sSeg_Src rfl X_int t_y3) rfl fun h => ?_
   refine mv h rfl rfl fun h => ?_
   refine ga h (o_fa rfl t_f30_1 rfl rfl) rfl fun h => ?_
   have g6 := (in2 (fd_sub sSeg_Dst 1 rfl h.mem))
   refine ga h (o_lfx 1 rfl rfl sSeg_Dst rfl X_int t_y3) rfl fun h => ?_
   iterate 3 (refine ga h (o_move rfl) rfl fun h => ?_)
   refine ga h (o_fa rfl t_f30_2 rfl rfl) rfl fun h => ?_
   have g7 := (in2 (fd_sub sSeg_Seq 1 rfl h.mem))
   refine ga h (o_lfx 1 rfl rfl sSeg_Seq rfl X_int t_y22) rfl fun h => ?_
   refine ga h (o_bin rfl rfl rfl) rfl fun h => ?_
   refine ga h (o_fa rfl t_f30_5 rfl rfl) rfl fun h => ?_
   have g8 := (in2 (fd_sub sSeg_Win 1 rfl h.mem))
   refine ga h (o_lfx 1 rfl rfl sSeg_Win rfl X_int t_y3) rfl fun h => ?_
   refine gs h (o_build (K := KConn) (x := (⟨a4, a2, a1.Src, a3, a1.Dst, true, false, false, a5, a5, a5, IntKind.u32.wrap (a1.Seq + 1), a1.Win, 0, [], [], [], false, false, false, 0, 0, 0⟩ : TConn)) (ps := [(0, .int .i64 a4), (1, .int .u32 a2), (2, .int .i64 a1.Src), (3, .int .u32 a3), (4, .int .i64 a1.Dst), (5, .bool true), (8, .int .u32 a5), (9, .int .u32 a5), (10, .int .u32 a5), (11, .int .u32 (IntKind.u32.wrap (a1.Seq + 1))), (12, .int .i64 a1.Win)]) rfl (zs := zsConn) rfl t_b26 rfl (show PB (Kd.pair (Kd.int .i64) (Kd.pair (Kd.int .u32) (Kd.pair (Kd.int .i64) (Kd.pair (Kd.int .u32) (Kd.pair (Kd.int .i64) (Kd.pair Kd.bool (Kd.pair Kd.bool (Kd.pair Kd.bool (Kd.pair (Kd.int .u32) (Kd.pair (Kd.int .u32) (Kd.pair (Kd.int .u32) (Kd.pair (Kd.int .u32) (Kd.pair (Kd.int .i64) (Kd.pair (Kd.int .i64) (Kd.pair (Kd.sl (Kd.int .u8)) (Kd.pair (Kd.sl (Kd.int .u8)) (Kd.pair (Kd.sl KEarly) (Kd.pair Kd.bool (Kd.pair Kd.bool (Kd.pair Kd.bool (Kd.pair (Kd.int .i64) (Kd.pair (Kd.int .i64) (Kd.last (Kd.int .i64)))))))))))))))))))))))) (a4, a2, a1.Src, a3, a1.Dst, true, false, false, a5, a5, a5, IntKind.u32.wrap (a1.Seq + 1), a1.Win, 0, [], [], [], false, false, false, 0, 0, 0) 0 zsConn _ _ from (pb_part (pv_int ha4) rfl (pb_part (pv_int ha2) rfl (pb_part (pv_int g5) rfl (pb_part (pv_int ha3) rfl (pb_part (pv_int g6) rfl (pb_part pv_bool rfl (pb_zero z_bool (pb_zero z_bool (pb_part (pv_int ha5) rfl (pb_part (pv_int ha5) rfl (pb_part (pv_int ha5) rfl (pb_part (pv_int (wrap_in _ _)) rfl (pb_part (pv_int g8) rfl (pb_zero z_int (pb_zero z_sl (pb_zero z_sl (pb_zero z_sl (pb_zero z_bool (pb_zero z_bool (pb_zero z_bool (pb_zero z_int (pb_zero z_int (pb_lastz z_int))))))))))))))))))))))))) rfl fun v4 _ _ h => ?_
   refine gs h (o_alloc (K := KConn) (z := (.agg #[.int .i64 0, .int .u32 0, .int .i64 0, .int .u32 0, .int .i64 0, .bool false, .bool false, .bool false, .int .u32 0, .int .u32 0, .int .u32 0, .int .u32 0, .int .i64 0, .int .i64 0, .slice none 0 0, .slice none 0 0, .slice none 0 0, .bool false, .bool false, .bool false, .int .i64 0, .int .i64 0, .int .i64 0])) rfl ZConn) rfl fun b3 _ _ h => ?_
   refine gs0 h (o_st 0 rfl rfl rfl (pv_at PConn 1 rfl) rfl t_w26) fun _ _ _ h => ?_
   refine GoR.done ?_
   refine Go.seq ?_
   refine Go.reg ?_
   refine ga h (o_fa rfl t_f30_6 rfl rfl) rfl fun h => ?_
   have g9 := (in2 (fd_sub sSeg_Mss 3 rfl h.mem))
   refine ga h (o_lfx 3 rfl rfl sSeg_Mss rfl X_int t_y3) rfl fun h => ?_
   refine gs h (o_bs (K := (Kd.int .i64)) (vs := [.int .i64 a1.Mss, .int .i64 536]) (xs := ([a1.Mss, 536] : List Int)) rfl rfl (pvs_cons (pv_int g9) (pvs_cons (pv_int (show InR .i64 536 by decide)) pvs_nil)) t_a95 (by decide) (by decide)) rfl fun v5 _ _ h => ?_
   replace h := h.mm fun m => m.freeze 0 rfl
   obtain ⟨r1, er1, H⟩ := bindE H
   refine ga h (o_call (cmp_Or_int.spc v5 ([a1.Mss, 536] : List Int) r1 er1) rfl [0] [] (by decide) rfl rfl) rfl fun h => ?_
   have g10 := h.mem.pur 0 rfl
   refine ga h (o_max rfl rfl) rfl fun h => ?_
   refine ga h (o_min rfl rfl) rfl fun h => ?_
   refine ga h (o_fa rfl t_f26_13 rfl rfl) rfl fun h => ?_
   obtain ⟨y2, ey2, H⟩ := ltE H
   refine gs0 h (o_stp (x0 := (⟨a4, a2, a1.Src, a3, a1.Dst, true, false, false, a5, a5, a5, IntKind.u32.wrap (a1.Seq + 1), a1.Win, 0, [], [], [], false, false, false, 0, 0, 0⟩ : TConn)) (y := min (max r1 64) 1460) 2 t_uConn_13_1 rfl rfl rfl rfl (pv_int (inr_min (inr_max g10 (show InR .i64 64 by decide)) (show InR .i64 1460 by decide))) t_w3) fun _ _ _ h => ?_
   rw [ey2] at h
   refine GoR.done ?_
   refine Go.seq ?_
   refine Go.reg ?_
   refine gs h (o_ldv 2 rfl rfl PConn t_y26) rfl fun v6 _ _ h => ?_
   refine gs0 h (o_st 5 rfl rfl rfl (pv_at PConn 0 rfl) rfl t_w26) fun _ _ _ h => ?_
   refine ga h (o_assign rfl) rfl fun h => ?_
   refine GoR.done ?_
   obtain ⟨v7, h, u2⟩ := h.peek 5 rfl PConn t_y26
   rw [← som H]
   exact g_ret (vs := [v7, .bool true]) h Try.func24 ⟨⟨_, rfl, u2⟩, ⟨rfl, trivial⟩⟩ ⟨v7, rfl, (h.mem.pick [0] (by decide) rfl)⟩
 refine Go.reg ?_
 refine mv h rfl rfl fun h => ?_
 refine ga h (o_not rfl) rfl fun h => ?_
 refine mv h rfl rfl fun h => ?_
 by_cases c1 : (!y1) = true
 ·have H := ifT c1 H
  iterate 4 (refine gk h rfl rfl (nb_t c1) rfl fun _ h => ?_)
  refine ga h (o_pickT rfl rfl c1) rfl fun h => ?_
  refine mv h rfl rfl fun h => ?_
  iterate 4 (refine gk h rfl rfl (nb_t rfl) rfl fun _ h => ?_)
  refine ga h (o_pickT rfl rfl rfl) rfl fun h => ?_
  refine mv h rfl rfl fun h => ?_
  iterate 4 (refine gk h rfl rfl (nb_t rfl) rfl fun _ h => ?_)
  refine ga h (o_pickT rfl rfl rfl) rfl fun h => ?_
  refine mv h rfl rfl fun h => ?_
  refine gk h rfl rfl (nb_t rfl) rfl fun _ h => ?_
  refine gk h rfl rfl (nb_t rfl) rfl fun _ h => ?_
  refine ga h (o_pickT rfl rfl rfl) rfl fun h => ?_
  refine mv h rfl rfl fun h => ?_
  refine gk h rfl rfl (nb_t rfl) rfl fun _ h => ?_
  refine gk h rfl rfl (nb_t rfl) rfl fun _ h => ?_
  refine ga h (o_pickT rfl rfl rfl) rfl fun h => ?_
  refine GoR.done ?_
  exact J1 true _ _ (som H).symm (h.wr [0, 1])
 ·have H := ifF c1 H
  refine gg h rfl rfl (nbF c1) (o_fa rfl t_f30_0 rfl rfl) rfl fun _ _ _ h => ?_
  have g2 := (in2 (fd_sub sSeg_Src 1 rfl h.mem))
  refine gg h rfl rfl (nbF c1) (o_lfx 1 rfl rfl sSeg_Src rfl X_int t_y3) rfl fun _ _ _ h => ?_
  refine gg h rfl rfl (nbF c1) (o_shr rfl rfl (show (0 : Int) ≤ 16 by decide)) rfl fun _ _ _ h => ?_
  refine gg h rfl rfl (nbF c1) (o_bin rfl rfl rfl) rfl fun _ _ _ h => ?_
  refine ga h (o_pickF rfl rfl c1) rfl fun h => ?_
  refine mv h rfl rfl fun h => ?_
  by_cases c2 : (!decide ((ishr .i64 a1.Src 16) = 0)) = true
  ·have H := ifT c2 H
   iterate 4 (refine gk h rfl rfl (nb_t c2) rfl fun _ h => ?_)
   refine ga h (o_pickT rfl rfl c2) rfl fun h => ?_
   refine mv h rfl rfl fun h => ?_
   iterate 4 (refine gk h rfl rfl (nb_t rfl) rfl fun _ h => ?_)
   refine ga h (o_pickT rfl rfl rfl) rfl fun h => ?_
   refine mv h rfl rfl fun h => ?_
   refine gk h rfl rfl (nb_t rfl) rfl fun _ h => ?_
   refine gk h rfl rfl (nb_t rfl) rfl fun _ h => ?_
   refine ga h (o_pickT rfl rfl rfl) rfl fun h => ?_
   refine mv h rfl rfl fun h => ?_
   refine gk h rfl rfl (nb_t rfl) rfl fun _ h => ?_
   refine gk h rfl rfl (nb_t rfl) rfl fun _ h => ?_
   refine ga h (o_pickT rfl rfl rfl) rfl fun h => ?_
   refine GoR.done ?_
   exact J1 true _ _ (som H).symm (h.wr [0, 1])
  ·have H := ifF c2 H
   refine gg h rfl rfl (nbF c2) (o_fa rfl t_f30_1 rfl rfl) rfl fun _ _ _ h => ?_
   have g3 := (in2 (fd_sub sSeg_Dst 1 rfl h.mem))
   refine gg h rfl rfl (nbF c2) (o_lfx 1 rfl rfl sSeg_Dst rfl X_int t_y3) rfl fun _ _ _ h => ?_
   refine gg h rfl rfl (nbF c2) (o_shr rfl rfl (show (0 : Int) ≤ 16 by decide)) rfl fun _ _ _ h => ?_
   refine gg h rfl rfl (nbF c2) (o_bin rfl rfl rfl) rfl fun _ _ _ h => ?_
   refine ga h (o_pickF rfl rfl c2) rfl fun h => ?_
   refine mv h rfl rfl fun h => ?_
   by_cases c3 : (!decide ((ishr .i64 a1.Dst 16) = 0)) = true
   ·have H := ifT c3 H
    iterate 4 (refine gk h rfl rfl (nb_t c3) rfl fun _ h => ?_)
    refine ga h (o_pickT rfl rfl c3) rfl fun h => ?_
    refine mv h rfl rfl fun h => ?_
    refine gk h rfl rfl (nb_t rfl) rfl fun _ h => ?_
    refine gk h rfl rfl (nb_t rfl) rfl fun _ h => ?_
    refine ga h (o_pickT rfl rfl rfl) rfl fun h => ?_
    refine mv h rfl rfl fun h => ?_
    refine gk h rfl rfl (nb_t rfl) rfl fun _ h => ?_
    refine gk h rfl rfl (nb_t rfl) rfl fun _ h => ?_
    refine ga h (o_pickT rfl rfl rfl) rfl fun h => ?_
    refine GoR.done ?_
    exact J1 true _ _ (som H).symm (h.wr [0, 1])
   ·have H := ifF c3 H
    refine gg h rfl rfl (nbF c3) (o_fa rfl t_f30_5 rfl rfl) rfl fun _ _ _ h => ?_
    have g4 := (in2 (fd_sub sSeg_Win 1 rfl h.mem))
    refine gg h rfl rfl (nbF c3) (o_lfx 1 rfl rfl sSeg_Win rfl X_int t_y3) rfl fun _ _ _ h => ?_
    refine gg h rfl rfl (nbF c3) (o_shr rfl rfl (show (0 : Int) ≤ 16 by decide)) rfl fun _ _ _ h => ?_
    refine gg h rfl rfl (nbF c3) (o_bin rfl rfl rfl) rfl fun _ _ _ h => ?_
    refine ga h (o_pickF rfl rfl c3) rfl fun h => ?_
    refine mv h rfl rfl fun h => ?_
    by_cases c4 : (!decide ((ishr .i64 a1.Win 16) = 0)) = true
    ·have H := ifT c4 H
     refine gk h rfl rfl (nb_t c4) rfl fun _ h => ?_
     refine gk h rfl rfl (nb_t c4) rfl fun _ h => ?_
     refine ga h (o_pickT rfl rfl c4) rfl fun h => ?_
     refine mv h rfl rfl fun h => ?_
     refine gk h rfl rfl (nb_t rfl) rfl fun _ h => ?_
     refine gk h rfl rfl (nb_t rfl) rfl fun _ h => ?_
     refine ga h (o_pickT rfl rfl rfl) rfl fun h => ?_
     refine GoR.done ?_
     exact J1 true _ _ (som H).symm (h.wr [0, 1])
    ·have H := ifF c4 H
     refine gg h rfl rfl (nbF c4) (o_move rfl) rfl fun _ _ _ h => ?_
     refine gg h rfl rfl (nbF c4) (o_bin rfl rfl rfl) rfl fun _ _ _ h => ?_
     refine ga h (o_pickF rfl rfl c4) rfl fun h => ?_
     refine mv h rfl rfl fun h => ?_
     by_cases c5 : decide (a4 < 1) = true
     ·have H := ifT c5 H
      refine gk h rfl rfl (nb_t c5) rfl fun _ h => ?_
      refine gk h rfl rfl (nb_t c5) rfl fun _ h => ?_
      refine ga h (o_pickT rfl rfl c5) rfl fun h => ?_
      refine GoR.done ?_
      exact J1 true _ _ (som H).symm (h.wr [0, 1])
     ·have H := ifF c5 H
      refine gg h rfl rfl (nbF c5) (o_move rfl) rfl fun _ _ _ h => ?_
      refine gg h rfl rfl (nbF c5) (o_bin rfl rfl rfl) rfl fun _ _ _ h => ?_
      refine ga h (o_pickF rfl rfl c5) rfl fun h => ?_
      refine GoR.done ?_
      exact J1 (decide (8 < a4)) _ _ (som H).symm (h.wr [0, 1])
def splice_Open.g (k_ : Nat) (a1 : TSeg) (a2 : Int) (a3 : Int) (a4 : Int) (a5 : Int) : Option (TConn × Bool) :=
  lt (decide ((bits .and .i64 a1.Flags 23) = 2)) fun y1 => ((if (!y1) = true then some (true) else (if (!decide ((ishr .i64 a1.Src 16) = 0)) = true then some (true) else (if (!decide ((ishr .i64 a1.Dst 16) = 0)) = true then some (true) else (if (!decide ((ishr .i64 a1.Win 16) = 0)) = true then some (true) else (if decide (a4 < 1) = true then some (true) else some (decide (8 < a4)))))))).bind (fun j1 => (if j1 = true then some (((⟨0, 0, 0, 0, 0, false, false, false, 0, 0, 0, 0, 0, 0, [], [], [], false, false, false, 0, 0, 0⟩ : TConn), false)) else (cmp_Or_int.g k_ ([a1.Mss, 536] : List Int)).bind fun r1 => lt (⟨a4, a2, a1.Src, a3, a1.Dst, true, false, false, a5, a5, a5, IntKind.u32.wrap (a1.Seq + 1), a1.Win, min (max r1 64) 1460, [], [], [], false, false, false, 0, 0, 0⟩ : TConn) fun y2 => some ((y2, true))))
theorem splice_Open.le (k_ : Nat) (a1 : TSeg) (a2 : Int) (a3 : Int) (a4 : Int) (a5 : Int) : Le (splice_Open.g k_ a1 a2 a3 a4 a5) (splice_Open.f a1 a2 a3 a4 a5) := by
 unfold splice_Open.g splice_Open.f
 repeat' (first | with_reducible refine le_loop fun _ => ?_ | with_reducible refine le_bind ?_ fun _ => ?_ | with_reducible refine le_ite ?_ ?_ | with_reducible refine le_lt fun _ => ?_ | with_reducible refine le_elim (fun _ => ?_) (fun _ => ?_) _ | with_reducible apply cmp_Or_int.le | with_reducible exact le_refl _)
/-! drawbridge/splice.ranges$1 -/
noncomputable def splice_ranges_1.f (a1 : Int) (a2 : Int) (a3 : Int) : Option (Bool) :=
  ((if decide (a2 ≤ a1) = true then lt (decide (a1 ≤ a3)) fun y1 => some (y1) else some (false))).bind (fun j1 => some (j1))
set_option maxRecDepth 100000 in
set_option maxHeartbeats 4000000 in
theorem splice_ranges_1.spc (a1 : Int) (ha1 : InR .i64 a1) (a2 : Int) (ha2 : InR .i64 a2) (a3 : Int) (ha3 : InR .i64 a3) (r : Bool) (H : splice_ranges_1.f a1 a2 a3 = some r) : Spc Try.prog 30 [.int .i64 a1, .int .i64 a2, .int .i64 a3] [] [] (fun (s : Unit) => .bool r) (fun s => []) := by
 unfold splice_ranges_1.f at H
 refine Spc.go Try.func30 rfl (by kernel_rfl) rfl rfl all_nil fun F a w h => ?_
 refine Go.seq ?_
 refine Go.reg ?_
 refine ga h (o_assign rfl) rfl fun h => ?_
 refine GoR.done ?_
 refine Go.seq ?_
 obtain ⟨o1, H, G1⟩ := bindE H
 refine g_cut (fun G => ∀ j1 (a : Act) (w : World), o1 = j1 → St Try.f30.ntmps F [(6, .bool j1)] [] a w → G a w) 1 ?_ fun J1 => ?_
 ·intro j1 a w ho_ h
  rw [ho_] at G1
  have H := G1
  rw [← som H]
  exact g_ret (vs := [.bool j1]) h Try.func30 ⟨rfl, trivial⟩ ⟨(), rfl, (h.mem.pick [] (by decide) rfl)⟩
 refine Go.reg ?_
 refine mv h rfl rfl fun h => ?_
 refine mv h rfl rfl fun h => ?_
 refine ga h (o_bin rfl rfl rfl) rfl fun h => ?_
 refine mv h rfl rfl fun h => ?_
 by_cases c1 : decide (a2 ≤ a1) = true
 ·have H := ifT c1 H
  refine gg h rfl rfl c1 (o_move rfl) rfl fun _ _ _ h => ?_
  refine gg h rfl rfl c1 (o_move rfl) rfl fun _ _ _ h => ?_
  refine gg h rfl rfl c1 (o_bin rfl rfl rfl) rfl fun _ _ _ h => ?_
  refine ga h (o_pickT rfl rfl c1) rfl fun h => ?_
  obtain ⟨y1, ey1, H⟩ := ltE H
  refine ga h (o_assign' rfl (congrArg Value.bool ey1)) rfl fun h => ?_
  refine GoR.done ?_
  exact J1 y1 _ _ (som H).symm (h.wr [])
 ·have H := ifF c1 H
  iterate 3 (refine gk h rfl rfl (nb_f c1) rfl fun _ h => ?_)
  refine ga h (o_pickF rfl rfl c1) rfl fun h => ?_
  refine ga h (o_assign rfl) rfl fun h => ?_
  refine GoR.done ?_
  exact J1 false _ _ (som H).symm (h.wr [])
def splice_ranges_1.g (k_ : Nat) (a1 : Int) (a2 : Int) (a3 : Int) : Option (Bool) :=
  ((if decide (a2 ≤ a1) = true then lt (decide (a1 ≤ a3)) fun y1 => some (y1) else some (false))).bind (fun j1 => some (j1))
theorem splice_ranges_1.le (k_ : Nat) (a1 : Int) (a2 : Int) (a3 : Int) : Le (splice_ranges_1.g k_ a1 a2 a3) (splice_ranges_1.f a1 a2 a3) := by
 unfold splice_ranges_1.g splice_ranges_1.f
 repeat' (first | with_reducible refine le_loop fun _ => ?_ | with_reducible refine le_bind ?_ fun _ => ?_ | with_reducible refine le_ite ?_ ?_ | with_reducible refine le_lt fun _ => ?_ | with_reducible refine le_elim (fun _ => ?_) (fun _ => ?_) _ | with_reducible exact le_refl _)
/-! drawbridge/splice.ranges -/
noncomputable def splice_ranges.f (a1 : TConn) : Option (Bool) :=
  ((if decide ((a1.ToHost.length : Int) ≤ 4096) = true then (if decide ((a1.ToGuest.length : Int) ≤ 4096) = true then lt (decide ((a1.Early.length : Int) ≤ 4)) fun y1 => some (y1) else some (false)) else some (false))).bind (fun j1 => ((if decide ((ishr .i64 a1.Gport 16) = 0) = true then (if decide ((ishr .i64 a1.Rport 16) = 0) = true then lt (decide ((ishr .i64 a1.Win 16) = 0)) fun y2 => some (y2) else some (false)) else some (false))).bind (fun j2 => ((if j1 = true then (if j2 = true then (splice_ranges_1.f a1.Id 1 8).bind fun r1 => (if r1 = true then (splice_ranges_1.f a1.Mss 64 1460).bind fun r2 => (if r2 = true then (splice_ranges_1.f a1.At 0 1099511627776).bind fun r3 => (if r3 = true then (splice_ranges_1.f a1.Wait 0 32).bind fun r4 => (if r4 = true then (splice_ranges_1.f a1.Tries 0 6).bind fun r5 => some (r5) else some (false)) else some (false)) else some (false)) else some (false)) else some (false)) else some (false))).bind (fun j3 => some (j3))))
set_option maxRecDepth 100000 in
set_option maxHeartbeats 4000000 in
theorem splice_ranges.spc (v1 : Value) (a1 : TConn) (r : Bool) (H : splice_ranges.f a1 = some r) : Spc Try.prog 19 [v1] [Val KConn v1 a1] [] (fun (s : Unit) => .bool r) (fun s => []) := by
 unfold splice_ranges.f at H
 refine Spc.go Try.func19 rfl (by kernel_rfl) rfl rfl (all_cons (Val.per PConn) all_nil) fun F a w h => ?_
 refine Go.seq ?_
 refine Go.reg ?_
 refine gs h (o_box (K := KConn) rfl (pv_at PConn 0 rfl)) rfl fun b1 _ _ h => ?_
 refine ga h (o_assign rfl) rfl fun h => ?_
 refine GoR.done ?_
 refine Go.seq ?_
 refine Go.reg ?_
 refine ga h (o_assign rfl) rfl fun h => ?_
 refine GoR.done ?_
 refine Go.seq ?_
 obtain ⟨o1, H, G1⟩ := bindE H
 refine g_cut (fun G => ∀ j1 (a : Act) (w : World), o1 = j1 → St Try.f19.ntmps F [(1, pt b1), (3, .func (.func 30) #[] #[]), (4, .bool j1)] [Fld KConn b1 0 a1] a w → G a w) 1 ?_ fun J1 => ?_
 ·intro j1 a w ho_ h
  rw [ho_] at G1
  have H := G1
  refine Go.seq ?_
  obtain ⟨o2, H, G2⟩ := bindE H
  refine g_cut (fun G => ∀ j2 (a : Act) (w : World), o2 = j2 → St Try.f19.ntmps F [(1, pt b1), (3, .func (.func 30) #[] #[]), (4, .bool j1), (5, .bool j2)] [Fld KConn b1 0 a1] a w → G a w) 1 ?_ fun J2 => ?_
  ·intro j2 a w ho_ h
   rw [ho_] at G2
   have H := G2
   refine Go.seq ?_
   obtain ⟨o3, H, G3⟩ := bindE H
   refine g_cut (fun G => ∀ j3 (a : Act) (w : World), o3 = j3 → St Try.f19.ntmps F [(2, .bool j3)] [Fld KConn b1 0 a1] a w → G a w) 1 ?_ fun J3 => ?_
   ·intro j3 a w ho_ h
    rw [ho_] at G3
    have H := G3
    rw [← som H]
    exact g_ret (vs := [.bool j3]) h Try.func19 ⟨rfl, trivial⟩ ⟨(), rfl, (h.mem.pick [] (by decide) rfl)⟩
   refine Go.reg ?_
   refine mv h rfl rfl fun h => ?_
   refine mv h rfl rfl fun h => ?_
   by_cases c5 : j1 = true
   ·have H := ifT c5 H
    refine gg h rfl rfl c5 (o_move rfl) rfl fun _ _ _ h => ?_
    refine ga h (o_pickT rfl rfl c5) rfl fun h => ?_
    refine mv h rfl rfl fun h => ?_
    by_cases c6 : j2 = true
    ·have H := ifT c6 H
     refine gg h rfl rfl c6 (o_move rfl) rfl fun _ _ _ h => ?_
     refine gg h rfl rfl c6 (o_fa rfl t_f26_0 rfl rfl) rfl fun _ _ _ h => ?_
     have g7 := (in2 (fd_sub sConn_Id 0 rfl h.mem))
     refine gg h rfl rfl c6 (o_lfx 0 rfl rfl sConn_Id rfl X_int t_y3) rfl fun _ _ _ h => ?_
     obtain ⟨r1, er1, H⟩ := bindE H
     refine gg h rfl rfl c6 (o_callv (vs := [.int .i64 a1.Id, .int .i64 1, .int .i64 8]) (caps := []) rfl rfl (splice_ranges_1.spc a1.Id g7 1 (show InR .i64 1 by decide) 8 (show InR .i64 8 by decide) r1 er1) [] [] (by decide) rfl rfl) rfl fun _ _ _ h => ?_
     refine ga h (o_pickT rfl rfl c6) rfl fun h => ?_
     refine mv h rfl rfl fun h => ?_
     by_cases c7 : r1 = true
     ·have H := ifT c7 H
      refine gg h rfl rfl c7 (o_move rfl) rfl fun _ _ _ h => ?_
      refine gg h rfl rfl c7 (o_fa rfl t_f26_13 rfl rfl) rfl fun _ _ _ h => ?_
      have g8 := (in2 (fd_sub sConn_Mss 0 rfl h.mem))
      refine gg h rfl rfl c7 (o_lfx 0 rfl rfl sConn_Mss rfl X_int t_y3) rfl fun _ _ _ h => ?_
      obtain ⟨r2, er2, H⟩ := bindE H
      refine gg h rfl rfl c7 (o_callv (vs := [.int .i64 a1.Mss, .int .i64 64, .int .i64 1460]) (caps := []) rfl rfl (splice_ranges_1.spc a1.Mss g8 64 (show InR .i64 64 by decide) 1460 (show InR .i64 1460 by decide) r2 er2) [] [] (by decide) rfl rfl) rfl fun _ _ _ h => ?_
      refine ga h (o_pickT rfl rfl c7) rfl fun h => ?_
      refine mv h rfl rfl fun h => ?_
      by_cases c8 : r2 = true
      ·have H := ifT c8 H
       refine gg h rfl rfl c8 (o_move rfl) rfl fun _ _ _ h => ?_
       refine gg h rfl rfl c8 (o_fa rfl t_f26_20 rfl rfl) rfl fun _ _ _ h => ?_
       have g9 := (in2 (fd_sub sConn_At 0 rfl h.mem))
       refine gg h rfl rfl c8 (o_lfx 0 rfl rfl sConn_At rfl X_int t_y3) rfl fun _ _ _ h => ?_
       obtain ⟨r3, er3, H⟩ := bindE H
       refine gg h rfl rfl c8 (o_callv (vs := [.int .i64 a1.At, .int .i64 0, .int .i64 1099511627776]) (caps := []) rfl rfl (splice_ranges_1.spc a1.At g9 0 (show InR .i64 0 by decide) 1099511627776 (show InR .i64 1099511627776 by decide) r3 er3) [] [] (by decide) rfl rfl) rfl fun _ _ _ h => ?_
       refine ga h (o_pickT rfl rfl c8) rfl fun h => ?_
       refine mv h rfl rfl fun h => ?_
       by_cases c9 : r3 = true
       ·have H := ifT c9 H
        refine gg h rfl rfl c9 (o_move rfl) rfl fun _ _ _ h => ?_
        refine gg h rfl rfl c9 (o_fa rfl t_f26_21 rfl rfl) rfl fun _ _ _ h => ?_
        have g10 := (in2 (fd_sub sConn_Wait 0 rfl h.mem))
        refine gg h rfl rfl c9 (o_lfx 0 rfl rfl sConn_Wait rfl X_int t_y3) rfl fun _ _ _ h => ?_
        obtain ⟨r4, er4, H⟩ := bindE H
        refine gg h rfl rfl c9 (o_callv (vs := [.int .i64 a1.Wait, .int .i64 0, .int .i64 32]) (caps := []) rfl rfl (splice_ranges_1.spc a1.Wait g10 0 (show InR .i64 0 by decide) 32 (show InR .i64 32 by decide) r4 er4) [] [] (by decide) rfl rfl) rfl fun _ _ _ h => ?_
        refine ga h (o_pickT rfl rfl c9) rfl fun h => ?_
        refine mv h rfl rfl fun h => ?_
        by_cases c10 : r4 = true
        ·have H := ifT c10 H
         refine gg h rfl rfl c10 (o_move rfl) rfl fun _ _ _ h => ?_
         refine gg h rfl rfl c10 (o_fa rfl t_f26_22 rfl rfl) rfl fun _ _ _ h => ?_
         have g11 := (in2 (fd_sub sConn_Tries 0 rfl h.mem))
         refine gg h rfl rfl c10 (o_lfx 0 rfl rfl sConn_Tries rfl X_int t_y3) rfl fun _ _ _ h => ?_
         obtain ⟨r5, er5, H⟩ := bindE H
         refine gg h rfl rfl c10 (o_callv (vs := [.int .i64 a1.Tries, .int .i64 0, .int .i64 6]) (caps := []) rfl rfl (splice_ranges_1.spc a1.Tries g11 0 (show InR .i64 0 by decide) 6 (show InR .i64 6 by decide) r5 er5) [] [] (by decide) rfl rfl) rfl fun _ _ _ h => ?_
         refine ga h (o_pickT rfl rfl c10) rfl fun h => ?_
         refine ga h (o_assign rfl) rfl fun h => ?_
         refine GoR.done ?_
         exact J3 r5 _ _ (som H).symm (h.wr [0])
        ·have H := ifF c10 H
         iterate 4 (refine gk h rfl rfl (nb_f c10) rfl fun _ h => ?_)
         refine ga h (o_pickF rfl rfl c10) rfl fun h => ?_
         refine ga h (o_assign rfl) rfl fun h => ?_
         refine GoR.done ?_
         exact J3 false _ _ (som H).symm (h.wr [0])
       ·have H := ifF c9 H
        iterate 4 (refine gk h rfl rfl (nb_f c9) rfl fun _ h => ?_)
        refine ga h (o_pickF rfl rfl c9) rfl fun h => ?_
        refine mv h rfl rfl fun h => ?_
        iterate 4 (refine gk h rfl rfl (nb_f Bool.false_ne_true) rfl fun _ h => ?_)
        refine ga h (o_pickF rfl rfl Bool.false_ne_true) rfl fun h => ?_
        refine ga h (o_assign rfl) rfl fun h => ?_
        refine GoR.done ?_
        exact J3 false _ _ (som H).symm (h.wr [0])
      ·have H := ifF c8 H
       iterate 4 (refine gk h rfl rfl (nb_f c8) rfl fun _ h => ?_)
       refine ga h (o_pickF rfl rfl c8) rfl fun h => ?_
       refine mv h rfl rfl fun h => ?_
       iterate 4 (refine gk h rfl rfl (nb_f Bool.false_ne_true) rfl fun _ h => ?_)
       refine ga h (o_pickF rfl rfl Bool.false_ne_true) rfl fun h => ?_
       refine mv h rfl rfl fun h => ?_
       iterate 4 (refine gk h rfl rfl (nb_f Bool.false_ne_true) rfl fun _ h => ?_)
       refine ga h (o_pickF rfl rfl Bool.false_ne_true) rfl fun h => ?_
       refine ga h (o_assign rfl) rfl fun h => ?_
       refine GoR.done ?_
       exact J3 false _ _ (som H).symm (h.wr [0])
     ·have H := ifF c7 H
      iterate 4 (refine gk h rfl rfl (nb_f c7) rfl fun _ h => ?_)
      refine ga h (o_pickF rfl rfl c7) rfl fun h => ?_
      refine mv h rfl rfl fun h => ?_
      iterate 4 (refine gk h rfl rfl (nb_f Bool.false_ne_true) rfl fun _ h => ?_)
      refine ga h (o_pickF rfl rfl Bool.false_ne_true) rfl fun h => ?_
      refine mv h rfl rfl fun h => ?_
      iterate 4 (refine gk h rfl rfl (nb_f Bool.false_ne_true) rfl fun _ h => ?_)
      refine ga h (o_pickF rfl rfl Bool.false_ne_true) rfl fun h => ?_
      refine mv h rfl rfl fun h => ?_
      iterate 4 (refine gk h rfl rfl (nb_f Bool.false_ne_true) rfl fun _ h => ?_)
      refine ga h (o_pickF rfl rfl Bool.false_ne_true) rfl fun h => ?_
      refine ga h (o_assign rfl) rfl fun h => ?_
      refine GoR.done ?_
      exact J3 false _ _ (som H).symm (h.wr [0])
    ·have H := ifF c6 H
     iterate 4 (refine gk h rfl rfl (nb_f c6) rfl fun _ h => ?_)
     refine ga h (o_pickF rfl rfl c6) rfl fun h => ?_
     refine mv h rfl rfl fun h => ?_
     iterate 4 (refine gk h rfl rfl (nb_f Bool.false_ne_true) rfl fun _ h => ?_)
     refine ga h (o_pickF rfl rfl Bool.false_ne_true) rfl fun h => ?_
     refine mv h rfl rfl fun h => ?_
     iterate 4 (refine gk h rfl rfl (nb_f Bool.false_ne_true) rfl fun _ h => ?_)
     refine ga h (o_pickF rfl rfl Bool.false_ne_true) rfl fun h => ?_
     refine mv h rfl rfl fun h => ?_
     iterate 4 (refine gk h rfl rfl (nb_f Bool.false_ne_true) rfl fun _ h => ?_)
     refine ga h (o_pickF rfl rfl Bool.false_ne_true) rfl fun h => ?_
     refine mv h rfl rfl fun h => ?_
     iterate 4 (refine gk h rfl rfl (nb_f Bool.false_ne_true) rfl fun _ h => ?_)
     refine ga h (o_pickF rfl rfl Bool.false_ne_true) rfl fun h => ?_
     refine ga h (o_assign rfl) rfl fun h => ?_
     refine GoR.done ?_
     exact J3 false _ _ (som H).symm (h.wr [0])
   ·have H := ifF c5 H
    refine gk h rfl rfl (nb_f c5) rfl fun _ h => ?_
    refine ga h (o_pickF rfl rfl c5) rfl fun h => ?_
    refine mv h rfl rfl fun h => ?_
    iterate 4 (refine gk h rfl rfl (nb_f Bool.false_ne_true) rfl fun _ h => ?_)
    refine ga h (o_pickF rfl rfl Bool.false_ne_true) rfl fun h => ?_
    refine mv h rfl rfl fun h => ?_
    iterate 4 (refine gk h rfl rfl (nb_f Bool.false_ne_true) rfl fun _ h => ?_)
    refine ga h (o_pickF rfl rfl Bool.false_ne_true) rfl fun h => ?_
    refine mv h rfl rfl fun h => ?_
    iterate 4 (refine gk h rfl rfl (nb_f Bool.false_ne_true) rfl fun _ h => ?_)
    refine ga h (o_pickF rfl rfl Bool.false_ne_true) rfl fun h => ?_
    refine mv h rfl rfl fun h => ?_
    iterate 4 (refine gk h rfl rfl (nb_f Bool.false_ne_true) rfl fun _ h => ?_)
    refine ga h (o_pickF rfl rfl Bool.false_ne_true) rfl fun h => ?_
    refine mv h rfl rfl fun h => ?_
    iterate 4 (refine gk h rfl rfl (nb_f Bool.false_ne_true) rfl fun _ h => ?_)
    refine ga h (o_pickF rfl rfl Bool.false_ne_true) rfl fun h => ?_
    refine ga h (o_assign rfl) rfl fun h => ?_
    refine GoR.done ?_
    exact J3 false _ _ (som H).symm (h.wr [0])
  refine Go.reg ?_
  refine ga h (o_fa rfl t_f26_2 rfl rfl) rfl fun h => ?_
  have g4 := (in2 (fd_sub sConn_Gport 0 rfl h.mem))
  refine ga h (o_lfx 0 rfl rfl sConn_Gport rfl X_int t_y3) rfl fun h => ?_
  refine ga h (o_shr rfl rfl (show (0 : Int) ≤ 16 by decide)) rfl fun h => ?_
  refine ga h (o_bin rfl rfl rfl) rfl fun h => ?_
  refine mv h rfl rfl fun h => ?_
  by_cases c3 : decide ((ishr .i64 a1.Gport 16) = 0) = true
  ·have H := ifT c3 H
   refine gg h rfl rfl c3 (o_fa rfl t_f26_4 rfl rfl) rfl fun _ _ _ h => ?_
   have g5 := (in2 (fd_sub sConn_Rport 0 rfl h.mem))
   refine gg h rfl rfl c3 (o_lfx 0 rfl rfl sConn_Rport rfl X_int t_y3) rfl fun _ _ _ h => ?_
   refine gg h rfl rfl c3 (o_shr rfl rfl (show (0 : Int) ≤ 16 by decide)) rfl fun _ _ _ h => ?_
   refine gg h rfl rfl c3 (o_bin rfl rfl rfl) rfl fun _ _ _ h => ?_
   refine ga h (o_pickT rfl rfl c3) rfl fun h => ?_
   refine mv h rfl rfl fun h => ?_
   by_cases c4 : decide ((ishr .i64 a1.Rport 16) = 0) = true
   ·have H := ifT c4 H
    refine gg h rfl rfl c4 (o_fa rfl t_f26_12 rfl rfl) rfl fun _ _ _ h => ?_
    have g6 := (in2 (fd_sub sConn_Win 0 rfl h.mem))
    refine gg h rfl rfl c4 (o_lfx 0 rfl rfl sConn_Win rfl X_int t_y3) rfl fun _ _ _ h => ?_
    refine gg h rfl rfl c4 (o_shr rfl rfl (show (0 : Int) ≤ 16 by decide)) rfl fun _ _ _ h => ?_
    refine gg h rfl rfl c4 (o_bin rfl rfl rfl) rfl fun _ _ _ h => ?_
    refine ga h (o_pickT rfl rfl c4) rfl fun h => ?_
    obtain ⟨y2, ey2, H⟩ := ltE H
    refine ga h (o_assign' rfl (congrArg Value.bool ey2)) rfl fun h => ?_
    refine GoR.done ?_
    exact J2 y2 _ _ (som H).symm (h.wr [0])
   ·have H := ifF c4 H
    iterate 4 (refine gk h rfl rfl (nb_f c4) rfl fun _ h => ?_)
    refine ga h (o_pickF rfl rfl c4) rfl fun h => ?_
    refine ga h (o_assign rfl) rfl fun h => ?_
    refine GoR.done ?_
    exact J2 false _ _ (som H).symm (h.wr [0])
  ·have H := ifF c3 H
   iterate 4 (refine gk h rfl rfl (nb_f c3) rfl fun _ h => ?_)
   refine ga h (o_pickF rfl rfl c3) rfl fun h => ?_
   refine mv h rfl rfl fun h => ?_
   iterate 4 (refine gk h rfl rfl (nb_f Bool.false_ne_true) rfl fun _ h => ?_)
   refine ga h (o_pickF rfl rfl Bool.false_ne_true) rfl fun h => ?_
   refine ga h (o_assign rfl) rfl fun h => ?_
   refine GoR.done ?_
   exact J2 false _ _ (som H).symm (h.wr [0])
 refine Go.reg ?_
 refine ga h (o_fa rfl t_f26_14 rfl rfl) rfl fun h => ?_
 refine gs h (o_lfv 0 rfl rfl sConn_ToHost rfl Per_sl t_y23) rfl fun v2 _ _ h => ?_
 have g1 := (len_at 0 rfl h.mem)
 refine ga h (o_ln rfl (rd_at 0 rfl) t_v23) rfl fun h => ?_
 refine ga h (o_bin rfl rfl rfl) rfl fun h => ?_
 refine mv h rfl rfl fun h => ?_
 by_cases c1 : decide ((a1.ToHost.length : Int) ≤ 4096) = true
 ·have H := ifT c1 H
  refine gg h rfl rfl c1 (o_fa rfl t_f26_15 rfl rfl) rfl fun _ _ _ h => ?_
  refine gg h rfl rfl c1 (o_lfv 1 rfl rfl sConn_ToGuest rfl Per_sl t_y23) rfl fun v3 _ _ h => ?_
  have g2 := (len_at 0 rfl h.mem)
  refine gg h rfl rfl c1 (o_ln rfl (rd_at 0 rfl) t_v23) rfl fun _ _ _ h => ?_
  refine gg h rfl rfl c1 (o_bin rfl rfl rfl) rfl fun _ _ _ h => ?_
  refine ga h (o_pickT rfl rfl c1) rfl fun h => ?_
  refine mv h rfl rfl fun h => ?_
  by_cases c2 : decide ((a1.ToGuest.length : Int) ≤ 4096) = true
  ·have H := ifT c2 H
   refine gg h rfl rfl c2 (o_fa rfl t_f26_16 rfl rfl) rfl fun _ _ _ h => ?_
   refine gg h rfl rfl c2 (o_lfv 2 rfl rfl sConn_Early rfl Per_sl t_y24) rfl fun v4 _ _ h => ?_
   have g3 := (len_at 0 rfl h.mem)
   refine gg h rfl rfl c2 (o_ln rfl (rd_at 0 rfl) t_v24) rfl fun _ _ _ h => ?_
   refine gg h rfl rfl c2 (o_bin rfl rfl rfl) rfl fun _ _ _ h => ?_
   refine ga h (o_pickT rfl rfl c2) rfl fun h => ?_
   obtain ⟨y1, ey1, H⟩ := ltE H
   refine ga h (o_assign' rfl (congrArg Value.bool ey1)) rfl fun h => ?_
   refine GoR.done ?_
   exact J1 y1 _ _ (som H).symm (h.wr [3])
  ·have H := ifF c2 H
   iterate 4 (refine gk h rfl rfl (nb_f c2) rfl fun _ h => ?_)
   refine ga h (o_pickF rfl rfl c2) rfl fun h => ?_
   refine ga h (o_assign rfl) rfl fun h => ?_
   refine GoR.done ?_
   exact J1 false _ _ (som H).symm (h.wr [2])
 ·have H := ifF c1 H
  iterate 4 (refine gk h rfl rfl (nb_f c1) rfl fun _ h => ?_)
  refine ga h (o_pickF rfl rfl c1) rfl fun h => ?_
  refine mv h rfl rfl fun h => ?_
  iterate 4 (refine gk h rfl rfl (nb_f Bool.false_ne_true) rfl fun _ h => ?_)
  refine ga h (o_pickF rfl rfl Bool.false_ne_true) rfl fun h => ?_
  refine ga h (o_assign rfl) rfl fun h => ?_
  refine GoR.done ?_
  exact J1 false _ _ (som H).symm (h.wr [1])
def splice_ranges.g (k_ : Nat) (a1 : TConn) : Option (Bool) :=
  ((if decide ((a1.ToHost.length : Int) ≤ 4096) = true then (if decide ((a1.ToGuest.length : Int) ≤ 4096) = true then lt (decide ((a1.Early.length : Int) ≤ 4)) fun y1 => some (y1) else some (false)) else some (false))).bind (fun j1 => ((if decide ((ishr .i64 a1.Gport 16) = 0) = true then (if decide ((ishr .i64 a1.Rport 16) = 0) = true then lt (decide ((ishr .i64 a1.Win 16) = 0)) fun y2 => some (y2) else some (false)) else some (false))).bind (fun j2 => ((if j1 = true then (if j2 = true then (splice_ranges_1.g k_ a1.Id 1 8).bind fun r1 => (if r1 = true then (splice_ranges_1.g k_ a1.Mss 64 1460).bind fun r2 => (if r2 = true then (splice_ranges_1.g k_ a1.At 0 1099511627776).bind fun r3 => (if r3 = true then (splice_ranges_1.g k_ a1.Wait 0 32).bind fun r4 => (if r4 = true then (splice_ranges_1.g k_ a1.Tries 0 6).bind fun r5 => some (r5) else some (false)) else some (false)) else some (false)) else some (false)) else some (false)) else some (false))).bind (fun j3 => some (j3))))
theorem splice_ranges.le (k_ : Nat) (a1 : TConn) : Le (splice_ranges.g k_ a1) (splice_ranges.f a1) := by
 unfold splice_ranges.g splice_ranges.f
 repeat' (first | with_reducible refine le_loop fun _ => ?_ | with_reducible refine le_bind ?_ fun _ => ?_ | with_reducible refine le_ite ?_ ?_ | with_reducible refine le_lt fun _ => ?_ | with_reducible refine le_elim (fun _ => ?_) (fun _ => ?_) _ | with_reducible apply splice_ranges_1.le | with_reducible exact le_refl _)
/-! drawbridge/splice.room -/
noncomputable def splice_room.f (a1 : TConn) : Option (Int) :=
  lt (max 0 (IntKind.i64.wrap (4096 - (a1.ToHost.length : Int)))) fun y1 => some (y1)
set_option maxRecDepth 100000 in
set_option maxHeartbeats 4000000 in
theorem splice_room.spc (v1 : Value) (a1 : TConn) (r : Int) (H : splice_room.f a1 = some r) : Spc Try.prog 21 [v1] [Val KConn v1 a1] [] (fun (s : Unit) => .int .i64 r) (fun s => [Ent.pur (InR .i64 r)]) := by
 unfold splice_room.f at H
 refine Spc.go Try.func21 rfl (by kernel_rfl) rfl rfl (all_cons (Val.per PConn) all_nil) fun F a w h => ?_
 refine Go.seq ?_
 refine Go.reg ?_
 refine gs h (o_box (K := KConn) rfl (pv_at PConn 0 rfl)) rfl fun b1 _ _ h => ?_
 refine ga h (o_assign rfl) rfl fun h => ?_
 refine GoR.done ?_
 refine Go.seq ?_
 refine Go.reg ?_
 refine ga h (o_fa rfl t_f26_14 rfl rfl) rfl fun h => ?_
 refine gs h (o_lfv 0 rfl rfl sConn_ToHost rfl Per_sl t_y23) rfl fun v2 _ _ h => ?_
 have g1 := (len_at 0 rfl h.mem)
 refine ga h (o_ln rfl (rd_at 0 rfl) t_v23) rfl fun h => ?_
 refine ga h (o_bin rfl rfl rfl) rfl fun h => ?_
 refine ga h (o_max rfl rfl) rfl fun h => ?_
 obtain ⟨y1, ey1, H⟩ := ltE H
 refine ga h (o_assign' rfl (congrArg (fun z => Value.int .i64 z) ey1)) rfl fun h => ?_
 refine GoR.done ?_
 rw [← som H]
 exact g_ret (vs := [.int .i64 y1]) h Try.func21 ⟨rfl, trivial⟩ ⟨(), rfl, ((h.mem.pick [] (by decide) rfl).addpur (ey1 ▸ (inr_max (show InR .i64 0 by decide) (wrap_in _ _))))⟩
def splice_room.g (k_ : Nat) (a1 : TConn) : Option (Int) :=
  lt (max 0 (IntKind.i64.wrap (4096 - (a1.ToHost.length : Int)))) fun y1 => some (y1)
theorem splice_room.le (k_ : Nat) (a1 : TConn) : Le (splice_room.g k_ a1) (splice_room.f a1) := by
 unfold splice_room.g splice_room.f
 repeat' (first | with_reducible refine le_loop fun _ => ?_ | with_reducible refine le_bind ?_ fun _ => ?_ | with_reducible refine le_ite ?_ ?_ | with_reducible refine le_lt fun _ => ?_ | with_reducible refine le_elim (fun _ => ?_) (fun _ => ?_) _ | with_reducible exact le_refl _)
/-! drawbridge/splice.Check$1 -/
noncomputable def splice_Check_1.f (a1 : TEarly) (a2 : TConn) : Option (Bool) :=
  lt (IntKind.u32.wrap (a1.Seq - a2.Want)) fun y1 => ((if decide ((a1.Data.length : Int) = 0) = true then some (true) else (if decide (y1 < 1) = true then some (true) else (splice_room.f a2).bind fun r1 => lt (decide ((IntKind.i64.wrap (r1 - (a1.Data.length : Int))) < y1)) fun y2 => some (y2)))).bind (fun j1 => some (j1))
set_option maxRecDepth 100000 in
set_option maxHeartbeats 4000000 in
theorem splice_Check_1.spc (v1 : Value) (a1 : TEarly) (b1 : Nat) (a2 : TConn) (r : Bool) (H : splice_Check_1.f a1 a2 = some r) : Spc Try.prog 20 [v1, pt b1] [Val KEarly v1 a1, Pfl KConn b1 0 a2] [] (fun (s : Unit) => .bool r) (fun s => []) := by
 unfold splice_Check_1.f at H
 refine Spc.go Try.func20 rfl (by kernel_rfl) rfl rfl (all_cons (Val.per PEarly) (all_cons Per_pfl all_nil)) fun F a w h => ?_
 refine Go.seq ?_
 refine Go.reg ?_
 refine gs h (o_box (K := KEarly) rfl (pv_at PEarly 0 rfl)) rfl fun b2 _ _ h => ?_
 refine ga h (o_assign rfl) rfl fun h => ?_
 refine GoR.done ?_
 refine Go.seq ?_
 refine Go.reg ?_
 refine ga h (o_fa rfl t_f58_0 rfl rfl) rfl fun h => ?_
 have g1 := (in2 (fd_sub sEarly_Seq 0 rfl h.mem))
 refine ga h (o_lfx 0 rfl rfl sEarly_Seq rfl X_int t_y22) rfl fun h => ?_
 refine ga h (o_fa rfl t_f26_11 rfl rfl) rfl fun h => ?_
 have g2 := (in2 (pf_sub sConn_Want 2 rfl h.mem))
 refine ga h (p_lfx 2 rfl rfl sConn_Want rfl X_int t_y22) rfl fun h => ?_
 refine ga h (o_bin rfl rfl rfl) rfl fun h => ?_
 refine ga h (o_convw rfl t_q22 t_u3 (wrap_in _ _) rfl) rfl fun h => ?_
 obtain ⟨y1, ey1, H⟩ := ltE H
 refine ga h (o_assign' rfl (congrArg (fun z => Value.int .i64 z) ey1)) rfl fun h => ?_
 refine GoR.done ?_
 refine Go.seq ?_
 replace h := h.wq [(1, pt b1), (2, pt b2), (3, .bool false), (4, .int .i64 y1)] [Fld KEarly b2 0 a1, Val KEarly v1 a1, Pfl KConn b1 0 a2] [0, 1, 2]
 obtain ⟨o1, H, G1⟩ := bindE H
 refine g_cut (fun G => ∀ j1 (a : Act) (w : World), o1 = j1 → St Try.f20.ntmps F [(3, .bool j1)] [Fld KEarly b2 0 a1, Pfl KConn b1 0 a2] a w → G a w) 1 ?_ fun J1 => ?_
 ·intro j1 a w ho_ h
  rw [ho_] at G1
  have H := G1
  rw [← som H]
  exact g_ret (vs := [.bool j1]) h Try.func20 ⟨rfl, trivial⟩ ⟨(), rfl, (h.mem.pick [] (by decide) rfl)⟩
 by_cases c1 : decide ((a1.Data.length : Int) = 0) = true
 ·have H := ifT c1 H
  refine Go.draw (E := [(1, pt b1), (2, pt b2), (3, .bool false), (4, .int .i64 y1)]) [] (L := [Fld KEarly b2 0 a1, Val KEarly v1 a1, Pfl KConn b1 0 a2]) h rfl rfl 16 [cn (.pointer (some ⟨b2, 1, none⟩)), cw [0] [] [] fun u => [Val (Kd.sl (Kd.int .u8)) u a1.Data], cm [0, 1] [1] [] (.int .i64 (a1.Data.length : Int)) fun u => [], ce [0, 1, 2] (.bool (decide ((a1.Data.length : Int) = 0))), ce [0, 1, 2, 3] (.bool (decide ((a1.Data.length : Int) = 0))), ⟨[4], [], [], true, .con undef, none, fun u => [], []⟩, ⟨[4], [], [], true, .con undef, none, fun u => [], []⟩, ce [0, 1, 2, 3, 4, 5, 6] (.bool true), ce [0, 1, 2, 3, 4, 5, 6, 7] (.bool true), ⟨[8], [], [], true, .con undef, none, fun u => [], []⟩, ⟨[8], [], [], true, .con undef, none, fun u => [], []⟩, ⟨[8], [], [], true, .con undef, none, fun u => [], []⟩, ⟨[8], [], [], true, .con undef, none, fun u => [], []⟩, ⟨[8], [], [], true, .con undef, none, fun u => [], []⟩, ⟨[8], [], [], true, .con undef, none, fun u => [], []⟩, ⟨[8], [], [], true, .con undef, none, fun u => [], []⟩] rfl t_mxo (by kernel_rfl) (by rfl) ?_ fun f1 _ _ h => ?_
  ·exact ox rfl (o_fa rfl t_f58_1 rfl rfl) (oy rfl (o_lfv 0 rfl rfl sEarly_Data rfl Per_sl t_y23) (ox rfl (o_ln rfl (rd_at 0 rfl) t_v23) (ox rfl (o_bin rfl rfl rfl) (ox rfl (o_move rfl) (oj rfl rfl (fun _ => rfl) (nb_t c1) (oj rfl rfl (fun _ => rfl) (nb_t c1) (ox rfl (o_pickT rfl rfl c1) (ox rfl (o_move rfl) (oj rfl rfl (fun _ => rfl) (nb_t rfl) (oj rfl rfl (fun _ => rfl) (nb_t rfl) (oj rfl rfl (fun _ => rfl) (nb_t rfl) (oj rfl rfl (fun _ => rfl) (nb_t rfl) (oj rfl rfl (fun _ => rfl) (nb_t rfl) (oj rfl rfl (fun _ => rfl) (nb_t rfl) (oj rfl rfl (fun _ => rfl) (nb_t rfl) (obs_nil))))))))))))))))
  replace h := h.wk (E' := [(3, .bool false), (19, .bool true)]) (L' := [Val (Kd.sl (Kd.int .u8)) (f1 1) a1.Data, Fld KEarly b2 0 a1, Val KEarly v1 a1, Pfl KConn b1 0 a2]) (by kernel_rfl) [0, 1, 2, 3] (by decide) (by kernel_rfl)
  refine gk h rfl rfl (nb_t rfl) rfl fun _ h => ?_
  refine ga h (o_pickT rfl rfl rfl) rfl fun h => ?_
  refine ga h (o_assign rfl) rfl fun h => ?_
  refine GoR.done ?_
  exact J1 true _ _ (som H).symm (h.wr [1, 3])
 ·have H := ifF c1 H
  by_cases c2 : decide (y1 < 1) = true
  ·have H := ifT c2 H
   refine Go.draw (E := [(1, pt b1), (2, pt b2), (3, .bool false), (4, .int .i64 y1)]) [] (L := [Fld KEarly b2 0 a1, Val KEarly v1 a1, Pfl KConn b1 0 a2]) h rfl rfl 16 [cn (.pointer (some ⟨b2, 1, none⟩)), cw [0] [] [] fun u => [Val (Kd.sl (Kd.int .u8)) u a1.Data], cm [0, 1] [1] [] (.int .i64 (a1.Data.length : Int)) fun u => [], ce [0, 1, 2] (.bool (decide ((a1.Data.length : Int) = 0))), ce [0, 1, 2, 3] (.bool (decide ((a1.Data.length : Int) = 0))), ce [0, 1, 2, 3, 4] (.int .i64 y1), ce [0, 1, 2, 3, 4, 5] (.bool (decide (y1 < 1))), ce [0, 1, 2, 3, 4, 5, 6] (.bool (decide (y1 < 1))), ce [0, 1, 2, 3, 4, 5, 6, 7] (.bool (decide (y1 < 1))), ⟨[8], [], [], true, .con undef, none, fun u => [], []⟩, ⟨[8], [], [], true, .con undef, none, fun u => [], []⟩, ⟨[8], [], [], true, .con undef, none, fun u => [], []⟩, ⟨[8], [], [], true, .con undef, none, fun u => [], []⟩, ⟨[8], [], [], true, .con undef, none, fun u => [], []⟩, ⟨[8], [], [], true, .con undef, none, fun u => [], []⟩, ⟨[8], [], [], true, .con undef, none, fun u => [], []⟩] rfl t_mxo (by kernel_rfl) (by rfl) ?_ fun f1 _ _ h => ?_
   ·exact ox rfl (o_fa rfl t_f58_1 rfl rfl) (oy rfl (o_lfv 0 rfl rfl sEarly_Data rfl Per_sl t_y23) (ox rfl (o_ln rfl (rd_at 0 rfl) t_v23) (ox rfl (o_bin rfl rfl rfl) (ox rfl (o_move rfl) (og rfl rfl (fun _ => rfl) (nbF c1) (o_move rfl) (og rfl rfl (fun _ => rfl) (nbF c1) (o_bin rfl rfl rfl) (ox rfl (o_pickF rfl rfl c1) (ox rfl (o_move rfl) (oj rfl rfl (fun _ => rfl) (nb_t c2) (oj rfl rfl (fun _ => rfl) (nb_t c2) (oj rfl rfl (fun _ => rfl) (nb_t c2) (oj rfl rfl (fun _ => rfl) (nb_t c2) (oj rfl rfl (fun _ => rfl) (nb_t c2) (oj rfl rfl (fun _ => rfl) (nb_t c2) (oj rfl rfl (fun _ => rfl) (nb_t c2) (obs_nil))))))))))))))))
   replace h := h.wk (E' := [(3, .bool false), (19, .bool (decide (y1 < 1)))]) (L' := [Val (Kd.sl (Kd.int .u8)) (f1 1) a1.Data, Fld KEarly b2 0 a1, Val KEarly v1 a1, Pfl KConn b1 0 a2]) (by kernel_rfl) [0, 1, 2, 3] (by decide) (by kernel_rfl)
   refine gk h rfl rfl (nb_t c2) rfl fun _ h => ?_
   refine ga h (o_pickT rfl rfl c2) rfl fun h => ?_
   refine ga h (o_assign rfl) rfl fun h => ?_
   refine GoR.done ?_
   exact J1 true _ _ (som H).symm (h.wr [1, 3])
  ·have H := ifF c2 H
   obtain ⟨r1, er1, H⟩ := bindE H
   refine Go.draw (E := [(1, pt b1), (2, pt b2), (3, .bool false), (4, .int .i64 y1)]) [] (L := [Fld KEarly b2 0 a1, Val KEarly v1 a1, Pfl KConn b1 0 a2]) h rfl rfl 16 [cn (.pointer (some ⟨b2, 1, none⟩)), cw [0] [] [] fun u => [Val (Kd.sl (Kd.int .u8)) u a1.Data], cm [0, 1] [1] [] (.int .i64 (a1.Data.length : Int)) fun u => [], ce [0, 1, 2] (.bool (decide ((a1.Data.length : Int) = 0))), ce [0, 1, 2, 3] (.bool (decide ((a1.Data.length : Int) = 0))), ce [0, 1, 2, 3, 4] (.int .i64 y1), ce [0, 1, 2, 3, 4, 5] (.bool (decide (y1 < 1))), ce [0, 1, 2, 3, 4, 5, 6] (.bool (decide (y1 < 1))), ce [0, 1, 2, 3, 4, 5, 6, 7] (.bool (decide (y1 < 1))), ce [0, 1, 2, 3, 4, 5, 6, 7, 8] (.int .i64 y1), cw [0, 1, 2, 3, 4, 5, 6, 7, 8] [] [] fun u => [Val KConn u a2], cm [0, 1, 2, 3, 4, 5, 6, 7, 8, 10] [10] [] (.int .i64 r1) fun u => [Ent.pur (InR .i64 r1)], ce [0, 1, 2, 3, 4, 5, 6, 7, 8] (.pointer (some ⟨b2, 1, none⟩)), cw [0, 1, 2, 3, 4, 5, 6, 7, 8, 12] [] [] fun u => [Val (Kd.sl (Kd.int .u8)) u a1.Data], cm [0, 1, 2, 3, 4, 5, 6, 7, 8, 12, 13] [13] [] (.int .i64 (a1.Data.length : Int)) fun u => [], ce [0, 1, 2, 3, 4, 5, 6, 7, 8, 10, 11, 12, 13, 14] (.int .i64 (IntKind.i64.wrap (r1 - (a1.Data.length : Int))))] rfl t_mxo (by kernel_rfl) (by rfl) ?_ fun f1 _ _ h => ?_
   ·exact ox rfl (o_fa rfl t_f58_1 rfl rfl) (oy rfl (o_lfv 0 rfl rfl sEarly_Data rfl Per_sl t_y23) (ox rfl (o_ln rfl (rd_at 0 rfl) t_v23) (ox rfl (o_bin rfl rfl rfl) (ox rfl (o_move rfl) (og rfl rfl (fun _ => rfl) (nbF c1) (o_move rfl) (og rfl rfl (fun _ => rfl) (nbF c1) (o_bin rfl rfl rfl) (ox rfl (o_pickF rfl rfl c1) (ox rfl (o_move rfl) (og rfl rfl (fun _ => rfl) (nbF c2) (o_move rfl) (obs_cons (ob_own rfl (gok_some rfl rfl rfl (fun _ => rfl) (nbF c2)) rfl fun f1 => (p_lfv 2 rfl rfl sub_self rfl t_y26)) (obs_cons (ob_con rfl (gok_some rfl rfl rfl (fun _ => rfl) (nbF c2)) rfl fun f1 => (o_call (splice_room.spc (f1 10) a2 r1 er1) rfl [0] [] (by decide) rfl rfl)) (og rfl rfl (fun _ => rfl) (nbF c2) (o_fa rfl t_f58_1 rfl rfl) (obs_cons (ob_own rfl (gok_some rfl rfl rfl (fun _ => rfl) (nbF c2)) rfl fun f1 => (o_lfv 0 rfl rfl sEarly_Data rfl Per_sl t_y23)) (og rfl rfl (fun _ => rfl) (nbF c2) (o_ln rfl (rd_at 0 rfl) t_v23) (og rfl rfl (fun _ => rfl) (nbF c2) (o_bin rfl rfl rfl) (obs_nil))))))))))))))))
   replace h := h.wk (E' := [(3, .bool false), (19, .bool (decide (y1 < 1))), (20, .int .i64 y1), (26, .int .i64 (IntKind.i64.wrap (r1 - (a1.Data.length : Int))))]) (L' := [Val (Kd.sl (Kd.int .u8)) (f1 1) a1.Data, Val KConn (f1 10) a2, Ent.pur (InR .i64 r1), Val (Kd.sl (Kd.int .u8)) (f1 13) a1.Data, Fld KEarly b2 0 a1, Val KEarly v1 a1, Pfl KConn b1 0 a2]) (by kernel_rfl) [0, 1, 2, 3, 4, 5, 6] (by decide) (by kernel_rfl)
   refine gg h rfl rfl (nbF c2) (o_bin rfl rfl rfl) rfl fun _ _ _ h => ?_
   refine ga h (o_pickF rfl rfl c2) rfl fun h => ?_
   obtain ⟨y2, ey2, H⟩ := ltE H
   refine ga h (o_assign' rfl (congrArg Value.bool ey2)) rfl fun h => ?_
   refine GoR.done ?_
   exact J1 y2 _ _ (som H).symm (h.wr [4, 6])
def splice_Check_1.g (k_ : Nat) (a1 : TEarly) (a2 : TConn) : Option (Bool) :=
  lt (IntKind.u32.wrap (a1.Seq - a2.Want)) fun y1 => ((if decide ((a1.Data.length : Int) = 0) = true then some (true) else (if decide (y1 < 1) = true then some (true) else (splice_room.g k_ a2).bind fun r1 => lt (decide ((IntKind.i64.wrap (r1 - (a1.Data.length : Int))) < y1)) fun y2 => some (y2)))).bind (fun j1 => some (j1))
theorem splice_Check_1.le (k_ : Nat) (a1 : TEarly) (a2 : TConn) : Le (splice_Check_1.g k_ a1 a2) (splice_Check_1.f a1 a2) := by
 unfold splice_Check_1.g splice_Check_1.f
 repeat' (first | with_reducible refine le_loop fun _ => ?_ | with_reducible refine le_bind ?_ fun _ => ?_ | with_reducible refine le_ite ?_ ?_ | with_reducible refine le_lt fun _ => ?_ | with_reducible refine le_elim (fun _ => ?_) (fun _ => ?_) _ | with_reducible apply splice_room.le | with_reducible exact le_refl _)
end Go.Proofs.Ytpcbhkigmnpimaa.S
