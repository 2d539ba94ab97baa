/- Contracts, printed by a program of this session. -/
import Derived.Test.YthjaancddmecpaaT1
import Derived.Test.YthjaancddmecpaaT3
import Derived.Test.YthjaancddmecpaaT4
namespace Go.Proofs.Ythjaancddmecpaa.S
open Go Go.SL Go.RowKit
set_option linter.unusedVariables false
set_option linter.unusedSimpArgs false
/-! slices.Clone[[]byte,byte] -/
noncomputable def slices_Clone_s_byte_byte.f (a1 : List Int) : Option ((List Int)) :=
  (app ([] : List Int) a1).bind fun x1 => some (x1)
set_option maxRecDepth 100000 in
set_option maxHeartbeats 4000000 in
theorem slices_Clone_s_byte_byte.spc (v1 : Value) (a1 : List Int) (r : (List Int)) (H : slices_Clone_s_byte_byte.f a1 = some r) : Spc Try.prog 36 [v1] [Val (Kd.sl (Kd.int .u8)) v1 a1] [] (fun (s : Value) => s) (fun s => [Val (Kd.osl (Kd.int .u8)) s r]) := by
 unfold slices_Clone_s_byte_byte.f at H
 refine Spc.go Try.func36 rfl (by kernel_rfl) rfl rfl (all_cons (Val.per Per_sl) all_nil) fun F a w h => ?_
 refine Go.seq ?_
 refine Go.reg ?_
 refine gs h (o_assign rfl) rfl fun _ _ _ h => ?_
 refine GoR.done ?_
 refine Go.seq ?_
 refine Go.seq ?_
 refine Go.reg ?_
 refine gs h (o_move rfl) rfl fun _ _ _ h => ?_
 refine gs h (o_eqn rfl rfl (rd_at 0 rfl) t_v23) rfl fun t1 _ _ h => ?_
 refine GoR.done ?_
 by_cases c1 : t1 = true
 ·have q_ := h.mem.pur 0 rfl c1
  have H : (some ([])) = some r := by rw [q_] at H; simpa [app] using H
  refine g_t h rfl c1 ?_
  refine Go.seq ?_
  refine Go.reg ?_
  refine gs h (o_assign rfl) rfl fun _ _ _ h => ?_
  refine GoR.done ?_
  replace h := h.mm fun m => m.nilo (Kd.int .u8)
  rw [← som H]
  exact g_ret (vs := [.slice none 0 0]) h Try.func36 ⟨rfl, trivial⟩ ⟨.slice none 0 0, rfl, (h.mem.pick [0] (by decide) rfl)⟩
 ·refine g_f h rfl c1 ?_
  refine Go.skip ?_
  refine Go.seq ?_
  refine Go.reg ?_
  refine gs h (o_bs (K := (Kd.int .u8)) (vs := []) (xs := ([] : List Int)) rfl rfl pvs_nil t_a23 (by decide) (by decide)) rfl fun v2 _ _ h => ?_
  refine gs h (o_move rfl) rfl fun _ _ _ h => ?_
  obtain ⟨x1, ex1, H⟩ := bindE H
  refine gs h (o_app (K := (Kd.int .u8)) 0 rfl rfl rfl (rd_at 2 rfl) ex1 t_a23 t_n23) rfl fun v3 _ _ h => ?_
  refine gs h (o_assign rfl) rfl fun _ _ _ h => ?_
  refine GoR.done ?_
  rw [← som H]
  exact g_ret (vs := [v3]) h Try.func36 ⟨rfl, trivial⟩ ⟨v3, rfl, (h.mem.pick [0] (by decide) rfl)⟩
def slices_Clone_s_byte_byte.g (k_ : Nat) (a1 : List Int) : Option ((List Int)) :=
  (app ([] : List Int) a1).bind fun x1 => some (x1)
theorem slices_Clone_s_byte_byte.le (k_ : Nat) (a1 : List Int) : Le (slices_Clone_s_byte_byte.g k_ a1) (slices_Clone_s_byte_byte.f a1) := by
 unfold slices_Clone_s_byte_byte.g slices_Clone_s_byte_byte.f
 repeat' (first | with_reducible refine le_loop fun _ => ?_ | with_reducible refine le_bind ?_ fun _ => ?_ | with_reducible refine le_ite ?_ ?_ | with_reducible refine le_lt fun _ => ?_ | with_reducible refine le_elim (fun _ => ?_) (fun _ => ?_) _ | with_reducible exact le_refl _)
/-! drawbridge/seg.Get -/
noncomputable def seg_Get.f (a1 : List Int) (a2 : Int) (a3 : Int) : Option (TSeg × Int) :=
  (if decide ((a1.length : Int) < 20) = true then some (((⟨0, 0, 0, 0, 0, 0, 0, []⟩ : TSeg), 160)) else (idx a1 12).bind fun x1 => lt (IntKind.i64.wrap ((ishr .u8 x1 4) * 4)) fun y1 => ((if decide (65535 < (a1.length : Int)) = true then some (true) else lt (decide (y1 < 20)) fun y2 => some (y2))).bind (fun j1 => (if j1 = true then some (((⟨0, 0, 0, 0, 0, 0, 0, []⟩ : TSeg), 161)) else lt (decide ((a1.length : Int) < y1)) fun y3 => (if y3 = true then some (((⟨0, 0, 0, 0, 0, 0, 0, []⟩ : TSeg), 160)) else (seg_covered.f a1 a2 a3).bind fun r1 => (sum_Right.f r1).bind fun r2 => (if (!r2) = true then some (((⟨0, 0, 0, 0, 0, 0, 0, []⟩ : TSeg), 162)) else (cut a1 20 y1).bind fun x2 => (seg_mss.f x2).bind fun r3 => (if (!r3.2) = true then some (((⟨0, 0, 0, 0, 0, 0, 0, []⟩ : TSeg), 161)) else (seg_Get_1.f 0 2 a1).bind fun r4 => (seg_Get_1.f 2 2 a1).bind fun r5 => (seg_Get_1.f 4 4 a1).bind fun r6 => (seg_Get_1.f 8 4 a1).bind fun r7 => (idx a1 13).bind fun x3 => (seg_Get_1.f 14 2 a1).bind fun r8 => (seg_head_seg.f (⟨IntKind.u16.wrap r4, IntKind.u16.wrap r5, IntKind.u32.wrap r6, IntKind.u32.wrap r7, bits .and .u8 x3 63, IntKind.u16.wrap r8⟩ : Thead)).bind fun r9 => (cut a1 y1 (a1.length : Int)).bind fun x4 => (slices_Clone_s_byte_byte.f x4).bind fun r10 => some (((⟨r9.Src, r9.Dst, r9.Seq, r9.Ack, r9.Flags, r9.Win, r3.1, r10⟩ : TSeg), 0))))))))
set_option maxRecDepth 100000 in
set_option maxHeartbeats 4000000 in
theorem seg_Get.spc (v1 : Value) (a1 : List Int) (a2 : Int) (ha2 : InR .u32 a2) (a3 : Int) (ha3 : InR .u32 a3) (r : TSeg × Int) (H : seg_Get.f a1 a2 a3 = some r) : Spc Try.prog 10 [v1, .int .u32 a2, .int .u32 a3] [Val (Kd.sl (Kd.int .u8)) v1 a1] [] (fun (s : Value) => .tuple #[s, .int .i64 r.2]) (fun s => [Ent.pur (InR .i64 r.2), Val KSeg s r.1]) := by
 unfold seg_Get.f at H
 refine Spc.go Try.func10 rfl (by kernel_rfl) rfl rfl (all_cons (Val.per Per_sl) all_nil) fun F a w h => ?_
 refine Go.seq ?_
 refine Go.reg ?_
 refine gs h (o_box (K := (Kd.sl (Kd.int .u8))) rfl (pv_at Per_sl 0 rfl)) rfl fun b1 _ _ h => ?_
 refine gs h (o_alloc (K := KSeg) (z := (.agg #[.int .i64 0, .int .i64 0, .int .u32 0, .int .u32 0, .int .i64 0, .int .i64 0, .int .i64 0, .slice none 0 0])) rfl ZSeg) rfl fun b2 _ _ h => ?_
 refine gs h (o_assign rfl) rfl fun _ _ _ h => ?_
 refine GoR.done ?_
 refine Go.seq ?_
 refine Go.seq ?_
 refine Go.reg ?_
 refine gs h (o_ldv 1 rfl rfl Per_sl t_y23) rfl fun v2 _ _ h => ?_
 have g1 := (len_at 0 rfl h.mem)
 refine gs h (o_ln rfl (rd_at 0 rfl) t_v23) rfl fun _ _ _ h => ?_
 refine gs h (o_bin rfl rfl rfl) rfl fun _ _ _ h => ?_
 refine GoR.done ?_
 by_cases c1 : decide ((a1.length : Int) < 20) = true
 ·have H := ifT c1 H
  refine g_t h rfl c1 ?_
  refine Go.seq ?_
  refine Go.reg ?_
  refine gs h (o_build (K := KSeg) (x := (⟨0, 0, 0, 0, 0, 0, 0, []⟩ : TSeg)) (ps := []) rfl (zs := zsSeg) rfl t_b25 rfl (show PB (Kd.pair (Kd.int .i64) (Kd.pair (Kd.int .i64) (Kd.pair (Kd.int .u32) (Kd.pair (Kd.int .u32) (Kd.pair (Kd.int .i64) (Kd.pair (Kd.int .i64) (Kd.pair (Kd.int .i64) (Kd.last (Kd.sl (Kd.int .u8)))))))))) (0, 0, 0, 0, 0, 0, 0, []) 0 zsSeg _ _ from (pb_zero z_int (pb_zero z_int (pb_zero z_int (pb_zero z_int (pb_zero z_int (pb_zero z_int (pb_zero z_int (pb_lastz z_sl)))))))))) rfl fun v3 _ _ h => ?_
  refine gs0 h (o_st 2 rfl rfl rfl (pv_at PSeg 0 rfl) rfl t_w25) fun _ _ _ h => ?_
  refine gs h (o_assign rfl) rfl fun _ _ _ h => ?_
  refine GoR.done ?_
  obtain ⟨v4, h, u1⟩ := h.peek 2 rfl PSeg t_y25
  rw [← som H]
  exact g_ret (vs := [v4, .int .i64 160]) h Try.func10 ⟨⟨_, rfl, u1⟩, ⟨rfl, trivial⟩⟩ ⟨v4, rfl, ((h.mem.pick [0] (by decide) rfl).addpur (show InR .i64 160 by decide))⟩
 ·have H := ifF c1 H
  refine g_f h rfl c1 ?_
  refine Go.skip ?_
  refine Go.seq ?_
  refine Go.reg ?_
  refine gs h (o_ldv 2 rfl rfl Per_sl t_y23) rfl fun v5 _ _ h => ?_
  obtain ⟨x1, ex1, H⟩ := bindE H
  refine gs h (o_ix rfl rfl (rd_at 0 rfl) ex1 t_v23) rfl fun _ _ _ h => ?_
  have g2 := (rd_inr (rd_at 0 rfl) ex1 h.mem)
  refine gs h (o_lex rfl (rd_at 0 rfl) ex1 X_int t_y5 (by decide)) rfl fun _ _ _ h => ?_
  refine gs h (o_shr rfl rfl (show (0 : Int) ≤ 4 by decide)) rfl fun _ _ _ h => ?_
  refine gs h (o_convw rfl t_q5 t_u3 (inr_shr g2) rfl) rfl fun _ _ _ h => ?_
  refine gs h (o_bin rfl rfl rfl) rfl fun _ _ _ h => ?_
  obtain ⟨y1, ey1, H⟩ := ltE H
  refine gs h (o_assign' rfl (congrArg (fun z => Value.int .i64 z) ey1)) rfl fun _ _ _ h => ?_
  refine GoR.done ?_
  refine Go.seq ?_
  refine Go.block ?_
  refine Go.seq ?_
  obtain ⟨o1, H, G1⟩ := bindE H
  refine g_cut (fun G => ∀ j1 (a : Act) (w : World), o1 = j1 → St Try.f10.ntmps F [(1, .int .u32 a2), (2, .int .u32 a3), (3, .pointer (some ⟨b1, 0, none⟩)), (6, .pointer (some ⟨b2, 0, none⟩)), (8, .int .i64 y1), (23, .bool j1)] [Fld KSeg b2 0 zSeg, Fld (Kd.sl (Kd.int .u8)) b1 0 a1] a w → G a w) 1 ?_ fun J1 => ?_
  ·intro j1 a w ho_ h
   rw [ho_] at G1
   have H := G1
   by_cases c3 : j1 = true
   ·have H := ifT c3 H
    refine g_t h rfl c3 ?_
    refine Go.seq ?_
    refine Go.reg ?_
    refine gs h (o_build (K := KSeg) (x := (⟨0, 0, 0, 0, 0, 0, 0, []⟩ : TSeg)) (ps := []) rfl (zs := zsSeg) rfl t_b25 rfl (show PB (Kd.pair (Kd.int .i64) (Kd.pair (Kd.int .i64) (Kd.pair (Kd.int .u32) (Kd.pair (Kd.int .u32) (Kd.pair (Kd.int .i64) (Kd.pair (Kd.int .i64) (Kd.pair (Kd.int .i64) (Kd.last (Kd.sl (Kd.int .u8)))))))))) (0, 0, 0, 0, 0, 0, 0, []) 0 zsSeg _ _ from (pb_zero z_int (pb_zero z_int (pb_zero z_int (pb_zero z_int (pb_zero z_int (pb_zero z_int (pb_zero z_int (pb_lastz z_sl)))))))))) rfl fun v7 _ _ h => ?_
    refine gs0 h (o_st 1 rfl rfl rfl (pv_at PSeg 0 rfl) rfl t_w25) fun _ _ _ h => ?_
    refine gs h (o_assign rfl) rfl fun _ _ _ h => ?_
    refine GoR.done ?_
    obtain ⟨v8, h, u2⟩ := h.peek 1 rfl PSeg t_y25
    rw [← som H]
    exact g_ret (vs := [v8, .int .i64 161]) h Try.func10 ⟨⟨_, rfl, u2⟩, ⟨rfl, trivial⟩⟩ ⟨v8, rfl, ((h.mem.pick [0] (by decide) rfl).addpur (show InR .i64 161 by decide))⟩
   ·have H := ifF c3 H
    refine g_f h rfl c3 ?_
    refine Go.seq ?_
    refine Go.reg ?_
    refine gs h (o_ldv 1 rfl rfl Per_sl t_y23) rfl fun v9 _ _ h => ?_
    have g4 := (len_at 0 rfl h.mem)
    refine gs h (o_ln rfl (rd_at 0 rfl) t_v23) rfl fun _ _ _ h => ?_
    refine gs h (o_move rfl) rfl fun _ _ _ h => ?_
    refine gs h (o_bin rfl rfl rfl) rfl fun _ _ _ h => ?_
    obtain ⟨y3, ey3, H⟩ := ltE H
    refine gs h (o_assign' rfl (congrArg Value.bool ey3)) rfl fun _ _ _ h => ?_
    refine GoR.done ?_
    by_cases c4 : y3 = true
    ·have H := ifT c4 H
     refine g_t h rfl c4 ?_
     refine Go.seq ?_
     refine Go.reg ?_
     refine gs h (o_build (K := KSeg) (x := (⟨0, 0, 0, 0, 0, 0, 0, []⟩ : TSeg)) (ps := []) rfl (zs := zsSeg) rfl t_b25 rfl (show PB (Kd.pair (Kd.int .i64) (Kd.pair (Kd.int .i64) (Kd.pair (Kd.int .u32) (Kd.pair (Kd.int .u32) (Kd.pair (Kd.int .i64) (Kd.pair (Kd.int .i64) (Kd.pair (Kd.int .i64) (Kd.last (Kd.sl (Kd.int .u8)))))))))) (0, 0, 0, 0, 0, 0, 0, []) 0 zsSeg _ _ from (pb_zero z_int (pb_zero z_int (pb_zero z_int (pb_zero z_int (pb_zero z_int (pb_zero z_int (pb_zero z_int (pb_lastz z_sl)))))))))) rfl fun v10 _ _ h => ?_
     refine gs0 h (o_st 2 rfl rfl rfl (pv_at PSeg 0 rfl) rfl t_w25) fun _ _ _ h => ?_
     refine gs h (o_assign rfl) rfl fun _ _ _ h => ?_
     refine GoR.done ?_
     obtain ⟨v11, h, u3⟩ := h.peek 2 rfl PSeg t_y25
     rw [← som H]
     exact g_ret (vs := [v11, .int .i64 160]) h Try.func10 ⟨⟨_, rfl, u3⟩, ⟨rfl, trivial⟩⟩ ⟨v11, rfl, ((h.mem.pick [0] (by decide) rfl).addpur (show InR .i64 160 by decide))⟩
    ·have H := ifF c4 H
     refine g_f h rfl c4 ?_
     refine Go.seq ?_
     refine Go.reg ?_
     refine gs h (o_ldv 2 rfl rfl Per_sl t_y23) rfl fun v12 _ _ h => ?_
     refine gs h (o_move rfl) rfl fun _ _ _ h => ?_
     refine gs h (o_move rfl) rfl fun _ _ _ h => ?_
     obtain ⟨r1, er1, H⟩ := bindE H
     refine gs h (o_call (seg_covered.spc v12 a1 a2 ha2 a3 ha3 r1 er1) rfl [0] [] (by decide) rfl rfl) rfl fun v13 _ _ h => ?_
     replace h := h.mm fun m => m.freeze 0 rfl
     obtain ⟨r2, er2, H⟩ := bindE H
     refine gs h (o_call (sum_Right.spc v13 r1 r2 er2) rfl [0] [] (by decide) rfl rfl) rfl fun _ _ _ h => ?_
     refine gs h (o_not rfl) rfl fun _ _ _ h => ?_
     refine gs h (o_assign rfl) rfl fun _ _ _ h => ?_
     refine GoR.done ?_
     by_cases c5 : (!r2) = true
     ·have H := ifT c5 H
      refine g_t h rfl c5 ?_
      refine Go.seq ?_
      refine Go.reg ?_
      refine gs h (o_build (K := KSeg) (x := (⟨0, 0, 0, 0, 0, 0, 0, []⟩ : TSeg)) (ps := []) rfl (zs := zsSeg) rfl t_b25 rfl (show PB (Kd.pair (Kd.int .i64) (Kd.pair (Kd.int .i64) (Kd.pair (Kd.int .u32) (Kd.pair (Kd.int .u32) (Kd.pair (Kd.int .i64) (Kd.pair (Kd.int .i64) (Kd.pair (Kd.int .i64) (Kd.last (Kd.sl (Kd.int .u8)))))))))) (0, 0, 0, 0, 0, 0, 0, []) 0 zsSeg _ _ from (pb_zero z_int (pb_zero z_int (pb_zero z_int (pb_zero z_int (pb_zero z_int (pb_zero z_int (pb_zero z_int (pb_lastz z_sl)))))))))) rfl fun v14 _ _ h => ?_
      refine gs0 h (o_st 4 rfl rfl rfl (pv_at PSeg 0 rfl) rfl t_w25) fun _ _ _ h => ?_
      refine gs h (o_assign rfl) rfl fun _ _ _ h => ?_
      refine GoR.done ?_
      obtain ⟨v15, h, u4⟩ := h.peek 4 rfl PSeg t_y25
      rw [← som H]
      exact g_ret (vs := [v15, .int .i64 162]) h Try.func10 ⟨⟨_, rfl, u4⟩, ⟨rfl, trivial⟩⟩ ⟨v15, rfl, ((h.mem.pick [0] (by decide) rfl).addpur (show InR .i64 162 by decide))⟩
     ·have H := ifF c5 H
      refine g_f h rfl c5 ?_
      refine Go.skip ?_
      refine Go.inBlock ?_
      refine Go.seq ?_
      refine Go.reg ?_
      refine gs h (o_ldv 4 rfl rfl Per_sl t_y23) rfl fun v16 _ _ h => ?_
      refine gs h (o_move rfl) rfl fun _ _ _ h => ?_
      obtain ⟨x2, ex2, H⟩ := bindE H
      refine gs h (o_cut rfl (pv_at Per_sl 0 rfl) rfl rfl ex2 t_v23) rfl fun v17 _ _ h => ?_
      obtain ⟨r3, er3, H⟩ := bindE H
      refine gs h (o_call (seg_mss.spc v17 x2 r3 er3) rfl [0] [] (by decide) rfl rfl) rfl fun _ _ _ h => ?_
      have g5 := h.mem.pur 0 rfl
      refine gs h (o_move rfl) rfl fun _ _ _ h => ?_
      refine gs h (o_extract rfl rfl) rfl fun _ _ _ h => ?_
      refine gs h (o_extract rfl rfl) rfl fun _ _ _ h => ?_
      refine gs h (o_assign rfl) rfl fun _ _ _ h => ?_
      refine gs h (o_assign rfl) rfl fun _ _ _ h => ?_
      refine GoR.done ?_
      refine Go.seq ?_
      refine Go.seq ?_
      refine Go.reg ?_
      refine gs h (o_move rfl) rfl fun _ _ _ h => ?_
      refine gs h (o_not rfl) rfl fun _ _ _ h => ?_
      refine GoR.done ?_
      by_cases c6 : (!r3.2) = true
      ·have H := ifT c6 H
       refine g_t h rfl c6 ?_
       refine Go.seq ?_
       refine Go.reg ?_
       refine gs h (o_build (K := KSeg) (x := (⟨0, 0, 0, 0, 0, 0, 0, []⟩ : TSeg)) (ps := []) rfl (zs := zsSeg) rfl t_b25 rfl (show PB (Kd.pair (Kd.int .i64) (Kd.pair (Kd.int .i64) (Kd.pair (Kd.int .u32) (Kd.pair (Kd.int .u32) (Kd.pair (Kd.int .i64) (Kd.pair (Kd.int .i64) (Kd.pair (Kd.int .i64) (Kd.last (Kd.sl (Kd.int .u8)))))))))) (0, 0, 0, 0, 0, 0, 0, []) 0 zsSeg _ _ from (pb_zero z_int (pb_zero z_int (pb_zero z_int (pb_zero z_int (pb_zero z_int (pb_zero z_int (pb_zero z_int (pb_lastz z_sl)))))))))) rfl fun v18 _ _ h => ?_
       refine gs0 h (o_st 7 rfl rfl rfl (pv_at PSeg 0 rfl) rfl t_w25) fun _ _ _ h => ?_
       refine gs h (o_assign rfl) rfl fun _ _ _ h => ?_
       refine GoR.done ?_
       obtain ⟨v19, h, u5⟩ := h.peek 7 rfl PSeg t_y25
       rw [← som H]
       exact g_ret (vs := [v19, .int .i64 161]) h Try.func10 ⟨⟨_, rfl, u5⟩, ⟨rfl, trivial⟩⟩ ⟨v19, rfl, ((h.mem.pick [0] (by decide) rfl).addpur (show InR .i64 161 by decide))⟩
      ·have H := ifF c6 H
       refine g_f h rfl c6 ?_
       refine Go.skip ?_
       refine Go.seq ?_
       refine Go.reg ?_
       refine gs h (o_makeFunc (vs := [.pointer (some ⟨b1, 0, none⟩)]) rfl) rfl fun _ _ _ h => ?_
       refine gs h (o_assign rfl) rfl fun _ _ _ h => ?_
       refine GoR.done ?_
       refine Go.seq ?_
       replace h := h.mm fun m => m.frz Per_sl 7 rfl
       replace h := h.wk (E' := [(3, .pointer (some ⟨b1, 0, none⟩)), (6, .pointer (some ⟨b2, 0, none⟩)), (8, .int .i64 y1), (9, .int .i64 r3.1), (11, .func (.func 33) #[] #[.pointer (some ⟨b1, 0, none⟩)])]) (L' := [Ent.pur (InR .i64 r3.1), Val (Kd.sl (Kd.int .u8)) v17 x2, Val (Kd.sl (Kd.int .u8)) v16 a1, Val (Kd.sl (Kd.int .u8)) v13 r1, Val (Kd.sl (Kd.int .u8)) v12 a1, Val (Kd.sl (Kd.int .u8)) v9 a1, Fld KSeg b2 0 zSeg, Pfl (Kd.sl (Kd.int .u8)) b1 0 a1]) (by rfl) [0, 1, 2, 3, 4, 5, 6, 7] (by decide) (by rfl)
       obtain ⟨r4, er4, H⟩ := bindE H
       obtain ⟨r5, er5, H⟩ := bindE H
       obtain ⟨r6, er6, H⟩ := bindE H
       obtain ⟨r7, er7, H⟩ := bindE H
       obtain ⟨x3, ex3, H⟩ := bindE H
       obtain ⟨r8, er8, H⟩ := bindE H
       obtain ⟨r9, er9, H⟩ := bindE H
       refine Go.draw (L := [Ent.pur (InR .i64 r3.1), Val (Kd.sl (Kd.int .u8)) v17 x2, Val (Kd.sl (Kd.int .u8)) v16 a1, Val (Kd.sl (Kd.int .u8)) v13 r1, Val (Kd.sl (Kd.int .u8)) v12 a1, Val (Kd.sl (Kd.int .u8)) v9 a1, Fld KSeg b2 0 zSeg, Pfl (Kd.sl (Kd.int .u8)) b1 0 a1]) h 22 [⟨[], [], [], false, .con (.func (.func 33) #[] #[.pointer (some ⟨b1, 0, none⟩)]), none, fun u => []⟩, ⟨[0], [], [], false, .con (.int .u64 r4), none, fun u => [Ent.pur (InR .u64 r4)]⟩, ⟨[0, 1], [], [], false, .con (.int .u16 (IntKind.u16.wrap r4)), none, fun u => []⟩, ⟨[], [], [], false, .con (.func (.func 33) #[] #[.pointer (some ⟨b1, 0, none⟩)]), none, fun u => []⟩, ⟨[3], [], [], false, .con (.int .u64 r5), none, fun u => [Ent.pur (InR .u64 r5)]⟩, ⟨[3, 4], [], [], false, .con (.int .u16 (IntKind.u16.wrap r5)), none, fun u => []⟩, ⟨[], [], [], false, .con (.func (.func 33) #[] #[.pointer (some ⟨b1, 0, none⟩)]), none, fun u => []⟩, ⟨[6], [], [], false, .con (.int .u64 r6), none, fun u => [Ent.pur (InR .u64 r6)]⟩, ⟨[6, 7], [], [], false, .con (.int .u32 (IntKind.u32.wrap r6)), none, fun u => []⟩, ⟨[], [], [], false, .con (.func (.func 33) #[] #[.pointer (some ⟨b1, 0, none⟩)]), none, fun u => []⟩, ⟨[9], [], [], false, .con (.int .u64 r7), none, fun u => [Ent.pur (InR .u64 r7)]⟩, ⟨[9, 10], [], [], false, .con (.int .u32 (IntKind.u32.wrap r7)), none, fun u => []⟩, ⟨[], [], [], false, .own, none, fun u => [Val (Kd.sl (Kd.int .u8)) u a1]⟩, ⟨[12], [12], [], false, .fn (fun u => elemP u ((13 : Int).toNat * Kd.n (Kd.int .u8))) 12, none, fun u => []⟩, ⟨[12, 13], [12], [], false, .con (.int .u8 x3), none, fun u => [Ent.pur (InR .u8 x3)]⟩, ⟨[12, 13, 14], [], [], false, .con (.int .u8 (bits .and .u8 x3 63)), none, fun u => []⟩, ⟨[], [], [], false, .con (.func (.func 33) #[] #[.pointer (some ⟨b1, 0, none⟩)]), none, fun u => []⟩, ⟨[16], [], [], false, .con (.int .u64 r8), none, fun u => [Ent.pur (InR .u64 r8)]⟩, ⟨[16, 17], [], [], false, .con (.int .u16 (IntKind.u16.wrap r8)), none, fun u => []⟩, ⟨[0, 1, 2, 3, 4, 5, 6, 7, 8, 9, 10, 11, 12, 13, 14, 15, 16, 17, 18], [], [], false, .own, none, fun u => [Val Khead u (⟨IntKind.u16.wrap r4, IntKind.u16.wrap r5, IntKind.u32.wrap r6, IntKind.u32.wrap r7, bits .and .u8 x3 63, IntKind.u16.wrap r8⟩ : Thead)]⟩, ⟨[0, 1, 2, 3, 4, 5, 6, 7, 8, 9, 10, 11, 12, 13, 14, 15, 16, 17, 18, 19], [19], [], false, .own, none, fun u => [Val KSeg u r9]⟩, ⟨[], [], [], false, .own, none, fun u => [Ent.pur (u = .pointer (some ⟨blk u, 0, none⟩)), Fld KSeg (blk u) 0 zSeg]⟩] rfl t_mxo (by kernel_rfl) (by rfl) ?_ fun f2 _ _ h => ?_
       ·exact obs_cons (ob_con rfl (gok_none rfl) rfl fun f2 => (o_move rfl)) (obs_cons (ob_con rfl (gok_none rfl) rfl fun f2 => (o_callv (vs := [.int .i64 0, .int .i64 2]) (caps := [.pointer (some ⟨b1, 0, none⟩)]) rfl rfl (seg_Get_1.spc 0 (show InR .i64 0 by decide) 2 (show InR .i64 2 by decide) b1 a1 r4 er4) [7] [] (by decide) rfl rfl)) (obs_cons (ob_con rfl (gok_none rfl) rfl fun f2 => (o_conv rfl t_q49 t_u52)) (obs_cons (ob_con rfl (gok_none rfl) rfl fun f2 => (o_move rfl)) (obs_cons (ob_con rfl (gok_none rfl) rfl fun f2 => (o_callv (vs := [.int .i64 2, .int .i64 2]) (caps := [.pointer (some ⟨b1, 0, none⟩)]) rfl rfl (seg_Get_1.spc 2 (show InR .i64 2 by decide) 2 (show InR .i64 2 by decide) b1 a1 r5 er5) [7] [] (by decide) rfl rfl)) (obs_cons (ob_con rfl (gok_none rfl) rfl fun f2 => (o_conv rfl t_q49 t_u52)) (obs_cons (ob_con rfl (gok_none rfl) rfl fun f2 => (o_move rfl)) (obs_cons (ob_con rfl (gok_none rfl) rfl fun f2 => (o_callv (vs := [.int .i64 4, .int .i64 4]) (caps := [.pointer (some ⟨b1, 0, none⟩)]) rfl rfl (seg_Get_1.spc 4 (show InR .i64 4 by decide) 4 (show InR .i64 4 by decide) b1 a1 r6 er6) [7] [] (by decide) rfl rfl)) (obs_cons (ob_con rfl (gok_none rfl) rfl fun f2 => (o_conv rfl t_q49 t_u22)) (obs_cons (ob_con rfl (gok_none rfl) rfl fun f2 => (o_move rfl)) (obs_cons (ob_con rfl (gok_none rfl) rfl fun f2 => (o_callv (vs := [.int .i64 8, .int .i64 4]) (caps := [.pointer (some ⟨b1, 0, none⟩)]) rfl rfl (seg_Get_1.spc 8 (show InR .i64 8 by decide) 4 (show InR .i64 4 by decide) b1 a1 r7 er7) [7] [] (by decide) rfl rfl)) (obs_cons (ob_con rfl (gok_none rfl) rfl fun f2 => (o_conv rfl t_q49 t_u22)) (obs_cons (ob_own rfl (gok_none rfl) rfl fun f2 => (p_lfv 7 rfl rfl sub_self rfl t_y23)) (obs_cons (ob_fn rfl (gok_none rfl) rfl fun f2 => (o_ix rfl rfl (rd_at 0 rfl) ex3 t_v23)) (obs_cons (ob_con rfl (gok_none rfl) rfl fun f2 => (OpS.pur (fun F w m_ => (rd_inr (rd_at 0 rfl) ex3 m_)) (o_lex rfl (rd_at 0 rfl) ex3 X_int t_y5 (by decide)))) (obs_cons (ob_con rfl (gok_none rfl) rfl fun f2 => (o_bin rfl rfl rfl)) (obs_cons (ob_con rfl (gok_none rfl) rfl fun f2 => (o_move rfl)) (obs_cons (ob_con rfl (gok_none rfl) rfl fun f2 => (o_callv (vs := [.int .i64 14, .int .i64 2]) (caps := [.pointer (some ⟨b1, 0, none⟩)]) rfl rfl (seg_Get_1.spc 14 (show InR .i64 14 by decide) 2 (show InR .i64 2 by decide) b1 a1 r8 er8) [7] [] (by decide) rfl rfl)) (obs_cons (ob_con rfl (gok_none rfl) rfl fun f2 => (o_conv rfl t_q49 t_u52)) (obs_cons (ob_own rfl (gok_none rfl) rfl fun f2 => (o_build (K := Khead) (x := (⟨IntKind.u16.wrap r4, IntKind.u16.wrap r5, IntKind.u32.wrap r6, IntKind.u32.wrap r7, bits .and .u8 x3 63, IntKind.u16.wrap r8⟩ : Thead)) (ps := [(0, .int .u16 (IntKind.u16.wrap r4)), (1, .int .u16 (IntKind.u16.wrap r5)), (2, .int .u32 (IntKind.u32.wrap r6)), (3, .int .u32 (IntKind.u32.wrap r7)), (4, .int .u8 (bits .and .u8 x3 63)), (5, .int .u16 (IntKind.u16.wrap r8))]) rfl (zs := zshead) rfl t_b54 rfl (show PB (Kd.pair (Kd.int .u16) (Kd.pair (Kd.int .u16) (Kd.pair (Kd.int .u32) (Kd.pair (Kd.int .u32) (Kd.pair (Kd.int .u8) (Kd.last (Kd.int .u16))))))) (IntKind.u16.wrap r4, IntKind.u16.wrap r5, IntKind.u32.wrap r6, IntKind.u32.wrap r7, bits .and .u8 x3 63, IntKind.u16.wrap r8) 0 zshead _ _ from (pb_part (pv_int (wrap_in _ _)) rfl (pb_part (pv_int (wrap_in _ _)) rfl (pb_part (pv_int (wrap_in _ _)) rfl (pb_part (pv_int (wrap_in _ _)) rfl (pb_part (pv_int (wrap_in _ _)) rfl (pb_lastp (pv_int (wrap_in _ _)) rfl))))))))) (obs_cons (ob_own rfl (gok_none rfl) rfl fun f2 => (o_call (seg_head_seg.spc (f2 19) (⟨IntKind.u16.wrap r4, IntKind.u16.wrap r5, IntKind.u32.wrap r6, IntKind.u32.wrap r7, bits .and .u8 x3 63, IntKind.u16.wrap r8⟩ : Thead) r9 er9) rfl [0] [] (by decide) rfl rfl)) (obs_cons (ob_own rfl (gok_none rfl) rfl fun f2 => (ptr_d (o_alloc (K := KSeg) (z := (.agg #[.int .i64 0, .int .i64 0, .int .u32 0, .int .u32 0, .int .i64 0, .int .i64 0, .int .i64 0, .slice none 0 0])) rfl ZSeg))) (obs_nil))))))))))))))))))))))
       replace h := h.wk (E' := [(3, .pointer (some ⟨b1, 0, none⟩)), (6, .pointer (some ⟨b2, 0, none⟩)), (8, .int .i64 y1), (9, .int .i64 r3.1), (77, (f2 20)), (12, (f2 21))]) (L' := [Ent.pur (InR .u64 r4), Ent.pur (InR .u64 r5), Ent.pur (InR .u64 r6), Ent.pur (InR .u64 r7), Val (Kd.sl (Kd.int .u8)) (f2 12) a1, Ent.pur (InR .u8 x3), Ent.pur (InR .u64 r8), Val Khead (f2 19) (⟨IntKind.u16.wrap r4, IntKind.u16.wrap r5, IntKind.u32.wrap r6, IntKind.u32.wrap r7, bits .and .u8 x3 63, IntKind.u16.wrap r8⟩ : Thead), Val KSeg (f2 20) r9, Ent.pur ((f2 21) = .pointer (some ⟨blk (f2 21), 0, none⟩)), Fld KSeg (blk (f2 21)) 0 zSeg, Ent.pur (InR .i64 r3.1), Val (Kd.sl (Kd.int .u8)) v17 x2, Val (Kd.sl (Kd.int .u8)) v16 a1, Val (Kd.sl (Kd.int .u8)) v13 r1, Val (Kd.sl (Kd.int .u8)) v12 a1, Val (Kd.sl (Kd.int .u8)) v9 a1, Fld KSeg b2 0 zSeg, Pfl (Kd.sl (Kd.int .u8)) b1 0 a1]) (by kernel_rfl) [0, 1, 2, 3, 4, 5, 6, 7, 8, 9, 10, 11, 12, 13, 14, 15, 16, 17, 18] (by decide) (by kernel_rfl)
       have q_ := h.mem.pur 9 rfl
       generalize blk (f2 21) = b4 at h q_
       rw [q_] at h
       refine gs0 h (o_st 10 rfl rfl rfl (pv_at PSeg 8 rfl) rfl t_w25) fun _ _ _ h => ?_
       refine GoR.done ?_
       refine Go.seq ?_
       refine Go.reg ?_
       refine gs h (o_move rfl) rfl fun _ _ _ h => ?_
       refine gs h (p_lfv 18 rfl rfl sub_self rfl t_y23) rfl fun v23 _ _ h => ?_
       refine gs h (o_move rfl) rfl fun _ _ _ h => ?_
       obtain ⟨x4, ex4, H⟩ := bindE H
       refine gs h (o_cutl rfl (pv_at Per_sl 0 rfl) rfl ex4 t_v23) rfl fun v24 _ _ h => ?_
       obtain ⟨r10, er10, H⟩ := bindE H
       refine gs h (o_call (slices_Clone_s_byte_byte.spc v24 x4 r10 er10) rfl [0] [] (by decide) rfl rfl) rfl fun v25 _ _ h => ?_
       refine gs h (o_fa rfl t_f25_6 rfl rfl) rfl fun _ _ _ h => ?_
       replace h := h.mm fun m => (m.take (i := 13) rfl).opn (cSeg _ _)
       refine gs0 h (o_st 6 rfl rfl rfl (pv_int g5) rfl t_w3) fun _ _ _ h => ?_
       refine gs h (o_fa rfl t_f25_7 rfl rfl) rfl fun _ _ _ h => ?_
       replace h := h.mm fun m => m.freeze 8 rfl
       refine gs0 h (o_st 7 rfl rfl rfl (pv_at Per_sl 8 rfl) rfl t_w23) fun _ _ _ h => ?_
       refine GoR.done ?_
       refine Go.seq ?_
       refine Go.reg ?_
       replace h := h.mm fun m => (m.pull (Lo := [Fld (Kd.int .i64) b4 0 r9.Src, Fld (Kd.int .i64) b4 1 r9.Dst, Fld (Kd.int .u32) b4 2 r9.Seq, Fld (Kd.int .u32) b4 3 r9.Ack, Fld (Kd.int .i64) b4 4 r9.Flags, Fld (Kd.int .i64) b4 5 r9.Win, Fld (Kd.int .i64) b4 6 r3.1, Fld (Kd.sl (Kd.int .u8)) b4 7 r10]) [0, 1, 2, 3, 4, 5, 6, 7] (by decide) rfl).cls (cSeg _ (⟨r9.Src, r9.Dst, r9.Seq, r9.Ack, r9.Flags, r9.Win, r3.1, r10⟩ : TSeg))
       refine gs h (o_ldv 0 rfl rfl PSeg t_y25) rfl fun v26 _ _ h => ?_
       refine gs0 h (o_st 30 rfl rfl rfl (pv_at PSeg 0 rfl) rfl t_w25) fun _ _ _ h => ?_
       refine gs h (o_assign rfl) rfl fun _ _ _ h => ?_
       refine GoR.done ?_
       obtain ⟨v27, h, u6⟩ := h.peek 30 rfl PSeg t_y25
       rw [← som H]
       exact g_ret (vs := [v27, .int .i64 0]) h Try.func10 ⟨⟨_, rfl, u6⟩, ⟨rfl, trivial⟩⟩ ⟨v27, rfl, ((h.mem.pick [0] (by decide) rfl).addpur (show InR .i64 0 by decide))⟩
  refine Go.reg ?_
  refine gs h (o_ldv 3 rfl rfl Per_sl t_y23) rfl fun v6 _ _ h => ?_
  have g3 := (len_at 0 rfl h.mem)
  refine gs h (o_ln rfl (rd_at 0 rfl) t_v23) rfl fun _ _ _ h => ?_
  refine gs h (o_bin rfl rfl rfl) rfl fun _ _ _ h => ?_
  refine gs h (o_move rfl) rfl fun _ _ _ h => ?_
  by_cases c2 : decide (65535 < (a1.length : Int)) = true
  ·have H := ifT c2 H
   refine gk h rfl rfl (nb_t c2) rfl fun _ h => ?_
   refine gk h rfl rfl (nb_t c2) rfl fun _ h => ?_
   refine gs h (o_pickT rfl rfl c2) rfl fun _ _ _ h => ?_
   refine gs h (o_assign rfl) rfl fun _ _ _ h => ?_
   refine GoR.done ?_
   exact J1 true _ _ (som H).symm (h.wk (by rfl) [3, 4] (by decide) (by rfl))
  ·have H := ifF c2 H
   refine gg h rfl rfl (nbF c2) (o_move rfl) rfl fun _ _ _ h => ?_
   refine gg h rfl rfl (nbF c2) (o_bin rfl rfl rfl) rfl fun _ _ _ h => ?_
   refine gs h (o_pickF rfl rfl c2) rfl fun _ _ _ h => ?_
   obtain ⟨y2, ey2, H⟩ := ltE H
   refine gs h (o_assign' rfl (congrArg Value.bool ey2)) rfl fun _ _ _ h => ?_
   refine GoR.done ?_
   exact J1 y2 _ _ (som H).symm (h.wk (by rfl) [3, 4] (by decide) (by rfl))
def seg_Get.g (k_ : Nat) (a1 : List Int) (a2 : Int) (a3 : Int) : Option (TSeg × Int) :=
  (if decide ((a1.length : Int) < 20) = true then some (((⟨0, 0, 0, 0, 0, 0, 0, []⟩ : TSeg), 160)) else (idx a1 12).bind fun x1 => lt (IntKind.i64.wrap ((ishr .u8 x1 4) * 4)) fun y1 => ((if decide (65535 < (a1.length : Int)) = true then some (true) else lt (decide (y1 < 20)) fun y2 => some (y2))).bind (fun j1 => (if j1 = true then some (((⟨0, 0, 0, 0, 0, 0, 0, []⟩ : TSeg), 161)) else lt (decide ((a1.length : Int) < y1)) fun y3 => (if y3 = true then some (((⟨0, 0, 0, 0, 0, 0, 0, []⟩ : TSeg), 160)) else (seg_covered.g k_ a1 a2 a3).bind fun r1 => (sum_Right.g k_ r1).bind fun r2 => (if (!r2) = true then some (((⟨0, 0, 0, 0, 0, 0, 0, []⟩ : TSeg), 162)) else (cut a1 20 y1).bind fun x2 => (seg_mss.g k_ x2).bind fun r3 => (if (!r3.2) = true then some (((⟨0, 0, 0, 0, 0, 0, 0, []⟩ : TSeg), 161)) else (seg_Get_1.g k_ 0 2 a1).bind fun r4 => (seg_Get_1.g k_ 2 2 a1).bind fun r5 => (seg_Get_1.g k_ 4 4 a1).bind fun r6 => (seg_Get_1.g k_ 8 4 a1).bind fun r7 => (idx a1 13).bind fun x3 => (seg_Get_1.g k_ 14 2 a1).bind fun r8 => (seg_head_seg.g k_ (⟨IntKind.u16.wrap r4, IntKind.u16.wrap r5, IntKind.u32.wrap r6, IntKind.u32.wrap r7, bits .and .u8 x3 63, IntKind.u16.wrap r8⟩ : Thead)).bind fun r9 => (cut a1 y1 (a1.length : Int)).bind fun x4 => (slices_Clone_s_byte_byte.g k_ x4).bind fun r10 => some (((⟨r9.Src, r9.Dst, r9.Seq, r9.Ack, r9.Flags, r9.Win, r3.1, r10⟩ : TSeg), 0))))))))
theorem seg_Get.le (k_ : Nat) (a1 : List Int) (a2 : Int) (a3 : Int) : Le (seg_Get.g k_ a1 a2 a3) (seg_Get.f a1 a2 a3) := by
 unfold seg_Get.g seg_Get.f
 repeat' (first | with_reducible refine le_loop fun _ => ?_ | with_reducible refine le_bind ?_ fun _ => ?_ | with_reducible refine le_ite ?_ ?_ | with_reducible refine le_lt fun _ => ?_ | with_reducible refine le_elim (fun _ => ?_) (fun _ => ?_) _ | with_reducible apply seg_Get_1.le | with_reducible apply seg_covered.le | with_reducible apply seg_head_seg.le | with_reducible apply seg_mss.le | with_reducible apply slices_Clone_s_byte_byte.le | with_reducible apply sum_Right.le | with_reducible exact le_refl _)
/-! drawbridge/drawbridgeref19.Same -/
noncomputable def ref19_Same.f (a1 : List TSeg) (a2 : List TSeg) : Option (Bool) :=
  (if (!decide ((a1.length : Int) = (a2.length : Int))) = true then some (false) else (loop (fun s1 => (if decide (s1 < (a1.length : Int)) = true then (idx a1 s1).bind fun x1 => (idx a2 s1).bind fun x2 => ((if (!decide (x1.Src = x2.Src)) = true then some (true) else (if (!decide (x1.Dst = x2.Dst)) = true then some (true) else (if (!decide (x1.Seq = x2.Seq)) = true then some (true) else (if (!decide (x1.Ack = x2.Ack)) = true then some (true) else (if (!decide (x1.Flags = x2.Flags)) = true then some (true) else (if (!decide (x1.Win = x2.Win)) = true then some (true) else (if (!decide (x1.Mss = x2.Mss)) = true then some (true) else some ((!decide (x1.Data = x2.Data))))))))))).bind (fun j1 => (if j1 = true then some (.inr (.inr (false))) else lt (IntKind.i64.wrap (s1 + 1)) fun y1 => some (.inl y1))) else some (.inr (.inl (()))))) 0).bind (Sum.elim (fun j2 => some (true)) (fun z_ => some (z_))))
set_option maxRecDepth 100000 in
set_option maxHeartbeats 4000000 in
theorem ref19_Same.spc (v1 : Value) (a1 : List TSeg) (v2 : Value) (a2 : List TSeg) (r : Bool) (H : ref19_Same.f a1 a2 = some r) : Spc Try.prog 13 [v1, v2] [Val (Kd.sl KSeg) v1 a1, Val (Kd.sl KSeg) v2 a2] [] (fun (s : Unit) => .bool r) (fun s => []) := by
 unfold ref19_Same.f at H
 refine Spc.go Try.func13 rfl (by kernel_rfl) rfl rfl (all_cons (Val.per Per_sl) (all_cons (Val.per Per_sl) all_nil)) fun F a w h => ?_
 refine Go.seq ?_
 refine Go.reg ?_
 refine gs h (o_assign rfl) rfl fun _ _ _ h => ?_
 refine GoR.done ?_
 refine Go.seq ?_
 refine Go.seq ?_
 refine Go.reg ?_
 refine gs h (o_move rfl) rfl fun _ _ _ h => ?_
 have g1 := (len_at 0 rfl h.mem)
 refine gs h (o_ln rfl (rd_at 0 rfl) t_v38) rfl fun _ _ _ h => ?_
 refine gs h (o_move rfl) rfl fun _ _ _ h => ?_
 have g2 := (len_at 1 rfl h.mem)
 refine gs h (o_ln rfl (rd_at 1 rfl) t_v38) rfl fun _ _ _ h => ?_
 refine gs h (o_bin rfl rfl rfl) rfl fun _ _ _ h => ?_
 refine GoR.done ?_
 by_cases c1 : (!decide ((a1.length : Int) = (a2.length : Int))) = true
 ·have H := ifT c1 H
  refine g_t h rfl c1 ?_
  refine Go.seq ?_
  refine Go.reg ?_
  refine gs h (o_assign rfl) rfl fun _ _ _ h => ?_
  refine GoR.done ?_
  rw [← som H]
  exact g_ret (vs := [.bool false]) h Try.func13 ⟨rfl, trivial⟩ ⟨(), rfl, (h.mem.pick [] (by decide) rfl)⟩
 ·have H := ifF c1 H
  refine g_f h rfl c1 ?_
  refine Go.skip ?_
  refine Go.seq ?_
  refine Go.seq ?_
  refine Go.reg ?_
  refine gs h (o_assign rfl) rfl fun _ _ _ h => ?_
  refine GoR.done ?_
  refine Go.block ?_
  obtain ⟨o1, hl, G1⟩ := bindE H
  refine g_cut (fun G => ∀ j2 (a : Act) (w : World), o1 = .inl (j2) → St Try.f13.ntmps F [] [] a w → G a w) 2 ?_ fun J2 => ?_
  ·intro j2 a w ho_ h
   rw [ho_] at G1
   have H := G1
   refine Go.seq ?_
   refine Go.reg ?_
   refine gs h (o_assign rfl) rfl fun _ _ _ h => ?_
   refine GoR.done ?_
   rw [← som H]
   exact g_ret (vs := [.bool true]) h Try.func13 ⟨rfl, trivial⟩ ⟨(), rfl, (h.mem.pick [] (by decide) rfl)⟩
  refine g_loop (fun s1 G => ∀  (a : Act) (w : World), InR .i64 s1 → St Try.f13.ntmps F [(0, v1), (1, v2), (5, .int .i64 s1)] [Val (Kd.sl KSeg) v1 a1, Val (Kd.sl KSeg) v2 a2] a w → G a w) hl (fun s1 p1 H i1 => ?_) fun I_ => ?_
  ·intro  a w g3 h
   refine Go.seq ?_
   refine Go.seq ?_
   refine Go.reg ?_
   refine gs h (o_move rfl) rfl fun _ _ _ h => ?_
   refine gs h (o_move rfl) rfl fun _ _ _ h => ?_
   have g4 := (len_at 0 rfl h.mem)
   refine gs h (o_ln rfl (rd_at 0 rfl) t_v38) rfl fun _ _ _ h => ?_
   refine gs h (o_bin rfl rfl rfl) rfl fun _ _ _ h => ?_
   refine GoR.done ?_
   by_cases c2 : decide (s1 < (a1.length : Int)) = true
   ·have H := ifT c2 H
    refine g_t h rfl c2 ?_
    refine Go.skip ?_
    refine Go.seq ?_
    refine Go.block ?_
    refine Go.seq ?_
    replace h := h.wk (E' := [(0, v1), (1, v2), (5, .int .i64 s1)]) (L' := [Val (Kd.sl KSeg) v1 a1, Val (Kd.sl KSeg) v2 a2]) (by rfl) [0, 1] (by decide) (by rfl)
    obtain ⟨x1, ex1, H⟩ := bindE H
    obtain ⟨x2, ex2, H⟩ := bindE H
    refine Go.draw (L := [Val (Kd.sl KSeg) v1 a1, Val (Kd.sl KSeg) v2 a2]) h 11 [⟨[], [], [], false, .con (v1), none, fun u => []⟩, ⟨[], [], [], false, .con (.int .i64 s1), none, fun u => []⟩, ⟨[0, 1], [], [], false, .con (elemP v1 (s1.toNat * Kd.n KSeg)), none, fun u => []⟩, ⟨[0, 1, 2], [], [], false, .own, none, fun u => [Val KSeg u x1]⟩, ⟨[], [], [], false, .con (v2), none, fun u => []⟩, ⟨[], [], [], false, .con (.int .i64 s1), none, fun u => []⟩, ⟨[4, 5], [], [], false, .con (elemP v2 (s1.toNat * Kd.n KSeg)), none, fun u => []⟩, ⟨[4, 5, 6], [], [], false, .own, none, fun u => [Val KSeg u x2]⟩, ⟨[], [], [], false, .own, none, fun u => [Ent.pur (u = .pointer (some ⟨blk u, 0, none⟩)), Fld KSeg (blk u) 0 zSeg]⟩, ⟨[], [], [], false, .own, none, fun u => [Ent.pur (u = .pointer (some ⟨blk u, 0, none⟩)), Fld KSeg (blk u) 0 zSeg]⟩, ⟨[0, 1, 2, 3, 8], [8, 3], [8], false, .con (undef), (some 8), fun u => [Ent.pur (u = .pointer (some ⟨blk u, 0, none⟩)), Fld KSeg (blk u) 0 x1]⟩] rfl t_mxo (by kernel_rfl) (by rfl) ?_ fun f1 _ _ h => ?_
    ·exact obs_cons (ob_con rfl (gok_none rfl) rfl fun f1 => (o_move rfl)) (obs_cons (ob_con rfl (gok_none rfl) rfl fun f1 => (o_move rfl)) (obs_cons (ob_con rfl (gok_none rfl) rfl fun f1 => (o_ix rfl rfl (rd_at 0 rfl) ex1 t_v38)) (obs_cons (ob_own rfl (gok_none rfl) rfl fun f1 => (o_lev rfl (rd_at 0 rfl) ex1 t_y25 (by decide))) (obs_cons (ob_con rfl (gok_none rfl) rfl fun f1 => (o_move rfl)) (obs_cons (ob_con rfl (gok_none rfl) rfl fun f1 => (o_move rfl)) (obs_cons (ob_con rfl (gok_none rfl) rfl fun f1 => (o_ix rfl rfl (rd_at 1 rfl) ex2 t_v38)) (obs_cons (ob_own rfl (gok_none rfl) rfl fun f1 => (o_lev rfl (rd_at 1 rfl) ex2 t_y25 (by decide))) (obs_cons (ob_own rfl (gok_none rfl) rfl fun f1 => (ptr_d (o_alloc (K := KSeg) (z := (.agg #[.int .i64 0, .int .i64 0, .int .u32 0, .int .u32 0, .int .i64 0, .int .i64 0, .int .i64 0, .slice none 0 0])) rfl ZSeg))) (obs_cons (ob_own rfl (gok_none rfl) rfl fun f1 => (ptr_d (o_alloc (K := KSeg) (z := (.agg #[.int .i64 0, .int .i64 0, .int .u32 0, .int .u32 0, .int .i64 0, .int .i64 0, .int .i64 0, .slice none 0 0])) rfl ZSeg))) (obs_cons (ob_con rfl (gok_none rfl) rfl fun f1 => (OpS.fact (fun F w m_ => (Mem.pur 0 rfl m_)) fun g5 => (o_st 1 (congrArg some g5) rfl rfl (pv_at PSeg 2 rfl) rfl t_w25))) (obs_nil)))))))))))
    replace h := h.wk (E' := [(0, v1), (1, v2), (5, .int .i64 s1), (26, (f1 7)), (6, (f1 8)), (7, (f1 9))]) (L' := [Val KSeg (f1 3) x1, Val KSeg (f1 7) x2, Ent.pur ((f1 9) = .pointer (some ⟨blk (f1 9), 0, none⟩)), Fld KSeg (blk (f1 9)) 0 zSeg, Ent.pur ((f1 8) = .pointer (some ⟨blk (f1 8), 0, none⟩)), Fld KSeg (blk (f1 8)) 0 x1, Val (Kd.sl KSeg) v1 a1, Val (Kd.sl KSeg) v2 a2]) (by kernel_rfl) [0, 1, 2, 3, 4, 5, 6, 7] (by decide) (by kernel_rfl)
    have q_ := h.mem.pur 4 rfl
    generalize blk (f1 8) = b3 at h q_
    rw [q_] at h
    have q_ := h.mem.pur 2 rfl
    generalize blk (f1 9) = b4 at h q_
    rw [q_] at h
    refine gs0 h (o_st 3 rfl rfl rfl (pv_at PSeg 1 rfl) rfl t_w25) fun _ _ _ h => ?_
    refine GoR.done ?_
    refine Go.seq ?_
    obtain ⟨o2, H, G2⟩ := bindE H
    refine g_cut (fun G => ∀ j1 (a : Act) (w : World), o2 = j1 → St Try.f13.ntmps F [(0, v1), (1, v2), (5, .int .i64 s1), (82, .bool j1)] [Val (Kd.sl KSeg) v1 a1, Val (Kd.sl KSeg) v2 a2, Fld KSeg b4 0 x2, Fld KSeg b3 0 x1] a w → G a w) 1 ?_ fun J1 => ?_
    ·intro j1 a w ho_ h
     rw [ho_] at G2
     have H := G2
     by_cases c10 : j1 = true
     ·have H := ifT c10 H
      refine g_t h rfl c10 ?_
      refine Go.seq ?_
      refine Go.reg ?_
      refine gs h (o_assign rfl) rfl fun _ _ _ h => ?_
      refine GoR.done ?_
      have e_ := som H; subst e_
      rw [← nx_out i1] at G1
      have H := G1
      rw [← som H]
      exact g_ret (vs := [.bool false]) h Try.func13 ⟨rfl, trivial⟩ ⟨(), rfl, (h.mem.pick [] (by decide) rfl)⟩
     ·have H := ifF c10 H
      refine g_f h rfl c10 ?_
      refine Go.skip ?_
      refine Go.inBlock ?_
      refine Go.reg ?_
      refine gs h (o_move rfl) rfl fun _ _ _ h => ?_
      refine gs h (o_bin rfl rfl rfl) rfl fun _ _ _ h => ?_
      obtain ⟨y1, ey1, H⟩ := ltE H
      refine gs h (o_assign' rfl (congrArg (fun z => Value.int .i64 z) ey1)) rfl fun _ _ _ h => ?_
      refine GoR.done ?_
      have e_ := som H; subst e_
      exact Go.inLoop (nx_in i1 _ _ (ey1 ▸ (wrap_in _ _)) (h.wk (by rfl) [0, 1] (by decide) (by rfl)))
    refine Go.reg ?_
    refine gs h (o_fa rfl t_f25_0 rfl rfl) rfl fun _ _ _ h => ?_
    have g6 := (in2 (fd_sub sSeg_Src 5 rfl h.mem))
    refine gs h (o_lfx 5 rfl rfl sSeg_Src rfl X_int t_y3) rfl fun _ _ _ h => ?_
    refine gs h (o_fa rfl t_f25_0 rfl rfl) rfl fun _ _ _ h => ?_
    have g7 := (in2 (fd_sub sSeg_Src 3 rfl h.mem))
    refine gs h (o_lfx 3 rfl rfl sSeg_Src rfl X_int t_y3) rfl fun _ _ _ h => ?_
    refine gs h (o_bin rfl rfl rfl) rfl fun _ _ _ h => ?_
    refine gs h (o_move rfl) rfl fun _ _ _ h => ?_
    by_cases c3 : (!decide (x1.Src = x2.Src)) = true
    ·have H := ifT c3 H
     refine gk h rfl rfl (nb_t c3) rfl fun _ h => ?_
     refine gk h rfl rfl (nb_t c3) rfl fun _ h => ?_
     refine gk h rfl rfl (nb_t c3) rfl fun _ h => ?_
     refine gk h rfl rfl (nb_t c3) rfl fun _ h => ?_
     refine gk h rfl rfl (nb_t c3) rfl fun _ h => ?_
     refine gs h (o_pickT rfl rfl c3) rfl fun _ _ _ h => ?_
     refine gs h (o_move rfl) rfl fun _ _ _ h => ?_
     refine gk h rfl rfl (nb_t rfl) rfl fun _ h => ?_
     refine gk h rfl rfl (nb_t rfl) rfl fun _ h => ?_
     refine gk h rfl rfl (nb_t rfl) rfl fun _ h => ?_
     refine gk h rfl rfl (nb_t rfl) rfl fun _ h => ?_
     refine gk h rfl rfl (nb_t rfl) rfl fun _ h => ?_
     refine gs h (o_pickT rfl rfl rfl) rfl fun _ _ _ h => ?_
     refine gs h (o_move rfl) rfl fun _ _ _ h => ?_
     refine gk h rfl rfl (nb_t rfl) rfl fun _ h => ?_
     refine gk h rfl rfl (nb_t rfl) rfl fun _ h => ?_
     refine gk h rfl rfl (nb_t rfl) rfl fun _ h => ?_
     refine gk h rfl rfl (nb_t rfl) rfl fun _ h => ?_
     refine gk h rfl rfl (nb_t rfl) rfl fun _ h => ?_
     refine gs h (o_pickT rfl rfl rfl) rfl fun _ _ _ h => ?_
     refine gs h (o_move rfl) rfl fun _ _ _ h => ?_
     refine gk h rfl rfl (nb_t rfl) rfl fun _ h => ?_
     refine gk h rfl rfl (nb_t rfl) rfl fun _ h => ?_
     refine gk h rfl rfl (nb_t rfl) rfl fun _ h => ?_
     refine gk h rfl rfl (nb_t rfl) rfl fun _ h => ?_
     refine gk h rfl rfl (nb_t rfl) rfl fun _ h => ?_
     refine gs h (o_pickT rfl rfl rfl) rfl fun _ _ _ h => ?_
     refine gs h (o_move rfl) rfl fun _ _ _ h => ?_
     refine gk h rfl rfl (nb_t rfl) rfl fun _ h => ?_
     refine gk h rfl rfl (nb_t rfl) rfl fun _ h => ?_
     refine gk h rfl rfl (nb_t rfl) rfl fun _ h => ?_
     refine gk h rfl rfl (nb_t rfl) rfl fun _ h => ?_
     refine gk h rfl rfl (nb_t rfl) rfl fun _ h => ?_
     refine gs h (o_pickT rfl rfl rfl) rfl fun _ _ _ h => ?_
     refine gs h (o_move rfl) rfl fun _ _ _ h => ?_
     refine gk h rfl rfl (nb_t rfl) rfl fun _ h => ?_
     refine gk h rfl rfl (nb_t rfl) rfl fun _ h => ?_
     refine gk h rfl rfl (nb_t rfl) rfl fun _ h => ?_
     refine gk h rfl rfl (nb_t rfl) rfl fun _ h => ?_
     refine gk h rfl rfl (nb_t rfl) rfl fun _ h => ?_
     refine gs h (o_pickT rfl rfl rfl) rfl fun _ _ _ h => ?_
     refine gs h (o_move rfl) rfl fun _ _ _ h => ?_
     refine gk h rfl rfl (nb_t rfl) rfl fun _ h => ?_
     refine gk h rfl rfl (nb_t rfl) rfl fun _ h => ?_
     refine gk h rfl rfl (nb_t rfl) rfl fun _ h => ?_
     refine gk h rfl rfl (nb_t rfl) rfl fun _ h => ?_
     refine gk h rfl rfl (nb_t rfl) rfl fun _ h => ?_
     refine gk h rfl rfl (nb_t rfl) rfl fun _ h => ?_
     refine gk h rfl rfl (nb_t rfl) rfl fun _ h => ?_
     refine gs h (o_pickT rfl rfl rfl) rfl fun _ _ _ h => ?_
     refine GoR.done ?_
     exact J1 true _ _ (som H).symm (h.wk (by rfl) [6, 7, 3, 5] (by decide) (by rfl))
    ·have H := ifF c3 H
     refine gg h rfl rfl (nbF c3) (o_fa rfl t_f25_1 rfl rfl) rfl fun _ _ _ h => ?_
     have g8 := (in2 (fd_sub sSeg_Dst 5 rfl h.mem))
     refine gg h rfl rfl (nbF c3) (o_lfx 5 rfl rfl sSeg_Dst rfl X_int t_y3) rfl fun _ _ _ h => ?_
     refine gg h rfl rfl (nbF c3) (o_fa rfl t_f25_1 rfl rfl) rfl fun _ _ _ h => ?_
     have g9 := (in2 (fd_sub sSeg_Dst 3 rfl h.mem))
     refine gg h rfl rfl (nbF c3) (o_lfx 3 rfl rfl sSeg_Dst rfl X_int t_y3) rfl fun _ _ _ h => ?_
     refine gg h rfl rfl (nbF c3) (o_bin rfl rfl rfl) rfl fun _ _ _ h => ?_
     refine gs h (o_pickF rfl rfl c3) rfl fun _ _ _ h => ?_
     refine gs h (o_move rfl) rfl fun _ _ _ h => ?_
     by_cases c4 : (!decide (x1.Dst = x2.Dst)) = true
     ·have H := ifT c4 H
      refine gk h rfl rfl (nb_t c4) rfl fun _ h => ?_
      refine gk h rfl rfl (nb_t c4) rfl fun _ h => ?_
      refine gk h rfl rfl (nb_t c4) rfl fun _ h => ?_
      refine gk h rfl rfl (nb_t c4) rfl fun _ h => ?_
      refine gk h rfl rfl (nb_t c4) rfl fun _ h => ?_
      refine gs h (o_pickT rfl rfl c4) rfl fun _ _ _ h => ?_
      refine gs h (o_move rfl) rfl fun _ _ _ h => ?_
      refine gk h rfl rfl (nb_t rfl) rfl fun _ h => ?_
      refine gk h rfl rfl (nb_t rfl) rfl fun _ h => ?_
      refine gk h rfl rfl (nb_t rfl) rfl fun _ h => ?_
      refine gk h rfl rfl (nb_t rfl) rfl fun _ h => ?_
      refine gk h rfl rfl (nb_t rfl) rfl fun _ h => ?_
      refine gs h (o_pickT rfl rfl rfl) rfl fun _ _ _ h => ?_
      refine gs h (o_move rfl) rfl fun _ _ _ h => ?_
      refine gk h rfl rfl (nb_t rfl) rfl fun _ h => ?_
      refine gk h rfl rfl (nb_t rfl) rfl fun _ h => ?_
      refine gk h rfl rfl (nb_t rfl) rfl fun _ h => ?_
      refine gk h rfl rfl (nb_t rfl) rfl fun _ h => ?_
      refine gk h rfl rfl (nb_t rfl) rfl fun _ h => ?_
      refine gs h (o_pickT rfl rfl rfl) rfl fun _ _ _ h => ?_
      refine gs h (o_move rfl) rfl fun _ _ _ h => ?_
      refine gk h rfl rfl (nb_t rfl) rfl fun _ h => ?_
      refine gk h rfl rfl (nb_t rfl) rfl fun _ h => ?_
      refine gk h rfl rfl (nb_t rfl) rfl fun _ h => ?_
      refine gk h rfl rfl (nb_t rfl) rfl fun _ h => ?_
      refine gk h rfl rfl (nb_t rfl) rfl fun _ h => ?_
      refine gs h (o_pickT rfl rfl rfl) rfl fun _ _ _ h => ?_
      refine gs h (o_move rfl) rfl fun _ _ _ h => ?_
      refine gk h rfl rfl (nb_t rfl) rfl fun _ h => ?_
      refine gk h rfl rfl (nb_t rfl) rfl fun _ h => ?_
      refine gk h rfl rfl (nb_t rfl) rfl fun _ h => ?_
      refine gk h rfl rfl (nb_t rfl) rfl fun _ h => ?_
      refine gk h rfl rfl (nb_t rfl) rfl fun _ h => ?_
      refine gs h (o_pickT rfl rfl rfl) rfl fun _ _ _ h => ?_
      refine gs h (o_move rfl) rfl fun _ _ _ h => ?_
      refine gk h rfl rfl (nb_t rfl) rfl fun _ h => ?_
      refine gk h rfl rfl (nb_t rfl) rfl fun _ h => ?_
      refine gk h rfl rfl (nb_t rfl) rfl fun _ h => ?_
      refine gk h rfl rfl (nb_t rfl) rfl fun _ h => ?_
      refine gk h rfl rfl (nb_t rfl) rfl fun _ h => ?_
      refine gk h rfl rfl (nb_t rfl) rfl fun _ h => ?_
      refine gk h rfl rfl (nb_t rfl) rfl fun _ h => ?_
      refine gs h (o_pickT rfl rfl rfl) rfl fun _ _ _ h => ?_
      refine GoR.done ?_
      exact J1 true _ _ (som H).symm (h.wk (by rfl) [6, 7, 3, 5] (by decide) (by rfl))
     ·have H := ifF c4 H
      refine gg h rfl rfl (nbF c4) (o_fa rfl t_f25_2 rfl rfl) rfl fun _ _ _ h => ?_
      have g10 := (in2 (fd_sub sSeg_Seq 5 rfl h.mem))
      refine gg h rfl rfl (nbF c4) (o_lfx 5 rfl rfl sSeg_Seq rfl X_int t_y22) rfl fun _ _ _ h => ?_
      refine gg h rfl rfl (nbF c4) (o_fa rfl t_f25_2 rfl rfl) rfl fun _ _ _ h => ?_
      have g11 := (in2 (fd_sub sSeg_Seq 3 rfl h.mem))
      refine gg h rfl rfl (nbF c4) (o_lfx 3 rfl rfl sSeg_Seq rfl X_int t_y22) rfl fun _ _ _ h => ?_
      refine gg h rfl rfl (nbF c4) (o_bin rfl rfl rfl) rfl fun _ _ _ h => ?_
      refine gs h (o_pickF rfl rfl c4) rfl fun _ _ _ h => ?_
      refine gs h (o_move rfl) rfl fun _ _ _ h => ?_
      by_cases c5 : (!decide (x1.Seq = x2.Seq)) = true
      ·have H := ifT c5 H
       refine gk h rfl rfl (nb_t c5) rfl fun _ h => ?_
       refine gk h rfl rfl (nb_t c5) rfl fun _ h => ?_
       refine gk h rfl rfl (nb_t c5) rfl fun _ h => ?_
       refine gk h rfl rfl (nb_t c5) rfl fun _ h => ?_
       refine gk h rfl rfl (nb_t c5) rfl fun _ h => ?_
       refine gs h (o_pickT rfl rfl c5) rfl fun _ _ _ h => ?_
       refine gs h (o_move rfl) rfl fun _ _ _ h => ?_
       refine gk h rfl rfl (nb_t rfl) rfl fun _ h => ?_
       refine gk h rfl rfl (nb_t rfl) rfl fun _ h => ?_
       refine gk h rfl rfl (nb_t rfl) rfl fun _ h => ?_
       refine gk h rfl rfl (nb_t rfl) rfl fun _ h => ?_
       refine gk h rfl rfl (nb_t rfl) rfl fun _ h => ?_
       refine gs h (o_pickT rfl rfl rfl) rfl fun _ _ _ h => ?_
       refine gs h (o_move rfl) rfl fun _ _ _ h => ?_
       refine gk h rfl rfl (nb_t rfl) rfl fun _ h => ?_
       refine gk h rfl rfl (nb_t rfl) rfl fun _ h => ?_
       refine gk h rfl rfl (nb_t rfl) rfl fun _ h => ?_
       refine gk h rfl rfl (nb_t rfl) rfl fun _ h => ?_
       refine gk h rfl rfl (nb_t rfl) rfl fun _ h => ?_
       refine gs h (o_pickT rfl rfl rfl) rfl fun _ _ _ h => ?_
       refine gs h (o_move rfl) rfl fun _ _ _ h => ?_
       refine gk h rfl rfl (nb_t rfl) rfl fun _ h => ?_
       refine gk h rfl rfl (nb_t rfl) rfl fun _ h => ?_
       refine gk h rfl rfl (nb_t rfl) rfl fun _ h => ?_
       refine gk h rfl rfl (nb_t rfl) rfl fun _ h => ?_
       refine gk h rfl rfl (nb_t rfl) rfl fun _ h => ?_
       refine gs h (o_pickT rfl rfl rfl) rfl fun _ _ _ h => ?_
       refine gs h (o_move rfl) rfl fun _ _ _ h => ?_
       refine gk h rfl rfl (nb_t rfl) rfl fun _ h => ?_
       refine gk h rfl rfl (nb_t rfl) rfl fun _ h => ?_
       refine gk h rfl rfl (nb_t rfl) rfl fun _ h => ?_
       refine gk h rfl rfl (nb_t rfl) rfl fun _ h => ?_
       refine gk h rfl rfl (nb_t rfl) rfl fun _ h => ?_
       refine gk h rfl rfl (nb_t rfl) rfl fun _ h => ?_
       refine gk h rfl rfl (nb_t rfl) rfl fun _ h => ?_
       refine gs h (o_pickT rfl rfl rfl) rfl fun _ _ _ h => ?_
       refine GoR.done ?_
       exact J1 true _ _ (som H).symm (h.wk (by rfl) [6, 7, 3, 5] (by decide) (by rfl))
      ·have H := ifF c5 H
       refine gg h rfl rfl (nbF c5) (o_fa rfl t_f25_3 rfl rfl) rfl fun _ _ _ h => ?_
       have g12 := (in2 (fd_sub sSeg_Ack 5 rfl h.mem))
       refine gg h rfl rfl (nbF c5) (o_lfx 5 rfl rfl sSeg_Ack rfl X_int t_y22) rfl fun _ _ _ h => ?_
       refine gg h rfl rfl (nbF c5) (o_fa rfl t_f25_3 rfl rfl) rfl fun _ _ _ h => ?_
       have g13 := (in2 (fd_sub sSeg_Ack 3 rfl h.mem))
       refine gg h rfl rfl (nbF c5) (o_lfx 3 rfl rfl sSeg_Ack rfl X_int t_y22) rfl fun _ _ _ h => ?_
       refine gg h rfl rfl (nbF c5) (o_bin rfl rfl rfl) rfl fun _ _ _ h => ?_
       refine gs h (o_pickF rfl rfl c5) rfl fun _ _ _ h => ?_
       refine gs h (o_move rfl) rfl fun _ _ _ h => ?_
       by_cases c6 : (!decide (x1.Ack = x2.Ack)) = true
       ·have H := ifT c6 H
        refine gk h rfl rfl (nb_t c6) rfl fun _ h => ?_
        refine gk h rfl rfl (nb_t c6) rfl fun _ h => ?_
        refine gk h rfl rfl (nb_t c6) rfl fun _ h => ?_
        refine gk h rfl rfl (nb_t c6) rfl fun _ h => ?_
        refine gk h rfl rfl (nb_t c6) rfl fun _ h => ?_
        refine gs h (o_pickT rfl rfl c6) rfl fun _ _ _ h => ?_
        refine gs h (o_move rfl) rfl fun _ _ _ h => ?_
        refine gk h rfl rfl (nb_t rfl) rfl fun _ h => ?_
        refine gk h rfl rfl (nb_t rfl) rfl fun _ h => ?_
        refine gk h rfl rfl (nb_t rfl) rfl fun _ h => ?_
        refine gk h rfl rfl (nb_t rfl) rfl fun _ h => ?_
        refine gk h rfl rfl (nb_t rfl) rfl fun _ h => ?_
        refine gs h (o_pickT rfl rfl rfl) rfl fun _ _ _ h => ?_
        refine gs h (o_move rfl) rfl fun _ _ _ h => ?_
        refine gk h rfl rfl (nb_t rfl) rfl fun _ h => ?_
        refine gk h rfl rfl (nb_t rfl) rfl fun _ h => ?_
        refine gk h rfl rfl (nb_t rfl) rfl fun _ h => ?_
        refine gk h rfl rfl (nb_t rfl) rfl fun _ h => ?_
        refine gk h rfl rfl (nb_t rfl) rfl fun _ h => ?_
        refine gs h (o_pickT rfl rfl rfl) rfl fun _ _ _ h => ?_
        refine gs h (o_move rfl) rfl fun _ _ _ h => ?_
        refine gk h rfl rfl (nb_t rfl) rfl fun _ h => ?_
        refine gk h rfl rfl (nb_t rfl) rfl fun _ h => ?_
        refine gk h rfl rfl (nb_t rfl) rfl fun _ h => ?_
        refine gk h rfl rfl (nb_t rfl) rfl fun _ h => ?_
        refine gk h rfl rfl (nb_t rfl) rfl fun _ h => ?_
        refine gk h rfl rfl (nb_t rfl) rfl fun _ h => ?_
        refine gk h rfl rfl (nb_t rfl) rfl fun _ h => ?_
        refine gs h (o_pickT rfl rfl rfl) rfl fun _ _ _ h => ?_
        refine GoR.done ?_
        exact J1 true _ _ (som H).symm (h.wk (by rfl) [6, 7, 3, 5] (by decide) (by rfl))
       ·have H := ifF c6 H
        refine gg h rfl rfl (nbF c6) (o_fa rfl t_f25_4 rfl rfl) rfl fun _ _ _ h => ?_
        have g14 := (in2 (fd_sub sSeg_Flags 5 rfl h.mem))
        refine gg h rfl rfl (nbF c6) (o_lfx 5 rfl rfl sSeg_Flags rfl X_int t_y3) rfl fun _ _ _ h => ?_
        refine gg h rfl rfl (nbF c6) (o_fa rfl t_f25_4 rfl rfl) rfl fun _ _ _ h => ?_
        have g15 := (in2 (fd_sub sSeg_Flags 3 rfl h.mem))
        refine gg h rfl rfl (nbF c6) (o_lfx 3 rfl rfl sSeg_Flags rfl X_int t_y3) rfl fun _ _ _ h => ?_
        refine gg h rfl rfl (nbF c6) (o_bin rfl rfl rfl) rfl fun _ _ _ h => ?_
        refine gs h (o_pickF rfl rfl c6) rfl fun _ _ _ h => ?_
        refine gs h (o_move rfl) rfl fun _ _ _ h => ?_
        by_cases c7 : (!decide (x1.Flags = x2.Flags)) = true
        ·have H := ifT c7 H
         refine gk h rfl rfl (nb_t c7) rfl fun _ h => ?_
         refine gk h rfl rfl (nb_t c7) rfl fun _ h => ?_
         refine gk h rfl rfl (nb_t c7) rfl fun _ h => ?_
         refine gk h rfl rfl (nb_t c7) rfl fun _ h => ?_
         refine gk h rfl rfl (nb_t c7) rfl fun _ h => ?_
         refine gs h (o_pickT rfl rfl c7) rfl fun _ _ _ h => ?_
         refine gs h (o_move rfl) rfl fun _ _ _ h => ?_
         refine gk h rfl rfl (nb_t rfl) rfl fun _ h => ?_
         refine gk h rfl rfl (nb_t rfl) rfl fun _ h => ?_
         refine gk h rfl rfl (nb_t rfl) rfl fun _ h => ?_
         refine gk h rfl rfl (nb_t rfl) rfl fun _ h => ?_
         refine gk h rfl rfl (nb_t rfl) rfl fun _ h => ?_
         refine gs h (o_pickT rfl rfl rfl) rfl fun _ _ _ h => ?_
         refine gs h (o_move rfl) rfl fun _ _ _ h => ?_
         refine gk h rfl rfl (nb_t rfl) rfl fun _ h => ?_
         refine gk h rfl rfl (nb_t rfl) rfl fun _ h => ?_
         refine gk h rfl rfl (nb_t rfl) rfl fun _ h => ?_
         refine gk h rfl rfl (nb_t rfl) rfl fun _ h => ?_
         refine gk h rfl rfl (nb_t rfl) rfl fun _ h => ?_
         refine gk h rfl rfl (nb_t rfl) rfl fun _ h => ?_
         refine gk h rfl rfl (nb_t rfl) rfl fun _ h => ?_
         refine gs h (o_pickT rfl rfl rfl) rfl fun _ _ _ h => ?_
         refine GoR.done ?_
         exact J1 true _ _ (som H).symm (h.wk (by rfl) [6, 7, 3, 5] (by decide) (by rfl))
        ·have H := ifF c7 H
         refine gg h rfl rfl (nbF c7) (o_fa rfl t_f25_5 rfl rfl) rfl fun _ _ _ h => ?_
         have g16 := (in2 (fd_sub sSeg_Win 5 rfl h.mem))
         refine gg h rfl rfl (nbF c7) (o_lfx 5 rfl rfl sSeg_Win rfl X_int t_y3) rfl fun _ _ _ h => ?_
         refine gg h rfl rfl (nbF c7) (o_fa rfl t_f25_5 rfl rfl) rfl fun _ _ _ h => ?_
         have g17 := (in2 (fd_sub sSeg_Win 3 rfl h.mem))
         refine gg h rfl rfl (nbF c7) (o_lfx 3 rfl rfl sSeg_Win rfl X_int t_y3) rfl fun _ _ _ h => ?_
         refine gg h rfl rfl (nbF c7) (o_bin rfl rfl rfl) rfl fun _ _ _ h => ?_
         refine gs h (o_pickF rfl rfl c7) rfl fun _ _ _ h => ?_
         refine gs h (o_move rfl) rfl fun _ _ _ h => ?_
         by_cases c8 : (!decide (x1.Win = x2.Win)) = true
         ·have H := ifT c8 H
          refine gk h rfl rfl (nb_t c8) rfl fun _ h => ?_
          refine gk h rfl rfl (nb_t c8) rfl fun _ h => ?_
          refine gk h rfl rfl (nb_t c8) rfl fun _ h => ?_
          refine gk h rfl rfl (nb_t c8) rfl fun _ h => ?_
          refine gk h rfl rfl (nb_t c8) rfl fun _ h => ?_
          refine gs h (o_pickT rfl rfl c8) rfl fun _ _ _ h => ?_
          refine gs h (o_move rfl) rfl fun _ _ _ h => ?_
          refine gk h rfl rfl (nb_t rfl) rfl fun _ h => ?_
          refine gk h rfl rfl (nb_t rfl) rfl fun _ h => ?_
          refine gk h rfl rfl (nb_t rfl) rfl fun _ h => ?_
          refine gk h rfl rfl (nb_t rfl) rfl fun _ h => ?_
          refine gk h rfl rfl (nb_t rfl) rfl fun _ h => ?_
          refine gk h rfl rfl (nb_t rfl) rfl fun _ h => ?_
          refine gk h rfl rfl (nb_t rfl) rfl fun _ h => ?_
          refine gs h (o_pickT rfl rfl rfl) rfl fun _ _ _ h => ?_
          refine GoR.done ?_
          exact J1 true _ _ (som H).symm (h.wk (by rfl) [6, 7, 3, 5] (by decide) (by rfl))
         ·have H := ifF c8 H
          refine gg h rfl rfl (nbF c8) (o_fa rfl t_f25_6 rfl rfl) rfl fun _ _ _ h => ?_
          have g18 := (in2 (fd_sub sSeg_Mss 5 rfl h.mem))
          refine gg h rfl rfl (nbF c8) (o_lfx 5 rfl rfl sSeg_Mss rfl X_int t_y3) rfl fun _ _ _ h => ?_
          refine gg h rfl rfl (nbF c8) (o_fa rfl t_f25_6 rfl rfl) rfl fun _ _ _ h => ?_
          have g19 := (in2 (fd_sub sSeg_Mss 3 rfl h.mem))
          refine gg h rfl rfl (nbF c8) (o_lfx 3 rfl rfl sSeg_Mss rfl X_int t_y3) rfl fun _ _ _ h => ?_
          refine gg h rfl rfl (nbF c8) (o_bin rfl rfl rfl) rfl fun _ _ _ h => ?_
          refine gs h (o_pickF rfl rfl c8) rfl fun _ _ _ h => ?_
          refine gs h (o_move rfl) rfl fun _ _ _ h => ?_
          by_cases c9 : (!decide (x1.Mss = x2.Mss)) = true
          ·have H := ifT c9 H
           refine gk h rfl rfl (nb_t c9) rfl fun _ h => ?_
           refine gk h rfl rfl (nb_t c9) rfl fun _ h => ?_
           refine gk h rfl rfl (nb_t c9) rfl fun _ h => ?_
           refine gk h rfl rfl (nb_t c9) rfl fun _ h => ?_
           refine gk h rfl rfl (nb_t c9) rfl fun _ h => ?_
           refine gk h rfl rfl (nb_t c9) rfl fun _ h => ?_
           refine gk h rfl rfl (nb_t c9) rfl fun _ h => ?_
           refine gs h (o_pickT rfl rfl c9) rfl fun _ _ _ h => ?_
           refine GoR.done ?_
           exact J1 true _ _ (som H).symm (h.wk (by rfl) [6, 7, 3, 5] (by decide) (by rfl))
          ·have H := ifF c9 H
           refine gg h rfl rfl (nbF c9) (o_fa rfl t_f25_7 rfl rfl) rfl fun _ _ _ h => ?_
           refine gg h rfl rfl (nbF c9) (o_lfv 5 rfl rfl sSeg_Data rfl Per_sl t_y23) rfl fun v5 _ _ h => ?_
           have g20 := (rd_bs (rd_at 0 rfl) h.mem)
           refine gg h rfl rfl (nbF c9) (o_b2s rfl (rd_at 0 rfl) t_u23 t_u5 t_u9) rfl fun _ _ _ h => ?_
           refine gg h rfl rfl (nbF c9) (o_fa rfl t_f25_7 rfl rfl) rfl fun _ _ _ h => ?_
           refine gg h rfl rfl (nbF c9) (o_lfv 4 rfl rfl sSeg_Data rfl Per_sl t_y23) rfl fun v6 _ _ h => ?_
           have g21 := (rd_bs (rd_at 0 rfl) h.mem)
           refine gg h rfl rfl (nbF c9) (o_b2s rfl (rd_at 0 rfl) t_u23 t_u5 t_u9) rfl fun _ _ _ h => ?_
           refine gg h rfl rfl (nbF c9) (o_nes rfl rfl g20 g21) rfl fun _ _ _ h => ?_
           refine gs h (o_pickF rfl rfl c9) rfl fun _ _ _ h => ?_
           refine GoR.done ?_
           exact J1 (!decide (x1.Data = x2.Data)) _ _ (som H).symm (h.wk (by rfl) [8, 9, 5, 7] (by decide) (by rfl))
   ·have H := ifF c2 H
    refine g_f h rfl c2 ?_
    refine Go.exit rfl ?_
    have e_ := som H; subst e_
    exact J2 () _ _ (nx_out i1).symm (h.wk (by rfl) [] (by decide) (by rfl))
  ·exact I_ _ _ (show InR .i64 0 by decide) (h.wk (by rfl) [0, 1] (by decide) (by rfl))
def ref19_Same.g (k_ : Nat) (a1 : List TSeg) (a2 : List TSeg) : Option (Bool) :=
  (if (!decide ((a1.length : Int) = (a2.length : Int))) = true then some (false) else (loopK k_ (fun s1 => (if decide (s1 < (a1.length : Int)) = true then (idx a1 s1).bind fun x1 => (idx a2 s1).bind fun x2 => ((if (!decide (x1.Src = x2.Src)) = true then some (true) else (if (!decide (x1.Dst = x2.Dst)) = true then some (true) else (if (!decide (x1.Seq = x2.Seq)) = true then some (true) else (if (!decide (x1.Ack = x2.Ack)) = true then some (true) else (if (!decide (x1.Flags = x2.Flags)) = true then some (true) else (if (!decide (x1.Win = x2.Win)) = true then some (true) else (if (!decide (x1.Mss = x2.Mss)) = true then some (true) else some ((!decide (x1.Data = x2.Data))))))))))).bind (fun j1 => (if j1 = true then some (.inr (.inr (false))) else lt (IntKind.i64.wrap (s1 + 1)) fun y1 => some (.inl y1))) else some (.inr (.inl (()))))) 0).bind (Sum.elim (fun j2 => some (true)) (fun z_ => some (z_))))
theorem ref19_Same.le (k_ : Nat) (a1 : List TSeg) (a2 : List TSeg) : Le (ref19_Same.g k_ a1 a2) (ref19_Same.f a1 a2) := by
 unfold ref19_Same.g ref19_Same.f
 repeat' (first | with_reducible refine le_loop fun _ => ?_ | with_reducible refine le_bind ?_ fun _ => ?_ | with_reducible refine le_ite ?_ ?_ | with_reducible refine le_lt fun _ => ?_ | with_reducible refine le_elim (fun _ => ?_) (fun _ => ?_) _ | with_reducible exact le_refl _)
/-! drawbridge/seg.Less -/
noncomputable def seg_Less.f (a1 : Int) (a2 : Int) : Option (Bool) :=
  lt (decide (0 < (IntKind.i32.wrap (IntKind.u32.wrap (a2 - a1))))) fun y1 => some (y1)
set_option maxRecDepth 100000 in
set_option maxHeartbeats 4000000 in
theorem seg_Less.spc (a1 : Int) (ha1 : InR .u32 a1) (a2 : Int) (ha2 : InR .u32 a2) (r : Bool) (H : seg_Less.f a1 a2 = some r) : Spc Try.prog 17 [.int .u32 a1, .int .u32 a2] [] [] (fun (s : Unit) => .bool r) (fun s => []) := by
 unfold seg_Less.f at H
 refine Spc.go Try.func17 rfl (by kernel_rfl) rfl rfl all_nil fun F a w h => ?_
 refine Go.seq ?_
 refine Go.reg ?_
 refine gs h (o_assign rfl) rfl fun _ _ _ h => ?_
 refine GoR.done ?_
 refine Go.seq ?_
 refine Go.reg ?_
 refine gs h (o_move rfl) rfl fun _ _ _ h => ?_
 refine gs h (o_move rfl) rfl fun _ _ _ h => ?_
 refine gs h (o_bin rfl rfl rfl) rfl fun _ _ _ h => ?_
 refine gs h (o_conv rfl t_q22 t_u21) rfl fun _ _ _ h => ?_
 refine gs h (o_bin rfl rfl rfl) rfl fun _ _ _ h => ?_
 obtain ⟨y1, ey1, H⟩ := ltE H
 refine gs h (o_assign' rfl (congrArg Value.bool ey1)) rfl fun _ _ _ h => ?_
 refine GoR.done ?_
 rw [← som H]
 exact g_ret (vs := [.bool y1]) h Try.func17 ⟨rfl, trivial⟩ ⟨(), rfl, (h.mem.pick [] (by decide) rfl)⟩
def seg_Less.g (k_ : Nat) (a1 : Int) (a2 : Int) : Option (Bool) :=
  lt (decide (0 < (IntKind.i32.wrap (IntKind.u32.wrap (a2 - a1))))) fun y1 => some (y1)
theorem seg_Less.le (k_ : Nat) (a1 : Int) (a2 : Int) : Le (seg_Less.g k_ a1 a2) (seg_Less.f a1 a2) := by
 unfold seg_Less.g seg_Less.f
 repeat' (first | with_reducible refine le_loop fun _ => ?_ | with_reducible refine le_bind ?_ fun _ => ?_ | with_reducible refine le_ite ?_ ?_ | with_reducible refine le_lt fun _ => ?_ | with_reducible refine le_elim (fun _ => ?_) (fun _ => ?_) _ | with_reducible exact le_refl _)
end Go.Proofs.Ythjaancddmecpaa.S
