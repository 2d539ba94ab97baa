/- Contracts, printed by a program of this session. -/
import Derived.Test.YtaiadolmjmacfaaDoorT1
import Derived.Test.YtaiadolmjmacfaaDoorT2
namespace Go.Proofs.YtaiadolmjmacfaaDoor.S
open Go Go.SL Go.RowKit
set_option linter.unusedVariables false
set_option linter.unusedSimpArgs false
/-! drawbridge/ip.get -/
noncomputable def ip_get.f (a1 : List Int) : Option (TIp × (Option Tfault)) :=
  (if decide ((a1.length : Int) < 20) = true then (ip_no.f 160).bind fun r1 => some (((⟨0, 0, 0, 0, 0, 0, 0, 0, [], []⟩ : TIp), r1)) else (idx a1 0).bind fun x1 => lt (IntKind.i64.wrap ((bits .and .u8 x1 15) * 4)) fun y1 => ((idx a1 0).bind fun x2 => (if (!decide ((ishr .u8 x2 4) = 4)) = true then some (true) else lt (decide (y1 < 20)) fun y2 => some (y2))).bind (fun j1 => (if j1 = true then (ip_no.f 161).bind fun r2 => some (((⟨0, 0, 0, 0, 0, 0, 0, 0, [], []⟩ : TIp), r2)) else lt (decide ((a1.length : Int) < y1)) fun y3 => (if y3 = true then (ip_no.f 160).bind fun r3 => some (((⟨0, 0, 0, 0, 0, 0, 0, 0, [], []⟩ : TIp), r3)) else (cut a1 0 y1).bind fun x3 => (sum_Right.f x3).bind fun r4 => (if (!r4) = true then (ip_no.f 162).bind fun r5 => some (((⟨0, 0, 0, 0, 0, 0, 0, 0, [], []⟩ : TIp), r5)) else (ip_get_1.f 2 2 a1).bind fun r6 => lt (decide (r6 < y1)) fun y4 => (if y4 = true then (ip_no.f 161).bind fun r7 => some (((⟨0, 0, 0, 0, 0, 0, 0, 0, [], []⟩ : TIp), r7)) else lt (decide ((a1.length : Int) < r6)) fun y5 => (if y5 = true then (ip_no.f 160).bind fun r8 => some (((⟨0, 0, 0, 0, 0, 0, 0, 0, [], []⟩ : TIp), r8)) else (ip_get_1.f 1 1 a1).bind fun r9 => (ip_get_1.f 4 2 a1).bind fun r10 => (ip_get_1.f 6 1 a1).bind fun r11 => (ip_get_1.f 6 2 a1).bind fun r12 => (ip_get_1.f 8 1 a1).bind fun r13 => (ip_get_1.f 9 1 a1).bind fun r14 => (ip_get_1.f 12 4 a1).bind fun r15 => (ip_get_1.f 16 4 a1).bind fun r16 => (cut a1 20 y1).bind fun x4 => (slices_Clone_s_byte_byte.f x4).bind fun r17 => (cut a1 y1 r6).bind fun x5 => (slices_Clone_s_byte_byte.f x5).bind fun r18 => lt (⟨r9, r10, ishr .i64 r11 5, bits .and .i64 r12 8191, r13, r14, IntKind.u32.wrap r15, IntKind.u32.wrap r16, r17, []⟩ : TIp) fun y6 => lt (⟨y6.Tos, y6.Id, y6.Flags, y6.Off, y6.Ttl, y6.Proto, y6.Src, y6.Dst, y6.Options, r18⟩ : TIp) fun y7 => some ((y7, none)))))))))
set_option maxRecDepth 100000 in
set_option maxHeartbeats 4000000 in
theorem ip_get.spc (v1 : Value) (a1 : List Int) (r : TIp × (Option Tfault)) (H : ip_get.f a1 = some r) : Spc Tryd.prog 27 [v1] [Val (Kd.sl (Kd.int .u8)) v1 a1] [] (fun (s : Value × Value) => .tuple #[s.1, s.2]) (fun s => [Val KIp s.1 r.1, Val (Kd.erp 74 Kfault) s.2 r.2]) := by
 unfold ip_get.f at H
 refine Spc.go Tryd.func27 rfl (by kernel_rfl) rfl rfl (all_cons (Val.per Per_sl) all_nil) fun F a w h => ?_
 refine Go.seq ?_
 refine Go.reg ?_
 refine gs h (o_box (K := (Kd.sl (Kd.int .u8))) rfl (pv_at Per_sl 0 rfl)) rfl fun b1 _ _ h => ?_
 refine gs h (o_alloc (K := KIp) (z := (.agg #[.int .i64 0, .int .i64 0, .int .i64 0, .int .i64 0, .int .i64 0, .int .i64 0, .int .u32 0, .int .u32 0, .slice none 0 0, .slice none 0 0])) rfl ZIp) rfl fun b2 _ _ h => ?_
 refine gs h (o_assign rfl) rfl fun _ _ _ h => ?_
 refine GoR.done ?_
 refine Go.seq ?_
 refine Go.seq ?_
 refine Go.reg ?_
 refine gs h (o_ldv 1 rfl rfl Per_sl t_y23) rfl fun v2 _ _ h => ?_
 have g1 := (len_at 0 rfl h.mem)
 refine gs h (o_ln rfl (rd_at 0 rfl) t_v23) rfl fun _ _ _ h => ?_
 refine gs h (o_bin rfl rfl rfl) rfl fun _ _ _ h => ?_
 refine GoR.done ?_
 by_cases c1 : decide ((a1.length : Int) < 20) = true
 ·have H := ifT c1 H
  refine g_t h rfl c1 ?_
  refine Go.seq ?_
  refine Go.reg ?_
  refine gs h (o_build (K := KIp) (x := (⟨0, 0, 0, 0, 0, 0, 0, 0, [], []⟩ : TIp)) (ps := []) rfl (zs := zsIp) rfl t_b25 rfl (show PB (Kd.pair (Kd.int .i64) (Kd.pair (Kd.int .i64) (Kd.pair (Kd.int .i64) (Kd.pair (Kd.int .i64) (Kd.pair (Kd.int .i64) (Kd.pair (Kd.int .i64) (Kd.pair (Kd.int .u32) (Kd.pair (Kd.int .u32) (Kd.pair (Kd.sl (Kd.int .u8)) (Kd.last (Kd.sl (Kd.int .u8)))))))))))) (0, 0, 0, 0, 0, 0, 0, 0, [], []) 0 zsIp _ _ from (pb_zero z_int (pb_zero z_int (pb_zero z_int (pb_zero z_int (pb_zero z_int (pb_zero z_int (pb_zero z_int (pb_zero z_int (pb_zero z_sl (pb_lastz z_sl)))))))))))) rfl fun v3 _ _ h => ?_
  obtain ⟨r1, er1, H⟩ := bindE H
  refine gs h (o_call (ip_no.spc 160 (show InR .i64 160 by decide) r1 er1) rfl [] [] (by decide) rfl rfl) rfl fun v4 _ _ h => ?_
  refine gs0 h (o_st 3 rfl rfl rfl (pv_at PIp 1 rfl) rfl t_w25) fun _ _ _ h => ?_
  refine gs h (o_assign rfl) rfl fun _ _ _ h => ?_
  refine GoR.done ?_
  obtain ⟨v5, h, u1⟩ := h.peek 3 rfl PIp t_y25
  rw [← som H]
  exact g_ret (vs := [v5, v4]) h Tryd.func27 ⟨⟨_, rfl, u1⟩, ⟨rfl, trivial⟩⟩ ⟨(v5, v4), rfl, (h.mem.pick [0, 1] (by decide) rfl)⟩
 ·have H := ifF c1 H
  refine g_f h rfl c1 ?_
  refine Go.skip ?_
  refine Go.seq ?_
  refine Go.reg ?_
  refine gs h (o_ldv 2 rfl rfl Per_sl t_y23) rfl fun v6 _ _ h => ?_
  obtain ⟨x1, ex1, H⟩ := bindE H
  refine gs h (o_ix rfl rfl (rd_at 0 rfl) ex1 t_v23) rfl fun _ _ _ h => ?_
  have g2 := (rd_inr (rd_at 0 rfl) ex1 h.mem)
  refine gs h (o_lex rfl (rd_at 0 rfl) ex1 X_int t_y5 (by decide)) rfl fun _ _ _ h => ?_
  refine gs h (o_bin rfl rfl rfl) rfl fun _ _ _ h => ?_
  refine gs h (o_convw rfl t_q5 t_u3 (wrap_in _ _) rfl) rfl fun _ _ _ h => ?_
  refine gs h (o_bin rfl rfl rfl) rfl fun _ _ _ h => ?_
  obtain ⟨y1, ey1, H⟩ := ltE H
  refine gs h (o_assign' rfl (congrArg (fun z => Value.int .i64 z) ey1)) rfl fun _ _ _ h => ?_
  refine GoR.done ?_
  refine Go.seq ?_
  refine Go.block ?_
  refine Go.seq ?_
  obtain ⟨o1, H, G1⟩ := bindE H
  refine g_cut (fun G => ∀ j1 (a : Act) (w : World), o1 = j1 → St Tryd.f27.ntmps F [(1, .pointer (some ⟨b1, 0, none⟩)), (2, .pointer (some ⟨b2, 0, none⟩)), (4, .int .i64 y1), (19, .bool j1)] [Fld KIp b2 0 zIp, Fld (Kd.sl (Kd.int .u8)) b1 0 a1] a w → G a w) 1 ?_ fun J1 => ?_
  ·intro j1 a w ho_ h
   rw [ho_] at G1
   have H := G1
   by_cases c3 : j1 = true
   ·have H := ifT c3 H
    refine g_t h rfl c3 ?_
    refine Go.seq ?_
    refine Go.reg ?_
    refine gs h (o_build (K := KIp) (x := (⟨0, 0, 0, 0, 0, 0, 0, 0, [], []⟩ : TIp)) (ps := []) rfl (zs := zsIp) rfl t_b25 rfl (show PB (Kd.pair (Kd.int .i64) (Kd.pair (Kd.int .i64) (Kd.pair (Kd.int .i64) (Kd.pair (Kd.int .i64) (Kd.pair (Kd.int .i64) (Kd.pair (Kd.int .i64) (Kd.pair (Kd.int .u32) (Kd.pair (Kd.int .u32) (Kd.pair (Kd.sl (Kd.int .u8)) (Kd.last (Kd.sl (Kd.int .u8)))))))))))) (0, 0, 0, 0, 0, 0, 0, 0, [], []) 0 zsIp _ _ from (pb_zero z_int (pb_zero z_int (pb_zero z_int (pb_zero z_int (pb_zero z_int (pb_zero z_int (pb_zero z_int (pb_zero z_int (pb_zero z_sl (pb_lastz z_sl)))))))))))) rfl fun v8 _ _ h => ?_
    obtain ⟨r2, er2, H⟩ := bindE H
    refine gs h (o_call (ip_no.spc 161 (show InR .i64 161 by decide) r2 er2) rfl [] [] (by decide) rfl rfl) rfl fun v9 _ _ h => ?_
    refine gs0 h (o_st 2 rfl rfl rfl (pv_at PIp 1 rfl) rfl t_w25) fun _ _ _ h => ?_
    refine gs h (o_assign rfl) rfl fun _ _ _ h => ?_
    refine GoR.done ?_
    obtain ⟨v10, h, u2⟩ := h.peek 2 rfl PIp t_y25
    rw [← som H]
    exact g_ret (vs := [v10, v9]) h Tryd.func27 ⟨⟨_, rfl, u2⟩, ⟨rfl, trivial⟩⟩ ⟨(v10, v9), rfl, (h.mem.pick [0, 1] (by decide) rfl)⟩
   ·have H := ifF c3 H
    refine g_f h rfl c3 ?_
    refine Go.seq ?_
    refine Go.reg ?_
    refine gs h (o_ldv 1 rfl rfl Per_sl t_y23) rfl fun v11 _ _ h => ?_
    have g4 := (len_at 0 rfl h.mem)
    refine gs h (o_ln rfl (rd_at 0 rfl) t_v23) rfl fun _ _ _ h => ?_
    refine gs h (o_move rfl) rfl fun _ _ _ h => ?_
    refine gs h (o_bin rfl rfl rfl) rfl fun _ _ _ h => ?_
    obtain ⟨y3, ey3, H⟩ := ltE H
    refine gs h (o_assign' rfl (congrArg Value.bool ey3)) rfl fun _ _ _ h => ?_
    refine GoR.done ?_
    by_cases c4 : y3 = true
    ·have H := ifT c4 H
     refine g_t h rfl c4 ?_
     refine Go.seq ?_
     refine Go.reg ?_
     refine gs h (o_build (K := KIp) (x := (⟨0, 0, 0, 0, 0, 0, 0, 0, [], []⟩ : TIp)) (ps := []) rfl (zs := zsIp) rfl t_b25 rfl (show PB (Kd.pair (Kd.int .i64) (Kd.pair (Kd.int .i64) (Kd.pair (Kd.int .i64) (Kd.pair (Kd.int .i64) (Kd.pair (Kd.int .i64) (Kd.pair (Kd.int .i64) (Kd.pair (Kd.int .u32) (Kd.pair (Kd.int .u32) (Kd.pair (Kd.sl (Kd.int .u8)) (Kd.last (Kd.sl (Kd.int .u8)))))))))))) (0, 0, 0, 0, 0, 0, 0, 0, [], []) 0 zsIp _ _ from (pb_zero z_int (pb_zero z_int (pb_zero z_int (pb_zero z_int (pb_zero z_int (pb_zero z_int (pb_zero z_int (pb_zero z_int (pb_zero z_sl (pb_lastz z_sl)))))))))))) rfl fun v12 _ _ h => ?_
     obtain ⟨r3, er3, H⟩ := bindE H
     refine gs h (o_call (ip_no.spc 160 (show InR .i64 160 by decide) r3 er3) rfl [] [] (by decide) rfl rfl) rfl fun v13 _ _ h => ?_
     refine gs0 h (o_st 3 rfl rfl rfl (pv_at PIp 1 rfl) rfl t_w25) fun _ _ _ h => ?_
     refine gs h (o_assign rfl) rfl fun _ _ _ h => ?_
     refine GoR.done ?_
     obtain ⟨v14, h, u3⟩ := h.peek 3 rfl PIp t_y25
     rw [← som H]
     exact g_ret (vs := [v14, v13]) h Tryd.func27 ⟨⟨_, rfl, u3⟩, ⟨rfl, trivial⟩⟩ ⟨(v14, v13), rfl, (h.mem.pick [0, 1] (by decide) rfl)⟩
    ·have H := ifF c4 H
     refine g_f h rfl c4 ?_
     refine Go.seq ?_
     refine Go.reg ?_
     refine gs h (o_ldv 2 rfl rfl Per_sl t_y23) rfl fun v15 _ _ h => ?_
     refine gs h (o_move rfl) rfl fun _ _ _ h => ?_
     obtain ⟨x3, ex3, H⟩ := bindE H
     refine gs h (o_cuth rfl (pv_at Per_sl 0 rfl) rfl ex3 t_v23) rfl fun v16 _ _ h => ?_
     obtain ⟨r4, er4, H⟩ := bindE H
     refine gs h (o_call (sum_Right.spc v16 x3 r4 er4) rfl [0] [] (by decide) rfl rfl) rfl fun _ _ _ h => ?_
     refine gs h (o_not rfl) rfl fun _ _ _ h => ?_
     refine gs h (o_assign rfl) rfl fun _ _ _ h => ?_
     refine GoR.done ?_
     by_cases c5 : (!r4) = true
     ·have H := ifT c5 H
      refine g_t h rfl c5 ?_
      refine Go.seq ?_
      refine Go.reg ?_
      refine gs h (o_build (K := KIp) (x := (⟨0, 0, 0, 0, 0, 0, 0, 0, [], []⟩ : TIp)) (ps := []) rfl (zs := zsIp) rfl t_b25 rfl (show PB (Kd.pair (Kd.int .i64) (Kd.pair (Kd.int .i64) (Kd.pair (Kd.int .i64) (Kd.pair (Kd.int .i64) (Kd.pair (Kd.int .i64) (Kd.pair (Kd.int .i64) (Kd.pair (Kd.int .u32) (Kd.pair (Kd.int .u32) (Kd.pair (Kd.sl (Kd.int .u8)) (Kd.last (Kd.sl (Kd.int .u8)))))))))))) (0, 0, 0, 0, 0, 0, 0, 0, [], []) 0 zsIp _ _ from (pb_zero z_int (pb_zero z_int (pb_zero z_int (pb_zero z_int (pb_zero z_int (pb_zero z_int (pb_zero z_int (pb_zero z_int (pb_zero z_sl (pb_lastz z_sl)))))))))))) rfl fun v17 _ _ h => ?_
      obtain ⟨r5, er5, H⟩ := bindE H
      refine gs h (o_call (ip_no.spc 162 (show InR .i64 162 by decide) r5 er5) rfl [] [] (by decide) rfl rfl) rfl fun v18 _ _ h => ?_
      refine gs0 h (o_st 5 rfl rfl rfl (pv_at PIp 1 rfl) rfl t_w25) fun _ _ _ h => ?_
      refine gs h (o_assign rfl) rfl fun _ _ _ h => ?_
      refine GoR.done ?_
      obtain ⟨v19, h, u4⟩ := h.peek 5 rfl PIp t_y25
      rw [← som H]
      exact g_ret (vs := [v19, v18]) h Tryd.func27 ⟨⟨_, rfl, u4⟩, ⟨rfl, trivial⟩⟩ ⟨(v19, v18), rfl, (h.mem.pick [0, 1] (by decide) rfl)⟩
     ·have H := ifF c5 H
      refine g_f h rfl c5 ?_
      refine Go.skip ?_
      refine Go.inBlock ?_
      refine Go.seq ?_
      refine Go.reg ?_
      refine gs h (o_makeFunc (vs := [.pointer (some ⟨b1, 0, none⟩)]) rfl) rfl fun _ _ _ h => ?_
      refine gs h (o_assign rfl) rfl fun _ _ _ h => ?_
      refine GoR.done ?_
      refine Go.seq ?_
      refine Go.reg ?_
      refine gs h (o_move rfl) rfl fun _ _ _ h => ?_
      replace h := h.mm fun m => m.frz Per_sl 4 rfl
      obtain ⟨r6, er6, H⟩ := bindE H
      refine gs h (o_callv (vs := [.int .i64 2, .int .i64 2]) (caps := [.pointer (some ⟨b1, 0, none⟩)]) rfl rfl (ip_get_1.spc 2 (show InR .i64 2 by decide) 2 (show InR .i64 2 by decide) b1 a1 r6 er6) [4] [] (by decide) rfl rfl) rfl fun _ _ _ h => ?_
      have g5 := h.mem.pur 0 rfl
      refine gs h (o_assign rfl) rfl fun _ _ _ h => ?_
      refine GoR.done ?_
      refine Go.seq ?_
      refine Go.block ?_
      refine Go.seq ?_
      refine Go.reg ?_
      refine gs h (o_move rfl) rfl fun _ _ _ h => ?_
      refine gs h (o_move rfl) rfl fun _ _ _ h => ?_
      refine gs h (o_bin rfl rfl rfl) rfl fun _ _ _ h => ?_
      obtain ⟨y4, ey4, H⟩ := ltE H
      refine gs h (o_assign' rfl (congrArg Value.bool ey4)) rfl fun _ _ _ h => ?_
      refine GoR.done ?_
      by_cases c6 : y4 = true
      ·have H := ifT c6 H
       refine g_t h rfl c6 ?_
       refine Go.seq ?_
       refine Go.reg ?_
       refine gs h (o_build (K := KIp) (x := (⟨0, 0, 0, 0, 0, 0, 0, 0, [], []⟩ : TIp)) (ps := []) rfl (zs := zsIp) rfl t_b25 rfl (show PB (Kd.pair (Kd.int .i64) (Kd.pair (Kd.int .i64) (Kd.pair (Kd.int .i64) (Kd.pair (Kd.int .i64) (Kd.pair (Kd.int .i64) (Kd.pair (Kd.int .i64) (Kd.pair (Kd.int .u32) (Kd.pair (Kd.int .u32) (Kd.pair (Kd.sl (Kd.int .u8)) (Kd.last (Kd.sl (Kd.int .u8)))))))))))) (0, 0, 0, 0, 0, 0, 0, 0, [], []) 0 zsIp _ _ from (pb_zero z_int (pb_zero z_int (pb_zero z_int (pb_zero z_int (pb_zero z_int (pb_zero z_int (pb_zero z_int (pb_zero z_int (pb_zero z_sl (pb_lastz z_sl)))))))))))) rfl fun v20 _ _ h => ?_
       obtain ⟨r7, er7, H⟩ := bindE H
       refine gs h (o_call (ip_no.spc 161 (show InR .i64 161 by decide) r7 er7) rfl [] [] (by decide) rfl rfl) rfl fun v21 _ _ h => ?_
       refine gs0 h (o_st 6 rfl rfl rfl (pv_at PIp 1 rfl) rfl t_w25) fun _ _ _ h => ?_
       refine gs h (o_assign rfl) rfl fun _ _ _ h => ?_
       refine GoR.done ?_
       obtain ⟨v22, h, u5⟩ := h.peek 6 rfl PIp t_y25
       rw [← som H]
       exact g_ret (vs := [v22, v21]) h Tryd.func27 ⟨⟨_, rfl, u5⟩, ⟨rfl, trivial⟩⟩ ⟨(v22, v21), rfl, (h.mem.pick [0, 1] (by decide) rfl)⟩
      ·have H := ifF c6 H
       refine g_f h rfl c6 ?_
       refine Go.seq ?_
       refine Go.reg ?_
       refine gs h (p_lfv 5 rfl rfl sub_self rfl t_y23) rfl fun v23 _ _ h => ?_
       have g6 := (len_at 0 rfl h.mem)
       refine gs h (o_ln rfl (rd_at 0 rfl) t_v23) rfl fun _ _ _ h => ?_
       refine gs h (o_move rfl) rfl fun _ _ _ h => ?_
       refine gs h (o_bin rfl rfl rfl) rfl fun _ _ _ h => ?_
       obtain ⟨y5, ey5, H⟩ := ltE H
       refine gs h (o_assign' rfl (congrArg Value.bool ey5)) rfl fun _ _ _ h => ?_
       refine GoR.done ?_
       by_cases c7 : y5 = true
       ·have H := ifT c7 H
        refine g_t h rfl c7 ?_
        refine Go.seq ?_
        refine Go.reg ?_
        refine gs h (o_build (K := KIp) (x := (⟨0, 0, 0, 0, 0, 0, 0, 0, [], []⟩ : TIp)) (ps := []) rfl (zs := zsIp) rfl t_b25 rfl (show PB (Kd.pair (Kd.int .i64) (Kd.pair (Kd.int .i64) (Kd.pair (Kd.int .i64) (Kd.pair (Kd.int .i64) (Kd.pair (Kd.int .i64) (Kd.pair (Kd.int .i64) (Kd.pair (Kd.int .u32) (Kd.pair (Kd.int .u32) (Kd.pair (Kd.sl (Kd.int .u8)) (Kd.last (Kd.sl (Kd.int .u8)))))))))))) (0, 0, 0, 0, 0, 0, 0, 0, [], []) 0 zsIp _ _ from (pb_zero z_int (pb_zero z_int (pb_zero z_int (pb_zero z_int (pb_zero z_int (pb_zero z_int (pb_zero z_int (pb_zero z_int (pb_zero z_sl (pb_lastz z_sl)))))))))))) rfl fun v24 _ _ h => ?_
        obtain ⟨r8, er8, H⟩ := bindE H
        refine gs h (o_call (ip_no.spc 160 (show InR .i64 160 by decide) r8 er8) rfl [] [] (by decide) rfl rfl) rfl fun v25 _ _ h => ?_
        refine gs0 h (o_st 7 rfl rfl rfl (pv_at PIp 1 rfl) rfl t_w25) fun _ _ _ h => ?_
        refine gs h (o_assign rfl) rfl fun _ _ _ h => ?_
        refine GoR.done ?_
        obtain ⟨v26, h, u6⟩ := h.peek 7 rfl PIp t_y25
        rw [← som H]
        exact g_ret (vs := [v26, v25]) h Tryd.func27 ⟨⟨_, rfl, u6⟩, ⟨rfl, trivial⟩⟩ ⟨(v26, v25), rfl, (h.mem.pick [0, 1] (by decide) rfl)⟩
       ·have H := ifF c7 H
        refine g_f h rfl c7 ?_
        refine Go.skip ?_
        refine Go.inBlock ?_
        refine Go.seq ?_
        refine Go.reg ?_
        refine gs h (o_move rfl) rfl fun _ _ _ h => ?_
        obtain ⟨r9, er9, H⟩ := bindE H
        refine gs h (o_callv (vs := [.int .i64 1, .int .i64 1]) (caps := [.pointer (some ⟨b1, 0, none⟩)]) rfl rfl (ip_get_1.spc 1 (show InR .i64 1 by decide) 1 (show InR .i64 1 by decide) b1 a1 r9 er9) [6] [] (by decide) rfl rfl) rfl fun _ _ _ h => ?_
        have g7 := h.mem.pur 0 rfl
        refine gs h (o_move rfl) rfl fun _ _ _ h => ?_
        obtain ⟨r10, er10, H⟩ := bindE H
        refine gs h (o_callv (vs := [.int .i64 4, .int .i64 2]) (caps := [.pointer (some ⟨b1, 0, none⟩)]) rfl rfl (ip_get_1.spc 4 (show InR .i64 4 by decide) 2 (show InR .i64 2 by decide) b1 a1 r10 er10) [7] [] (by decide) rfl rfl) rfl fun _ _ _ h => ?_
        have g8 := h.mem.pur 0 rfl
        refine gs h (o_move rfl) rfl fun _ _ _ h => ?_
        obtain ⟨r11, er11, H⟩ := bindE H
        refine gs h (o_callv (vs := [.int .i64 6, .int .i64 1]) (caps := [.pointer (some ⟨b1, 0, none⟩)]) rfl rfl (ip_get_1.spc 6 (show InR .i64 6 by decide) 1 (show InR .i64 1 by decide) b1 a1 r11 er11) [8] [] (by decide) rfl rfl) rfl fun _ _ _ h => ?_
        have g9 := h.mem.pur 0 rfl
        refine gs h (o_shr rfl rfl (show (0 : Int) ≤ 5 by decide)) rfl fun _ _ _ h => ?_
        refine gs h (o_move rfl) rfl fun _ _ _ h => ?_
        obtain ⟨r12, er12, H⟩ := bindE H
        refine gs h (o_callv (vs := [.int .i64 6, .int .i64 2]) (caps := [.pointer (some ⟨b1, 0, none⟩)]) rfl rfl (ip_get_1.spc 6 (show InR .i64 6 by decide) 2 (show InR .i64 2 by decide) b1 a1 r12 er12) [9] [] (by decide) rfl rfl) rfl fun _ _ _ h => ?_
        have g10 := h.mem.pur 0 rfl
        refine gs h (o_bin rfl rfl rfl) rfl fun _ _ _ h => ?_
        refine gs h (o_move rfl) rfl fun _ _ _ h => ?_
        obtain ⟨r13, er13, H⟩ := bindE H
        refine gs h (o_callv (vs := [.int .i64 8, .int .i64 1]) (caps := [.pointer (some ⟨b1, 0, none⟩)]) rfl rfl (ip_get_1.spc 8 (show InR .i64 8 by decide) 1 (show InR .i64 1 by decide) b1 a1 r13 er13) [10] [] (by decide) rfl rfl) rfl fun _ _ _ h => ?_
        have g11 := h.mem.pur 0 rfl
        refine gs h (o_move rfl) rfl fun _ _ _ h => ?_
        obtain ⟨r14, er14, H⟩ := bindE H
        refine gs h (o_callv (vs := [.int .i64 9, .int .i64 1]) (caps := [.pointer (some ⟨b1, 0, none⟩)]) rfl rfl (ip_get_1.spc 9 (show InR .i64 9 by decide) 1 (show InR .i64 1 by decide) b1 a1 r14 er14) [11] [] (by decide) rfl rfl) rfl fun _ _ _ h => ?_
        have g12 := h.mem.pur 0 rfl
        refine gs h (o_move rfl) rfl fun _ _ _ h => ?_
        obtain ⟨r15, er15, H⟩ := bindE H
        refine gs h (o_callv (vs := [.int .i64 12, .int .i64 4]) (caps := [.pointer (some ⟨b1, 0, none⟩)]) rfl rfl (ip_get_1.spc 12 (show InR .i64 12 by decide) 4 (show InR .i64 4 by decide) b1 a1 r15 er15) [12] [] (by decide) rfl rfl) rfl fun _ _ _ h => ?_
        have g13 := h.mem.pur 0 rfl
        refine gs h (o_conv rfl t_q3 t_u22) rfl fun _ _ _ h => ?_
        refine gs h (o_move rfl) rfl fun _ _ _ h => ?_
        obtain ⟨r16, er16, H⟩ := bindE H
        refine gs h (o_callv (vs := [.int .i64 16, .int .i64 4]) (caps := [.pointer (some ⟨b1, 0, none⟩)]) rfl rfl (ip_get_1.spc 16 (show InR .i64 16 by decide) 4 (show InR .i64 4 by decide) b1 a1 r16 er16) [13] [] (by decide) rfl rfl) rfl fun _ _ _ h => ?_
        have g14 := h.mem.pur 0 rfl
        refine gs h (o_conv rfl t_q3 t_u22) rfl fun _ _ _ h => ?_
        refine gs h (o_build (K := KIp) (x := (⟨r9, r10, ishr .i64 r11 5, bits .and .i64 r12 8191, r13, r14, IntKind.u32.wrap r15, IntKind.u32.wrap r16, [], []⟩ : TIp)) (ps := [(0, .int .i64 r9), (1, .int .i64 r10), (2, .int .i64 (ishr .i64 r11 5)), (3, .int .i64 (bits .and .i64 r12 8191)), (4, .int .i64 r13), (5, .int .i64 r14), (6, .int .u32 (IntKind.u32.wrap r15)), (7, .int .u32 (IntKind.u32.wrap r16))]) rfl (zs := zsIp) rfl t_b25 rfl (show PB (Kd.pair (Kd.int .i64) (Kd.pair (Kd.int .i64) (Kd.pair (Kd.int .i64) (Kd.pair (Kd.int .i64) (Kd.pair (Kd.int .i64) (Kd.pair (Kd.int .i64) (Kd.pair (Kd.int .u32) (Kd.pair (Kd.int .u32) (Kd.pair (Kd.sl (Kd.int .u8)) (Kd.last (Kd.sl (Kd.int .u8)))))))))))) (r9, r10, ishr .i64 r11 5, bits .and .i64 r12 8191, r13, r14, IntKind.u32.wrap r15, IntKind.u32.wrap r16, [], []) 0 zsIp _ _ from (pb_part (pv_int g7) rfl (pb_part (pv_int g8) rfl (pb_part (pv_int (inr_shr g9)) rfl (pb_part (pv_int (wrap_in _ _)) rfl (pb_part (pv_int g11) rfl (pb_part (pv_int g12) rfl (pb_part (pv_int (wrap_in _ _)) rfl (pb_part (pv_int (wrap_in _ _)) rfl (pb_zero z_sl (pb_lastz z_sl)))))))))))) rfl fun v27 _ _ h => ?_
        refine gs h (o_alloc (K := KIp) (z := (.agg #[.int .i64 0, .int .i64 0, .int .i64 0, .int .i64 0, .int .i64 0, .int .i64 0, .int .u32 0, .int .u32 0, .slice none 0 0, .slice none 0 0])) rfl ZIp) rfl fun b3 _ _ h => ?_
        refine gs0 h (o_st 0 rfl rfl rfl (pv_at PIp 1 rfl) rfl t_w25) fun _ _ _ h => ?_
        refine GoR.done ?_
        refine Go.seq ?_
        replace h := h.wk (E' := [(1, .pointer (some ⟨b1, 0, none⟩)), (2, .pointer (some ⟨b2, 0, none⟩)), (4, .int .i64 y1), (6, .int .i64 r6), (7, .pointer (some ⟨b3, 0, none⟩))]) (L' := [Fld KIp b3 0 (⟨r9, r10, ishr .i64 r11 5, bits .and .i64 r12 8191, r13, r14, IntKind.u32.wrap r15, IntKind.u32.wrap r16, [], []⟩ : TIp), Val KIp v27 (⟨r9, r10, ishr .i64 r11 5, bits .and .i64 r12 8191, r13, r14, IntKind.u32.wrap r15, IntKind.u32.wrap r16, [], []⟩ : TIp), Ent.pur (InR .i64 r16), Ent.pur (InR .i64 r15), Ent.pur (InR .i64 r14), Ent.pur (InR .i64 r13), Ent.pur (InR .i64 r12), Ent.pur (InR .i64 r11), Ent.pur (InR .i64 r10), Ent.pur (InR .i64 r9), Val (Kd.sl (Kd.int .u8)) v23 a1, Ent.pur (InR .i64 r6), Val (Kd.sl (Kd.int .u8)) v16 x3, Val (Kd.sl (Kd.int .u8)) v15 a1, Val (Kd.sl (Kd.int .u8)) v11 a1, Fld KIp b2 0 zIp, Pfl (Kd.sl (Kd.int .u8)) b1 0 a1]) (by rfl) [0, 1, 2, 3, 4, 5, 6, 7, 8, 9, 10, 11, 12, 13, 14, 15, 16] (by decide) (by rfl)
        obtain ⟨x4, ex4, H⟩ := bindE H
        obtain ⟨r17, er17, H⟩ := bindE H
        obtain ⟨x5, ex5, H⟩ := bindE H
        obtain ⟨r18, er18, H⟩ := bindE H
        refine Go.draw (E := [(1, .pointer (some ⟨b1, 0, none⟩)), (2, .pointer (some ⟨b2, 0, none⟩)), (4, .int .i64 y1), (6, .int .i64 r6), (7, .pointer (some ⟨b3, 0, none⟩))]) [] (L := [Fld KIp b3 0 (⟨r9, r10, ishr .i64 r11 5, bits .and .i64 r12 8191, r13, r14, IntKind.u32.wrap r15, IntKind.u32.wrap r16, [], []⟩ : TIp), Val KIp v27 (⟨r9, r10, ishr .i64 r11 5, bits .and .i64 r12 8191, r13, r14, IntKind.u32.wrap r15, IntKind.u32.wrap r16, [], []⟩ : TIp), Ent.pur (InR .i64 r16), Ent.pur (InR .i64 r15), Ent.pur (InR .i64 r14), Ent.pur (InR .i64 r13), Ent.pur (InR .i64 r12), Ent.pur (InR .i64 r11), Ent.pur (InR .i64 r10), Ent.pur (InR .i64 r9), Val (Kd.sl (Kd.int .u8)) v23 a1, Ent.pur (InR .i64 r6), Val (Kd.sl (Kd.int .u8)) v16 x3, Val (Kd.sl (Kd.int .u8)) v15 a1, Val (Kd.sl (Kd.int .u8)) v11 a1, Fld KIp b2 0 zIp, Pfl (Kd.sl (Kd.int .u8)) b1 0 a1]) h rfl rfl 12 [⟨[], [], [], false, .own, none, fun u => [Val (Kd.sl (Kd.int .u8)) u a1], []⟩, ⟨[], [], [], false, .con (.int .i64 y1), none, fun u => [], []⟩, ⟨[], [], [], false, .con (.int .i64 y1), none, fun u => [], []⟩, ⟨[0, 1, 2], [0], [], false, .own, none, fun u => [Val (Kd.sl (Kd.int .u8)) u x4], []⟩, ⟨[0, 1, 2, 3], [3], [], false, .own, none, fun u => [Val (Kd.osl (Kd.int .u8)) u r17], []⟩, ⟨[], [], [], false, .own, none, fun u => [Val (Kd.sl (Kd.int .u8)) u a1], []⟩, ⟨[], [], [], false, .con (.int .i64 y1), none, fun u => [], []⟩, ⟨[], [], [], false, .con (.int .i64 r6), none, fun u => [], []⟩, ⟨[], [], [], false, .con (.int .i64 r6), none, fun u => [], []⟩, ⟨[5, 6, 7, 8], [5], [], false, .own, none, fun u => [Val (Kd.sl (Kd.int .u8)) u x5], []⟩, ⟨[5, 6, 7, 8, 9], [9], [], false, .own, none, fun u => [Val (Kd.osl (Kd.int .u8)) u r18], []⟩, ⟨[], [], [], false, .con (.pointer (some ⟨b3, 8, none⟩)), none, fun u => [], []⟩] rfl t_mxo (by kernel_rfl) (by rfl) ?_ fun f1 _ _ h => ?_
        ·exact obs_cons (ob_own rfl (gok_none rfl) rfl fun f1 => (p_lfv 16 rfl rfl sub_self rfl t_y23)) (obs_cons (ob_con rfl (gok_none rfl) rfl fun f1 => (o_move rfl)) (obs_cons (ob_con rfl (gok_none rfl) rfl fun f1 => (o_move rfl)) (obs_cons (ob_own rfl (gok_none rfl) rfl fun f1 => (o_cut3 rfl (pv_at Per_sl 0 rfl) rfl rfl rfl ex4 t_v23)) (obs_cons (ob_own rfl (gok_none rfl) rfl fun f1 => (o_call (slices_Clone_s_byte_byte.spc (f1 3) x4 r17 er17) rfl [0] [] (by decide) rfl rfl)) (obs_cons (ob_own rfl (gok_none rfl) rfl fun f1 => (p_lfv 16 rfl rfl sub_self rfl t_y23)) (obs_cons (ob_con rfl (gok_none rfl) rfl fun f1 => (o_move rfl)) (obs_cons (ob_con rfl (gok_none rfl) rfl fun f1 => (o_move rfl)) (obs_cons (ob_con rfl (gok_none rfl) rfl fun f1 => (o_move rfl)) (obs_cons (ob_own rfl (gok_none rfl) rfl fun f1 => (o_cut3 rfl (pv_at Per_sl 0 rfl) rfl rfl rfl ex5 t_v23)) (obs_cons (ob_own rfl (gok_none rfl) rfl fun f1 => (o_call (slices_Clone_s_byte_byte.spc (f1 9) x5 r18 er18) rfl [0] [] (by decide) rfl rfl)) (obs_cons (ob_con rfl (gok_none rfl) rfl fun f1 => (o_fa rfl t_f25_8 rfl rfl)) (obs_nil))))))))))))
        replace h := h.wk (E' := [(2, .pointer (some ⟨b2, 0, none⟩)), (7, .pointer (some ⟨b3, 0, none⟩)), (87, (f1 4)), (93, (f1 10)), (94, .pointer (some ⟨b3, 8, none⟩))]) (L' := [Val (Kd.sl (Kd.int .u8)) (f1 0) a1, Val (Kd.sl (Kd.int .u8)) (f1 3) x4, Val (Kd.osl (Kd.int .u8)) (f1 4) r17, Val (Kd.sl (Kd.int .u8)) (f1 5) a1, Val (Kd.sl (Kd.int .u8)) (f1 9) x5, Val (Kd.osl (Kd.int .u8)) (f1 10) r18, Fld KIp b3 0 (⟨r9, r10, ishr .i64 r11 5, bits .and .i64 r12 8191, r13, r14, IntKind.u32.wrap r15, IntKind.u32.wrap r16, [], []⟩ : TIp), Val KIp v27 (⟨r9, r10, ishr .i64 r11 5, bits .and .i64 r12 8191, r13, r14, IntKind.u32.wrap r15, IntKind.u32.wrap r16, [], []⟩ : TIp), Ent.pur (InR .i64 r16), Ent.pur (InR .i64 r15), Ent.pur (InR .i64 r14), Ent.pur (InR .i64 r13), Ent.pur (InR .i64 r12), Ent.pur (InR .i64 r11), Ent.pur (InR .i64 r10), Ent.pur (InR .i64 r9), Val (Kd.sl (Kd.int .u8)) v23 a1, Ent.pur (InR .i64 r6), Val (Kd.sl (Kd.int .u8)) v16 x3, Val (Kd.sl (Kd.int .u8)) v15 a1, Val (Kd.sl (Kd.int .u8)) v11 a1, Fld KIp b2 0 zIp, Pfl (Kd.sl (Kd.int .u8)) b1 0 a1]) (by kernel_rfl) [0, 1, 2, 3, 4, 5, 6, 7, 8, 9, 10, 11, 12, 13, 14, 15, 16, 17, 18, 19, 20, 21, 22] (by decide) (by kernel_rfl)
        replace h := h.mm fun m => m.freeze 2 rfl
        obtain ⟨y6, ey6, H⟩ := ltE H
        refine gs0 h (o_stp (x0 := (⟨r9, r10, ishr .i64 r11 5, bits .and .i64 r12 8191, r13, r14, IntKind.u32.wrap r15, IntKind.u32.wrap r16, [], []⟩ : TIp)) (y := r17) 6 t_uIp_8_1 rfl rfl rfl rfl (pv_at Per_sl 2 rfl) t_w23) fun _ _ _ h => ?_
        rw [ey6] at h
        refine gs h (o_fa rfl t_f25_9 rfl rfl) rfl fun _ _ _ h => ?_
        replace h := h.mm fun m => m.freeze 5 rfl
        obtain ⟨y7, ey7, H⟩ := ltE H
        refine gs0 h (o_stp (x0 := y6) (y := r18) 6 t_uIp_9_1 rfl rfl rfl rfl (pv_at Per_sl 5 rfl) t_w23) fun _ _ _ h => ?_
        rw [ey7] at h
        refine GoR.done ?_
        refine Go.seq ?_
        refine Go.reg ?_
        refine gs h (o_ldv 6 rfl rfl PIp t_y25) rfl fun v34 _ _ h => ?_
        refine gs0 h (o_st 22 rfl rfl rfl (pv_at PIp 0 rfl) rfl t_w25) fun _ _ _ h => ?_
        refine gs h (o_assign rfl) rfl fun _ _ _ h => ?_
        refine GoR.done ?_
        obtain ⟨v35, h, u7⟩ := h.peek 22 rfl PIp t_y25
        replace h := h.mm fun m => (pv_ern (T := 74) (K := Kfault)).ent m
        rw [← som H]
        exact g_ret (vs := [v35, .nilIface]) h Tryd.func27 ⟨⟨_, rfl, u7⟩, ⟨rfl, trivial⟩⟩ ⟨(v35, .nilIface), rfl, (h.mem.pick [1, 0] (by decide) rfl)⟩
  refine Go.reg ?_
  refine gs h (o_ldv 3 rfl rfl Per_sl t_y23) rfl fun v7 _ _ h => ?_
  obtain ⟨x2, ex2, H⟩ := bindE H
  refine gs h (o_ix rfl rfl (rd_at 0 rfl) ex2 t_v23) rfl fun _ _ _ h => ?_
  have g3 := (rd_inr (rd_at 0 rfl) ex2 h.mem)
  refine gs h (o_lex rfl (rd_at 0 rfl) ex2 X_int t_y5 (by decide)) rfl fun _ _ _ h => ?_
  refine gs h (o_shr rfl rfl (show (0 : Int) ≤ 4 by decide)) rfl fun _ _ _ h => ?_
  refine gs h (o_bin rfl rfl rfl) rfl fun _ _ _ h => ?_
  refine gs h (o_move rfl) rfl fun _ _ _ h => ?_
  by_cases c2 : (!decide ((ishr .u8 x2 4) = 4)) = true
  ·have H := ifT c2 H
   refine gk h rfl rfl (nb_t c2) rfl fun _ h => ?_
   refine gk h rfl rfl (nb_t c2) rfl fun _ h => ?_
   refine gs h (o_pickT rfl rfl c2) rfl fun _ _ _ h => ?_
   refine gs h (o_assign rfl) rfl fun _ _ _ h => ?_
   refine GoR.done ?_
   exact J1 true _ _ (som H).symm (h.wk (by rfl) [3, 4] (by decide) (by rfl))
  ·have H := ifF c2 H
   refine gg h rfl rfl (nbF c2) (o_move rfl) rfl fun _ _ _ h => ?_
   refine gg h rfl rfl (nbF c2) (o_bin rfl rfl rfl) rfl fun _ _ _ h => ?_
   refine gs h (o_pickF rfl rfl c2) rfl fun _ _ _ h => ?_
   obtain ⟨y2, ey2, H⟩ := ltE H
   refine gs h (o_assign' rfl (congrArg Value.bool ey2)) rfl fun _ _ _ h => ?_
   refine GoR.done ?_
   exact J1 y2 _ _ (som H).symm (h.wk (by rfl) [3, 4] (by decide) (by rfl))
def ip_get.g (k_ : Nat) (a1 : List Int) : Option (TIp × (Option Tfault)) :=
  (if decide ((a1.length : Int) < 20) = true then (ip_no.g k_ 160).bind fun r1 => some (((⟨0, 0, 0, 0, 0, 0, 0, 0, [], []⟩ : TIp), r1)) else (idx a1 0).bind fun x1 => lt (IntKind.i64.wrap ((bits .and .u8 x1 15) * 4)) fun y1 => ((idx a1 0).bind fun x2 => (if (!decide ((ishr .u8 x2 4) = 4)) = true then some (true) else lt (decide (y1 < 20)) fun y2 => some (y2))).bind (fun j1 => (if j1 = true then (ip_no.g k_ 161).bind fun r2 => some (((⟨0, 0, 0, 0, 0, 0, 0, 0, [], []⟩ : TIp), r2)) else lt (decide ((a1.length : Int) < y1)) fun y3 => (if y3 = true then (ip_no.g k_ 160).bind fun r3 => some (((⟨0, 0, 0, 0, 0, 0, 0, 0, [], []⟩ : TIp), r3)) else (cut a1 0 y1).bind fun x3 => (sum_Right.g k_ x3).bind fun r4 => (if (!r4) = true then (ip_no.g k_ 162).bind fun r5 => some (((⟨0, 0, 0, 0, 0, 0, 0, 0, [], []⟩ : TIp), r5)) else (ip_get_1.g k_ 2 2 a1).bind fun r6 => lt (decide (r6 < y1)) fun y4 => (if y4 = true then (ip_no.g k_ 161).bind fun r7 => some (((⟨0, 0, 0, 0, 0, 0, 0, 0, [], []⟩ : TIp), r7)) else lt (decide ((a1.length : Int) < r6)) fun y5 => (if y5 = true then (ip_no.g k_ 160).bind fun r8 => some (((⟨0, 0, 0, 0, 0, 0, 0, 0, [], []⟩ : TIp), r8)) else (ip_get_1.g k_ 1 1 a1).bind fun r9 => (ip_get_1.g k_ 4 2 a1).bind fun r10 => (ip_get_1.g k_ 6 1 a1).bind fun r11 => (ip_get_1.g k_ 6 2 a1).bind fun r12 => (ip_get_1.g k_ 8 1 a1).bind fun r13 => (ip_get_1.g k_ 9 1 a1).bind fun r14 => (ip_get_1.g k_ 12 4 a1).bind fun r15 => (ip_get_1.g k_ 16 4 a1).bind fun r16 => (cut a1 20 y1).bind fun x4 => (slices_Clone_s_byte_byte.g k_ x4).bind fun r17 => (cut a1 y1 r6).bind fun x5 => (slices_Clone_s_byte_byte.g k_ x5).bind fun r18 => lt (⟨r9, r10, ishr .i64 r11 5, bits .and .i64 r12 8191, r13, r14, IntKind.u32.wrap r15, IntKind.u32.wrap r16, r17, []⟩ : TIp) fun y6 => lt (⟨y6.Tos, y6.Id, y6.Flags, y6.Off, y6.Ttl, y6.Proto, y6.Src, y6.Dst, y6.Options, r18⟩ : TIp) fun y7 => some ((y7, none)))))))))
theorem ip_get.le (k_ : Nat) (a1 : List Int) : Le (ip_get.g k_ a1) (ip_get.f a1) := by
 unfold ip_get.g ip_get.f
 repeat' (first | with_reducible refine le_loop fun _ => ?_ | with_reducible refine le_bind ?_ fun _ => ?_ | with_reducible refine le_ite ?_ ?_ | with_reducible refine le_lt fun _ => ?_ | with_reducible refine le_elim (fun _ => ?_) (fun _ => ?_) _ | with_reducible apply ip_get_1.le | with_reducible apply ip_no.le | with_reducible apply slices_Clone_s_byte_byte.le | with_reducible apply sum_Right.le | with_reducible exact le_refl _)
end Go.Proofs.YtaiadolmjmacfaaDoor.S
