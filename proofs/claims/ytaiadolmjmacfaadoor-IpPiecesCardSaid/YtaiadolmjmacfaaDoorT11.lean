/- Contracts, printed by a program of this session. -/
import Derived.Test.YtaiadolmjmacfaaDoorT10
namespace Go.Proofs.YtaiadolmjmacfaaDoor.S
open Go Go.SL Go.RowKit
set_option linter.unusedVariables false
set_option linter.unusedSimpArgs false
/-! drawbridge/drawbridgeref17.Get -/
noncomputable def ref17_Get.f (a1 : List Int) : Option (TIp × Int) :=
  (if decide ((a1.length : Int) < 20) = true then some (((⟨0, 0, 0, 0, 0, 0, 0, 0, [], []⟩ : TIp), 160)) else (idx a1 0).bind fun x1 => lt (IntKind.i64.wrap ((Int.tmod x1 16) * 4)) fun y1 => ((idx a1 0).bind fun x2 => (if (!decide ((IntKind.u8.wrap (Int.tdiv x2 16)) = 4)) = true then some (true) else some (decide (y1 < 20)))).bind (fun j1 => (if j1 = true then some (((⟨0, 0, 0, 0, 0, 0, 0, 0, [], []⟩ : TIp), 161)) else (if decide ((a1.length : Int) < y1) = true then some (((⟨0, 0, 0, 0, 0, 0, 0, 0, [], []⟩ : TIp), 160)) else (cut a1 0 y1).bind fun x3 => (ref15_Right.f x3).bind fun r1 => (if (!r1) = true then some (((⟨0, 0, 0, 0, 0, 0, 0, 0, [], []⟩ : TIp), 162)) else (cut a1 2 4).bind fun x4 => (ref17_number.f x4).bind fun r2 => (if decide (r2 < y1) = true then some (((⟨0, 0, 0, 0, 0, 0, 0, 0, [], []⟩ : TIp), 161)) else (if decide ((a1.length : Int) < r2) = true then some (((⟨0, 0, 0, 0, 0, 0, 0, 0, [], []⟩ : TIp), 160)) else (cut a1 6 8).bind fun x5 => (ref17_number.f x5).bind fun r3 => (idx a1 1).bind fun x6 => (cut a1 4 6).bind fun x7 => (ref17_number.f x7).bind fun r4 => (idx a1 8).bind fun x8 => (idx a1 9).bind fun x9 => (cut a1 12 16).bind fun x10 => (ref17_number.f x10).bind fun r5 => (cut a1 16 20).bind fun x11 => (ref17_number.f x11).bind fun r6 => (cut a1 20 y1).bind fun x12 => (app ([] : List Int) x12).bind fun x13 => lt (⟨x6, r4, IntKind.i64.wrap (Int.tdiv r3 8192), Int.tmod r3 8192, x8, x9, IntKind.u32.wrap r5, IntKind.u32.wrap r6, x13, []⟩ : TIp) fun y2 => (cut a1 y1 r2).bind fun x14 => (app ([] : List Int) x14).bind fun x15 => lt (⟨y2.Tos, y2.Id, y2.Flags, y2.Off, y2.Ttl, y2.Proto, y2.Src, y2.Dst, y2.Options, x15⟩ : TIp) fun y3 => some ((y3, 0)))))))))
set_option maxRecDepth 100000 in
set_option maxHeartbeats 4000000 in
theorem ref17_Get.spc (v1 : Value) (a1 : List Int) (r : TIp × Int) (H : ref17_Get.f a1 = some r) : Spc Tryd.prog 11 [v1] [Val (Kd.sl (Kd.int .u8)) v1 a1] [] (fun (s : Value) => .tuple #[s, .int .i64 r.2]) (fun s => [Ent.pur (InR .i64 r.2), Val KIp s r.1]) := by
 unfold ref17_Get.f at H
 refine Spc.go Tryd.func11 rfl (by kernel_rfl) rfl rfl (all_cons (Val.per Per_sl) all_nil) fun F a w h => ?_
 refine Go.seq ?_
 refine Go.reg ?_
 refine gs h (o_alloc (K := KIp) (z := (.agg #[.int .i64 0, .int .i64 0, .int .i64 0, .int .i64 0, .int .i64 0, .int .i64 0, .int .u32 0, .int .u32 0, .slice none 0 0, .slice none 0 0])) rfl ZIp) rfl fun b1 _ _ h => ?_
 refine gs h (o_assign rfl) rfl fun _ _ _ h => ?_
 refine GoR.done ?_
 refine Go.seq ?_
 refine Go.seq ?_
 refine Go.reg ?_
 refine gs h (o_move rfl) rfl fun _ _ _ h => ?_
 have g1 := (len_at 1 rfl h.mem)
 refine gs h (o_ln rfl (rd_at 1 rfl) t_v23) rfl fun _ _ _ h => ?_
 refine gs h (o_bin rfl rfl rfl) rfl fun _ _ _ h => ?_
 refine GoR.done ?_
 by_cases c1 : decide ((a1.length : Int) < 20) = true
 ·have H := ifT c1 H
  refine g_t h rfl c1 ?_
  refine Go.seq ?_
  refine Go.reg ?_
  refine gs h (o_build (K := KIp) (x := (⟨0, 0, 0, 0, 0, 0, 0, 0, [], []⟩ : TIp)) (ps := []) rfl (zs := zsIp) rfl t_b25 rfl (show PB (Kd.pair (Kd.int .i64) (Kd.pair (Kd.int .i64) (Kd.pair (Kd.int .i64) (Kd.pair (Kd.int .i64) (Kd.pair (Kd.int .i64) (Kd.pair (Kd.int .i64) (Kd.pair (Kd.int .u32) (Kd.pair (Kd.int .u32) (Kd.pair (Kd.sl (Kd.int .u8)) (Kd.last (Kd.sl (Kd.int .u8)))))))))))) (0, 0, 0, 0, 0, 0, 0, 0, [], []) 0 zsIp _ _ from (pb_zero z_int (pb_zero z_int (pb_zero z_int (pb_zero z_int (pb_zero z_int (pb_zero z_int (pb_zero z_int (pb_zero z_int (pb_zero z_sl (pb_lastz z_sl)))))))))))) rfl fun v2 _ _ h => ?_
  refine gs0 h (o_st 1 rfl rfl rfl (pv_at PIp 0 rfl) rfl t_w25) fun _ _ _ h => ?_
  refine gs h (o_assign rfl) rfl fun _ _ _ h => ?_
  refine GoR.done ?_
  obtain ⟨v3, h, u1⟩ := h.peek 1 rfl PIp t_y25
  rw [← som H]
  exact g_ret (vs := [v3, .int .i64 160]) h Tryd.func11 ⟨⟨_, rfl, u1⟩, ⟨rfl, trivial⟩⟩ ⟨v3, rfl, ((h.mem.pick [0] (by decide) rfl).addpur (show InR .i64 160 by decide))⟩
 ·have H := ifF c1 H
  refine g_f h rfl c1 ?_
  refine Go.skip ?_
  refine Go.seq ?_
  refine Go.reg ?_
  refine gs h (o_move rfl) rfl fun _ _ _ h => ?_
  obtain ⟨x1, ex1, H⟩ := bindE H
  refine gs h (o_ix rfl rfl (rd_at 1 rfl) ex1 t_v23) rfl fun _ _ _ h => ?_
  have g2 := (rd_inr (rd_at 1 rfl) ex1 h.mem)
  refine gs h (o_lex rfl (rd_at 1 rfl) ex1 X_int t_y5 (by decide)) rfl fun _ _ _ h => ?_
  refine gs h (o_rem rfl rfl (show (16 : Int) ≠ 0 by decide)) rfl fun _ _ _ h => ?_
  refine gs h (o_convw rfl t_q5 t_u3 (inr_rem g2) rfl) rfl fun _ _ _ h => ?_
  refine gs h (o_bin rfl rfl rfl) rfl fun _ _ _ h => ?_
  obtain ⟨y1, ey1, H⟩ := ltE H
  refine gs h (o_assign' rfl (congrArg (fun z => Value.int .i64 z) ey1)) rfl fun _ _ _ h => ?_
  refine GoR.done ?_
  refine Go.seq ?_
  refine Go.seq ?_
  obtain ⟨o1, H, G1⟩ := bindE H
  refine g_cut (fun G => ∀ j1 (a : Act) (w : World), o1 = j1 → St Tryd.f11.ntmps F [(0, v1), (2, .pointer (some ⟨b1, 0, none⟩)), (4, .int .i64 y1), (26, .bool j1)] [Val (Kd.sl (Kd.int .u8)) v1 a1, Fld KIp b1 0 zIp] a w → G a w) 1 ?_ fun J1 => ?_
  ·intro j1 a w ho_ h
   rw [ho_] at G1
   have H := G1
   by_cases c3 : j1 = true
   ·have H := ifT c3 H
    refine g_t h rfl c3 ?_
    refine Go.seq ?_
    refine Go.reg ?_
    refine gs h (o_build (K := KIp) (x := (⟨0, 0, 0, 0, 0, 0, 0, 0, [], []⟩ : TIp)) (ps := []) rfl (zs := zsIp) rfl t_b25 rfl (show PB (Kd.pair (Kd.int .i64) (Kd.pair (Kd.int .i64) (Kd.pair (Kd.int .i64) (Kd.pair (Kd.int .i64) (Kd.pair (Kd.int .i64) (Kd.pair (Kd.int .i64) (Kd.pair (Kd.int .u32) (Kd.pair (Kd.int .u32) (Kd.pair (Kd.sl (Kd.int .u8)) (Kd.last (Kd.sl (Kd.int .u8)))))))))))) (0, 0, 0, 0, 0, 0, 0, 0, [], []) 0 zsIp _ _ from (pb_zero z_int (pb_zero z_int (pb_zero z_int (pb_zero z_int (pb_zero z_int (pb_zero z_int (pb_zero z_int (pb_zero z_int (pb_zero z_sl (pb_lastz z_sl)))))))))))) rfl fun v4 _ _ h => ?_
    refine gs0 h (o_st 2 rfl rfl rfl (pv_at PIp 0 rfl) rfl t_w25) fun _ _ _ h => ?_
    refine gs h (o_assign rfl) rfl fun _ _ _ h => ?_
    refine GoR.done ?_
    obtain ⟨v5, h, u2⟩ := h.peek 2 rfl PIp t_y25
    rw [← som H]
    exact g_ret (vs := [v5, .int .i64 161]) h Tryd.func11 ⟨⟨_, rfl, u2⟩, ⟨rfl, trivial⟩⟩ ⟨v5, rfl, ((h.mem.pick [0] (by decide) rfl).addpur (show InR .i64 161 by decide))⟩
   ·have H := ifF c3 H
    refine g_f h rfl c3 ?_
    refine Go.skip ?_
    refine Go.seq ?_
    refine Go.seq ?_
    refine Go.reg ?_
    refine gs h (o_move rfl) rfl fun _ _ _ h => ?_
    have g4 := (len_at 0 rfl h.mem)
    refine gs h (o_ln rfl (rd_at 0 rfl) t_v23) rfl fun _ _ _ h => ?_
    refine gs h (o_move rfl) rfl fun _ _ _ h => ?_
    refine gs h (o_bin rfl rfl rfl) rfl fun _ _ _ h => ?_
    refine GoR.done ?_
    by_cases c4 : decide ((a1.length : Int) < y1) = true
    ·have H := ifT c4 H
     refine g_t h rfl c4 ?_
     refine Go.seq ?_
     refine Go.reg ?_
     refine gs h (o_build (K := KIp) (x := (⟨0, 0, 0, 0, 0, 0, 0, 0, [], []⟩ : TIp)) (ps := []) rfl (zs := zsIp) rfl t_b25 rfl (show PB (Kd.pair (Kd.int .i64) (Kd.pair (Kd.int .i64) (Kd.pair (Kd.int .i64) (Kd.pair (Kd.int .i64) (Kd.pair (Kd.int .i64) (Kd.pair (Kd.int .i64) (Kd.pair (Kd.int .u32) (Kd.pair (Kd.int .u32) (Kd.pair (Kd.sl (Kd.int .u8)) (Kd.last (Kd.sl (Kd.int .u8)))))))))))) (0, 0, 0, 0, 0, 0, 0, 0, [], []) 0 zsIp _ _ from (pb_zero z_int (pb_zero z_int (pb_zero z_int (pb_zero z_int (pb_zero z_int (pb_zero z_int (pb_zero z_int (pb_zero z_int (pb_zero z_sl (pb_lastz z_sl)))))))))))) rfl fun v6 _ _ h => ?_
     refine gs0 h (o_st 2 rfl rfl rfl (pv_at PIp 0 rfl) rfl t_w25) fun _ _ _ h => ?_
     refine gs h (o_assign rfl) rfl fun _ _ _ h => ?_
     refine GoR.done ?_
     obtain ⟨v7, h, u3⟩ := h.peek 2 rfl PIp t_y25
     rw [← som H]
     exact g_ret (vs := [v7, .int .i64 160]) h Tryd.func11 ⟨⟨_, rfl, u3⟩, ⟨rfl, trivial⟩⟩ ⟨v7, rfl, ((h.mem.pick [0] (by decide) rfl).addpur (show InR .i64 160 by decide))⟩
    ·have H := ifF c4 H
     refine g_f h rfl c4 ?_
     refine Go.skip ?_
     refine Go.seq ?_
     refine Go.seq ?_
     refine Go.reg ?_
     refine gs h (o_move rfl) rfl fun _ _ _ h => ?_
     refine gs h (o_move rfl) rfl fun _ _ _ h => ?_
     obtain ⟨x3, ex3, H⟩ := bindE H
     refine gs h (o_cuth rfl (pv_at Per_sl 0 rfl) rfl ex3 t_v23) rfl fun v8 _ _ h => ?_
     obtain ⟨r1, er1, H⟩ := bindE H
     refine gs h (o_call (ref15_Right.spc v8 x3 r1 er1) rfl [0] [] (by decide) rfl rfl) rfl fun _ _ _ h => ?_
     refine gs h (o_not rfl) rfl fun _ _ _ h => ?_
     refine GoR.done ?_
     by_cases c5 : (!r1) = true
     ·have H := ifT c5 H
      refine g_t h rfl c5 ?_
      refine Go.seq ?_
      refine Go.reg ?_
      refine gs h (o_build (K := KIp) (x := (⟨0, 0, 0, 0, 0, 0, 0, 0, [], []⟩ : TIp)) (ps := []) rfl (zs := zsIp) rfl t_b25 rfl (show PB (Kd.pair (Kd.int .i64) (Kd.pair (Kd.int .i64) (Kd.pair (Kd.int .i64) (Kd.pair (Kd.int .i64) (Kd.pair (Kd.int .i64) (Kd.pair (Kd.int .i64) (Kd.pair (Kd.int .u32) (Kd.pair (Kd.int .u32) (Kd.pair (Kd.sl (Kd.int .u8)) (Kd.last (Kd.sl (Kd.int .u8)))))))))))) (0, 0, 0, 0, 0, 0, 0, 0, [], []) 0 zsIp _ _ from (pb_zero z_int (pb_zero z_int (pb_zero z_int (pb_zero z_int (pb_zero z_int (pb_zero z_int (pb_zero z_int (pb_zero z_int (pb_zero z_sl (pb_lastz z_sl)))))))))))) rfl fun v9 _ _ h => ?_
      refine gs0 h (o_st 3 rfl rfl rfl (pv_at PIp 0 rfl) rfl t_w25) fun _ _ _ h => ?_
      refine gs h (o_assign rfl) rfl fun _ _ _ h => ?_
      refine GoR.done ?_
      obtain ⟨v10, h, u4⟩ := h.peek 3 rfl PIp t_y25
      rw [← som H]
      exact g_ret (vs := [v10, .int .i64 162]) h Tryd.func11 ⟨⟨_, rfl, u4⟩, ⟨rfl, trivial⟩⟩ ⟨v10, rfl, ((h.mem.pick [0] (by decide) rfl).addpur (show InR .i64 162 by decide))⟩
     ·have H := ifF c5 H
      refine g_f h rfl c5 ?_
      refine Go.skip ?_
      refine Go.seq ?_
      refine Go.reg ?_
      refine gs h (o_move rfl) rfl fun _ _ _ h => ?_
      obtain ⟨x4, ex4, H⟩ := bindE H
      refine gs h (o_cut rfl (pv_at Per_sl 1 rfl) rfl rfl ex4 t_v23) rfl fun v11 _ _ h => ?_
      obtain ⟨r2, er2, H⟩ := bindE H
      refine gs h (o_call (ref17_number.spc v11 x4 r2 er2) rfl [0] [] (by decide) rfl rfl) rfl fun _ _ _ h => ?_
      have g5 := h.mem.pur 0 rfl
      refine gs h (o_assign rfl) rfl fun _ _ _ h => ?_
      refine GoR.done ?_
      refine Go.seq ?_
      refine Go.seq ?_
      refine Go.reg ?_
      refine gs h (o_move rfl) rfl fun _ _ _ h => ?_
      refine gs h (o_move rfl) rfl fun _ _ _ h => ?_
      refine gs h (o_bin rfl rfl rfl) rfl fun _ _ _ h => ?_
      refine GoR.done ?_
      by_cases c6 : decide (r2 < y1) = true
      ·have H := ifT c6 H
       refine g_t h rfl c6 ?_
       refine Go.seq ?_
       refine Go.reg ?_
       refine gs h (o_build (K := KIp) (x := (⟨0, 0, 0, 0, 0, 0, 0, 0, [], []⟩ : TIp)) (ps := []) rfl (zs := zsIp) rfl t_b25 rfl (show PB (Kd.pair (Kd.int .i64) (Kd.pair (Kd.int .i64) (Kd.pair (Kd.int .i64) (Kd.pair (Kd.int .i64) (Kd.pair (Kd.int .i64) (Kd.pair (Kd.int .i64) (Kd.pair (Kd.int .u32) (Kd.pair (Kd.int .u32) (Kd.pair (Kd.sl (Kd.int .u8)) (Kd.last (Kd.sl (Kd.int .u8)))))))))))) (0, 0, 0, 0, 0, 0, 0, 0, [], []) 0 zsIp _ _ from (pb_zero z_int (pb_zero z_int (pb_zero z_int (pb_zero z_int (pb_zero z_int (pb_zero z_int (pb_zero z_int (pb_zero z_int (pb_zero z_sl (pb_lastz z_sl)))))))))))) rfl fun v12 _ _ h => ?_
       refine gs0 h (o_st 5 rfl rfl rfl (pv_at PIp 0 rfl) rfl t_w25) fun _ _ _ h => ?_
       refine gs h (o_assign rfl) rfl fun _ _ _ h => ?_
       refine GoR.done ?_
       obtain ⟨v13, h, u5⟩ := h.peek 5 rfl PIp t_y25
       rw [← som H]
       exact g_ret (vs := [v13, .int .i64 161]) h Tryd.func11 ⟨⟨_, rfl, u5⟩, ⟨rfl, trivial⟩⟩ ⟨v13, rfl, ((h.mem.pick [0] (by decide) rfl).addpur (show InR .i64 161 by decide))⟩
      ·have H := ifF c6 H
       refine g_f h rfl c6 ?_
       refine Go.skip ?_
       refine Go.seq ?_
       refine Go.seq ?_
       refine Go.reg ?_
       refine gs h (o_move rfl) rfl fun _ _ _ h => ?_
       have g6 := (len_at 3 rfl h.mem)
       refine gs h (o_ln rfl (rd_at 3 rfl) t_v23) rfl fun _ _ _ h => ?_
       refine gs h (o_move rfl) rfl fun _ _ _ h => ?_
       refine gs h (o_bin rfl rfl rfl) rfl fun _ _ _ h => ?_
       refine GoR.done ?_
       by_cases c7 : decide ((a1.length : Int) < r2) = true
       ·have H := ifT c7 H
        refine g_t h rfl c7 ?_
        refine Go.seq ?_
        refine Go.reg ?_
        refine gs h (o_build (K := KIp) (x := (⟨0, 0, 0, 0, 0, 0, 0, 0, [], []⟩ : TIp)) (ps := []) rfl (zs := zsIp) rfl t_b25 rfl (show PB (Kd.pair (Kd.int .i64) (Kd.pair (Kd.int .i64) (Kd.pair (Kd.int .i64) (Kd.pair (Kd.int .i64) (Kd.pair (Kd.int .i64) (Kd.pair (Kd.int .i64) (Kd.pair (Kd.int .u32) (Kd.pair (Kd.int .u32) (Kd.pair (Kd.sl (Kd.int .u8)) (Kd.last (Kd.sl (Kd.int .u8)))))))))))) (0, 0, 0, 0, 0, 0, 0, 0, [], []) 0 zsIp _ _ from (pb_zero z_int (pb_zero z_int (pb_zero z_int (pb_zero z_int (pb_zero z_int (pb_zero z_int (pb_zero z_int (pb_zero z_int (pb_zero z_sl (pb_lastz z_sl)))))))))))) rfl fun v14 _ _ h => ?_
        refine gs0 h (o_st 5 rfl rfl rfl (pv_at PIp 0 rfl) rfl t_w25) fun _ _ _ h => ?_
        refine gs h (o_assign rfl) rfl fun _ _ _ h => ?_
        refine GoR.done ?_
        obtain ⟨v15, h, u6⟩ := h.peek 5 rfl PIp t_y25
        rw [← som H]
        exact g_ret (vs := [v15, .int .i64 160]) h Tryd.func11 ⟨⟨_, rfl, u6⟩, ⟨rfl, trivial⟩⟩ ⟨v15, rfl, ((h.mem.pick [0] (by decide) rfl).addpur (show InR .i64 160 by decide))⟩
       ·have H := ifF c7 H
        refine g_f h rfl c7 ?_
        refine Go.skip ?_
        refine Go.seq ?_
        refine Go.reg ?_
        refine gs h (o_move rfl) rfl fun _ _ _ h => ?_
        obtain ⟨x5, ex5, H⟩ := bindE H
        refine gs h (o_cut rfl (pv_at Per_sl 3 rfl) rfl rfl ex5 t_v23) rfl fun v16 _ _ h => ?_
        obtain ⟨r3, er3, H⟩ := bindE H
        refine gs h (o_call (ref17_number.spc v16 x5 r3 er3) rfl [0] [] (by decide) rfl rfl) rfl fun _ _ _ h => ?_
        have g7 := h.mem.pur 0 rfl
        refine gs h (o_assign rfl) rfl fun _ _ _ h => ?_
        refine GoR.done ?_
        refine Go.seq ?_
        replace h := h.wk (E' := [(0, v1), (2, .pointer (some ⟨b1, 0, none⟩)), (4, .int .i64 y1), (5, .int .i64 r2), (6, .int .i64 r3)]) (L' := [Ent.pur (InR .i64 r3), Val (Kd.sl (Kd.int .u8)) v16 x5, Ent.pur (InR .i64 r2), Val (Kd.sl (Kd.int .u8)) v11 x4, Val (Kd.sl (Kd.int .u8)) v8 x3, Val (Kd.sl (Kd.int .u8)) v1 a1, Fld KIp b1 0 zIp]) (by rfl) [0, 1, 2, 3, 4, 5, 6] (by decide) (by rfl)
        obtain ⟨x6, ex6, H⟩ := bindE H
        obtain ⟨x7, ex7, H⟩ := bindE H
        obtain ⟨r4, er4, H⟩ := bindE H
        obtain ⟨x8, ex8, H⟩ := bindE H
        obtain ⟨x9, ex9, H⟩ := bindE H
        obtain ⟨x10, ex10, H⟩ := bindE H
        obtain ⟨r5, er5, H⟩ := bindE H
        obtain ⟨x11, ex11, H⟩ := bindE H
        obtain ⟨r6, er6, H⟩ := bindE H
        refine Go.draw (E := [(0, v1), (2, .pointer (some ⟨b1, 0, none⟩)), (4, .int .i64 y1), (5, .int .i64 r2), (6, .int .i64 r3)]) [] (L := [Ent.pur (InR .i64 r3), Val (Kd.sl (Kd.int .u8)) v16 x5, Ent.pur (InR .i64 r2), Val (Kd.sl (Kd.int .u8)) v11 x4, Val (Kd.sl (Kd.int .u8)) v8 x3, Val (Kd.sl (Kd.int .u8)) v1 a1, Fld KIp b1 0 zIp]) h rfl rfl 29 [⟨[], [], [], false, .con (v1), none, fun u => [], []⟩, ⟨[0], [], [], false, .con (elemP v1 ((1 : Int).toNat * Kd.n (Kd.int .u8))), none, fun u => [], []⟩, ⟨[0, 1], [], [], false, .con (.int .u8 x6), none, fun u => [Ent.pur (InR .u8 x6)], []⟩, ⟨[0, 1, 2], [2], [], false, .con (.int .i64 x6), none, fun u => [], []⟩, ⟨[], [], [], false, .con (v1), none, fun u => [], []⟩, ⟨[4], [], [], false, .own, none, fun u => [Val (Kd.sl (Kd.int .u8)) u x7], []⟩, ⟨[4, 5], [5], [], false, .con (.int .i64 r4), none, fun u => [Ent.pur (InR .i64 r4)], []⟩, ⟨[], [], [], false, .con (.int .i64 r3), none, fun u => [], []⟩, ⟨[7], [], [], false, .con (.int .i64 (IntKind.i64.wrap (Int.tdiv r3 8192))), none, fun u => [], []⟩, ⟨[], [], [], false, .con (.int .i64 r3), none, fun u => [], []⟩, ⟨[9], [], [], false, .con (.int .i64 (Int.tmod r3 8192)), none, fun u => [], []⟩, ⟨[], [], [], false, .con (v1), none, fun u => [], []⟩, ⟨[11], [], [], false, .con (elemP v1 ((8 : Int).toNat * Kd.n (Kd.int .u8))), none, fun u => [], []⟩, ⟨[11, 12], [], [], false, .con (.int .u8 x8), none, fun u => [Ent.pur (InR .u8 x8)], []⟩, ⟨[11, 12, 13], [13], [], false, .con (.int .i64 x8), none, fun u => [], []⟩, ⟨[], [], [], false, .con (v1), none, fun u => [], []⟩, ⟨[15], [], [], false, .con (elemP v1 ((9 : Int).toNat * Kd.n (Kd.int .u8))), none, fun u => [], []⟩, ⟨[15, 16], [], [], false, .con (.int .u8 x9), none, fun u => [Ent.pur (InR .u8 x9)], []⟩, ⟨[15, 16, 17], [17], [], false, .con (.int .i64 x9), none, fun u => [], []⟩, ⟨[], [], [], false, .con (v1), none, fun u => [], []⟩, ⟨[19], [], [], false, .own, none, fun u => [Val (Kd.sl (Kd.int .u8)) u x10], []⟩, ⟨[19, 20], [20], [], false, .con (.int .i64 r5), none, fun u => [Ent.pur (InR .i64 r5)], []⟩, ⟨[19, 20, 21], [], [], false, .con (.int .u32 (IntKind.u32.wrap r5)), none, fun u => [], []⟩, ⟨[], [], [], false, .con (v1), none, fun u => [], []⟩, ⟨[23], [], [], false, .own, none, fun u => [Val (Kd.sl (Kd.int .u8)) u x11], []⟩, ⟨[23, 24], [24], [], false, .con (.int .i64 r6), none, fun u => [Ent.pur (InR .i64 r6)], []⟩, ⟨[23, 24, 25], [], [], false, .con (.int .u32 (IntKind.u32.wrap r6)), none, fun u => [], []⟩, ⟨[0, 1, 2, 3, 4, 5, 6, 7, 8, 9, 10, 11, 12, 13, 14, 15, 16, 17, 18, 19, 20, 21, 22, 23, 24, 25, 26], [2, 6, 13, 17], [], false, .own, none, fun u => [Val KIp u (⟨x6, r4, IntKind.i64.wrap (Int.tdiv r3 8192), Int.tmod r3 8192, x8, x9, IntKind.u32.wrap r5, IntKind.u32.wrap r6, [], []⟩ : TIp)], []⟩, ⟨[], [], [], false, .own, none, fun u => [Ent.pur (u = .pointer (some ⟨blk u, 0, none⟩)), Fld KIp (blk u) 0 zIp], []⟩] rfl t_mxo (by kernel_rfl) (by rfl) ?_ fun f1 _ _ h => ?_
        ·exact obs_cons (ob_con rfl (gok_none rfl) rfl fun f1 => (o_move rfl)) (obs_cons (ob_con rfl (gok_none rfl) rfl fun f1 => (o_ix rfl rfl (rd_at 5 rfl) ex6 t_v23)) (obs_cons (ob_con rfl (gok_none rfl) rfl fun f1 => (OpS.pur (fun F w m_ => (rd_inr (rd_at 5 rfl) ex6 m_)) (o_lex rfl (rd_at 5 rfl) ex6 X_int t_y5 (by decide)))) (obs_cons (ob_con rfl (gok_none rfl) rfl fun f1 => (OpS.fact (p := InR .u8 x6) (fun F w m_ => (Mem.pur 0 rfl m_)) fun g8 => (o_convw rfl t_q5 t_u3 g8 rfl))) (obs_cons (ob_con rfl (gok_none rfl) rfl fun f1 => (o_move rfl)) (obs_cons (ob_own rfl (gok_none rfl) rfl fun f1 => (o_cut rfl (pv_at Per_sl 5 rfl) rfl rfl ex7 t_v23)) (obs_cons (ob_con rfl (gok_none rfl) rfl fun f1 => (o_call (ref17_number.spc (f1 5) x7 r4 er4) rfl [0] [] (by decide) rfl rfl)) (obs_cons (ob_con rfl (gok_none rfl) rfl fun f1 => (o_move rfl)) (obs_cons (ob_con rfl (gok_none rfl) rfl fun f1 => (o_quo rfl rfl (show (8192 : Int) ≠ 0 by decide))) (obs_cons (ob_con rfl (gok_none rfl) rfl fun f1 => (o_move rfl)) (obs_cons (ob_con rfl (gok_none rfl) rfl fun f1 => (o_rem rfl rfl (show (8192 : Int) ≠ 0 by decide))) (obs_cons (ob_con rfl (gok_none rfl) rfl fun f1 => (o_move rfl)) (obs_cons (ob_con rfl (gok_none rfl) rfl fun f1 => (o_ix rfl rfl (rd_at 5 rfl) ex8 t_v23)) (obs_cons (ob_con rfl (gok_none rfl) rfl fun f1 => (OpS.pur (fun F w m_ => (rd_inr (rd_at 5 rfl) ex8 m_)) (o_lex rfl (rd_at 5 rfl) ex8 X_int t_y5 (by decide)))) (obs_cons (ob_con rfl (gok_none rfl) rfl fun f1 => (OpS.fact (p := InR .u8 x8) (fun F w m_ => (Mem.pur 0 rfl m_)) fun g9 => (o_convw rfl t_q5 t_u3 g9 rfl))) (obs_cons (ob_con rfl (gok_none rfl) rfl fun f1 => (o_move rfl)) (obs_cons (ob_con rfl (gok_none rfl) rfl fun f1 => (o_ix rfl rfl (rd_at 5 rfl) ex9 t_v23)) (obs_cons (ob_con rfl (gok_none rfl) rfl fun f1 => (OpS.pur (fun F w m_ => (rd_inr (rd_at 5 rfl) ex9 m_)) (o_lex rfl (rd_at 5 rfl) ex9 X_int t_y5 (by decide)))) (obs_cons (ob_con rfl (gok_none rfl) rfl fun f1 => (OpS.fact (p := InR .u8 x9) (fun F w m_ => (Mem.pur 0 rfl m_)) fun g10 => (o_convw rfl t_q5 t_u3 g10 rfl))) (obs_cons (ob_con rfl (gok_none rfl) rfl fun f1 => (o_move rfl)) (obs_cons (ob_own rfl (gok_none rfl) rfl fun f1 => (o_cut rfl (pv_at Per_sl 5 rfl) rfl rfl ex10 t_v23)) (obs_cons (ob_con rfl (gok_none rfl) rfl fun f1 => (o_call (ref17_number.spc (f1 20) x10 r5 er5) rfl [0] [] (by decide) rfl rfl)) (obs_cons (ob_con rfl (gok_none rfl) rfl fun f1 => (o_conv rfl t_q3 t_u22)) (obs_cons (ob_con rfl (gok_none rfl) rfl fun f1 => (o_move rfl)) (obs_cons (ob_own rfl (gok_none rfl) rfl fun f1 => (o_cut rfl (pv_at Per_sl 5 rfl) rfl rfl ex11 t_v23)) (obs_cons (ob_con rfl (gok_none rfl) rfl fun f1 => (o_call (ref17_number.spc (f1 24) x11 r6 er6) rfl [0] [] (by decide) rfl rfl)) (obs_cons (ob_con rfl (gok_none rfl) rfl fun f1 => (o_conv rfl t_q3 t_u22)) (obs_cons (ob_own rfl (gok_none rfl) rfl fun f1 => (OpS.fact (p := InR .i64 x6) (fun F w m_ => (inr_wid (k := .u8) (k' := .i64) (Mem.pur 0 rfl m_) rfl)) fun g11 => (OpS.fact (p := InR .i64 r4) (fun F w m_ => (Mem.pur 1 rfl m_)) fun g12 => (OpS.fact (p := InR .i64 x8) (fun F w m_ => (inr_wid (k := .u8) (k' := .i64) (Mem.pur 2 rfl m_) rfl)) fun g13 => (OpS.fact (p := InR .i64 x9) (fun F w m_ => (inr_wid (k := .u8) (k' := .i64) (Mem.pur 3 rfl m_) rfl)) fun g14 => (OpS.fact (p := InR .i64 x6) (fun F w m_ => (inr_wid (k := .u8) (k' := .i64) (Mem.pur 0 rfl m_) rfl)) fun g15 => (OpS.fact (p := InR .i64 r4) (fun F w m_ => (Mem.pur 1 rfl m_)) fun g16 => (OpS.fact (p := InR .i64 x8) (fun F w m_ => (inr_wid (k := .u8) (k' := .i64) (Mem.pur 2 rfl m_) rfl)) fun g17 => (OpS.fact (p := InR .i64 x9) (fun F w m_ => (inr_wid (k := .u8) (k' := .i64) (Mem.pur 3 rfl m_) rfl)) fun g18 => (o_build (K := KIp) (x := (⟨x6, r4, IntKind.i64.wrap (Int.tdiv r3 8192), Int.tmod r3 8192, x8, x9, IntKind.u32.wrap r5, IntKind.u32.wrap r6, [], []⟩ : TIp)) (ps := [(0, .int .i64 x6), (1, .int .i64 r4), (2, .int .i64 (IntKind.i64.wrap (Int.tdiv r3 8192))), (3, .int .i64 (Int.tmod r3 8192)), (4, .int .i64 x8), (5, .int .i64 x9), (6, .int .u32 (IntKind.u32.wrap r5)), (7, .int .u32 (IntKind.u32.wrap r6))]) rfl (zs := zsIp) rfl t_b25 rfl (show PB (Kd.pair (Kd.int .i64) (Kd.pair (Kd.int .i64) (Kd.pair (Kd.int .i64) (Kd.pair (Kd.int .i64) (Kd.pair (Kd.int .i64) (Kd.pair (Kd.int .i64) (Kd.pair (Kd.int .u32) (Kd.pair (Kd.int .u32) (Kd.pair (Kd.sl (Kd.int .u8)) (Kd.last (Kd.sl (Kd.int .u8)))))))))))) (x6, r4, IntKind.i64.wrap (Int.tdiv r3 8192), Int.tmod r3 8192, x8, x9, IntKind.u32.wrap r5, IntKind.u32.wrap r6, [], []) 0 zsIp _ _ from (pb_part (pv_int g15) rfl (pb_part (pv_int g16) rfl (pb_part (pv_int (wrap_in _ _)) rfl (pb_part (pv_int (inr_rem g7)) rfl (pb_part (pv_int g17) rfl (pb_part (pv_int g18) rfl (pb_part (pv_int (wrap_in _ _)) rfl (pb_part (pv_int (wrap_in _ _)) rfl (pb_zero z_sl (pb_lastz z_sl))))))))))))))))))))) (obs_cons (ob_own rfl (gok_none rfl) rfl fun f1 => (ptr_d (o_alloc (K := KIp) (z := (.agg #[.int .i64 0, .int .i64 0, .int .i64 0, .int .i64 0, .int .i64 0, .int .i64 0, .int .u32 0, .int .u32 0, .slice none 0 0, .slice none 0 0])) rfl ZIp))) (obs_nil)))))))))))))))))))))))))))))
        replace h := h.wk (E' := [(0, v1), (2, .pointer (some ⟨b1, 0, none⟩)), (4, .int .i64 y1), (5, .int .i64 r2), (81, (f1 27)), (7, (f1 28))]) (L' := [Ent.pur (InR .u8 x6), Val (Kd.sl (Kd.int .u8)) (f1 5) x7, Ent.pur (InR .i64 r4), Ent.pur (InR .u8 x8), Ent.pur (InR .u8 x9), Val (Kd.sl (Kd.int .u8)) (f1 20) x10, Ent.pur (InR .i64 r5), Val (Kd.sl (Kd.int .u8)) (f1 24) x11, Ent.pur (InR .i64 r6), Val KIp (f1 27) (⟨x6, r4, IntKind.i64.wrap (Int.tdiv r3 8192), Int.tmod r3 8192, x8, x9, IntKind.u32.wrap r5, IntKind.u32.wrap r6, [], []⟩ : TIp), Ent.pur ((f1 28) = .pointer (some ⟨blk (f1 28), 0, none⟩)), Fld KIp (blk (f1 28)) 0 zIp, Ent.pur (InR .i64 r3), Val (Kd.sl (Kd.int .u8)) v16 x5, Ent.pur (InR .i64 r2), Val (Kd.sl (Kd.int .u8)) v11 x4, Val (Kd.sl (Kd.int .u8)) v8 x3, Val (Kd.sl (Kd.int .u8)) v1 a1, Fld KIp b1 0 zIp]) (by kernel_rfl) [0, 1, 2, 3, 4, 5, 6, 7, 8, 9, 10, 11, 12, 13, 14, 15, 16, 17, 18] (by decide) (by kernel_rfl)
        have q_ := h.mem.pur 10 rfl
        generalize blk (f1 28) = b3 at h q_
        rw [q_] at h
        refine gs0 h (o_st 11 rfl rfl rfl (pv_at PIp 9 rfl) rfl t_w25) fun _ _ _ h => ?_
        refine GoR.done ?_
        refine Go.seq ?_
        refine Go.reg ?_
        refine gs h (o_bs (K := (Kd.int .u8)) (vs := []) (xs := ([] : List Int)) rfl rfl pvs_nil t_a23 (by decide) (by decide)) rfl fun v21 _ _ h => ?_
        refine gs h (o_move rfl) rfl fun _ _ _ h => ?_
        refine gs h (o_move rfl) rfl fun _ _ _ h => ?_
        obtain ⟨x12, ex12, H⟩ := bindE H
        refine gs h (o_cut rfl (pv_at Per_sl 18 rfl) rfl rfl ex12 t_v23) rfl fun v22 _ _ h => ?_
        obtain ⟨x13, ex13, H⟩ := bindE H
        refine gs h (o_app (K := (Kd.int .u8)) 1 rfl rfl rfl (rd_at 0 rfl) ex13 t_a23 t_n23) rfl fun v23 _ _ h => ?_
        refine gs h (o_fa rfl t_f25_8 rfl rfl) rfl fun _ _ _ h => ?_
        replace h := h.mm fun m => m.freeze 1 rfl
        obtain ⟨y2, ey2, H⟩ := ltE H
        refine gs0 h (o_stp (x0 := (⟨x6, r4, IntKind.i64.wrap (Int.tdiv r3 8192), Int.tmod r3 8192, x8, x9, IntKind.u32.wrap r5, IntKind.u32.wrap r6, [], []⟩ : TIp)) (y := x13) 13 t_uIp_8_1 rfl rfl rfl rfl (pv_at Per_sl 1 rfl) t_w23) fun _ _ _ h => ?_
        rw [ey2] at h
        refine GoR.done ?_
        refine Go.seq ?_
        refine Go.reg ?_
        refine gs h (o_bs (K := (Kd.int .u8)) (vs := []) (xs := ([] : List Int)) rfl rfl pvs_nil t_a23 (by decide) (by decide)) rfl fun v24 _ _ h => ?_
        iterate 3 (refine gs h (o_move rfl) rfl fun _ _ _ h => ?_)
        obtain ⟨x14, ex14, H⟩ := bindE H
        refine gs h (o_cut rfl (pv_at Per_sl 20 rfl) rfl rfl ex14 t_v23) rfl fun v25 _ _ h => ?_
        obtain ⟨x15, ex15, H⟩ := bindE H
        refine gs h (o_app (K := (Kd.int .u8)) 1 rfl rfl rfl (rd_at 0 rfl) ex15 t_a23 t_n23) rfl fun v26 _ _ h => ?_
        refine gs h (o_fa rfl t_f25_9 rfl rfl) rfl fun _ _ _ h => ?_
        replace h := h.mm fun m => m.freeze 1 rfl
        obtain ⟨y3, ey3, H⟩ := ltE H
        refine gs0 h (o_stp (x0 := y2) (y := x15) 15 t_uIp_9_1 rfl rfl rfl rfl (pv_at Per_sl 1 rfl) t_w23) fun _ _ _ h => ?_
        rw [ey3] at h
        refine GoR.done ?_
        refine Go.seq ?_
        refine Go.reg ?_
        refine gs h (o_ldv 15 rfl rfl PIp t_y25) rfl fun v27 _ _ h => ?_
        refine gs0 h (o_st 23 rfl rfl rfl (pv_at PIp 0 rfl) rfl t_w25) fun _ _ _ h => ?_
        refine gs h (o_assign rfl) rfl fun _ _ _ h => ?_
        refine GoR.done ?_
        obtain ⟨v28, h, u7⟩ := h.peek 23 rfl PIp t_y25
        rw [← som H]
        exact g_ret (vs := [v28, .int .i64 0]) h Tryd.func11 ⟨⟨_, rfl, u7⟩, ⟨rfl, trivial⟩⟩ ⟨v28, rfl, ((h.mem.pick [0] (by decide) rfl).addpur (show InR .i64 0 by decide))⟩
  refine Go.reg ?_
  refine gs h (o_move rfl) rfl fun _ _ _ h => ?_
  obtain ⟨x2, ex2, H⟩ := bindE H
  refine gs h (o_ix rfl rfl (rd_at 1 rfl) ex2 t_v23) rfl fun _ _ _ h => ?_
  have g3 := (rd_inr (rd_at 1 rfl) ex2 h.mem)
  refine gs h (o_lex rfl (rd_at 1 rfl) ex2 X_int t_y5 (by decide)) rfl fun _ _ _ h => ?_
  refine gs h (o_quo rfl rfl (show (16 : Int) ≠ 0 by decide)) rfl fun _ _ _ h => ?_
  refine gs h (o_bin rfl rfl rfl) rfl fun _ _ _ h => ?_
  refine gs h (o_move rfl) rfl fun _ _ _ h => ?_
  by_cases c2 : (!decide ((IntKind.u8.wrap (Int.tdiv x2 16)) = 4)) = true
  ·have H := ifT c2 H
   refine gk h rfl rfl (nb_t c2) rfl fun _ h => ?_
   refine gk h rfl rfl (nb_t c2) rfl fun _ h => ?_
   refine gs h (o_pickT rfl rfl c2) rfl fun _ _ _ h => ?_
   refine GoR.done ?_
   exact J1 true _ _ (som H).symm (h.wk (by rfl) [1, 0] (by decide) (by rfl))
  ·have H := ifF c2 H
   refine gg h rfl rfl (nbF c2) (o_move rfl) rfl fun _ _ _ h => ?_
   refine gg h rfl rfl (nbF c2) (o_bin rfl rfl rfl) rfl fun _ _ _ h => ?_
   refine gs h (o_pickF rfl rfl c2) rfl fun _ _ _ h => ?_
   refine GoR.done ?_
   exact J1 (decide (y1 < 20)) _ _ (som H).symm (h.wk (by rfl) [1, 0] (by decide) (by rfl))
def ref17_Get.g (k_ : Nat) (a1 : List Int) : Option (TIp × Int) :=
  (if decide ((a1.length : Int) < 20) = true then some (((⟨0, 0, 0, 0, 0, 0, 0, 0, [], []⟩ : TIp), 160)) else (idx a1 0).bind fun x1 => lt (IntKind.i64.wrap ((Int.tmod x1 16) * 4)) fun y1 => ((idx a1 0).bind fun x2 => (if (!decide ((IntKind.u8.wrap (Int.tdiv x2 16)) = 4)) = true then some (true) else some (decide (y1 < 20)))).bind (fun j1 => (if j1 = true then some (((⟨0, 0, 0, 0, 0, 0, 0, 0, [], []⟩ : TIp), 161)) else (if decide ((a1.length : Int) < y1) = true then some (((⟨0, 0, 0, 0, 0, 0, 0, 0, [], []⟩ : TIp), 160)) else (cut a1 0 y1).bind fun x3 => (ref15_Right.g k_ x3).bind fun r1 => (if (!r1) = true then some (((⟨0, 0, 0, 0, 0, 0, 0, 0, [], []⟩ : TIp), 162)) else (cut a1 2 4).bind fun x4 => (ref17_number.g k_ x4).bind fun r2 => (if decide (r2 < y1) = true then some (((⟨0, 0, 0, 0, 0, 0, 0, 0, [], []⟩ : TIp), 161)) else (if decide ((a1.length : Int) < r2) = true then some (((⟨0, 0, 0, 0, 0, 0, 0, 0, [], []⟩ : TIp), 160)) else (cut a1 6 8).bind fun x5 => (ref17_number.g k_ x5).bind fun r3 => (idx a1 1).bind fun x6 => (cut a1 4 6).bind fun x7 => (ref17_number.g k_ x7).bind fun r4 => (idx a1 8).bind fun x8 => (idx a1 9).bind fun x9 => (cut a1 12 16).bind fun x10 => (ref17_number.g k_ x10).bind fun r5 => (cut a1 16 20).bind fun x11 => (ref17_number.g k_ x11).bind fun r6 => (cut a1 20 y1).bind fun x12 => (app ([] : List Int) x12).bind fun x13 => lt (⟨x6, r4, IntKind.i64.wrap (Int.tdiv r3 8192), Int.tmod r3 8192, x8, x9, IntKind.u32.wrap r5, IntKind.u32.wrap r6, x13, []⟩ : TIp) fun y2 => (cut a1 y1 r2).bind fun x14 => (app ([] : List Int) x14).bind fun x15 => lt (⟨y2.Tos, y2.Id, y2.Flags, y2.Off, y2.Ttl, y2.Proto, y2.Src, y2.Dst, y2.Options, x15⟩ : TIp) fun y3 => some ((y3, 0)))))))))
theorem ref17_Get.le (k_ : Nat) (a1 : List Int) : Le (ref17_Get.g k_ a1) (ref17_Get.f a1) := by
 unfold ref17_Get.g ref17_Get.f
 repeat' (first | with_reducible refine le_loop fun _ => ?_ | with_reducible refine le_bind ?_ fun _ => ?_ | with_reducible refine le_ite ?_ ?_ | with_reducible refine le_lt fun _ => ?_ | with_reducible refine le_elim (fun _ => ?_) (fun _ => ?_) _ | with_reducible apply ref15_Right.le | with_reducible apply ref17_number.le | with_reducible exact le_refl _)
/-! drawbridge/drawbridgelaw17.one -/
noncomputable def law17_one.f (a1 : TIp) : Option ((List TIp)) :=
  some (([a1] : List TIp))
set_option maxRecDepth 100000 in
set_option maxHeartbeats 4000000 in
theorem law17_one.spc (v1 : Value) (a1 : TIp) (r : (List TIp)) (H : law17_one.f a1 = some r) : Spc Tryd.prog 14 [v1] [Val KIp v1 a1] [] (fun (s : Value) => s) (fun s => [Val (Kd.osl KIp) s r]) := by
 unfold law17_one.f at H
 refine Spc.go Tryd.func14 rfl (by kernel_rfl) rfl rfl (all_cons (Val.per PIp) all_nil) fun F a w h => ?_
 refine Go.seq ?_
 refine Go.reg ?_
 refine gs h (o_box (K := KIp) rfl (pv_at PIp 0 rfl)) rfl fun b1 _ _ h => ?_
 refine gs h (o_assign rfl) rfl fun _ _ _ h => ?_
 refine GoR.done ?_
 refine Go.seq ?_
 refine Go.reg ?_
 refine gs h (o_ldv 0 rfl rfl PIp t_y25) rfl fun v2 _ _ h => ?_
 refine gs h (o_bs (K := KIp) (vs := [v2]) (xs := ([a1] : List TIp)) rfl rfl (pvs_cons (pv_at PIp 0 rfl) pvs_nil) t_a38 (by decide) (by decide)) rfl fun v3 _ _ h => ?_
 refine gs h (o_assign rfl) rfl fun _ _ _ h => ?_
 refine GoR.done ?_
 rw [← som H]
 exact g_ret (vs := [v3]) h Tryd.func14 ⟨rfl, trivial⟩ ⟨v3, rfl, (h.mem.pick [0] (by decide) rfl)⟩
def law17_one.g (k_ : Nat) (a1 : TIp) : Option ((List TIp)) :=
  some (([a1] : List TIp))
theorem law17_one.le (k_ : Nat) (a1 : TIp) : Le (law17_one.g k_ a1) (law17_one.f a1) := by
 unfold law17_one.g law17_one.f
 repeat' (first | with_reducible refine le_loop fun _ => ?_ | with_reducible refine le_bind ?_ fun _ => ?_ | with_reducible refine le_ite ?_ ?_ | with_reducible refine le_lt fun _ => ?_ | with_reducible refine le_elim (fun _ => ?_) (fun _ => ?_) _ | with_reducible exact le_refl _)
end Go.Proofs.YtaiadolmjmacfaaDoor.S
