/- Contracts, printed by a program of this session. -/
import Derived.Test.YtpcbhkigmnpimaaT12
import Derived.Test.YtpcbhkigmnpimaaT13
namespace Go.Proofs.Ytpcbhkigmnpimaa.S
open Go Go.SL Go.RowKit
set_option linter.unusedVariables false
set_option linter.unusedSimpArgs false
/-! drawbridge/drawbridgelaw28.SpliceWhole -/
noncomputable def law28_SpliceWhole.f (a1 : List Int) (a2 : List Int) (a3 : Int) (a4 : Int) (a5 : Int) (a6 : Int) : Option (Bool) :=
  ((if decide (3000 < (a1.length : Int)) = true then some (true) else (if decide (3000 < (a2.length : Int)) = true then some (true) else (if decide (a3 < 1) = true then some (true) else (if decide (1500 < a3) = true then some (true) else (if decide (a4 < 1) = true then some (true) else some (decide (65535 < a4)))))))).bind (fun j1 => (if j1 = true then (law28_heads.f).bind fun r1 => some (r1) else (law28_begin.f (⟨9, 80, a6, 0, 2, a4, 0, []⟩ : TSeg) a5).bind fun r2 => (if (!r2.2) = true then some (false) else (r2.1).bind fun y1 => (law28_play_do.f y1 (⟨1, zSeg, (⟨3, 1, a2, 0⟩ : TTell), 0⟩ : TEv)).bind fun r3 => (law28_play_do.f r3 (⟨1, zSeg, (⟨4, 1, [], 0⟩ : TTell), 0⟩ : TEv)).bind fun r4 => (loop (fun s1 => ((if decide (s1.2.2.2.2.1 < 8000) = true then some ((!s1.2.2.2.2.2.gone)) else some (false))).bind (fun j2 => (if j2 = true then (loop (fun s2 => (if decide (s2.2.2.1 < (s2.2.2.2.segs.length : Int)) = true then (idx s2.2.2.2.segs s2.2.2.1).bind fun x1 => lt (IntKind.u32.wrap ((IntKind.u32.wrap (x1.Seq - a5)) - 1)) fun y2 => (((if decide (0 < (x1.Data.length : Int)) = true then (if decide (0 ≤ y2) = true then (if decide (y2 ≤ (s2.1.length : Int)) = true then some ((decide ((s2.1.length : Int) < (IntKind.i64.wrap (y2 + (x1.Data.length : Int)))), s2.2.2.2)) else some ((false, s2.2.2.2))) else some ((false, s2.2.2.2))) else some ((false, s2.2.2.2)))).bind (fun j3 => (if j3.1 = true then (cut x1.Data (IntKind.i64.wrap ((s2.1.length : Int) - y2)) (x1.Data.length : Int)).bind fun x2 => (app s2.1 x2).bind fun x3 => some ((x3, j3.2)) else some ((s2.1, j3.2))))).bind (fun j4 => ((if s2.2.1 = true then some (true) else (if (!decide ((bits .and .i64 x1.Flags 1) = 0)) = true then lt (decide (y2 = (j4.1.length : Int))) fun y3 => some (y3) else some (false)))).bind (fun j5 => lt (IntKind.i64.wrap (s2.2.2.1 + 1)) fun y4 => some (.inl (j4.1, j5, y4, j4.2)))) else some (.inr ((s2.1, s2.2.1, s2.2.2.1, s2.2.2.2))))) (s1.1, s1.2.1, s1.2.2.1, s1.2.2.2.2.2)).bind (fun j6 => ((if j6.2.1 = true then lt (⟨9, 80, IntKind.u32.wrap ((IntKind.u32.wrap (a6 + 1)) + (IntKind.u32.wrap s1.2.2.2.1)), IntKind.u32.wrap (((⟨9, 80, IntKind.u32.wrap ((IntKind.u32.wrap (a6 + 1)) + (IntKind.u32.wrap s1.2.2.2.1)), IntKind.u32.wrap ((IntKind.u32.wrap (a5 + 1)) + (IntKind.u32.wrap (j6.1.length : Int))), 16, a4, 0, []⟩ : TSeg).Ack) + 1), 16, a4, 0, []⟩ : TSeg) fun y5 => some (y5) else some ((⟨9, 80, IntKind.u32.wrap ((IntKind.u32.wrap (a6 + 1)) + (IntKind.u32.wrap s1.2.2.2.1)), IntKind.u32.wrap ((IntKind.u32.wrap (a5 + 1)) + (IntKind.u32.wrap (j6.1.length : Int))), 16, a4, 0, []⟩ : TSeg)))).bind (fun j7 => ((if decide (s1.2.2.2.1 ≤ (a1.length : Int)) = true then lt (min a3 (IntKind.i64.wrap ((a1.length : Int) - s1.2.2.2.1))) fun y6 => (cut a1 s1.2.2.2.1 (IntKind.i64.wrap (s1.2.2.2.1 + y6))).bind fun x4 => lt (⟨j7.Src, j7.Dst, j7.Seq, j7.Ack, j7.Flags, j7.Win, j7.Mss, x4⟩ : TSeg) fun y7 => ((if decide (y6 = 0) = true then lt (⟨y7.Src, y7.Dst, y7.Seq, y7.Ack, bits .or .i64 y7.Flags 1, y7.Win, y7.Mss, y7.Data⟩ : TSeg) fun y8 => some (y8) else some (y7))).bind (fun j8 => lt (IntKind.i64.wrap (s1.2.2.2.1 + y6)) fun y9 => some ((y9, j8))) else some ((s1.2.2.2.1, j7)))).bind (fun j9 => (law28_play_do.f j6.2.2.2 (⟨0, j9.2, zTell, 0⟩ : TEv)).bind fun r5 => ((if (!decide ((bits .and .i64 j9.2.Flags 1) = 0)) = true then lt (IntKind.i64.wrap ((a1.length : Int) + 1)) fun y10 => some (y10) else some (j9.1))).bind (fun j10 => (law28_play_do.f r5 (⟨1, zSeg, (⟨5, 1, [], 4096⟩ : TTell), 0⟩ : TEv)).bind fun r6 => (law28_play_do.f r6 (⟨2, zSeg, zTell, 1⟩ : TEv)).bind fun r7 => lt (IntKind.i64.wrap (s1.2.2.2.2.1 + 1)) fun y11 => some (.inl (j6.1, j6.2.1, j6.2.2.1, j10, y11, r7)))))) else some (.inr ((s1.1, s1.2.1, s1.2.2.2.2.2)))))) (([] : List Int), false, 0, 0, 0, r4)).bind (fun j11 => ((if j11.2.2.gone = true then (ref01_Same.f j11.2.2.given a1).bind fun r8 => (if r8 = true then (ref01_Same.f j11.1 a2).bind fun r9 => (if r9 = true then (if j11.2.1 = true then (law28_heads.f).bind fun r10 => some (r10) else some (false)) else some (false)) else some (false)) else some (false))).bind (fun j12 => some (j12))))))
set_option maxRecDepth 100000 in
set_option maxHeartbeats 4000000 in
theorem law28_SpliceWhole.spc (v1 : Value) (a1 : List Int) (v2 : Value) (a2 : List Int) (a3 : Int) (ha3 : InR .i64 a3) (a4 : Int) (ha4 : InR .i64 a4) (a5 : Int) (ha5 : InR .u32 a5) (a6 : Int) (ha6 : InR .u32 a6) (r : Bool) (H : law28_SpliceWhole.f a1 a2 a3 a4 a5 a6 = some r) : Spc Try.prog 8 [v1, v2, .int .i64 a3, .int .i64 a4, .int .u32 a5, .int .u32 a6] [Val (Kd.sl (Kd.int .u8)) v1 a1, Val (Kd.sl (Kd.int .u8)) v2 a2] [] (fun (s : Unit) => .bool r) (fun s => []) := by
 unfold law28_SpliceWhole.f at H
 refine Spc.go Try.func8 rfl (by kernel_rfl) rfl rfl (all_cons (Val.per Per_sl) (all_cons (Val.per Per_sl) all_nil)) fun F a w h => ?_
 refine Go.seq ?_
 refine Go.reg ?_
 refine ga h (o_assign rfl) rfl fun h => ?_
 refine GoR.done ?_
 refine Go.seq ?_
 refine Go.seq ?_
 obtain ⟨o1, H, G1⟩ := bindE H
 refine g_cut (fun G => ∀ j1 (a : Act) (w : World), o1 = j1 → St Try.f8.ntmps F [(0, v1), (1, v2), (2, .int .i64 a3), (3, .int .i64 a4), (4, .int .u32 a5), (5, .int .u32 a6), (47, .bool j1)] [Val (Kd.sl (Kd.int .u8)) v1 a1, Val (Kd.sl (Kd.int .u8)) v2 a2] a w → G a w) 1 ?_ fun J1 => ?_
 ·intro j1 a w ho_ h
  rw [ho_] at G1
  have H := G1
  by_cases c6 : j1 = true
  ·have H := ifT c6 H
   refine g_t h rfl c6 ?_
   refine Go.seq ?_
   refine Go.reg ?_
   obtain ⟨r1, er1, H⟩ := bindE H
   refine ga h (o_call (law28_heads.spc  r1 er1) rfl [] [] (by decide) rfl rfl) rfl fun h => ?_
   refine ga h (o_assign rfl) rfl fun h => ?_
   refine GoR.done ?_
   rw [← som H]
   exact g_ret (vs := [.bool r1]) h Try.func8 ⟨rfl, trivial⟩ ⟨(), rfl, (h.mem.pick [] (by decide) rfl)⟩
  ·have H := ifF c6 H
   refine g_f h rfl c6 ?_
   refine Go.skip ?_
   refine Go.seq ?_
   refine Go.reg ?_
   refine mv h rfl rfl fun h => ?_
   refine mv h rfl rfl fun h => ?_
   refine gs h (o_build (K := KSeg) (x := (⟨9, 80, a6, 0, 2, a4, 0, []⟩ : TSeg)) (ps := [(0, .int .i64 9), (1, .int .i64 80), (2, .int .u32 a6), (4, .int .i64 2), (5, .int .i64 a4)]) rfl (zs := zsSeg) rfl t_b30 rfl (show PB (Kd.pair (Kd.int .i64) (Kd.pair (Kd.int .i64) (Kd.pair (Kd.int .u32) (Kd.pair (Kd.int .u32) (Kd.pair (Kd.int .i64) (Kd.pair (Kd.int .i64) (Kd.pair (Kd.int .i64) (Kd.last (Kd.sl (Kd.int .u8)))))))))) (9, 80, a6, 0, 2, a4, 0, []) 0 zsSeg _ _ from (pb_part (pv_int (show InR .i64 9 by decide)) rfl (pb_part (pv_int (show InR .i64 80 by decide)) rfl (pb_part (pv_int ha6) rfl (pb_zero z_int (pb_part (pv_int (show InR .i64 2 by decide)) rfl (pb_part (pv_int ha4) rfl (pb_zero z_int (pb_lastz z_sl)))))))))) rfl fun v3 _ _ h => ?_
   refine mv h rfl rfl fun h => ?_
   obtain ⟨r2, er2, H⟩ := bindE H
   refine gs h (o_call (law28_begin.spc v3 (⟨9, 80, a6, 0, 2, a4, 0, []⟩ : TSeg) a5 ha5 r2 er2) rfl [0] [] (by decide) rfl rfl) rfl fun v4 _ _ h => ?_
   refine mv h rfl rfl fun h => ?_
   refine ga h (o_extract rfl rfl) rfl fun h => ?_
   refine ga h (o_extract rfl rfl) rfl fun h => ?_
   refine ga h (o_assign rfl) rfl fun h => ?_
   refine ga h (o_assign rfl) rfl fun h => ?_
   refine GoR.done ?_
   refine Go.seq ?_
   refine Go.seq ?_
   refine Go.reg ?_
   refine mv h rfl rfl fun h => ?_
   refine ga h (o_not rfl) rfl fun h => ?_
   refine GoR.done ?_
   by_cases c7 : (!r2.2) = true
   ·have H := ifT c7 H
    refine g_t h rfl c7 ?_
    refine Go.seq ?_
    refine Go.reg ?_
    refine ga h (o_assign rfl) rfl fun h => ?_
    refine GoR.done ?_
    rw [← som H]
    exact g_ret (vs := [.bool false]) h Try.func8 ⟨rfl, trivial⟩ ⟨(), rfl, (h.mem.pick [] (by decide) rfl)⟩
   ·have H := ifF c7 H
    refine g_f h rfl c7 ?_
    refine Go.skip ?_
    refine Go.seq ?_
    refine Go.reg ?_
    refine ga h (o_assign rfl) rfl fun h => ?_
    refine GoR.done ?_
    refine Go.seq ?_
    refine Go.reg ?_
    refine ga h (o_assign rfl) rfl fun h => ?_
    refine ga h (o_assign rfl) rfl fun h => ?_
    refine GoR.done ?_
    refine Go.seq ?_
    refine Go.reg ?_
    refine ga h (o_assign rfl) rfl fun h => ?_
    refine GoR.done ?_
    refine Go.seq ?_
    obtain ⟨y1, ey1, H⟩ := bindE H
    obtain ⟨b1, eb1, h⟩ := h.unb 0 rfl ey1
    subst eb1
    refine Go.reg ?_
    refine mv h rfl rfl fun h => ?_
    refine mv h rfl rfl fun h => ?_
    refine gs h (o_build (K := KTell) (x := (⟨3, 1, a2, 0⟩ : TTell)) (ps := [(0, .int .i64 3), (1, .int .i64 1), (2, v2)]) rfl (zs := zsTell) rfl t_b44 rfl (show PB (Kd.pair (Kd.int .i64) (Kd.pair (Kd.int .i64) (Kd.pair (Kd.sl (Kd.int .u8)) (Kd.last (Kd.int .i64))))) (3, 1, a2, 0) 0 zsTell _ _ from (pb_part (pv_int (show InR .i64 3 by decide)) rfl (pb_part (pv_int (show InR .i64 1 by decide)) rfl (pb_part (pv_at Per_sl 3 rfl) rfl (pb_lastz z_int)))))) rfl fun v5 _ _ h => ?_
    refine gs h (o_build (K := KEv) (x := (⟨1, zSeg, (⟨3, 1, a2, 0⟩ : TTell), 0⟩ : TEv)) (ps := [(0, .int .i64 1), (2, v5)]) rfl (zs := zsEv) rfl t_b46 rfl (show PB (Kd.pair (Kd.int .i64) (Kd.pair KSeg (Kd.pair KTell (Kd.last (Kd.int .i64))))) (1, zSeg, (⟨3, 1, a2, 0⟩ : TTell), 0) 0 zsEv _ _ from (pb_part (pv_int (show InR .i64 1 by decide)) rfl (pb_zero ZSeg (pb_part (pv_at PTell 0 rfl) rfl (pb_lastz z_int)))))) rfl fun v6 _ _ h => ?_
    obtain ⟨r3, er3, H⟩ := bindE H
    refine ga h (o_call (law28_play_do.spc b1 y1 v6 (⟨1, zSeg, (⟨3, 1, a2, 0⟩ : TTell), 0⟩ : TEv) r3 er3) rfl [0] [2] (by decide) rfl rfl) rfl fun h => ?_
    refine GoR.done ?_
    refine Go.seq ?_
    refine Go.reg ?_
    refine mv h rfl rfl fun h => ?_
    refine gs h (o_build (K := KTell) (x := (⟨4, 1, [], 0⟩ : TTell)) (ps := [(0, .int .i64 4), (1, .int .i64 1)]) rfl (zs := zsTell) rfl t_b44 rfl (show PB (Kd.pair (Kd.int .i64) (Kd.pair (Kd.int .i64) (Kd.pair (Kd.sl (Kd.int .u8)) (Kd.last (Kd.int .i64))))) (4, 1, [], 0) 0 zsTell _ _ from (pb_part (pv_int (show InR .i64 4 by decide)) rfl (pb_part (pv_int (show InR .i64 1 by decide)) rfl (pb_zero z_sl (pb_lastz z_int)))))) rfl fun v7 _ _ h => ?_
    refine gs h (o_build (K := KEv) (x := (⟨1, zSeg, (⟨4, 1, [], 0⟩ : TTell), 0⟩ : TEv)) (ps := [(0, .int .i64 1), (2, v7)]) rfl (zs := zsEv) rfl t_b46 rfl (show PB (Kd.pair (Kd.int .i64) (Kd.pair KSeg (Kd.pair KTell (Kd.last (Kd.int .i64))))) (1, zSeg, (⟨4, 1, [], 0⟩ : TTell), 0) 0 zsEv _ _ from (pb_part (pv_int (show InR .i64 1 by decide)) rfl (pb_zero ZSeg (pb_part (pv_at PTell 0 rfl) rfl (pb_lastz z_int)))))) rfl fun v8 _ _ h => ?_
    obtain ⟨r4, er4, H⟩ := bindE H
    refine ga h (o_call (law28_play_do.spc b1 r3 v8 (⟨1, zSeg, (⟨4, 1, [], 0⟩ : TTell), 0⟩ : TEv) r4 er4) rfl [0] [2] (by decide) rfl rfl) rfl fun h => ?_
    refine GoR.done ?_
    refine Go.seq ?_
    refine Go.seq ?_
    refine Go.reg ?_
    refine ga h (o_assign rfl) rfl fun h => ?_
    refine GoR.done ?_
    refine Go.block ?_
    obtain ⟨o2, hl, G2⟩ := bindE H
    refine g_cut (fun G => ∀ j11 (v29 : Value) (a : Act) (w : World), o2 = j11 → St Try.f8.ntmps F [(0, v1), (1, v2), (13, pt b1), (15, v29), (16, .bool j11.2.1)] [Val (Kd.sl (Kd.int .u8)) v1 a1, Val (Kd.sl (Kd.int .u8)) v2 a2, Val (Kd.osl (Kd.int .u8)) v29 j11.1, Fld Kplay b1 0 j11.2.2] a w → G a w) 2 ?_ fun J11 => ?_
    ·intro j11 v29 a w ho_ h
     rw [ho_] at G2
     have H := G2
     refine Go.seq ?_
     obtain ⟨o12, H, G12⟩ := bindE H
     refine g_cut (fun G => ∀ j12 (a : Act) (w : World), o12 = j12 → St Try.f8.ntmps F [(12, .bool j12)] [Fld Kplay b1 0 j11.2.2] a w → G a w) 1 ?_ fun J12 => ?_
     ·intro j12 a w ho_ h
      rw [ho_] at G12
      have H := G12
      rw [← som H]
      exact g_ret (vs := [.bool j12]) h Try.func8 ⟨rfl, trivial⟩ ⟨(), rfl, (h.mem.pick [] (by decide) rfl)⟩
     refine Go.reg ?_
     refine mv h rfl rfl fun h => ?_
     refine ga h (o_nilc rfl) rfl fun h => ?_
     refine ga h (o_fa rfl t_f48_5 rfl rfl) rfl fun h => ?_
     refine ga h (o_lfx 3 rfl rfl splay_gone rfl X_bool t_y4) rfl fun h => ?_
     refine mv h rfl rfl fun h => ?_
     by_cases c21 : j11.2.2.gone = true
     ·have H := ifT c21 H
      refine gg h rfl rfl c21 (o_move rfl) rfl fun _ _ _ h => ?_
      refine gg h rfl rfl c21 (o_nilc rfl) rfl fun _ _ _ h => ?_
      refine gg h rfl rfl c21 (o_fa rfl t_f48_2 rfl rfl) rfl fun _ _ _ h => ?_
      replace h := h.mm fun m => (m.take (i := 3) rfl).opn (cplay _ _)
      obtain ⟨v30, h⟩ := h.unp 2 rfl
      obtain ⟨v31, h⟩ := h.unp 4 rfl
      obtain ⟨v32, h⟩ := h.unp 6 rfl
      refine gg h rfl rfl c21 (o_ldx 2 rfl rfl X_eq t_y23) rfl fun _ _ _ h => ?_
      refine gg h rfl rfl c21 (o_move rfl) rfl fun _ _ _ h => ?_
      obtain ⟨r8, er8, H⟩ := bindE H
      refine gg h rfl rfl c21 (OpS.lend (Lp := [Val (Kd.sl (Kd.int .u8)) v30 j11.2.2.given, Val (Kd.sl (Kd.int .u8)) v1 a1]) (lent_cons (lent_own 5 rfl) (lent_cons (lent_per (Val.per Per_sl) 10 rfl) lent_nil)) (o_call (ref01_Same.spc v30 j11.2.2.given v1 a1 r8 er8) rfl [0, 1] [] (by decide) rfl rfl) (fun _ => clo_nil)) rfl fun _ _ _ h => ?_
      refine ga h (o_pickT rfl rfl c21) rfl fun h => ?_
      refine mv h rfl rfl fun h => ?_
      by_cases c22 : r8 = true
      ·have H := ifT c22 H
       refine gg h rfl rfl c22 (o_move rfl) rfl fun _ _ _ h => ?_
       refine gg h rfl rfl c22 (o_move rfl) rfl fun _ _ _ h => ?_
       replace h := h.mm fun m => m.freeze 12 rfl
       obtain ⟨r9, er9, H⟩ := bindE H
       refine gg h rfl rfl c22 (o_call (ref01_Same.spc v29 j11.1 v2 a2 r9 er9) rfl [12, 11] [] (by decide) rfl rfl) rfl fun _ _ _ h => ?_
       refine ga h (o_pickT rfl rfl c22) rfl fun h => ?_
       refine mv h rfl rfl fun h => ?_
       by_cases c23 : r9 = true
       ·have H := ifT c23 H
        refine gg h rfl rfl c23 (o_move rfl) rfl fun _ _ _ h => ?_
        refine ga h (o_pickT rfl rfl c23) rfl fun h => ?_
        refine mv h rfl rfl fun h => ?_
        by_cases c24 : j11.2.1 = true
        ·have H := ifT c24 H
         obtain ⟨r10, er10, H⟩ := bindE H
         refine gg h rfl rfl c24 (o_call (law28_heads.spc  r10 er10) rfl [] [] (by decide) rfl rfl) rfl fun _ _ _ h => ?_
         refine ga h (o_pickT rfl rfl c24) rfl fun h => ?_
         refine ga h (o_assign rfl) rfl fun h => ?_
         refine GoR.done ?_
         replace h := h.mm fun m => (m.pull (Lo := [Fld (Kd.eq v30) b1 24 (), Val (Kd.osl (Kd.int .u8)) v30 j11.2.2.given]) [2, 5] (by decide) rfl).pck
         replace h := h.mm fun m => (m.pull (Lo := [Fld (Kd.eq v31) b1 25 (), Val (Kd.osl (Kd.int .u8)) v31 j11.2.2.gave]) [2, 7] (by decide) rfl).pck
         replace h := h.mm fun m => (m.pull (Lo := [Fld (Kd.eq v32) b1 26 (), Val (Kd.osl KSeg) v32 j11.2.2.segs]) [2, 9] (by decide) rfl).pck
         replace h := h.mm fun m => (m.pull (Lo := [Fld KConn b1 0 j11.2.2.c, Fld (Kd.int .i64) b1 23 j11.2.2.now, Fld (Kd.osl (Kd.int .u8)) b1 24 j11.2.2.given, Fld (Kd.osl (Kd.int .u8)) b1 25 j11.2.2.gave, Fld (Kd.osl KSeg) b1 26 j11.2.2.segs, Fld Kd.bool b1 27 j11.2.2.gone, Fld (Kd.int .i64) b1 28 j11.2.2.calls]) [6, 7, 2, 1, 0, 11, 12] (by decide) rfl).cls (cplay _ j11.2.2)
         exact J12 r10 _ _ (som H).symm (h.wr [0])
        ·have H := ifF c24 H
         refine gk h rfl rfl (nb_f c24) rfl fun _ h => ?_
         refine ga h (o_pickF rfl rfl c24) rfl fun h => ?_
         refine ga h (o_assign rfl) rfl fun h => ?_
         refine GoR.done ?_
         replace h := h.mm fun m => (m.pull (Lo := [Fld (Kd.eq v30) b1 24 (), Val (Kd.osl (Kd.int .u8)) v30 j11.2.2.given]) [2, 5] (by decide) rfl).pck
         replace h := h.mm fun m => (m.pull (Lo := [Fld (Kd.eq v31) b1 25 (), Val (Kd.osl (Kd.int .u8)) v31 j11.2.2.gave]) [2, 7] (by decide) rfl).pck
         replace h := h.mm fun m => (m.pull (Lo := [Fld (Kd.eq v32) b1 26 (), Val (Kd.osl KSeg) v32 j11.2.2.segs]) [2, 9] (by decide) rfl).pck
         replace h := h.mm fun m => (m.pull (Lo := [Fld KConn b1 0 j11.2.2.c, Fld (Kd.int .i64) b1 23 j11.2.2.now, Fld (Kd.osl (Kd.int .u8)) b1 24 j11.2.2.given, Fld (Kd.osl (Kd.int .u8)) b1 25 j11.2.2.gave, Fld (Kd.osl KSeg) b1 26 j11.2.2.segs, Fld Kd.bool b1 27 j11.2.2.gone, Fld (Kd.int .i64) b1 28 j11.2.2.calls]) [6, 7, 2, 1, 0, 11, 12] (by decide) rfl).cls (cplay _ j11.2.2)
         exact J12 false _ _ (som H).symm (h.wr [0])
       ·have H := ifF c23 H
        refine gk h rfl rfl (nb_f c23) rfl fun _ h => ?_
        refine ga h (o_pickF rfl rfl c23) rfl fun h => ?_
        refine mv h rfl rfl fun h => ?_
        refine gk h rfl rfl (nb_f Bool.false_ne_true) rfl fun _ h => ?_
        refine ga h (o_pickF rfl rfl Bool.false_ne_true) rfl fun h => ?_
        refine ga h (o_assign rfl) rfl fun h => ?_
        refine GoR.done ?_
        replace h := h.mm fun m => (m.pull (Lo := [Fld (Kd.eq v30) b1 24 (), Val (Kd.osl (Kd.int .u8)) v30 j11.2.2.given]) [2, 5] (by decide) rfl).pck
        replace h := h.mm fun m => (m.pull (Lo := [Fld (Kd.eq v31) b1 25 (), Val (Kd.osl (Kd.int .u8)) v31 j11.2.2.gave]) [2, 7] (by decide) rfl).pck
        replace h := h.mm fun m => (m.pull (Lo := [Fld (Kd.eq v32) b1 26 (), Val (Kd.osl KSeg) v32 j11.2.2.segs]) [2, 9] (by decide) rfl).pck
        replace h := h.mm fun m => (m.pull (Lo := [Fld KConn b1 0 j11.2.2.c, Fld (Kd.int .i64) b1 23 j11.2.2.now, Fld (Kd.osl (Kd.int .u8)) b1 24 j11.2.2.given, Fld (Kd.osl (Kd.int .u8)) b1 25 j11.2.2.gave, Fld (Kd.osl KSeg) b1 26 j11.2.2.segs, Fld Kd.bool b1 27 j11.2.2.gone, Fld (Kd.int .i64) b1 28 j11.2.2.calls]) [6, 7, 2, 1, 0, 11, 12] (by decide) rfl).cls (cplay _ j11.2.2)
        exact J12 false _ _ (som H).symm (h.wr [0])
      ·have H := ifF c22 H
       iterate 3 (refine gk h rfl rfl (nb_f c22) rfl fun _ h => ?_)
       refine ga h (o_pickF rfl rfl c22) rfl fun h => ?_
       refine mv h rfl rfl fun h => ?_
       refine gk h rfl rfl (nb_f Bool.false_ne_true) rfl fun _ h => ?_
       refine ga h (o_pickF rfl rfl Bool.false_ne_true) rfl fun h => ?_
       refine mv h rfl rfl fun h => ?_
       refine gk h rfl rfl (nb_f Bool.false_ne_true) rfl fun _ h => ?_
       refine ga h (o_pickF rfl rfl Bool.false_ne_true) rfl fun h => ?_
       refine ga h (o_assign rfl) rfl fun h => ?_
       refine GoR.done ?_
       replace h := h.mm fun m => (m.pull (Lo := [Fld (Kd.eq v30) b1 24 (), Val (Kd.osl (Kd.int .u8)) v30 j11.2.2.given]) [2, 5] (by decide) rfl).pck
       replace h := h.mm fun m => (m.pull (Lo := [Fld (Kd.eq v31) b1 25 (), Val (Kd.osl (Kd.int .u8)) v31 j11.2.2.gave]) [2, 7] (by decide) rfl).pck
       replace h := h.mm fun m => (m.pull (Lo := [Fld (Kd.eq v32) b1 26 (), Val (Kd.osl KSeg) v32 j11.2.2.segs]) [2, 9] (by decide) rfl).pck
       replace h := h.mm fun m => (m.pull (Lo := [Fld KConn b1 0 j11.2.2.c, Fld (Kd.int .i64) b1 23 j11.2.2.now, Fld (Kd.osl (Kd.int .u8)) b1 24 j11.2.2.given, Fld (Kd.osl (Kd.int .u8)) b1 25 j11.2.2.gave, Fld (Kd.osl KSeg) b1 26 j11.2.2.segs, Fld Kd.bool b1 27 j11.2.2.gone, Fld (Kd.int .i64) b1 28 j11.2.2.calls]) [6, 7, 2, 1, 0, 11, 12] (by decide) rfl).cls (cplay _ j11.2.2)
       exact J12 false _ _ (som H).symm (h.wr [0])
     ·have H := ifF c21 H
      iterate 6 (refine gk h rfl rfl (nb_f c21) rfl fun _ h => ?_)
      refine ga h (o_pickF rfl rfl c21) rfl fun h => ?_
      refine mv h rfl rfl fun h => ?_
      iterate 3 (refine gk h rfl rfl (nb_f Bool.false_ne_true) rfl fun _ h => ?_)
      refine ga h (o_pickF rfl rfl Bool.false_ne_true) rfl fun h => ?_
      refine mv h rfl rfl fun h => ?_
      refine gk h rfl rfl (nb_f Bool.false_ne_true) rfl fun _ h => ?_
      refine ga h (o_pickF rfl rfl Bool.false_ne_true) rfl fun h => ?_
      refine mv h rfl rfl fun h => ?_
      refine gk h rfl rfl (nb_f Bool.false_ne_true) rfl fun _ h => ?_
      refine ga h (o_pickF rfl rfl Bool.false_ne_true) rfl fun h => ?_
      refine ga h (o_assign rfl) rfl fun h => ?_
      refine GoR.done ?_
      exact J12 false _ _ (som H).symm (h.wr [3])
    refine g_loop (fun s1 G => ∀ (v9 : Value) (a : Act) (w : World), InR .i64 s1.2.2.1 → InR .i64 s1.2.2.2.1 → InR .i64 s1.2.2.2.2.1 → St Try.f8.ntmps F [(0, v1), (1, v2), (2, .int .i64 a3), (3, .int .i64 a4), (4, .int .u32 a5), (5, .int .u32 a6), (13, pt b1), (15, v9), (16, .bool s1.2.1), (17, .int .i64 s1.2.2.1), (18, .int .i64 s1.2.2.2.1), (19, .int .i64 s1.2.2.2.2.1)] [Val (Kd.sl (Kd.int .u8)) v1 a1, Val (Kd.sl (Kd.int .u8)) v2 a2, Val (Kd.osl (Kd.int .u8)) v9 s1.1, Fld Kplay b1 0 s1.2.2.2.2.2] a w → G a w) hl (fun s1 p1 H i1 => ?_) fun I_ => ?_
    ·intro v9 a w g3 g4 g5 h
     refine Go.seq ?_
     refine Go.seq ?_
     obtain ⟨o3, H, G3⟩ := bindE H
     refine g_cut (fun G => ∀ j2 (a : Act) (w : World), o3 = j2 → St Try.f8.ntmps F [(0, v1), (1, v2), (2, .int .i64 a3), (3, .int .i64 a4), (4, .int .u32 a5), (5, .int .u32 a6), (13, pt b1), (15, v9), (16, .bool s1.2.1), (17, .int .i64 s1.2.2.1), (18, .int .i64 s1.2.2.2.1), (19, .int .i64 s1.2.2.2.2.1), (76, .bool j2)] [Val (Kd.sl (Kd.int .u8)) v1 a1, Val (Kd.sl (Kd.int .u8)) v2 a2, Val (Kd.osl (Kd.int .u8)) v9 s1.1, Fld Kplay b1 0 s1.2.2.2.2.2] a w → G a w) 1 ?_ fun J2 => ?_
     ·intro j2 a w ho_ h
      rw [ho_] at G3
      have H := G3
      by_cases c9 : j2 = true
      ·have H := ifT c9 H
       refine g_t h rfl c9 ?_
       refine Go.skip ?_
       refine Go.seq ?_
       refine Go.block ?_
       refine Go.seq ?_
       refine Go.block ?_
       obtain ⟨o4, hl, G4⟩ := bindE H
       refine g_cut (fun G => ∀ j6 (v21 : Value) (a : Act) (w : World), o4 = j6 → InR .i64 j6.2.2.1 → St Try.f8.ntmps F [(0, v1), (1, v2), (2, .int .i64 a3), (3, .int .i64 a4), (4, .int .u32 a5), (5, .int .u32 a6), (13, pt b1), (15, v21), (16, .bool j6.2.1), (17, .int .i64 j6.2.2.1), (18, .int .i64 s1.2.2.2.1), (19, .int .i64 s1.2.2.2.2.1)] [Val (Kd.sl (Kd.int .u8)) v1 a1, Val (Kd.sl (Kd.int .u8)) v2 a2, Val (Kd.osl (Kd.int .u8)) v21 j6.1, Fld Kplay b1 0 j6.2.2.2] a w → G a w) 2 ?_ fun J6 => ?_
       ·intro j6 v21 a w ho_ g16 h
        rw [ho_] at G4
        have H := G4
        refine Go.seq ?_
        refine Go.reg ?_
        refine mv h rfl rfl fun h => ?_
        refine ga h (o_bin rfl rfl rfl) rfl fun h => ?_
        refine mv h rfl rfl fun h => ?_
        refine ga h (o_conv rfl t_q3 t_u22) rfl fun h => ?_
        refine ga h (o_bin rfl rfl rfl) rfl fun h => ?_
        refine mv h rfl rfl fun h => ?_
        refine ga h (o_bin rfl rfl rfl) rfl fun h => ?_
        refine mv h rfl rfl fun h => ?_
        have g17 := (len_own 2 rfl h.mem)
        refine ga h (o_ln rfl (rd_own 2 rfl) t_v23) rfl fun h => ?_
        refine ga h (o_conv rfl t_q3 t_u22) rfl fun h => ?_
        refine ga h (o_bin rfl rfl rfl) rfl fun h => ?_
        refine mv h rfl rfl fun h => ?_
        refine gs h (o_build (K := KSeg) (x := (⟨9, 80, IntKind.u32.wrap ((IntKind.u32.wrap (a6 + 1)) + (IntKind.u32.wrap s1.2.2.2.1)), IntKind.u32.wrap ((IntKind.u32.wrap (a5 + 1)) + (IntKind.u32.wrap (j6.1.length : Int))), 16, a4, 0, []⟩ : TSeg)) (ps := [(0, .int .i64 9), (1, .int .i64 80), (2, .int .u32 (IntKind.u32.wrap ((IntKind.u32.wrap (a6 + 1)) + (IntKind.u32.wrap s1.2.2.2.1)))), (3, .int .u32 (IntKind.u32.wrap ((IntKind.u32.wrap (a5 + 1)) + (IntKind.u32.wrap (j6.1.length : Int))))), (4, .int .i64 16), (5, .int .i64 a4)]) rfl (zs := zsSeg) rfl t_b30 rfl (show PB (Kd.pair (Kd.int .i64) (Kd.pair (Kd.int .i64) (Kd.pair (Kd.int .u32) (Kd.pair (Kd.int .u32) (Kd.pair (Kd.int .i64) (Kd.pair (Kd.int .i64) (Kd.pair (Kd.int .i64) (Kd.last (Kd.sl (Kd.int .u8)))))))))) (9, 80, IntKind.u32.wrap ((IntKind.u32.wrap (a6 + 1)) + (IntKind.u32.wrap s1.2.2.2.1)), IntKind.u32.wrap ((IntKind.u32.wrap (a5 + 1)) + (IntKind.u32.wrap (j6.1.length : Int))), 16, a4, 0, []) 0 zsSeg _ _ from (pb_part (pv_int (show InR .i64 9 by decide)) rfl (pb_part (pv_int (show InR .i64 80 by decide)) rfl (pb_part (pv_int (wrap_in _ _)) rfl (pb_part (pv_int (wrap_in _ _)) rfl (pb_part (pv_int (show InR .i64 16 by decide)) rfl (pb_part (pv_int ha4) rfl (pb_zero z_int (pb_lastz z_sl)))))))))) rfl fun v22 _ _ h => ?_
        refine gs h (o_alloc (K := KSeg) (z := (.agg #[.int .i64 0, .int .i64 0, .int .u32 0, .int .u32 0, .int .i64 0, .int .i64 0, .int .i64 0, .slice none 0 0])) rfl ZSeg) rfl fun b3 _ _ h => ?_
        refine gs0 h (o_st 0 rfl rfl rfl (pv_at PSeg 1 rfl) rfl t_w30) fun _ _ _ h => ?_
        refine GoR.done ?_
        refine Go.seq ?_
        obtain ⟨o8, H, G8⟩ := bindE H
        refine g_cut (fun G => ∀ j7 (a : Act) (w : World), o8 = j7 → St Try.f8.ntmps F [(0, v1), (1, v2), (2, .int .i64 a3), (3, .int .i64 a4), (4, .int .u32 a5), (5, .int .u32 a6), (13, pt b1), (15, v21), (16, .bool j6.2.1), (17, .int .i64 j6.2.2.1), (18, .int .i64 s1.2.2.2.1), (19, .int .i64 s1.2.2.2.2.1), (22, pt b3)] [Val (Kd.sl (Kd.int .u8)) v1 a1, Val (Kd.sl (Kd.int .u8)) v2 a2, Val (Kd.osl (Kd.int .u8)) v21 j6.1, Fld KSeg b3 0 j7, Fld Kplay b1 0 j6.2.2.2] a w → G a w) 1 ?_ fun J7 => ?_
        ·intro j7 a w ho_ h
         rw [ho_] at G8
         have H := G8
         refine Go.seq ?_
         obtain ⟨o9, H, G9⟩ := bindE H
         refine g_cut (fun G => ∀ j9 (a : Act) (w : World), o9 = j9 → InR .i64 j9.1 → St Try.f8.ntmps F [(0, v1), (1, v2), (2, .int .i64 a3), (3, .int .i64 a4), (4, .int .u32 a5), (5, .int .u32 a6), (13, pt b1), (15, v21), (16, .bool j6.2.1), (17, .int .i64 j6.2.2.1), (18, .int .i64 j9.1), (19, .int .i64 s1.2.2.2.2.1), (22, pt b3)] [Val (Kd.sl (Kd.int .u8)) v1 a1, Val (Kd.sl (Kd.int .u8)) v2 a2, Val (Kd.osl (Kd.int .u8)) v21 j6.1, Fld KSeg b3 0 j9.2, Fld Kplay b1 0 j6.2.2.2] a w → G a w) 1 ?_ fun J9 => ?_
         ·intro j9 a w ho_ g22 h
          rw [ho_] at G9
          have H := G9
          refine Go.seq ?_
          refine Go.reg ?_
          refine mv h rfl rfl fun h => ?_
          refine gs h (o_ldv 3 rfl rfl PSeg t_y30) rfl fun v24 _ _ h => ?_
          refine gs h (o_build (K := KEv) (x := (⟨0, j9.2, zTell, 0⟩ : TEv)) (ps := [(1, v24)]) rfl (zs := zsEv) rfl t_b46 rfl (show PB (Kd.pair (Kd.int .i64) (Kd.pair KSeg (Kd.pair KTell (Kd.last (Kd.int .i64))))) (0, j9.2, zTell, 0) 0 zsEv _ _ from (pb_zero z_int (pb_part (pv_at PSeg 0 rfl) rfl (pb_zero ZTell (pb_lastz z_int)))))) rfl fun v25 _ _ h => ?_
          obtain ⟨r5, er5, H⟩ := bindE H
          refine ga h (o_call (law28_play_do.spc b1 j6.2.2.2 v25 (⟨0, j9.2, zTell, 0⟩ : TEv) r5 er5) rfl [0] [6] (by decide) rfl rfl) rfl fun h => ?_
          refine GoR.done ?_
          refine Go.seq ?_
          obtain ⟨o11, H, G11⟩ := bindE H
          refine g_cut (fun G => ∀ j10 (a : Act) (w : World), o11 = j10 → InR .i64 j10 → St Try.f8.ntmps F [(0, v1), (1, v2), (2, .int .i64 a3), (3, .int .i64 a4), (4, .int .u32 a5), (5, .int .u32 a6), (13, pt b1), (15, v21), (16, .bool j6.2.1), (17, .int .i64 j6.2.2.1), (18, .int .i64 j10), (19, .int .i64 s1.2.2.2.2.1)] [Val (Kd.sl (Kd.int .u8)) v1 a1, Val (Kd.sl (Kd.int .u8)) v2 a2, Val (Kd.osl (Kd.int .u8)) v21 j6.1, Fld Kplay b1 0 r5, Fld KSeg b3 0 j9.2] a w → G a w) 1 ?_ fun J10 => ?_
          ·intro j10 a w ho_ g25 h
           rw [ho_] at G11
           have H := G11
           refine Go.seq ?_
           refine Go.reg ?_
           refine mv h rfl rfl fun h => ?_
           refine gs h (o_build (K := KTell) (x := (⟨5, 1, [], 4096⟩ : TTell)) (ps := [(0, .int .i64 5), (1, .int .i64 1), (3, .int .i64 4096)]) rfl (zs := zsTell) rfl t_b44 rfl (show PB (Kd.pair (Kd.int .i64) (Kd.pair (Kd.int .i64) (Kd.pair (Kd.sl (Kd.int .u8)) (Kd.last (Kd.int .i64))))) (5, 1, [], 4096) 0 zsTell _ _ from (pb_part (pv_int (show InR .i64 5 by decide)) rfl (pb_part (pv_int (show InR .i64 1 by decide)) rfl (pb_zero z_sl (pb_lastp (pv_int (show InR .i64 4096 by decide)) rfl)))))) rfl fun v26 _ _ h => ?_
           refine gs h (o_build (K := KEv) (x := (⟨1, zSeg, (⟨5, 1, [], 4096⟩ : TTell), 0⟩ : TEv)) (ps := [(0, .int .i64 1), (2, v26)]) rfl (zs := zsEv) rfl t_b46 rfl (show PB (Kd.pair (Kd.int .i64) (Kd.pair KSeg (Kd.pair KTell (Kd.last (Kd.int .i64))))) (1, zSeg, (⟨5, 1, [], 4096⟩ : TTell), 0) 0 zsEv _ _ from (pb_part (pv_int (show InR .i64 1 by decide)) rfl (pb_zero ZSeg (pb_part (pv_at PTell 0 rfl) rfl (pb_lastz z_int)))))) rfl fun v27 _ _ h => ?_
           obtain ⟨r6, er6, H⟩ := bindE H
           refine ga h (o_call (law28_play_do.spc b1 r5 v27 (⟨1, zSeg, (⟨5, 1, [], 4096⟩ : TTell), 0⟩ : TEv) r6 er6) rfl [0] [5] (by decide) rfl rfl) rfl fun h => ?_
           refine GoR.done ?_
           refine Go.reg ?_
           refine mv h rfl rfl fun h => ?_
           refine gs h (o_build (K := KEv) (x := (⟨2, zSeg, zTell, 1⟩ : TEv)) (ps := [(0, .int .i64 2), (3, .int .i64 1)]) rfl (zs := zsEv) rfl t_b46 rfl (show PB (Kd.pair (Kd.int .i64) (Kd.pair KSeg (Kd.pair KTell (Kd.last (Kd.int .i64))))) (2, zSeg, zTell, 1) 0 zsEv _ _ from (pb_part (pv_int (show InR .i64 2 by decide)) rfl (pb_zero ZSeg (pb_zero ZTell (pb_lastp (pv_int (show InR .i64 1 by decide)) rfl)))))) rfl fun v28 _ _ h => ?_
           obtain ⟨r7, er7, H⟩ := bindE H
           refine ga h (o_call (law28_play_do.spc b1 r6 v28 (⟨2, zSeg, zTell, 1⟩ : TEv) r7 er7) rfl [0] [1] (by decide) rfl rfl) rfl fun h => ?_
           refine GoR.done ?_
           refine Go.inBlock ?_
           refine Go.reg ?_
           refine mv h rfl rfl fun h => ?_
           refine ga h (o_bin rfl rfl rfl) rfl fun h => ?_
           obtain ⟨y11, ey11, H⟩ := ltE H
           refine ga h (o_assign' rfl (congrArg (fun z => Value.int .i64 z) ey11)) rfl fun h => ?_
           refine GoR.done ?_
           have e_ := som H; subst e_
           exact Go.inLoop (nx_in i1 v21 _ _ g16 g25 (ey11 ▸ (wrap_in _ _)) (h.wr [5, 6, 7, 0]))
          refine Go.seq ?_
          refine Go.reg ?_
          refine ga h (o_fa rfl t_f30_4 rfl rfl) rfl fun h => ?_
          have g23 := (in2 (fd_sub sSeg_Flags 6 rfl h.mem))
          refine ga h (o_lfx 6 rfl rfl sSeg_Flags rfl X_int t_y3) rfl fun h => ?_
          refine ga h (o_bin rfl rfl rfl) rfl fun h => ?_
          refine ga h (o_bin rfl rfl rfl) rfl fun h => ?_
          refine GoR.done ?_
          by_cases c20 : (!decide ((bits .and .i64 j9.2.Flags 1) = 0)) = true
          ·have H := ifT c20 H
           refine g_t h rfl c20 ?_
           refine Go.reg ?_
           refine mv h rfl rfl fun h => ?_
           have g24 := (len_at 3 rfl h.mem)
           refine ga h (o_ln rfl (rd_at 3 rfl) t_v23) rfl fun h => ?_
           refine ga h (o_bin rfl rfl rfl) rfl fun h => ?_
           obtain ⟨y10, ey10, H⟩ := ltE H
           refine ga h (o_assign' rfl (congrArg (fun z => Value.int .i64 z) ey10)) rfl fun h => ?_
           refine GoR.done ?_
           exact J10 y10 _ _ (som H).symm (ey10 ▸ (wrap_in _ _)) (h.wr [3, 4, 5, 0, 6])
          ·have H := ifF c20 H
           refine g_f h rfl c20 ?_
           refine Go.skip ?_
           exact J10 j9.1 _ _ (som H).symm g22 (h.wr [3, 4, 5, 0, 6])
         refine Go.seq ?_
         refine Go.reg ?_
         refine mv h rfl rfl fun h => ?_
         refine mv h rfl rfl fun h => ?_
         have g19 := (len_at 0 rfl h.mem)
         refine ga h (o_ln rfl (rd_at 0 rfl) t_v23) rfl fun h => ?_
         refine ga h (o_bin rfl rfl rfl) rfl fun h => ?_
         refine GoR.done ?_
         by_cases c18 : decide (s1.2.2.2.1 ≤ (a1.length : Int)) = true
         ·have H := ifT c18 H
          refine g_t h rfl c18 ?_
          refine Go.seq ?_
          refine Go.reg ?_
          refine mv h rfl rfl fun h => ?_
          refine mv h rfl rfl fun h => ?_
          have g20 := (len_at 0 rfl h.mem)
          refine ga h (o_ln rfl (rd_at 0 rfl) t_v23) rfl fun h => ?_
          refine mv h rfl rfl fun h => ?_
          refine ga h (o_bin rfl rfl rfl) rfl fun h => ?_
          refine ga h (o_min rfl rfl) rfl fun h => ?_
          obtain ⟨y6, ey6, H⟩ := ltE H
          refine ga h (o_assign' rfl (congrArg (fun z => Value.int .i64 z) ey6)) rfl fun h => ?_
          refine GoR.done ?_
          refine Go.seq ?_
          refine Go.reg ?_
          iterate 4 (refine ga h (o_move rfl) rfl fun h => ?_)
          refine ga h (o_bin rfl rfl rfl) rfl fun h => ?_
          obtain ⟨x4, ex4, H⟩ := bindE H
          refine gs h (o_cut rfl (pv_at Per_sl 0 rfl) rfl rfl ex4 t_v23) rfl fun v23 _ _ h => ?_
          refine ga h (o_fa rfl t_f30_7 rfl rfl) rfl fun h => ?_
          obtain ⟨y7, ey7, H⟩ := ltE H
          refine gs0 h (o_stp (x0 := j7) (y := x4) 4 t_uSeg_7_1 rfl rfl rfl rfl (pv_at Per_sl 0 rfl) t_w23) fun _ _ _ h => ?_
          rw [ey7] at h
          refine GoR.done ?_
          refine Go.seq ?_
          obtain ⟨o10, H, G10⟩ := bindE H
          refine g_cut (fun G => ∀ j8 (a : Act) (w : World), o10 = j8 → St Try.f8.ntmps F [(0, v1), (1, v2), (2, .int .i64 a3), (3, .int .i64 a4), (4, .int .u32 a5), (5, .int .u32 a6), (13, pt b1), (15, v21), (16, .bool j6.2.1), (17, .int .i64 j6.2.2.1), (18, .int .i64 s1.2.2.2.1), (19, .int .i64 s1.2.2.2.2.1), (22, pt b3), (23, .int .i64 y6)] [Val (Kd.sl (Kd.int .u8)) v1 a1, Val (Kd.sl (Kd.int .u8)) v2 a2, Val (Kd.osl (Kd.int .u8)) v21 j6.1, Fld KSeg b3 0 j8, Fld Kplay b1 0 j6.2.2.2] a w → G a w) 1 ?_ fun J8 => ?_
          ·intro j8 a w ho_ h
           rw [ho_] at G10
           have H := G10
           refine Go.reg ?_
           refine mv h rfl rfl fun h => ?_
           refine mv h rfl rfl fun h => ?_
           refine ga h (o_bin rfl rfl rfl) rfl fun h => ?_
           obtain ⟨y9, ey9, H⟩ := ltE H
           refine ga h (o_assign' rfl (congrArg (fun z => Value.int .i64 z) ey9)) rfl fun h => ?_
           refine GoR.done ?_
           exact J9 (y9, j8) _ _ (som H).symm (ey9 ▸ (wrap_in _ _)) (h.wr [0, 1, 2, 3, 4])
          refine Go.seq ?_
          refine Go.reg ?_
          refine mv h rfl rfl fun h => ?_
          refine ga h (o_bin rfl rfl rfl) rfl fun h => ?_
          refine GoR.done ?_
          by_cases c19 : decide (y6 = 0) = true
          ·have H := ifT c19 H
           refine g_t h rfl c19 ?_
           refine Go.reg ?_
           refine ga h (o_fa rfl t_f30_4 rfl rfl) rfl fun h => ?_
           have g21 := (in2 (fd_sub sSeg_Flags 4 rfl h.mem))
           refine ga h (o_lfx 4 rfl rfl sSeg_Flags rfl X_int t_y3) rfl fun h => ?_
           refine ga h (o_bin rfl rfl rfl) rfl fun h => ?_
           refine ga h (o_fa rfl t_f30_4 rfl rfl) rfl fun h => ?_
           obtain ⟨y8, ey8, H⟩ := ltE H
           refine gs0 h (o_stp (x0 := y7) (y := bits .or .i64 y7.Flags 1) 4 t_uSeg_4_1 rfl rfl rfl rfl (pv_int (wrap_in _ _)) t_w3) fun _ _ _ h => ?_
           rw [ey8] at h
           refine GoR.done ?_
           exact J8 y8 _ _ (som H).symm (h.wr [1, 2, 3, 4, 5])
          ·have H := ifF c19 H
           refine g_f h rfl c19 ?_
           refine Go.skip ?_
           exact J8 y7 _ _ (som H).symm (h.wr [1, 2, 3, 4, 5])
         ·have H := ifF c18 H
          refine g_f h rfl c18 ?_
          refine Go.skip ?_
          exact J9 (s1.2.2.2.1, j7) _ _ (som H).symm g4 (h.wr [0, 1, 2, 3, 4])
        refine Go.seq ?_
        refine Go.reg ?_
        refine mv h rfl rfl fun h => ?_
        refine GoR.done ?_
        by_cases c17 : j6.2.1 = true
        ·have H := ifT c17 H
         refine g_t h rfl c17 ?_
         refine Go.reg ?_
         refine ga h (o_fa rfl t_f30_3 rfl rfl) rfl fun h => ?_
         have g18 := (in2 (fd_sub sSeg_Ack 0 rfl h.mem))
         refine ga h (o_lfx 0 rfl rfl sSeg_Ack rfl X_int t_y22) rfl fun h => ?_
         refine ga h (o_bin rfl rfl rfl) rfl fun h => ?_
         refine ga h (o_fa rfl t_f30_3 rfl rfl) rfl fun h => ?_
         obtain ⟨y5, ey5, H⟩ := ltE H
         refine gs0 h (o_stp (x0 := (⟨9, 80, IntKind.u32.wrap ((IntKind.u32.wrap (a6 + 1)) + (IntKind.u32.wrap s1.2.2.2.1)), IntKind.u32.wrap ((IntKind.u32.wrap (a5 + 1)) + (IntKind.u32.wrap (j6.1.length : Int))), 16, a4, 0, []⟩ : TSeg)) (y := IntKind.u32.wrap (((⟨9, 80, IntKind.u32.wrap ((IntKind.u32.wrap (a6 + 1)) + (IntKind.u32.wrap s1.2.2.2.1)), IntKind.u32.wrap ((IntKind.u32.wrap (a5 + 1)) + (IntKind.u32.wrap (j6.1.length : Int))), 16, a4, 0, []⟩ : TSeg).Ack) + 1)) 0 t_uSeg_3_1 rfl rfl rfl rfl (pv_int (wrap_in _ _)) t_w22) fun _ _ _ h => ?_
         rw [ey5] at h
         refine GoR.done ?_
         exact J7 y5 _ _ (som H).symm (h.wr [2, 3, 4, 0, 5])
        ·have H := ifF c17 H
         refine g_f h rfl c17 ?_
         refine Go.skip ?_
         exact J7 (⟨9, 80, IntKind.u32.wrap ((IntKind.u32.wrap (a6 + 1)) + (IntKind.u32.wrap s1.2.2.2.1)), IntKind.u32.wrap ((IntKind.u32.wrap (a5 + 1)) + (IntKind.u32.wrap (j6.1.length : Int))), 16, a4, 0, []⟩ : TSeg) _ _ (som H).symm (h.wr [2, 3, 4, 0, 5])
       refine g_loop (fun s2 G => ∀ (v10 : Value) (a : Act) (w : World), InR .i64 s2.2.2.1 → St Try.f8.ntmps F [(0, v1), (1, v2), (2, .int .i64 a3), (3, .int .i64 a4), (4, .int .u32 a5), (5, .int .u32 a6), (13, pt b1), (15, v10), (16, .bool s2.2.1), (17, .int .i64 s2.2.2.1), (18, .int .i64 s1.2.2.2.1), (19, .int .i64 s1.2.2.2.2.1)] [Val (Kd.sl (Kd.int .u8)) v1 a1, Val (Kd.sl (Kd.int .u8)) v2 a2, Val (Kd.osl (Kd.int .u8)) v10 s2.1, Fld Kplay b1 0 s2.2.2.2] a w → G a w) hl (fun s2 p2 H i2 => ?_) fun I_ => ?_
       ·intro v10 a w g6 h
        refine Go.seq ?_
        refine Go.seq ?_
        refine Go.reg ?_
        refine mv h rfl rfl fun h => ?_
        refine mv h rfl rfl fun h => ?_
        refine ga h (o_nilc rfl) rfl fun h => ?_
        refine ga h (o_fa rfl t_f48_4 rfl rfl) rfl fun h => ?_
        replace h := h.mm fun m => (m.take (i := 3) rfl).opn (cplay _ _)
        obtain ⟨v11, h⟩ := h.unp 2 rfl
        obtain ⟨v12, h⟩ := h.unp 4 rfl
        obtain ⟨v13, h⟩ := h.unp 6 rfl
        refine ga h (o_ldx 0 rfl rfl X_eq t_y31) rfl fun h => ?_
        have g7 := (len_own 7 rfl h.mem)
        refine ga h (o_ln rfl (rd_own 7 rfl) t_v31) rfl fun h => ?_
        refine ga h (o_bin rfl rfl rfl) rfl fun h => ?_
        refine GoR.done ?_
        by_cases c10 : decide (s2.2.2.1 < (s2.2.2.2.segs.length : Int)) = true
        ·have H := ifT c10 H
         refine g_t h rfl c10 ?_
         refine Go.skip ?_
         refine Go.seq ?_
         refine Go.block ?_
         refine Go.seq ?_
         refine Go.reg ?_
         refine mv h rfl rfl fun h => ?_
         refine ga h (o_nilc rfl) rfl fun h => ?_
         refine ga h (o_fa rfl t_f48_4 rfl rfl) rfl fun h => ?_
         refine ga h (o_ldx 0 rfl rfl X_eq t_y31) rfl fun h => ?_
         refine mv h rfl rfl fun h => ?_
         obtain ⟨x1, ex1, H⟩ := bindE H
         refine ga h (o_ix rfl rfl (rd_own 7 rfl) ex1 t_v31) rfl fun h => ?_
         refine gs h (o_lev rfl (rd_own 7 rfl) ex1 t_y30 (by decide)) rfl fun v14 _ _ h => ?_
         refine gs h (o_alloc (K := KSeg) (z := (.agg #[.int .i64 0, .int .i64 0, .int .u32 0, .int .u32 0, .int .i64 0, .int .i64 0, .int .i64 0, .slice none 0 0])) rfl ZSeg) rfl fun b2 _ _ h => ?_
         refine gs0 h (o_st 0 rfl rfl rfl (pv_at PSeg 1 rfl) rfl t_w30) fun _ _ _ h => ?_
         refine GoR.done ?_
         refine Go.seq ?_
         refine Go.reg ?_
         refine ga h (o_fa rfl t_f30_2 rfl rfl) rfl fun h => ?_
         have g8 := (in2 (fd_sub sSeg_Seq 0 rfl h.mem))
         refine ga h (o_lfx 0 rfl rfl sSeg_Seq rfl X_int t_y22) rfl fun h => ?_
         refine mv h rfl rfl fun h => ?_
         refine ga h (o_bin rfl rfl rfl) rfl fun h => ?_
         refine ga h (o_bin rfl rfl rfl) rfl fun h => ?_
         refine ga h (o_convw rfl t_q22 t_u3 (wrap_in _ _) rfl) rfl fun h => ?_
         obtain ⟨y2, ey2, H⟩ := ltE H
         refine ga h (o_assign' rfl (congrArg (fun z => Value.int .i64 z) ey2)) rfl fun h => ?_
         refine GoR.done ?_
         refine Go.seq ?_
         obtain ⟨o5, H, G5⟩ := bindE H
         refine g_cut (fun G => ∀ j4 (v20 : Value) (a : Act) (w : World), o5 = j4 → St Try.f8.ntmps F [(0, v1), (1, v2), (2, .int .i64 a3), (3, .int .i64 a4), (4, .int .u32 a5), (5, .int .u32 a6), (13, pt b1), (15, v20), (16, .bool s2.2.1), (17, .int .i64 s2.2.2.1), (18, .int .i64 s1.2.2.2.1), (19, .int .i64 s1.2.2.2.2.1), (20, pt b2), (21, .int .i64 y2)] [Val (Kd.sl (Kd.int .u8)) v1 a1, Val (Kd.sl (Kd.int .u8)) v2 a2, Val (Kd.osl (Kd.int .u8)) v20 j4.1, Fld Kplay b1 0 j4.2, Fld KSeg b2 0 x1] a w → G a w) 1 ?_ fun J4 => ?_
         ·intro j4 v20 a w ho_ h
          rw [ho_] at G5
          have H := G5
          obtain ⟨o7, H, G7⟩ := bindE H
          refine g_cut (fun G => ∀ j5 (a : Act) (w : World), o7 = j5 → St Try.f8.ntmps F [(0, v1), (1, v2), (2, .int .i64 a3), (3, .int .i64 a4), (4, .int .u32 a5), (5, .int .u32 a6), (13, pt b1), (15, v20), (16, .bool j5), (17, .int .i64 s2.2.2.1), (18, .int .i64 s1.2.2.2.1), (19, .int .i64 s1.2.2.2.2.1)] [Val (Kd.sl (Kd.int .u8)) v1 a1, Val (Kd.sl (Kd.int .u8)) v2 a2, Val (Kd.osl (Kd.int .u8)) v20 j4.1, Fld Kplay b1 0 j4.2, Fld KSeg b2 0 x1] a w → G a w) 2 ?_ fun J5 => ?_
          ·intro j5 a w ho_ h
           rw [ho_] at G7
           have H := G7
           refine Go.reg ?_
           refine mv h rfl rfl fun h => ?_
           refine ga h (o_bin rfl rfl rfl) rfl fun h => ?_
           obtain ⟨y4, ey4, H⟩ := ltE H
           refine ga h (o_assign' rfl (congrArg (fun z => Value.int .i64 z) ey4)) rfl fun h => ?_
           refine GoR.done ?_
           have e_ := som H; subst e_
           exact Go.inLoop (nx_in i2 v20 _ _ (ey4 ▸ (wrap_in _ _)) (h.wr [0, 1, 2, 3]))
          refine Go.reg ?_
          refine mv h rfl rfl fun h => ?_
          refine mv h rfl rfl fun h => ?_
          by_cases c15 : s2.2.1 = true
          ·have H := ifT c15 H
           iterate 5 (refine gk h rfl rfl (nb_t c15) rfl fun _ h => ?_)
           iterate 4 (refine gk h rfl rfl rfl rfl fun _ h => ?_)
           refine gk h rfl rfl (nb_t c15) rfl fun _ h => ?_
           refine ga h (o_pickT rfl rfl c15) rfl fun h => ?_
           refine ga h (o_assign rfl) rfl fun h => ?_
           refine GoR.done ?_
           refine Go.inBlock ?_
           exact J5 true _ _ (som H).symm (h.wr [0, 1, 2, 3, 4])
          ·have H := ifF c15 H
           refine gg h rfl rfl (nbF c15) (o_fa rfl t_f30_4 rfl rfl) rfl fun _ _ _ h => ?_
           have g14 := (in2 (fd_sub sSeg_Flags 4 rfl h.mem))
           refine gg h rfl rfl (nbF c15) (o_lfx 4 rfl rfl sSeg_Flags rfl X_int t_y3) rfl fun _ _ _ h => ?_
           refine gg h rfl rfl (nbF c15) (o_bin rfl rfl rfl) rfl fun _ _ _ h => ?_
           refine gg h rfl rfl (nbF c15) (o_bin rfl rfl rfl) rfl fun _ _ _ h => ?_
           refine gg h rfl rfl (nbF c15) (o_move rfl) rfl fun _ _ _ h => ?_
           by_cases c16 : (!decide ((bits .and .i64 x1.Flags 1) = 0)) = true
           ·have H := ifT c16 H
            refine gg h rfl rfl c16 (o_move rfl) rfl fun _ _ _ h => ?_
            refine gg h rfl rfl c16 (o_move rfl) rfl fun _ _ _ h => ?_
            have g15 := (len_own 2 rfl h.mem)
            refine gg h rfl rfl c16 (o_ln rfl (rd_own 2 rfl) t_v23) rfl fun _ _ _ h => ?_
            refine gg h rfl rfl c16 (o_bin rfl rfl rfl) rfl fun _ _ _ h => ?_
            refine gg h rfl rfl (nbF c15) (o_pickT rfl rfl c16) rfl fun _ _ _ h => ?_
            refine ga h (o_pickF rfl rfl c15) rfl fun h => ?_
            obtain ⟨y3, ey3, H⟩ := ltE H
            refine ga h (o_assign' rfl (congrArg Value.bool ey3)) rfl fun h => ?_
            refine GoR.done ?_
            refine Go.inBlock ?_
            exact J5 y3 _ _ (som H).symm (h.wr [0, 1, 2, 3, 4])
           ·have H := ifF c16 H
            iterate 4 (refine gk h rfl rfl (nb_f c16) rfl fun _ h => ?_)
            refine gg h rfl rfl (nbF c15) (o_pickF rfl rfl c16) rfl fun _ _ _ h => ?_
            refine ga h (o_pickF rfl rfl c15) rfl fun h => ?_
            refine ga h (o_assign rfl) rfl fun h => ?_
            refine GoR.done ?_
            refine Go.inBlock ?_
            exact J5 false _ _ (som H).symm (h.wr [0, 1, 2, 3, 4])
         refine Go.seq ?_
         obtain ⟨o6, H, G6⟩ := bindE H
         refine g_cut (fun G => ∀ j3 (a : Act) (w : World), o6 = j3 → St Try.f8.ntmps F [(0, v1), (1, v2), (2, .int .i64 a3), (3, .int .i64 a4), (4, .int .u32 a5), (5, .int .u32 a6), (13, pt b1), (15, v10), (16, .bool s2.2.1), (17, .int .i64 s2.2.2.1), (18, .int .i64 s1.2.2.2.1), (19, .int .i64 s1.2.2.2.2.1), (20, pt b2), (21, .int .i64 y2), (124, .bool j3.1)] [Val (Kd.sl (Kd.int .u8)) v1 a1, Val (Kd.sl (Kd.int .u8)) v2 a2, Val (Kd.osl (Kd.int .u8)) v10 s2.1, Fld Kplay b1 0 j3.2, Fld KSeg b2 0 x1] a w → G a w) 1 ?_ fun J3 => ?_
         ·intro j3 a w ho_ h
          rw [ho_] at G6
          have H := G6
          by_cases c14 : j3.1 = true
          ·have H := ifT c14 H
           refine g_t h rfl c14 ?_
           refine Go.reg ?_
           refine mv h rfl rfl fun h => ?_
           refine ga h (o_fa rfl t_f30_7 rfl rfl) rfl fun h => ?_
           refine gs h (o_lfv 4 rfl rfl sSeg_Data rfl Per_sl t_y23) rfl fun v17 _ _ h => ?_
           refine mv h rfl rfl fun h => ?_
           have g13 := (len_own 3 rfl h.mem)
           refine ga h (o_ln rfl (rd_own 3 rfl) t_v23) rfl fun h => ?_
           refine mv h rfl rfl fun h => ?_
           refine ga h (o_bin rfl rfl rfl) rfl fun h => ?_
           obtain ⟨x2, ex2, H⟩ := bindE H
           refine gs h (o_cutl rfl (pv_at Per_sl 0 rfl) rfl ex2 t_v23) rfl fun v18 _ _ h => ?_
           obtain ⟨x3, ex3, H⟩ := bindE H
           refine gs h (o_app (K := (Kd.int .u8)) 4 rfl rfl rfl (rd_at 0 rfl) ex3 t_a23 t_n23) rfl fun v19 _ _ h => ?_
           refine ga h (o_assign rfl) rfl fun h => ?_
           refine GoR.done ?_
           exact J4 (x3, j3.2) v19 _ _ (som H).symm (h.wr [2, 3, 4, 5, 6])
          ·have H := ifF c14 H
           refine g_f h rfl c14 ?_
           refine Go.skip ?_
           exact J4 (s2.1, j3.2) v10 _ _ (som H).symm (h.wr [0, 1, 2, 3, 4])
         refine Go.reg ?_
         refine ga h (o_fa rfl t_f30_7 rfl rfl) rfl fun h => ?_
         refine gs h (o_lfv 0 rfl rfl sSeg_Data rfl Per_sl t_y23) rfl fun v15 _ _ h => ?_
         have g9 := (len_at 0 rfl h.mem)
         refine ga h (o_ln rfl (rd_at 0 rfl) t_v23) rfl fun h => ?_
         refine ga h (o_bin rfl rfl rfl) rfl fun h => ?_
         refine mv h rfl rfl fun h => ?_
         by_cases c11 : decide (0 < (x1.Data.length : Int)) = true
         ·have H := ifT c11 H
          refine gg h rfl rfl c11 (o_move rfl) rfl fun _ _ _ h => ?_
          refine gg h rfl rfl c11 (o_bin rfl rfl rfl) rfl fun _ _ _ h => ?_
          refine ga h (o_pickT rfl rfl c11) rfl fun h => ?_
          refine mv h rfl rfl fun h => ?_
          by_cases c12 : decide (0 ≤ y2) = true
          ·have H := ifT c12 H
           refine gg h rfl rfl c12 (o_move rfl) rfl fun _ _ _ h => ?_
           refine gg h rfl rfl c12 (o_move rfl) rfl fun _ _ _ h => ?_
           have g10 := (len_own 15 rfl h.mem)
           refine gg h rfl rfl c12 (o_ln rfl (rd_own 15 rfl) t_v23) rfl fun _ _ _ h => ?_
           refine gg h rfl rfl c12 (o_bin rfl rfl rfl) rfl fun _ _ _ h => ?_
           refine ga h (o_pickT rfl rfl c12) rfl fun h => ?_
           refine mv h rfl rfl fun h => ?_
           by_cases c13 : decide (y2 ≤ (s2.1.length : Int)) = true
           ·have H := ifT c13 H
            refine gg h rfl rfl c13 (o_move rfl) rfl fun _ _ _ h => ?_
            refine gg h rfl rfl c13 (o_fa rfl t_f30_7 rfl rfl) rfl fun _ _ _ h => ?_
            refine gg h rfl rfl c13 (o_lfv 1 rfl rfl sSeg_Data rfl Per_sl t_y23) rfl fun v16 _ _ h => ?_
            have g11 := (len_at 0 rfl h.mem)
            refine gg h rfl rfl c13 (o_ln rfl (rd_at 0 rfl) t_v23) rfl fun _ _ _ h => ?_
            refine gg h rfl rfl c13 (o_bin rfl rfl rfl) rfl fun _ _ _ h => ?_
            refine gg h rfl rfl c13 (o_move rfl) rfl fun _ _ _ h => ?_
            have g12 := (len_own 16 rfl h.mem)
            refine gg h rfl rfl c13 (o_ln rfl (rd_own 16 rfl) t_v23) rfl fun _ _ _ h => ?_
            refine gg h rfl rfl c13 (o_bin rfl rfl rfl) rfl fun _ _ _ h => ?_
            refine ga h (o_pickT rfl rfl c13) rfl fun h => ?_
            refine GoR.done ?_
            replace h := h.mm fun m => (m.pull (Lo := [Fld (Kd.eq v11) b1 24 (), Val (Kd.osl (Kd.int .u8)) v11 s2.2.2.2.given]) [6, 9] (by decide) rfl).pck
            replace h := h.mm fun m => (m.pull (Lo := [Fld (Kd.eq v12) b1 25 (), Val (Kd.osl (Kd.int .u8)) v12 s2.2.2.2.gave]) [6, 11] (by decide) rfl).pck
            replace h := h.mm fun m => (m.pull (Lo := [Fld (Kd.eq v13) b1 26 (), Val (Kd.osl KSeg) v13 s2.2.2.2.segs]) [6, 13] (by decide) rfl).pck
            replace h := h.mm fun m => (m.pull (Lo := [Fld KConn b1 0 s2.2.2.2.c, Fld (Kd.int .i64) b1 23 s2.2.2.2.now, Fld (Kd.osl (Kd.int .u8)) b1 24 s2.2.2.2.given, Fld (Kd.osl (Kd.int .u8)) b1 25 s2.2.2.2.gave, Fld (Kd.osl KSeg) b1 26 s2.2.2.2.segs, Fld Kd.bool b1 27 s2.2.2.2.gone, Fld (Kd.int .i64) b1 28 s2.2.2.2.calls]) [10, 11, 2, 1, 0, 15, 16] (by decide) rfl).cls (cplay _ s2.2.2.2)
            exact J3 (decide ((s2.1.length : Int) < (IntKind.i64.wrap (y2 + (x1.Data.length : Int)))), s2.2.2.2) _ _ (som H).symm (h.wr [18, 19, 20, 0, 6])
           ·have H := ifF c13 H
            iterate 8 (refine gk h rfl rfl (nb_f c13) rfl fun _ h => ?_)
            refine ga h (o_pickF rfl rfl c13) rfl fun h => ?_
            refine GoR.done ?_
            replace h := h.mm fun m => (m.pull (Lo := [Fld (Kd.eq v11) b1 24 (), Val (Kd.osl (Kd.int .u8)) v11 s2.2.2.2.given]) [5, 8] (by decide) rfl).pck
            replace h := h.mm fun m => (m.pull (Lo := [Fld (Kd.eq v12) b1 25 (), Val (Kd.osl (Kd.int .u8)) v12 s2.2.2.2.gave]) [5, 10] (by decide) rfl).pck
            replace h := h.mm fun m => (m.pull (Lo := [Fld (Kd.eq v13) b1 26 (), Val (Kd.osl KSeg) v13 s2.2.2.2.segs]) [5, 12] (by decide) rfl).pck
            replace h := h.mm fun m => (m.pull (Lo := [Fld KConn b1 0 s2.2.2.2.c, Fld (Kd.int .i64) b1 23 s2.2.2.2.now, Fld (Kd.osl (Kd.int .u8)) b1 24 s2.2.2.2.given, Fld (Kd.osl (Kd.int .u8)) b1 25 s2.2.2.2.gave, Fld (Kd.osl KSeg) b1 26 s2.2.2.2.segs, Fld Kd.bool b1 27 s2.2.2.2.gone, Fld (Kd.int .i64) b1 28 s2.2.2.2.calls]) [9, 10, 2, 1, 0, 14, 15] (by decide) rfl).cls (cplay _ s2.2.2.2)
            exact J3 (false, s2.2.2.2) _ _ (som H).symm (h.wr [17, 18, 19, 0, 5])
          ·have H := ifF c12 H
           iterate 4 (refine gk h rfl rfl (nb_f c12) rfl fun _ h => ?_)
           refine ga h (o_pickF rfl rfl c12) rfl fun h => ?_
           refine mv h rfl rfl fun h => ?_
           iterate 8 (refine gk h rfl rfl (nb_f Bool.false_ne_true) rfl fun _ h => ?_)
           refine ga h (o_pickF rfl rfl Bool.false_ne_true) rfl fun h => ?_
           refine GoR.done ?_
           replace h := h.mm fun m => (m.pull (Lo := [Fld (Kd.eq v11) b1 24 (), Val (Kd.osl (Kd.int .u8)) v11 s2.2.2.2.given]) [5, 8] (by decide) rfl).pck
           replace h := h.mm fun m => (m.pull (Lo := [Fld (Kd.eq v12) b1 25 (), Val (Kd.osl (Kd.int .u8)) v12 s2.2.2.2.gave]) [5, 10] (by decide) rfl).pck
           replace h := h.mm fun m => (m.pull (Lo := [Fld (Kd.eq v13) b1 26 (), Val (Kd.osl KSeg) v13 s2.2.2.2.segs]) [5, 12] (by decide) rfl).pck
           replace h := h.mm fun m => (m.pull (Lo := [Fld KConn b1 0 s2.2.2.2.c, Fld (Kd.int .i64) b1 23 s2.2.2.2.now, Fld (Kd.osl (Kd.int .u8)) b1 24 s2.2.2.2.given, Fld (Kd.osl (Kd.int .u8)) b1 25 s2.2.2.2.gave, Fld (Kd.osl KSeg) b1 26 s2.2.2.2.segs, Fld Kd.bool b1 27 s2.2.2.2.gone, Fld (Kd.int .i64) b1 28 s2.2.2.2.calls]) [9, 10, 2, 1, 0, 14, 15] (by decide) rfl).cls (cplay _ s2.2.2.2)
           exact J3 (false, s2.2.2.2) _ _ (som H).symm (h.wr [17, 18, 19, 0, 5])
         ·have H := ifF c11 H
          refine gk h rfl rfl (nb_f c11) rfl fun _ h => ?_
          refine gk h rfl rfl (nb_f c11) rfl fun _ h => ?_
          refine ga h (o_pickF rfl rfl c11) rfl fun h => ?_
          refine mv h rfl rfl fun h => ?_
          iterate 4 (refine gk h rfl rfl (nb_f Bool.false_ne_true) rfl fun _ h => ?_)
          refine ga h (o_pickF rfl rfl Bool.false_ne_true) rfl fun h => ?_
          refine mv h rfl rfl fun h => ?_
          iterate 8 (refine gk h rfl rfl (nb_f Bool.false_ne_true) rfl fun _ h => ?_)
          refine ga h (o_pickF rfl rfl Bool.false_ne_true) rfl fun h => ?_
          refine GoR.done ?_
          replace h := h.mm fun m => (m.pull (Lo := [Fld (Kd.eq v11) b1 24 (), Val (Kd.osl (Kd.int .u8)) v11 s2.2.2.2.given]) [5, 8] (by decide) rfl).pck
          replace h := h.mm fun m => (m.pull (Lo := [Fld (Kd.eq v12) b1 25 (), Val (Kd.osl (Kd.int .u8)) v12 s2.2.2.2.gave]) [5, 10] (by decide) rfl).pck
          replace h := h.mm fun m => (m.pull (Lo := [Fld (Kd.eq v13) b1 26 (), Val (Kd.osl KSeg) v13 s2.2.2.2.segs]) [5, 12] (by decide) rfl).pck
          replace h := h.mm fun m => (m.pull (Lo := [Fld KConn b1 0 s2.2.2.2.c, Fld (Kd.int .i64) b1 23 s2.2.2.2.now, Fld (Kd.osl (Kd.int .u8)) b1 24 s2.2.2.2.given, Fld (Kd.osl (Kd.int .u8)) b1 25 s2.2.2.2.gave, Fld (Kd.osl KSeg) b1 26 s2.2.2.2.segs, Fld Kd.bool b1 27 s2.2.2.2.gone, Fld (Kd.int .i64) b1 28 s2.2.2.2.calls]) [9, 10, 2, 1, 0, 14, 15] (by decide) rfl).cls (cplay _ s2.2.2.2)
          exact J3 (false, s2.2.2.2) _ _ (som H).symm (h.wr [17, 18, 19, 0, 5])
        ·have H := ifF c10 H
         refine g_f h rfl c10 ?_
         refine Go.exit rfl ?_
         replace h := h.mm fun m => (m.pull (Lo := [Fld (Kd.eq v11) b1 24 (), Val (Kd.osl (Kd.int .u8)) v11 s2.2.2.2.given]) [2, 5] (by decide) rfl).pck
         replace h := h.mm fun m => (m.pull (Lo := [Fld (Kd.eq v12) b1 25 (), Val (Kd.osl (Kd.int .u8)) v12 s2.2.2.2.gave]) [2, 7] (by decide) rfl).pck
         replace h := h.mm fun m => (m.pull (Lo := [Fld (Kd.eq v13) b1 26 (), Val (Kd.osl KSeg) v13 s2.2.2.2.segs]) [2, 9] (by decide) rfl).pck
         replace h := h.mm fun m => (m.pull (Lo := [Fld KConn b1 0 s2.2.2.2.c, Fld (Kd.int .i64) b1 23 s2.2.2.2.now, Fld (Kd.osl (Kd.int .u8)) b1 24 s2.2.2.2.given, Fld (Kd.osl (Kd.int .u8)) b1 25 s2.2.2.2.gave, Fld (Kd.osl KSeg) b1 26 s2.2.2.2.segs, Fld Kd.bool b1 27 s2.2.2.2.gone, Fld (Kd.int .i64) b1 28 s2.2.2.2.calls]) [6, 7, 2, 1, 0, 11, 12] (by decide) rfl).cls (cplay _ s2.2.2.2)
         have e_ := som H; subst e_
         exact J6 (s2.1, s2.2.1, s2.2.2.1, s2.2.2.2) v10 _ _ (nx_out i2).symm g6 (h.wr [14, 15, 16, 0])
       ·exact I_ v9 _ _ g3 (h.wr [0, 1, 2, 3])
      ·have H := ifF c9 H
       refine g_f h rfl c9 ?_
       refine Go.exit rfl ?_
       have e_ := som H; subst e_
       exact J11 (s1.1, s1.2.1, s1.2.2.2.2.2) v9 _ _ (nx_out i1).symm (h.wr [0, 1, 2, 3])
     refine Go.reg ?_
     refine mv h rfl rfl fun h => ?_
     refine ga h (o_bin rfl rfl rfl) rfl fun h => ?_
     refine mv h rfl rfl fun h => ?_
     by_cases c8 : decide (s1.2.2.2.2.1 < 8000) = true
     ·have H := ifT c8 H
      refine gg h rfl rfl c8 (o_move rfl) rfl fun _ _ _ h => ?_
      refine gg h rfl rfl c8 (o_nilc rfl) rfl fun _ _ _ h => ?_
      refine gg h rfl rfl c8 (o_fa rfl t_f48_5 rfl rfl) rfl fun _ _ _ h => ?_
      refine gg h rfl rfl c8 (o_lfx 3 rfl rfl splay_gone rfl X_bool t_y4) rfl fun _ _ _ h => ?_
      refine gg h rfl rfl c8 (o_not rfl) rfl fun _ _ _ h => ?_
      refine ga h (o_pickT rfl rfl c8) rfl fun h => ?_
      refine GoR.done ?_
      exact J2 (!s1.2.2.2.2.2.gone) _ _ (som H).symm (h.wr [0, 1, 2, 3])
     ·have H := ifF c8 H
      iterate 5 (refine gk h rfl rfl (nb_f c8) rfl fun _ h => ?_)
      refine ga h (o_pickF rfl rfl c8) rfl fun h => ?_
      refine GoR.done ?_
      exact J2 false _ _ (som H).symm (h.wr [0, 1, 2, 3])
    ·replace h := h.mm fun m => m.nilo (Kd.int .u8)
     exact I_ (.slice none 0 0) _ _ (show InR .i64 0 by decide) (show InR .i64 0 by decide) (show InR .i64 0 by decide) (h.wr [9, 10, 0, 1])
 refine Go.reg ?_
 refine mv h rfl rfl fun h => ?_
 have g1 := (len_at 0 rfl h.mem)
 refine ga h (o_ln rfl (rd_at 0 rfl) t_v23) rfl fun h => ?_
 refine ga h (o_bin rfl rfl rfl) rfl fun h => ?_
 refine mv h rfl rfl fun h => ?_
 by_cases c1 : decide (3000 < (a1.length : Int)) = true
 ·have H := ifT c1 H
  iterate 3 (refine gk h rfl rfl (nb_t c1) rfl fun _ h => ?_)
  refine ga h (o_pickT rfl rfl c1) rfl fun h => ?_
  refine mv h rfl rfl fun h => ?_
  refine gk h rfl rfl (nb_t rfl) rfl fun _ h => ?_
  refine gk h rfl rfl (nb_t rfl) rfl fun _ h => ?_
  refine ga h (o_pickT rfl rfl rfl) rfl fun h => ?_
  refine mv h rfl rfl fun h => ?_
  refine gk h rfl rfl (nb_t rfl) rfl fun _ h => ?_
  refine gk h rfl rfl (nb_t rfl) rfl fun _ h => ?_
  refine ga h (o_pickT rfl rfl rfl) rfl fun h => ?_
  refine mv h rfl rfl fun h => ?_
  refine gk h rfl rfl (nb_t rfl) rfl fun _ h => ?_
  refine gk h rfl rfl (nb_t rfl) rfl fun _ h => ?_
  refine ga h (o_pickT rfl rfl rfl) rfl fun h => ?_
  refine mv h rfl rfl fun h => ?_
  refine gk h rfl rfl (nb_t rfl) rfl fun _ h => ?_
  refine gk h rfl rfl (nb_t rfl) rfl fun _ h => ?_
  refine ga h (o_pickT rfl rfl rfl) rfl fun h => ?_
  refine GoR.done ?_
  exact J1 true _ _ (som H).symm (h.wr [0, 1])
 ·have H := ifF c1 H
  refine gg h rfl rfl (nbF c1) (o_move rfl) rfl fun _ _ _ h => ?_
  have g2 := (len_at 1 rfl h.mem)
  refine gg h rfl rfl (nbF c1) (o_ln rfl (rd_at 1 rfl) t_v23) rfl fun _ _ _ h => ?_
  refine gg h rfl rfl (nbF c1) (o_bin rfl rfl rfl) rfl fun _ _ _ h => ?_
  refine ga h (o_pickF rfl rfl c1) rfl fun h => ?_
  refine mv h rfl rfl fun h => ?_
  by_cases c2 : decide (3000 < (a2.length : Int)) = true
  ·have H := ifT c2 H
   refine gk h rfl rfl (nb_t c2) rfl fun _ h => ?_
   refine gk h rfl rfl (nb_t c2) rfl fun _ h => ?_
   refine ga h (o_pickT rfl rfl c2) rfl fun h => ?_
   refine mv h rfl rfl fun h => ?_
   refine gk h rfl rfl (nb_t rfl) rfl fun _ h => ?_
   refine gk h rfl rfl (nb_t rfl) rfl fun _ h => ?_
   refine ga h (o_pickT rfl rfl rfl) rfl fun h => ?_
   refine mv h rfl rfl fun h => ?_
   refine gk h rfl rfl (nb_t rfl) rfl fun _ h => ?_
   refine gk h rfl rfl (nb_t rfl) rfl fun _ h => ?_
   refine ga h (o_pickT rfl rfl rfl) rfl fun h => ?_
   refine mv h rfl rfl fun h => ?_
   refine gk h rfl rfl (nb_t rfl) rfl fun _ h => ?_
   refine gk h rfl rfl (nb_t rfl) rfl fun _ h => ?_
   refine ga h (o_pickT rfl rfl rfl) rfl fun h => ?_
   refine GoR.done ?_
   exact J1 true _ _ (som H).symm (h.wr [0, 1])
  ·have H := ifF c2 H
   refine gg h rfl rfl (nbF c2) (o_move rfl) rfl fun _ _ _ h => ?_
   refine gg h rfl rfl (nbF c2) (o_bin rfl rfl rfl) rfl fun _ _ _ h => ?_
   refine ga h (o_pickF rfl rfl c2) rfl fun h => ?_
   refine mv h rfl rfl fun h => ?_
   by_cases c3 : decide (a3 < 1) = true
   ·have H := ifT c3 H
    refine gk h rfl rfl (nb_t c3) rfl fun _ h => ?_
    refine gk h rfl rfl (nb_t c3) rfl fun _ h => ?_
    refine ga h (o_pickT rfl rfl c3) rfl fun h => ?_
    refine mv h rfl rfl fun h => ?_
    refine gk h rfl rfl (nb_t rfl) rfl fun _ h => ?_
    refine gk h rfl rfl (nb_t rfl) rfl fun _ h => ?_
    refine ga h (o_pickT rfl rfl rfl) rfl fun h => ?_
    refine mv h rfl rfl fun h => ?_
    refine gk h rfl rfl (nb_t rfl) rfl fun _ h => ?_
    refine gk h rfl rfl (nb_t rfl) rfl fun _ h => ?_
    refine ga h (o_pickT rfl rfl rfl) rfl fun h => ?_
    refine GoR.done ?_
    exact J1 true _ _ (som H).symm (h.wr [0, 1])
   ·have H := ifF c3 H
    refine gg h rfl rfl (nbF c3) (o_move rfl) rfl fun _ _ _ h => ?_
    refine gg h rfl rfl (nbF c3) (o_bin rfl rfl rfl) rfl fun _ _ _ h => ?_
    refine ga h (o_pickF rfl rfl c3) rfl fun h => ?_
    refine mv h rfl rfl fun h => ?_
    by_cases c4 : decide (1500 < a3) = true
    ·have H := ifT c4 H
     refine gk h rfl rfl (nb_t c4) rfl fun _ h => ?_
     refine gk h rfl rfl (nb_t c4) rfl fun _ h => ?_
     refine ga h (o_pickT rfl rfl c4) rfl fun h => ?_
     refine mv h rfl rfl fun h => ?_
     refine gk h rfl rfl (nb_t rfl) rfl fun _ h => ?_
     refine gk h rfl rfl (nb_t rfl) rfl fun _ h => ?_
     refine ga h (o_pickT rfl rfl rfl) rfl fun h => ?_
     refine GoR.done ?_
     exact J1 true _ _ (som H).symm (h.wr [0, 1])
    ·have H := ifF c4 H
     refine gg h rfl rfl (nbF c4) (o_move rfl) rfl fun _ _ _ h => ?_
     refine gg h rfl rfl (nbF c4) (o_bin rfl rfl rfl) rfl fun _ _ _ h => ?_
     refine ga h (o_pickF rfl rfl c4) rfl fun h => ?_
     refine mv h rfl rfl fun h => ?_
     by_cases c5 : decide (a4 < 1) = true
     ·have H := ifT c5 H
      refine gk h rfl rfl (nb_t c5) rfl fun _ h => ?_
      refine gk h rfl rfl (nb_t c5) rfl fun _ h => ?_
      refine ga h (o_pickT rfl rfl c5) rfl fun h => ?_
      refine GoR.done ?_
      exact J1 true _ _ (som H).symm (h.wr [0, 1])
     ·have H := ifF c5 H
      refine gg h rfl rfl (nbF c5) (o_move rfl) rfl fun _ _ _ h => ?_
      refine gg h rfl rfl (nbF c5) (o_bin rfl rfl rfl) rfl fun _ _ _ h => ?_
      refine ga h (o_pickF rfl rfl c5) rfl fun h => ?_
      refine GoR.done ?_
      exact J1 (decide (65535 < a4)) _ _ (som H).symm (h.wr [0, 1])
def law28_SpliceWhole.g (k_ : Nat) (a1 : List Int) (a2 : List Int) (a3 : Int) (a4 : Int) (a5 : Int) (a6 : Int) : Option (Bool) :=
  ((if decide (3000 < (a1.length : Int)) = true then some (true) else (if decide (3000 < (a2.length : Int)) = true then some (true) else (if decide (a3 < 1) = true then some (true) else (if decide (1500 < a3) = true then some (true) else (if decide (a4 < 1) = true then some (true) else some (decide (65535 < a4)))))))).bind (fun j1 => (if j1 = true then (law28_heads.g k_).bind fun r1 => some (r1) else (law28_begin.g k_ (⟨9, 80, a6, 0, 2, a4, 0, []⟩ : TSeg) a5).bind fun r2 => (if (!r2.2) = true then some (false) else (r2.1).bind fun y1 => (law28_play_do.g k_ y1 (⟨1, zSeg, (⟨3, 1, a2, 0⟩ : TTell), 0⟩ : TEv)).bind fun r3 => (law28_play_do.g k_ r3 (⟨1, zSeg, (⟨4, 1, [], 0⟩ : TTell), 0⟩ : TEv)).bind fun r4 => (loopK k_ (fun s1 => ((if decide (s1.2.2.2.2.1 < 8000) = true then some ((!s1.2.2.2.2.2.gone)) else some (false))).bind (fun j2 => (if j2 = true then (loopK k_ (fun s2 => (if decide (s2.2.2.1 < (s2.2.2.2.segs.length : Int)) = true then (idx s2.2.2.2.segs s2.2.2.1).bind fun x1 => lt (IntKind.u32.wrap ((IntKind.u32.wrap (x1.Seq - a5)) - 1)) fun y2 => (((if decide (0 < (x1.Data.length : Int)) = true then (if decide (0 ≤ y2) = true then (if decide (y2 ≤ (s2.1.length : Int)) = true then some ((decide ((s2.1.length : Int) < (IntKind.i64.wrap (y2 + (x1.Data.length : Int)))), s2.2.2.2)) else some ((false, s2.2.2.2))) else some ((false, s2.2.2.2))) else some ((false, s2.2.2.2)))).bind (fun j3 => (if j3.1 = true then (cut x1.Data (IntKind.i64.wrap ((s2.1.length : Int) - y2)) (x1.Data.length : Int)).bind fun x2 => (app s2.1 x2).bind fun x3 => some ((x3, j3.2)) else some ((s2.1, j3.2))))).bind (fun j4 => ((if s2.2.1 = true then some (true) else (if (!decide ((bits .and .i64 x1.Flags 1) = 0)) = true then lt (decide (y2 = (j4.1.length : Int))) fun y3 => some (y3) else some (false)))).bind (fun j5 => lt (IntKind.i64.wrap (s2.2.2.1 + 1)) fun y4 => some (.inl (j4.1, j5, y4, j4.2)))) else some (.inr ((s2.1, s2.2.1, s2.2.2.1, s2.2.2.2))))) (s1.1, s1.2.1, s1.2.2.1, s1.2.2.2.2.2)).bind (fun j6 => ((if j6.2.1 = true then lt (⟨9, 80, IntKind.u32.wrap ((IntKind.u32.wrap (a6 + 1)) + (IntKind.u32.wrap s1.2.2.2.1)), IntKind.u32.wrap (((⟨9, 80, IntKind.u32.wrap ((IntKind.u32.wrap (a6 + 1)) + (IntKind.u32.wrap s1.2.2.2.1)), IntKind.u32.wrap ((IntKind.u32.wrap (a5 + 1)) + (IntKind.u32.wrap (j6.1.length : Int))), 16, a4, 0, []⟩ : TSeg).Ack) + 1), 16, a4, 0, []⟩ : TSeg) fun y5 => some (y5) else some ((⟨9, 80, IntKind.u32.wrap ((IntKind.u32.wrap (a6 + 1)) + (IntKind.u32.wrap s1.2.2.2.1)), IntKind.u32.wrap ((IntKind.u32.wrap (a5 + 1)) + (IntKind.u32.wrap (j6.1.length : Int))), 16, a4, 0, []⟩ : TSeg)))).bind (fun j7 => ((if decide (s1.2.2.2.1 ≤ (a1.length : Int)) = true then lt (min a3 (IntKind.i64.wrap ((a1.length : Int) - s1.2.2.2.1))) fun y6 => (cut a1 s1.2.2.2.1 (IntKind.i64.wrap (s1.2.2.2.1 + y6))).bind fun x4 => lt (⟨j7.Src, j7.Dst, j7.Seq, j7.Ack, j7.Flags, j7.Win, j7.Mss, x4⟩ : TSeg) fun y7 => ((if decide (y6 = 0) = true then lt (⟨y7.Src, y7.Dst, y7.Seq, y7.Ack, bits .or .i64 y7.Flags 1, y7.Win, y7.Mss, y7.Data⟩ : TSeg) fun y8 => some (y8) else some (y7))).bind (fun j8 => lt (IntKind.i64.wrap (s1.2.2.2.1 + y6)) fun y9 => some ((y9, j8))) else some ((s1.2.2.2.1, j7)))).bind (fun j9 => (law28_play_do.g k_ j6.2.2.2 (⟨0, j9.2, zTell, 0⟩ : TEv)).bind fun r5 => ((if (!decide ((bits .and .i64 j9.2.Flags 1) = 0)) = true then lt (IntKind.i64.wrap ((a1.length : Int) + 1)) fun y10 => some (y10) else some (j9.1))).bind (fun j10 => (law28_play_do.g k_ r5 (⟨1, zSeg, (⟨5, 1, [], 4096⟩ : TTell), 0⟩ : TEv)).bind fun r6 => (law28_play_do.g k_ r6 (⟨2, zSeg, zTell, 1⟩ : TEv)).bind fun r7 => lt (IntKind.i64.wrap (s1.2.2.2.2.1 + 1)) fun y11 => some (.inl (j6.1, j6.2.1, j6.2.2.1, j10, y11, r7)))))) else some (.inr ((s1.1, s1.2.1, s1.2.2.2.2.2)))))) (([] : List Int), false, 0, 0, 0, r4)).bind (fun j11 => ((if j11.2.2.gone = true then (ref01_Same.g k_ j11.2.2.given a1).bind fun r8 => (if r8 = true then (ref01_Same.g k_ j11.1 a2).bind fun r9 => (if r9 = true then (if j11.2.1 = true then (law28_heads.g k_).bind fun r10 => some (r10) else some (false)) else some (false)) else some (false)) else some (false))).bind (fun j12 => some (j12))))))
theorem law28_SpliceWhole.le (k_ : Nat) (a1 : List Int) (a2 : List Int) (a3 : Int) (a4 : Int) (a5 : Int) (a6 : Int) : Le (law28_SpliceWhole.g k_ a1 a2 a3 a4 a5 a6) (law28_SpliceWhole.f a1 a2 a3 a4 a5 a6) := by
 unfold law28_SpliceWhole.g law28_SpliceWhole.f
 repeat' (first | with_reducible refine le_loop fun _ => ?_ | with_reducible refine le_bind ?_ fun _ => ?_ | with_reducible refine le_ite ?_ ?_ | with_reducible refine le_lt fun _ => ?_ | with_reducible refine le_elim (fun _ => ?_) (fun _ => ?_) _ | with_reducible apply law28_begin.le | with_reducible apply law28_heads.le | with_reducible apply law28_play_do.le | with_reducible apply ref01_Same.le | with_reducible exact le_refl _)
end Go.Proofs.Ytpcbhkigmnpimaa.S
