/- Contracts, printed by a program of this session. -/
import Derived.Test.YtpcbhkigmnpimaaT1
import Derived.Test.YtpcbhkigmnpimaaT2
import Derived.Test.YtpcbhkigmnpimaaT5
import Derived.Test.YtpcbhkigmnpimaaT10
import Derived.Test.YtpcbhkigmnpimaaT11
namespace Go.Proofs.Ytpcbhkigmnpimaa.S
open Go Go.SL Go.RowKit
set_option linter.unusedVariables false
set_option linter.unusedSimpArgs false
/-! drawbridge/drawbridgelaw28.heads -/
noncomputable def law28_heads.f  : Option (Bool) :=
  (splice_Open.f (⟨1000, 80, 4294967295, 0, 2, 9000, 0, []⟩ : TSeg) 1 2 1 500).bind fun r1 => (splice_Hear.f r1.1 0 (⟨1, 1, [], 0⟩ : TTell)).bind fun r2 => (splice_Take.f r2.1 0 (⟨1000, 80, 0, 501, 24, 9000, 0, ([97, 98, 99] : List Int)⟩ : TSeg)).bind fun r3 => (splice_Hear.f r3.1 1 (⟨5, 1, [], 9⟩ : TTell)).bind fun r4 => (splice_Hear.f r4.1 1 (⟨3, 1, ([120, 121] : List Int), 0⟩ : TTell)).bind fun r5 => (splice_Tick.f r5.1 3).bind fun r6 => ((if r1.2 = true then (if decide ((r2.2.1.length : Int) = 1) = true then (idx r2.2.1 0).bind fun x1 => (if decide (x1.Flags = 18) = true then (idx r2.2.1 0).bind fun x2 => (if decide (x2.Seq = 500) = true then (idx r2.2.1 0).bind fun x3 => (if decide (x3.Ack = 0) = true then (idx r2.2.1 0).bind fun x4 => (if decide (x4.Mss = 1460) = true then (if decide ((r3.2.1.length : Int) = 1) = true then (idx r3.2.1 0).bind fun x5 => (if decide (x5.Ack = 3) = true then (if (!r3.2.2.2) = true then (if decide ((r4.2.2.1.length : Int) = 1) = true then (idx r4.2.2.1 0).bind fun x6 => (if decide (x6.Kind = 2) = true then (idx r4.2.2.1 0).bind fun x7 => (if decide (x7.Data = [97, 98, 99]) = true then (if decide (r4.2.2.2.1 = 3) = true then (if decide (r5.2.2.2.1 = 2) = true then (if decide ((r5.2.1.length : Int) = 1) = true then (idx r5.2.1 0).bind fun x8 => (if decide (x8.Seq = 501) = true then (idx r5.2.1 0).bind fun x9 => (if decide (x9.Data = [120, 121]) = true then (if decide ((r6.2.1.length : Int) = 1) = true then (idx r6.2.1 0).bind fun x10 => (if decide (x10.Data = [120, 121]) = true then (splice_Check.f r5.1).bind fun r7 => some (r7) else some (false)) else some (false)) else some (false)) else some (false)) else some (false)) else some (false)) else some (false)) else some (false)) else some (false)) else some (false)) else some (false)) else some (false)) else some (false)) else some (false)) else some (false)) else some (false)) else some (false)) else some (false)) else some (false))).bind (fun j1 => some (j1))
set_option maxRecDepth 100000 in
set_option maxHeartbeats 4000000 in
theorem law28_heads.spc  (r : Bool) (H : law28_heads.f  = some r) : Spc Try.prog 11 [] [] [] (fun (s : Unit) => .bool r) (fun s => []) := by
 unfold law28_heads.f at H
 refine Spc.go Try.func11 rfl (by kernel_rfl) rfl rfl all_nil fun F a w h => ?_
 refine Go.seq ?_
 refine Go.reg ?_
 refine ga h (o_assign rfl) rfl fun h => ?_
 refine GoR.done ?_
 refine Go.seq ?_
 refine Go.reg ?_
 refine gs h (o_build (K := KSeg) (x := (⟨1000, 80, 4294967295, 0, 2, 9000, 0, []⟩ : TSeg)) (ps := [(0, .int .i64 1000), (1, .int .i64 80), (2, .int .u32 4294967295), (4, .int .i64 2), (5, .int .i64 9000)]) rfl (zs := zsSeg) rfl t_b30 rfl (show PB (Kd.pair (Kd.int .i64) (Kd.pair (Kd.int .i64) (Kd.pair (Kd.int .u32) (Kd.pair (Kd.int .u32) (Kd.pair (Kd.int .i64) (Kd.pair (Kd.int .i64) (Kd.pair (Kd.int .i64) (Kd.last (Kd.sl (Kd.int .u8)))))))))) (1000, 80, 4294967295, 0, 2, 9000, 0, []) 0 zsSeg _ _ from (pb_part (pv_int (show InR .i64 1000 by decide)) rfl (pb_part (pv_int (show InR .i64 80 by decide)) rfl (pb_part (pv_int (show InR .u32 4294967295 by decide)) rfl (pb_zero z_int (pb_part (pv_int (show InR .i64 2 by decide)) rfl (pb_part (pv_int (show InR .i64 9000 by decide)) rfl (pb_zero z_int (pb_lastz z_sl)))))))))) rfl fun v1 _ _ h => ?_
 obtain ⟨r1, er1, H⟩ := bindE H
 refine gs h (o_call (splice_Open.spc v1 (⟨1000, 80, 4294967295, 0, 2, 9000, 0, []⟩ : TSeg) 1 (show InR .u32 1 by decide) 2 (show InR .u32 2 by decide) 1 (show InR .i64 1 by decide) 500 (show InR .u32 500 by decide) r1 er1) rfl [0] [] (by decide) rfl rfl) rfl fun v2 _ _ h => ?_
 refine mv h rfl rfl fun h => ?_
 refine ga h (o_extract rfl rfl) rfl fun h => ?_
 refine ga h (o_extract rfl rfl) rfl fun h => ?_
 refine gs h (o_alloc (K := KConn) (z := (.agg #[.int .i64 0, .int .u32 0, .int .i64 0, .int .u32 0, .int .i64 0, .bool false, .bool false, .bool false, .int .u32 0, .int .u32 0, .int .u32 0, .int .u32 0, .int .i64 0, .int .i64 0, .slice none 0 0, .slice none 0 0, .slice none 0 0, .bool false, .bool false, .bool false, .int .i64 0, .int .i64 0, .int .i64 0])) rfl ZConn) rfl fun b1 _ _ h => ?_
 refine gs0 h (o_st 0 rfl rfl rfl (pv_at PConn 1 rfl) rfl t_w26) fun _ _ _ h => ?_
 refine ga h (o_assign rfl) rfl fun h => ?_
 refine GoR.done ?_
 refine Go.seq ?_
 refine Go.reg ?_
 refine gs h (o_ldv 0 rfl rfl PConn t_y26) rfl fun v3 _ _ h => ?_
 refine gs h (o_build (K := KTell) (x := (⟨1, 1, [], 0⟩ : TTell)) (ps := [(0, .int .i64 1), (1, .int .i64 1)]) rfl (zs := zsTell) rfl t_b44 rfl (show PB (Kd.pair (Kd.int .i64) (Kd.pair (Kd.int .i64) (Kd.pair (Kd.sl (Kd.int .u8)) (Kd.last (Kd.int .i64))))) (1, 1, [], 0) 0 zsTell _ _ from (pb_part (pv_int (show InR .i64 1 by decide)) rfl (pb_part (pv_int (show InR .i64 1 by decide)) rfl (pb_zero z_sl (pb_lastz z_int)))))) rfl fun v4 _ _ h => ?_
 obtain ⟨r2, er2, H⟩ := bindE H
 refine gs h (o_call (splice_Hear.spc v3 r1.1 0 (show InR .i64 0 by decide) v4 (⟨1, 1, [], 0⟩ : TTell) r2 er2) rfl [1, 0] [] (by decide) rfl rfl) rfl fun s_ _ _ h => ?_
 obtain ⟨v5, v6, v7⟩ := s_
 have g1 := h.mem.pur 0 rfl
 refine mv h rfl rfl fun h => ?_
 iterate 5 (refine ga h (o_extract rfl rfl) rfl fun h => ?_)
 refine gs0 h (o_st 6 rfl rfl rfl (pv_at PConn 1 rfl) rfl t_w26) fun _ _ _ h => ?_
 iterate 4 (refine ga h (o_assign rfl) rfl fun h => ?_)
 refine GoR.done ?_
 refine Go.seq ?_
 refine Go.reg ?_
 refine gs h (o_ldv 6 rfl rfl PConn t_y26) rfl fun v8 _ _ h => ?_
 refine gs_bytes h (vs := [.int .u8 97, .int .u8 98, .int .u8 99]) (xs := ([97, 98, 99] : List Int)) rfl rfl (pvs_cons (pv_int (show InR .u8 97 by decide)) (pvs_cons (pv_int (show InR .u8 98 by decide)) (pvs_cons (pv_int (show InR .u8 99 by decide)) pvs_nil))) t_a23 (by decide) (fun e he => by rw [t_u23] at he; cases he; exact t_u5) rfl rfl fun v9 _ _ h => ?_
 replace h := h.mm fun m => m.freeze 0 rfl
 refine gs h (o_build (K := KSeg) (x := (⟨1000, 80, 0, 501, 24, 9000, 0, ([97, 98, 99] : List Int)⟩ : TSeg)) (ps := [(0, .int .i64 1000), (1, .int .i64 80), (2, .int .u32 0), (3, .int .u32 501), (4, .int .i64 24), (5, .int .i64 9000), (7, v9)]) rfl (zs := zsSeg) rfl t_b30 rfl (show PB (Kd.pair (Kd.int .i64) (Kd.pair (Kd.int .i64) (Kd.pair (Kd.int .u32) (Kd.pair (Kd.int .u32) (Kd.pair (Kd.int .i64) (Kd.pair (Kd.int .i64) (Kd.pair (Kd.int .i64) (Kd.last (Kd.sl (Kd.int .u8)))))))))) (1000, 80, 0, 501, 24, 9000, 0, ([97, 98, 99] : List Int)) 0 zsSeg _ _ from (pb_part (pv_int (show InR .i64 1000 by decide)) rfl (pb_part (pv_int (show InR .i64 80 by decide)) rfl (pb_part (pv_int (show InR .u32 0 by decide)) rfl (pb_part (pv_int (show InR .u32 501 by decide)) rfl (pb_part (pv_int (show InR .i64 24 by decide)) rfl (pb_part (pv_int (show InR .i64 9000 by decide)) rfl (pb_zero z_int (pb_lastp (pv_at Per_sl 0 rfl) rfl)))))))))) rfl fun v10 _ _ h => ?_
 obtain ⟨r3, er3, H⟩ := bindE H
 refine gs h (o_call (splice_Take.spc v8 r2.1 0 (show InR .i64 0 by decide) v10 (⟨1000, 80, 0, 501, 24, 9000, 0, ([97, 98, 99] : List Int)⟩ : TSeg) r3 er3) rfl [2, 0] [] (by decide) rfl rfl) rfl fun s_ _ _ h => ?_
 obtain ⟨v11, v12, v13⟩ := s_
 refine mv h rfl rfl fun h => ?_
 iterate 4 (refine ga h (o_extract rfl rfl) rfl fun h => ?_)
 refine gs0 h (o_st 12 rfl rfl rfl (pv_at PConn 0 rfl) rfl t_w26) fun _ _ _ h => ?_
 iterate 3 (refine ga h (o_assign rfl) rfl fun h => ?_)
 refine GoR.done ?_
 refine Go.seq ?_
 refine Go.reg ?_
 refine gs h (o_ldv 12 rfl rfl PConn t_y26) rfl fun v14 _ _ h => ?_
 refine gs h (o_build (K := KTell) (x := (⟨5, 1, [], 9⟩ : TTell)) (ps := [(0, .int .i64 5), (1, .int .i64 1), (3, .int .i64 9)]) rfl (zs := zsTell) rfl t_b44 rfl (show PB (Kd.pair (Kd.int .i64) (Kd.pair (Kd.int .i64) (Kd.pair (Kd.sl (Kd.int .u8)) (Kd.last (Kd.int .i64))))) (5, 1, [], 9) 0 zsTell _ _ from (pb_part (pv_int (show InR .i64 5 by decide)) rfl (pb_part (pv_int (show InR .i64 1 by decide)) rfl (pb_zero z_sl (pb_lastp (pv_int (show InR .i64 9 by decide)) rfl)))))) rfl fun v15 _ _ h => ?_
 obtain ⟨r4, er4, H⟩ := bindE H
 refine gs h (o_call (splice_Hear.spc v14 r3.1 1 (show InR .i64 1 by decide) v15 (⟨5, 1, [], 9⟩ : TTell) r4 er4) rfl [1, 0] [] (by decide) rfl rfl) rfl fun s_ _ _ h => ?_
 obtain ⟨v16, v17, v18⟩ := s_
 have g2 := h.mem.pur 0 rfl
 refine mv h rfl rfl fun h => ?_
 iterate 5 (refine ga h (o_extract rfl rfl) rfl fun h => ?_)
 refine gs0 h (o_st 18 rfl rfl rfl (pv_at PConn 1 rfl) rfl t_w26) fun _ _ _ h => ?_
 iterate 4 (refine ga h (o_assign rfl) rfl fun h => ?_)
 refine GoR.done ?_
 refine Go.seq ?_
 refine Go.reg ?_
 refine gs h (o_ldv 18 rfl rfl PConn t_y26) rfl fun v19 _ _ h => ?_
 refine gs_bytes h (vs := [.int .u8 120, .int .u8 121]) (xs := ([120, 121] : List Int)) rfl rfl (pvs_cons (pv_int (show InR .u8 120 by decide)) (pvs_cons (pv_int (show InR .u8 121 by decide)) pvs_nil)) t_a23 (by decide) (fun e he => by rw [t_u23] at he; cases he; exact t_u5) rfl rfl fun v20 _ _ h => ?_
 replace h := h.mm fun m => m.freeze 0 rfl
 refine gs h (o_build (K := KTell) (x := (⟨3, 1, ([120, 121] : List Int), 0⟩ : TTell)) (ps := [(0, .int .i64 3), (1, .int .i64 1), (2, v20)]) rfl (zs := zsTell) rfl t_b44 rfl (show PB (Kd.pair (Kd.int .i64) (Kd.pair (Kd.int .i64) (Kd.pair (Kd.sl (Kd.int .u8)) (Kd.last (Kd.int .i64))))) (3, 1, ([120, 121] : List Int), 0) 0 zsTell _ _ from (pb_part (pv_int (show InR .i64 3 by decide)) rfl (pb_part (pv_int (show InR .i64 1 by decide)) rfl (pb_part (pv_at Per_sl 0 rfl) rfl (pb_lastz z_int)))))) rfl fun v21 _ _ h => ?_
 obtain ⟨r5, er5, H⟩ := bindE H
 refine gs h (o_call (splice_Hear.spc v19 r4.1 1 (show InR .i64 1 by decide) v21 (⟨3, 1, ([120, 121] : List Int), 0⟩ : TTell) r5 er5) rfl [2, 0] [] (by decide) rfl rfl) rfl fun s_ _ _ h => ?_
 obtain ⟨v22, v23, v24⟩ := s_
 have g3 := h.mem.pur 0 rfl
 refine mv h rfl rfl fun h => ?_
 iterate 5 (refine ga h (o_extract rfl rfl) rfl fun h => ?_)
 refine gs h (o_alloc (K := KConn) (z := (.agg #[.int .i64 0, .int .u32 0, .int .i64 0, .int .u32 0, .int .i64 0, .bool false, .bool false, .bool false, .int .u32 0, .int .u32 0, .int .u32 0, .int .u32 0, .int .i64 0, .int .i64 0, .slice none 0 0, .slice none 0 0, .slice none 0 0, .bool false, .bool false, .bool false, .int .i64 0, .int .i64 0, .int .i64 0])) rfl ZConn) rfl fun b2 _ _ h => ?_
 refine gs0 h (o_st 0 rfl rfl rfl (pv_at PConn 2 rfl) rfl t_w26) fun _ _ _ h => ?_
 iterate 4 (refine ga h (o_assign rfl) rfl fun h => ?_)
 refine GoR.done ?_
 refine Go.seq ?_
 refine Go.reg ?_
 refine gs h (o_ldv 0 rfl rfl PConn t_y26) rfl fun v25 _ _ h => ?_
 obtain ⟨r6, er6, H⟩ := bindE H
 refine gs h (o_call (splice_Tick.spc v25 r5.1 3 (show InR .i64 3 by decide) r6 er6) rfl [0] [] (by decide) rfl rfl) rfl fun s_ _ _ h => ?_
 obtain ⟨v26, v27, v28⟩ := s_
 refine mv h rfl rfl fun h => ?_
 iterate 4 (refine ga h (o_extract rfl rfl) rfl fun h => ?_)
 refine gs h (o_alloc (K := KConn) (z := (.agg #[.int .i64 0, .int .u32 0, .int .i64 0, .int .u32 0, .int .i64 0, .bool false, .bool false, .bool false, .int .u32 0, .int .u32 0, .int .u32 0, .int .u32 0, .int .i64 0, .int .i64 0, .slice none 0 0, .slice none 0 0, .slice none 0 0, .bool false, .bool false, .bool false, .int .i64 0, .int .i64 0, .int .i64 0])) rfl ZConn) rfl fun b3 _ _ h => ?_
 refine gs0 h (o_st 0 rfl rfl rfl (pv_at PConn 1 rfl) rfl t_w26) fun _ _ _ h => ?_
 iterate 3 (refine ga h (o_assign rfl) rfl fun h => ?_)
 refine GoR.done ?_
 refine Go.seq ?_
 obtain ⟨o1, H, G1⟩ := bindE H
 refine g_cut (fun G => ∀ j1 (a : Act) (w : World), o1 = j1 → St Try.f11.ntmps F [(0, .bool j1)] [Fld KConn b3 0 r6.1, Fld KConn b2 0 r5.1, Fld KConn b1 0 r4.1] a w → G a w) 1 ?_ fun J1 => ?_
 ·intro j1 a w ho_ h
  rw [ho_] at G1
  have H := G1
  rw [← som H]
  exact g_ret (vs := [.bool j1]) h Try.func11 ⟨rfl, trivial⟩ ⟨(), rfl, (h.mem.pick [] (by decide) rfl)⟩
 refine Go.reg ?_
 refine mv h rfl rfl fun h => ?_
 refine mv h rfl rfl fun h => ?_
 by_cases c1 : r1.2 = true
 ·have H := ifT c1 H
  refine gg h rfl rfl c1 (o_move rfl) rfl fun _ _ _ h => ?_
  have g4 := (len_own 27 rfl h.mem)
  refine gg h rfl rfl c1 (o_ln rfl (rd_own 27 rfl) t_v31) rfl fun _ _ _ h => ?_
  refine gg h rfl rfl c1 (o_bin rfl rfl rfl) rfl fun _ _ _ h => ?_
  refine ga h (o_pickT rfl rfl c1) rfl fun h => ?_
  refine mv h rfl rfl fun h => ?_
  by_cases c2 : decide ((r2.2.1.length : Int) = 1) = true
  ·have H := ifT c2 H
   refine gg h rfl rfl c2 (o_move rfl) rfl fun _ _ _ h => ?_
   obtain ⟨x1, ex1, H⟩ := bindE H
   refine gg h rfl rfl c2 (o_ix rfl rfl (rd_own 27 rfl) ex1 t_v31) rfl fun _ _ _ h => ?_
   refine gg h rfl rfl c2 (o_fae (k' := (0 : Int).toNat * Kd.n KSeg + 4) rfl (rd_own 27 rfl) ex1 (by decide) t_f30_4 rfl rfl) rfl fun _ _ _ h => ?_
   have g5 := (in1 (rd_sub sSeg_Flags (rd_own 27 rfl) ex1 h.mem))
   refine gg h rfl rfl c2 (o_lsx rfl (rd_own 27 rfl) ex1 sSeg_Flags X_int t_y3 (by decide)) rfl fun _ _ _ h => ?_
   refine gg h rfl rfl c2 (o_bin rfl rfl rfl) rfl fun _ _ _ h => ?_
   refine ga h (o_pickT rfl rfl c2) rfl fun h => ?_
   refine mv h rfl rfl fun h => ?_
   by_cases c3 : decide (x1.Flags = 18) = true
   ·have H := ifT c3 H
    refine gg h rfl rfl c3 (o_move rfl) rfl fun _ _ _ h => ?_
    obtain ⟨x2, ex2, H⟩ := bindE H
    refine gg h rfl rfl c3 (o_ix rfl rfl (rd_own 27 rfl) ex2 t_v31) rfl fun _ _ _ h => ?_
    refine gg h rfl rfl c3 (o_fae (k' := (0 : Int).toNat * Kd.n KSeg + 2) rfl (rd_own 27 rfl) ex2 (by decide) t_f30_2 rfl rfl) rfl fun _ _ _ h => ?_
    have g6 := (in1 (rd_sub sSeg_Seq (rd_own 27 rfl) ex2 h.mem))
    refine gg h rfl rfl c3 (o_lsx rfl (rd_own 27 rfl) ex2 sSeg_Seq X_int t_y22 (by decide)) rfl fun _ _ _ h => ?_
    refine gg h rfl rfl c3 (o_bin rfl rfl rfl) rfl fun _ _ _ h => ?_
    refine ga h (o_pickT rfl rfl c3) rfl fun h => ?_
    refine mv h rfl rfl fun h => ?_
    by_cases c4 : decide (x2.Seq = 500) = true
    ·have H := ifT c4 H
     refine gg h rfl rfl c4 (o_move rfl) rfl fun _ _ _ h => ?_
     obtain ⟨x3, ex3, H⟩ := bindE H
     refine gg h rfl rfl c4 (o_ix rfl rfl (rd_own 27 rfl) ex3 t_v31) rfl fun _ _ _ h => ?_
     refine gg h rfl rfl c4 (o_fae (k' := (0 : Int).toNat * Kd.n KSeg + 3) rfl (rd_own 27 rfl) ex3 (by decide) t_f30_3 rfl rfl) rfl fun _ _ _ h => ?_
     have g7 := (in1 (rd_sub sSeg_Ack (rd_own 27 rfl) ex3 h.mem))
     refine gg h rfl rfl c4 (o_lsx rfl (rd_own 27 rfl) ex3 sSeg_Ack X_int t_y22 (by decide)) rfl fun _ _ _ h => ?_
     refine gg h rfl rfl c4 (o_bin rfl rfl rfl) rfl fun _ _ _ h => ?_
     refine ga h (o_pickT rfl rfl c4) rfl fun h => ?_
     refine mv h rfl rfl fun h => ?_
     by_cases c5 : decide (x3.Ack = 0) = true
     ·have H := ifT c5 H
      refine gg h rfl rfl c5 (o_move rfl) rfl fun _ _ _ h => ?_
      obtain ⟨x4, ex4, H⟩ := bindE H
      refine gg h rfl rfl c5 (o_ix rfl rfl (rd_own 27 rfl) ex4 t_v31) rfl fun _ _ _ h => ?_
      refine gg h rfl rfl c5 (o_fae (k' := (0 : Int).toNat * Kd.n KSeg + 6) rfl (rd_own 27 rfl) ex4 (by decide) t_f30_6 rfl rfl) rfl fun _ _ _ h => ?_
      have g8 := (in1 (rd_sub sSeg_Mss (rd_own 27 rfl) ex4 h.mem))
      refine gg h rfl rfl c5 (o_lsx rfl (rd_own 27 rfl) ex4 sSeg_Mss X_int t_y3 (by decide)) rfl fun _ _ _ h => ?_
      refine gg h rfl rfl c5 (o_bin rfl rfl rfl) rfl fun _ _ _ h => ?_
      refine ga h (o_pickT rfl rfl c5) rfl fun h => ?_
      refine mv h rfl rfl fun h => ?_
      by_cases c6 : decide (x4.Mss = 1460) = true
      ·have H := ifT c6 H
       refine gg h rfl rfl c6 (o_move rfl) rfl fun _ _ _ h => ?_
       have g9 := (len_own 20 rfl h.mem)
       refine gg h rfl rfl c6 (o_ln rfl (rd_own 20 rfl) t_v31) rfl fun _ _ _ h => ?_
       refine gg h rfl rfl c6 (o_bin rfl rfl rfl) rfl fun _ _ _ h => ?_
       refine ga h (o_pickT rfl rfl c6) rfl fun h => ?_
       refine mv h rfl rfl fun h => ?_
       by_cases c7 : decide ((r3.2.1.length : Int) = 1) = true
       ·have H := ifT c7 H
        refine gg h rfl rfl c7 (o_move rfl) rfl fun _ _ _ h => ?_
        obtain ⟨x5, ex5, H⟩ := bindE H
        refine gg h rfl rfl c7 (o_ix rfl rfl (rd_own 20 rfl) ex5 t_v31) rfl fun _ _ _ h => ?_
        refine gg h rfl rfl c7 (o_fae (k' := (0 : Int).toNat * Kd.n KSeg + 3) rfl (rd_own 20 rfl) ex5 (by decide) t_f30_3 rfl rfl) rfl fun _ _ _ h => ?_
        have g10 := (in1 (rd_sub sSeg_Ack (rd_own 20 rfl) ex5 h.mem))
        refine gg h rfl rfl c7 (o_lsx rfl (rd_own 20 rfl) ex5 sSeg_Ack X_int t_y22 (by decide)) rfl fun _ _ _ h => ?_
        refine gg h rfl rfl c7 (o_bin rfl rfl rfl) rfl fun _ _ _ h => ?_
        refine ga h (o_pickT rfl rfl c7) rfl fun h => ?_
        refine mv h rfl rfl fun h => ?_
        by_cases c8 : decide (x5.Ack = 3) = true
        ·have H := ifT c8 H
         refine gg h rfl rfl c8 (o_move rfl) rfl fun _ _ _ h => ?_
         refine gg h rfl rfl c8 (o_not rfl) rfl fun _ _ _ h => ?_
         refine ga h (o_pickT rfl rfl c8) rfl fun h => ?_
         refine mv h rfl rfl fun h => ?_
         by_cases c9 : (!r3.2.2.2) = true
         ·have H := ifT c9 H
          refine gg h rfl rfl c9 (o_move rfl) rfl fun _ _ _ h => ?_
          have g11 := (len_own 16 rfl h.mem)
          refine gg h rfl rfl c9 (o_ln rfl (rd_own 16 rfl) t_v32) rfl fun _ _ _ h => ?_
          refine gg h rfl rfl c9 (o_bin rfl rfl rfl) rfl fun _ _ _ h => ?_
          refine ga h (o_pickT rfl rfl c9) rfl fun h => ?_
          refine mv h rfl rfl fun h => ?_
          by_cases c10 : decide ((r4.2.2.1.length : Int) = 1) = true
          ·have H := ifT c10 H
           refine gg h rfl rfl c10 (o_move rfl) rfl fun _ _ _ h => ?_
           obtain ⟨x6, ex6, H⟩ := bindE H
           refine gg h rfl rfl c10 (o_ix rfl rfl (rd_own 16 rfl) ex6 t_v32) rfl fun _ _ _ h => ?_
           refine gg h rfl rfl c10 (o_fae (k' := (0 : Int).toNat * Kd.n KCall + 0) rfl (rd_own 16 rfl) ex6 (by decide) t_f37_0 rfl rfl) rfl fun _ _ _ h => ?_
           have g12 := (in1 (rd_sub sCall_Kind (rd_own 16 rfl) ex6 h.mem))
           refine gg h rfl rfl c10 (o_lsx rfl (rd_own 16 rfl) ex6 sCall_Kind X_int t_y3 (by decide)) rfl fun _ _ _ h => ?_
           refine gg h rfl rfl c10 (o_bin rfl rfl rfl) rfl fun _ _ _ h => ?_
           refine ga h (o_pickT rfl rfl c10) rfl fun h => ?_
           refine mv h rfl rfl fun h => ?_
           by_cases c11 : decide (x6.Kind = 2) = true
           ·have H := ifT c11 H
            refine gg h rfl rfl c11 (o_move rfl) rfl fun _ _ _ h => ?_
            obtain ⟨x7, ex7, H⟩ := bindE H
            refine gg h rfl rfl c11 (o_ix rfl rfl (rd_own 16 rfl) ex7 t_v32) rfl fun _ _ _ h => ?_
            refine gg h rfl rfl c11 (o_fae (k' := (0 : Int).toNat * Kd.n KCall + 4) rfl (rd_own 16 rfl) ex7 (by decide) t_f37_4 rfl rfl) rfl fun _ _ _ h => ?_
            refine gg h rfl rfl c11 (o_lsv rfl (rd_own 16 rfl) ex7 sCall_Data t_y23 (by decide)) rfl fun v29 _ _ h => ?_
            have g13 := (rd_bs (rd_at 0 rfl) h.mem)
            refine gg h rfl rfl c11 (o_b2s rfl (rd_at 0 rfl) t_u23 t_u5 t_u9) rfl fun _ _ _ h => ?_
            refine gg h rfl rfl c11 (o_eqs rfl rfl g13 (show Bs [97, 98, 99] by decide)) rfl fun _ _ _ h => ?_
            refine ga h (o_pickT rfl rfl c11) rfl fun h => ?_
            refine mv h rfl rfl fun h => ?_
            by_cases c12 : decide (x7.Data = [97, 98, 99]) = true
            ·have H := ifT c12 H
             refine gg h rfl rfl c12 (o_move rfl) rfl fun _ _ _ h => ?_
             refine gg h rfl rfl c12 (o_bin rfl rfl rfl) rfl fun _ _ _ h => ?_
             refine ga h (o_pickT rfl rfl c12) rfl fun h => ?_
             refine mv h rfl rfl fun h => ?_
             by_cases c13 : decide (r4.2.2.2.1 = 3) = true
             ·have H := ifT c13 H
              refine gg h rfl rfl c13 (o_move rfl) rfl fun _ _ _ h => ?_
              refine gg h rfl rfl c13 (o_bin rfl rfl rfl) rfl fun _ _ _ h => ?_
              refine ga h (o_pickT rfl rfl c13) rfl fun h => ?_
              refine mv h rfl rfl fun h => ?_
              by_cases c14 : decide (r5.2.2.2.1 = 2) = true
              ·have H := ifT c14 H
               refine gg h rfl rfl c14 (o_move rfl) rfl fun _ _ _ h => ?_
               have g14 := (len_own 9 rfl h.mem)
               refine gg h rfl rfl c14 (o_ln rfl (rd_own 9 rfl) t_v31) rfl fun _ _ _ h => ?_
               refine gg h rfl rfl c14 (o_bin rfl rfl rfl) rfl fun _ _ _ h => ?_
               refine ga h (o_pickT rfl rfl c14) rfl fun h => ?_
               refine mv h rfl rfl fun h => ?_
               by_cases c15 : decide ((r5.2.1.length : Int) = 1) = true
               ·have H := ifT c15 H
                refine gg h rfl rfl c15 (o_move rfl) rfl fun _ _ _ h => ?_
                obtain ⟨x8, ex8, H⟩ := bindE H
                refine gg h rfl rfl c15 (o_ix rfl rfl (rd_own 9 rfl) ex8 t_v31) rfl fun _ _ _ h => ?_
                refine gg h rfl rfl c15 (o_fae (k' := (0 : Int).toNat * Kd.n KSeg + 2) rfl (rd_own 9 rfl) ex8 (by decide) t_f30_2 rfl rfl) rfl fun _ _ _ h => ?_
                have g15 := (in1 (rd_sub sSeg_Seq (rd_own 9 rfl) ex8 h.mem))
                refine gg h rfl rfl c15 (o_lsx rfl (rd_own 9 rfl) ex8 sSeg_Seq X_int t_y22 (by decide)) rfl fun _ _ _ h => ?_
                refine gg h rfl rfl c15 (o_bin rfl rfl rfl) rfl fun _ _ _ h => ?_
                refine ga h (o_pickT rfl rfl c15) rfl fun h => ?_
                refine mv h rfl rfl fun h => ?_
                by_cases c16 : decide (x8.Seq = 501) = true
                ·have H := ifT c16 H
                 refine gg h rfl rfl c16 (o_move rfl) rfl fun _ _ _ h => ?_
                 obtain ⟨x9, ex9, H⟩ := bindE H
                 refine gg h rfl rfl c16 (o_ix rfl rfl (rd_own 9 rfl) ex9 t_v31) rfl fun _ _ _ h => ?_
                 refine gg h rfl rfl c16 (o_fae (k' := (0 : Int).toNat * Kd.n KSeg + 7) rfl (rd_own 9 rfl) ex9 (by decide) t_f30_7 rfl rfl) rfl fun _ _ _ h => ?_
                 refine gg h rfl rfl c16 (o_lsv rfl (rd_own 9 rfl) ex9 sSeg_Data t_y23 (by decide)) rfl fun v30 _ _ h => ?_
                 have g16 := (rd_bs (rd_at 0 rfl) h.mem)
                 refine gg h rfl rfl c16 (o_b2s rfl (rd_at 0 rfl) t_u23 t_u5 t_u9) rfl fun _ _ _ h => ?_
                 refine gg h rfl rfl c16 (o_eqs rfl rfl g16 (show Bs [120, 121] by decide)) rfl fun _ _ _ h => ?_
                 refine ga h (o_pickT rfl rfl c16) rfl fun h => ?_
                 refine mv h rfl rfl fun h => ?_
                 by_cases c17 : decide (x9.Data = [120, 121]) = true
                 ·have H := ifT c17 H
                  refine gg h rfl rfl c17 (o_move rfl) rfl fun _ _ _ h => ?_
                  have g17 := (len_own 4 rfl h.mem)
                  refine gg h rfl rfl c17 (o_ln rfl (rd_own 4 rfl) t_v31) rfl fun _ _ _ h => ?_
                  refine gg h rfl rfl c17 (o_bin rfl rfl rfl) rfl fun _ _ _ h => ?_
                  refine ga h (o_pickT rfl rfl c17) rfl fun h => ?_
                  refine mv h rfl rfl fun h => ?_
                  by_cases c18 : decide ((r6.2.1.length : Int) = 1) = true
                  ·have H := ifT c18 H
                   refine gg h rfl rfl c18 (o_move rfl) rfl fun _ _ _ h => ?_
                   obtain ⟨x10, ex10, H⟩ := bindE H
                   refine gg h rfl rfl c18 (o_ix rfl rfl (rd_own 4 rfl) ex10 t_v31) rfl fun _ _ _ h => ?_
                   refine gg h rfl rfl c18 (o_fae (k' := (0 : Int).toNat * Kd.n KSeg + 7) rfl (rd_own 4 rfl) ex10 (by decide) t_f30_7 rfl rfl) rfl fun _ _ _ h => ?_
                   refine gg h rfl rfl c18 (o_lsv rfl (rd_own 4 rfl) ex10 sSeg_Data t_y23 (by decide)) rfl fun v31 _ _ h => ?_
                   have g18 := (rd_bs (rd_at 0 rfl) h.mem)
                   refine gg h rfl rfl c18 (o_b2s rfl (rd_at 0 rfl) t_u23 t_u5 t_u9) rfl fun _ _ _ h => ?_
                   refine gg h rfl rfl c18 (o_eqs rfl rfl g18 (show Bs [120, 121] by decide)) rfl fun _ _ _ h => ?_
                   refine ga h (o_pickT rfl rfl c18) rfl fun h => ?_
                   refine mv h rfl rfl fun h => ?_
                   by_cases c19 : decide (x10.Data = [120, 121]) = true
                   ·have H := ifT c19 H
                    refine gg h rfl rfl c19 (o_ldv 8 rfl rfl PConn t_y26) rfl fun v32 _ _ h => ?_
                    obtain ⟨r7, er7, H⟩ := bindE H
                    refine gg h rfl rfl c19 (o_call (splice_Check.spc v32 r5.1 r7 er7) rfl [0] [] (by decide) rfl rfl) rfl fun _ _ _ h => ?_
                    refine ga h (o_pickT rfl rfl c19) rfl fun h => ?_
                    refine ga h (o_assign rfl) rfl fun h => ?_
                    refine GoR.done ?_
                    exact J1 r7 _ _ (som H).symm (h.wr [4, 9, 35])
                   ·have H := ifF c19 H
                    refine gk h rfl rfl (nb_f c19) rfl fun _ h => ?_
                    refine gk h rfl rfl (nb_f c19) rfl fun _ h => ?_
                    refine ga h (o_pickF rfl rfl c19) rfl fun h => ?_
                    refine ga h (o_assign rfl) rfl fun h => ?_
                    refine GoR.done ?_
                    exact J1 false _ _ (som H).symm (h.wr [3, 8, 34])
                  ·have H := ifF c18 H
                   iterate 6 (refine gk h rfl rfl (nb_f c18) rfl fun _ h => ?_)
                   refine ga h (o_pickF rfl rfl c18) rfl fun h => ?_
                   refine mv h rfl rfl fun h => ?_
                   refine gk h rfl rfl (nb_f Bool.false_ne_true) rfl fun _ h => ?_
                   refine gk h rfl rfl (nb_f Bool.false_ne_true) rfl fun _ h => ?_
                   refine ga h (o_pickF rfl rfl Bool.false_ne_true) rfl fun h => ?_
                   refine ga h (o_assign rfl) rfl fun h => ?_
                   refine GoR.done ?_
                   exact J1 false _ _ (som H).symm (h.wr [2, 7, 33])
                 ·have H := ifF c17 H
                  iterate 3 (refine gk h rfl rfl (nb_f c17) rfl fun _ h => ?_)
                  refine ga h (o_pickF rfl rfl c17) rfl fun h => ?_
                  refine mv h rfl rfl fun h => ?_
                  iterate 6 (refine gk h rfl rfl (nb_f Bool.false_ne_true) rfl fun _ h => ?_)
                  refine ga h (o_pickF rfl rfl Bool.false_ne_true) rfl fun h => ?_
                  refine mv h rfl rfl fun h => ?_
                  refine gk h rfl rfl (nb_f Bool.false_ne_true) rfl fun _ h => ?_
                  refine gk h rfl rfl (nb_f Bool.false_ne_true) rfl fun _ h => ?_
                  refine ga h (o_pickF rfl rfl Bool.false_ne_true) rfl fun h => ?_
                  refine ga h (o_assign rfl) rfl fun h => ?_
                  refine GoR.done ?_
                  exact J1 false _ _ (som H).symm (h.wr [2, 7, 33])
                ·have H := ifF c16 H
                 iterate 6 (refine gk h rfl rfl (nb_f c16) rfl fun _ h => ?_)
                 refine ga h (o_pickF rfl rfl c16) rfl fun h => ?_
                 refine mv h rfl rfl fun h => ?_
                 iterate 3 (refine gk h rfl rfl (nb_f Bool.false_ne_true) rfl fun _ h => ?_)
                 refine ga h (o_pickF rfl rfl Bool.false_ne_true) rfl fun h => ?_
                 refine mv h rfl rfl fun h => ?_
                 iterate 6 (refine gk h rfl rfl (nb_f Bool.false_ne_true) rfl fun _ h => ?_)
                 refine ga h (o_pickF rfl rfl Bool.false_ne_true) rfl fun h => ?_
                 refine mv h rfl rfl fun h => ?_
                 refine gk h rfl rfl (nb_f Bool.false_ne_true) rfl fun _ h => ?_
                 refine gk h rfl rfl (nb_f Bool.false_ne_true) rfl fun _ h => ?_
                 refine ga h (o_pickF rfl rfl Bool.false_ne_true) rfl fun h => ?_
                 refine ga h (o_assign rfl) rfl fun h => ?_
                 refine GoR.done ?_
                 exact J1 false _ _ (som H).symm (h.wr [1, 6, 32])
               ·have H := ifF c15 H
                iterate 5 (refine gk h rfl rfl (nb_f c15) rfl fun _ h => ?_)
                refine ga h (o_pickF rfl rfl c15) rfl fun h => ?_
                refine mv h rfl rfl fun h => ?_
                iterate 6 (refine gk h rfl rfl (nb_f Bool.false_ne_true) rfl fun _ h => ?_)
                refine ga h (o_pickF rfl rfl Bool.false_ne_true) rfl fun h => ?_
                refine mv h rfl rfl fun h => ?_
                iterate 3 (refine gk h rfl rfl (nb_f Bool.false_ne_true) rfl fun _ h => ?_)
                refine ga h (o_pickF rfl rfl Bool.false_ne_true) rfl fun h => ?_
                refine mv h rfl rfl fun h => ?_
                iterate 6 (refine gk h rfl rfl (nb_f Bool.false_ne_true) rfl fun _ h => ?_)
                refine ga h (o_pickF rfl rfl Bool.false_ne_true) rfl fun h => ?_
                refine mv h rfl rfl fun h => ?_
                refine gk h rfl rfl (nb_f Bool.false_ne_true) rfl fun _ h => ?_
                refine gk h rfl rfl (nb_f Bool.false_ne_true) rfl fun _ h => ?_
                refine ga h (o_pickF rfl rfl Bool.false_ne_true) rfl fun h => ?_
                refine ga h (o_assign rfl) rfl fun h => ?_
                refine GoR.done ?_
                exact J1 false _ _ (som H).symm (h.wr [1, 6, 32])
              ·have H := ifF c14 H
               iterate 3 (refine gk h rfl rfl (nb_f c14) rfl fun _ h => ?_)
               refine ga h (o_pickF rfl rfl c14) rfl fun h => ?_
               refine mv h rfl rfl fun h => ?_
               iterate 5 (refine gk h rfl rfl (nb_f Bool.false_ne_true) rfl fun _ h => ?_)
               refine ga h (o_pickF rfl rfl Bool.false_ne_true) rfl fun h => ?_
               refine mv h rfl rfl fun h => ?_
               iterate 6 (refine gk h rfl rfl (nb_f Bool.false_ne_true) rfl fun _ h => ?_)
               refine ga h (o_pickF rfl rfl Bool.false_ne_true) rfl fun h => ?_
               refine mv h rfl rfl fun h => ?_
               iterate 3 (refine gk h rfl rfl (nb_f Bool.false_ne_true) rfl fun _ h => ?_)
               refine ga h (o_pickF rfl rfl Bool.false_ne_true) rfl fun h => ?_
               refine mv h rfl rfl fun h => ?_
               iterate 6 (refine gk h rfl rfl (nb_f Bool.false_ne_true) rfl fun _ h => ?_)
               refine ga h (o_pickF rfl rfl Bool.false_ne_true) rfl fun h => ?_
               refine mv h rfl rfl fun h => ?_
               refine gk h rfl rfl (nb_f Bool.false_ne_true) rfl fun _ h => ?_
               refine gk h rfl rfl (nb_f Bool.false_ne_true) rfl fun _ h => ?_
               refine ga h (o_pickF rfl rfl Bool.false_ne_true) rfl fun h => ?_
               refine ga h (o_assign rfl) rfl fun h => ?_
               refine GoR.done ?_
               exact J1 false _ _ (som H).symm (h.wr [1, 6, 32])
             ·have H := ifF c13 H
              refine gk h rfl rfl (nb_f c13) rfl fun _ h => ?_
              refine gk h rfl rfl (nb_f c13) rfl fun _ h => ?_
              refine ga h (o_pickF rfl rfl c13) rfl fun h => ?_
              refine mv h rfl rfl fun h => ?_
              iterate 3 (refine gk h rfl rfl (nb_f Bool.false_ne_true) rfl fun _ h => ?_)
              refine ga h (o_pickF rfl rfl Bool.false_ne_true) rfl fun h => ?_
              refine mv h rfl rfl fun h => ?_
              iterate 5 (refine gk h rfl rfl (nb_f Bool.false_ne_true) rfl fun _ h => ?_)
              refine ga h (o_pickF rfl rfl Bool.false_ne_true) rfl fun h => ?_
              refine mv h rfl rfl fun h => ?_
              iterate 6 (refine gk h rfl rfl (nb_f Bool.false_ne_true) rfl fun _ h => ?_)
              refine ga h (o_pickF rfl rfl Bool.false_ne_true) rfl fun h => ?_
              refine mv h rfl rfl fun h => ?_
              iterate 3 (refine gk h rfl rfl (nb_f Bool.false_ne_true) rfl fun _ h => ?_)
              refine ga h (o_pickF rfl rfl Bool.false_ne_true) rfl fun h => ?_
              refine mv h rfl rfl fun h => ?_
              iterate 6 (refine gk h rfl rfl (nb_f Bool.false_ne_true) rfl fun _ h => ?_)
              refine ga h (o_pickF rfl rfl Bool.false_ne_true) rfl fun h => ?_
              refine mv h rfl rfl fun h => ?_
              refine gk h rfl rfl (nb_f Bool.false_ne_true) rfl fun _ h => ?_
              refine gk h rfl rfl (nb_f Bool.false_ne_true) rfl fun _ h => ?_
              refine ga h (o_pickF rfl rfl Bool.false_ne_true) rfl fun h => ?_
              refine ga h (o_assign rfl) rfl fun h => ?_
              refine GoR.done ?_
              exact J1 false _ _ (som H).symm (h.wr [1, 6, 32])
            ·have H := ifF c12 H
             refine gk h rfl rfl (nb_f c12) rfl fun _ h => ?_
             refine gk h rfl rfl (nb_f c12) rfl fun _ h => ?_
             refine ga h (o_pickF rfl rfl c12) rfl fun h => ?_
             refine mv h rfl rfl fun h => ?_
             refine gk h rfl rfl (nb_f Bool.false_ne_true) rfl fun _ h => ?_
             refine gk h rfl rfl (nb_f Bool.false_ne_true) rfl fun _ h => ?_
             refine ga h (o_pickF rfl rfl Bool.false_ne_true) rfl fun h => ?_
             refine mv h rfl rfl fun h => ?_
             iterate 3 (refine gk h rfl rfl (nb_f Bool.false_ne_true) rfl fun _ h => ?_)
             refine ga h (o_pickF rfl rfl Bool.false_ne_true) rfl fun h => ?_
             refine mv h rfl rfl fun h => ?_
             iterate 5 (refine gk h rfl rfl (nb_f Bool.false_ne_true) rfl fun _ h => ?_)
             refine ga h (o_pickF rfl rfl Bool.false_ne_true) rfl fun h => ?_
             refine mv h rfl rfl fun h => ?_
             iterate 6 (refine gk h rfl rfl (nb_f Bool.false_ne_true) rfl fun _ h => ?_)
             refine ga h (o_pickF rfl rfl Bool.false_ne_true) rfl fun h => ?_
             refine mv h rfl rfl fun h => ?_
             iterate 3 (refine gk h rfl rfl (nb_f Bool.false_ne_true) rfl fun _ h => ?_)
             refine ga h (o_pickF rfl rfl Bool.false_ne_true) rfl fun h => ?_
             refine mv h rfl rfl fun h => ?_
             iterate 6 (refine gk h rfl rfl (nb_f Bool.false_ne_true) rfl fun _ h => ?_)
             refine ga h (o_pickF rfl rfl Bool.false_ne_true) rfl fun h => ?_
             refine mv h rfl rfl fun h => ?_
             refine gk h rfl rfl (nb_f Bool.false_ne_true) rfl fun _ h => ?_
             refine gk h rfl rfl (nb_f Bool.false_ne_true) rfl fun _ h => ?_
             refine ga h (o_pickF rfl rfl Bool.false_ne_true) rfl fun h => ?_
             refine ga h (o_assign rfl) rfl fun h => ?_
             refine GoR.done ?_
             exact J1 false _ _ (som H).symm (h.wr [1, 6, 32])
           ·have H := ifF c11 H
            iterate 6 (refine gk h rfl rfl (nb_f c11) rfl fun _ h => ?_)
            refine ga h (o_pickF rfl rfl c11) rfl fun h => ?_
            refine mv h rfl rfl fun h => ?_
            refine gk h rfl rfl (nb_f Bool.false_ne_true) rfl fun _ h => ?_
            refine gk h rfl rfl (nb_f Bool.false_ne_true) rfl fun _ h => ?_
            refine ga h (o_pickF rfl rfl Bool.false_ne_true) rfl fun h => ?_
            refine mv h rfl rfl fun h => ?_
            refine gk h rfl rfl (nb_f Bool.false_ne_true) rfl fun _ h => ?_
            refine gk h rfl rfl (nb_f Bool.false_ne_true) rfl fun _ h => ?_
            refine ga h (o_pickF rfl rfl Bool.false_ne_true) rfl fun h => ?_
            refine mv h rfl rfl fun h => ?_
            iterate 3 (refine gk h rfl rfl (nb_f Bool.false_ne_true) rfl fun _ h => ?_)
            refine ga h (o_pickF rfl rfl Bool.false_ne_true) rfl fun h => ?_
            refine mv h rfl rfl fun h => ?_
            iterate 5 (refine gk h rfl rfl (nb_f Bool.false_ne_true) rfl fun _ h => ?_)
            refine ga h (o_pickF rfl rfl Bool.false_ne_true) rfl fun h => ?_
            refine mv h rfl rfl fun h => ?_
            iterate 6 (refine gk h rfl rfl (nb_f Bool.false_ne_true) rfl fun _ h => ?_)
            refine ga h (o_pickF rfl rfl Bool.false_ne_true) rfl fun h => ?_
            refine mv h rfl rfl fun h => ?_
            iterate 3 (refine gk h rfl rfl (nb_f Bool.false_ne_true) rfl fun _ h => ?_)
            refine ga h (o_pickF rfl rfl Bool.false_ne_true) rfl fun h => ?_
            refine mv h rfl rfl fun h => ?_
            iterate 6 (refine gk h rfl rfl (nb_f Bool.false_ne_true) rfl fun _ h => ?_)
            refine ga h (o_pickF rfl rfl Bool.false_ne_true) rfl fun h => ?_
            refine mv h rfl rfl fun h => ?_
            refine gk h rfl rfl (nb_f Bool.false_ne_true) rfl fun _ h => ?_
            refine gk h rfl rfl (nb_f Bool.false_ne_true) rfl fun _ h => ?_
            refine ga h (o_pickF rfl rfl Bool.false_ne_true) rfl fun h => ?_
            refine ga h (o_assign rfl) rfl fun h => ?_
            refine GoR.done ?_
            exact J1 false _ _ (som H).symm (h.wr [0, 5, 31])
          ·have H := ifF c10 H
           iterate 5 (refine gk h rfl rfl (nb_f c10) rfl fun _ h => ?_)
           refine ga h (o_pickF rfl rfl c10) rfl fun h => ?_
           refine mv h rfl rfl fun h => ?_
           iterate 6 (refine gk h rfl rfl (nb_f Bool.false_ne_true) rfl fun _ h => ?_)
           refine ga h (o_pickF rfl rfl Bool.false_ne_true) rfl fun h => ?_
           refine mv h rfl rfl fun h => ?_
           refine gk h rfl rfl (nb_f Bool.false_ne_true) rfl fun _ h => ?_
           refine gk h rfl rfl (nb_f Bool.false_ne_true) rfl fun _ h => ?_
           refine ga h (o_pickF rfl rfl Bool.false_ne_true) rfl fun h => ?_
           refine mv h rfl rfl fun h => ?_
           refine gk h rfl rfl (nb_f Bool.false_ne_true) rfl fun _ h => ?_
           refine gk h rfl rfl (nb_f Bool.false_ne_true) rfl fun _ h => ?_
           refine ga h (o_pickF rfl rfl Bool.false_ne_true) rfl fun h => ?_
           refine mv h rfl rfl fun h => ?_
           iterate 3 (refine gk h rfl rfl (nb_f Bool.false_ne_true) rfl fun _ h => ?_)
           refine ga h (o_pickF rfl rfl Bool.false_ne_true) rfl fun h => ?_
           refine mv h rfl rfl fun h => ?_
           iterate 5 (refine gk h rfl rfl (nb_f Bool.false_ne_true) rfl fun _ h => ?_)
           refine ga h (o_pickF rfl rfl Bool.false_ne_true) rfl fun h => ?_
           refine mv h rfl rfl fun h => ?_
           iterate 6 (refine gk h rfl rfl (nb_f Bool.false_ne_true) rfl fun _ h => ?_)
           refine ga h (o_pickF rfl rfl Bool.false_ne_true) rfl fun h => ?_
           refine mv h rfl rfl fun h => ?_
           iterate 3 (refine gk h rfl rfl (nb_f Bool.false_ne_true) rfl fun _ h => ?_)
           refine ga h (o_pickF rfl rfl Bool.false_ne_true) rfl fun h => ?_
           refine mv h rfl rfl fun h => ?_
           iterate 6 (refine gk h rfl rfl (nb_f Bool.false_ne_true) rfl fun _ h => ?_)
           refine ga h (o_pickF rfl rfl Bool.false_ne_true) rfl fun h => ?_
           refine mv h rfl rfl fun h => ?_
           refine gk h rfl rfl (nb_f Bool.false_ne_true) rfl fun _ h => ?_
           refine gk h rfl rfl (nb_f Bool.false_ne_true) rfl fun _ h => ?_
           refine ga h (o_pickF rfl rfl Bool.false_ne_true) rfl fun h => ?_
           refine ga h (o_assign rfl) rfl fun h => ?_
           refine GoR.done ?_
           exact J1 false _ _ (som H).symm (h.wr [0, 5, 31])
         ·have H := ifF c9 H
          iterate 3 (refine gk h rfl rfl (nb_f c9) rfl fun _ h => ?_)
          refine ga h (o_pickF rfl rfl c9) rfl fun h => ?_
          refine mv h rfl rfl fun h => ?_
          iterate 5 (refine gk h rfl rfl (nb_f Bool.false_ne_true) rfl fun _ h => ?_)
          refine ga h (o_pickF rfl rfl Bool.false_ne_true) rfl fun h => ?_
          refine mv h rfl rfl fun h => ?_
          iterate 6 (refine gk h rfl rfl (nb_f Bool.false_ne_true) rfl fun _ h => ?_)
          refine ga h (o_pickF rfl rfl Bool.false_ne_true) rfl fun h => ?_
          refine mv h rfl rfl fun h => ?_
          refine gk h rfl rfl (nb_f Bool.false_ne_true) rfl fun _ h => ?_
          refine gk h rfl rfl (nb_f Bool.false_ne_true) rfl fun _ h => ?_
          refine ga h (o_pickF rfl rfl Bool.false_ne_true) rfl fun h => ?_
          refine mv h rfl rfl fun h => ?_
          refine gk h rfl rfl (nb_f Bool.false_ne_true) rfl fun _ h => ?_
          refine gk h rfl rfl (nb_f Bool.false_ne_true) rfl fun _ h => ?_
          refine ga h (o_pickF rfl rfl Bool.false_ne_true) rfl fun h => ?_
          refine mv h rfl rfl fun h => ?_
          iterate 3 (refine gk h rfl rfl (nb_f Bool.false_ne_true) rfl fun _ h => ?_)
          refine ga h (o_pickF rfl rfl Bool.false_ne_true) rfl fun h => ?_
          refine mv h rfl rfl fun h => ?_
          iterate 5 (refine gk h rfl rfl (nb_f Bool.false_ne_true) rfl fun _ h => ?_)
          refine ga h (o_pickF rfl rfl Bool.false_ne_true) rfl fun h => ?_
          refine mv h rfl rfl fun h => ?_
          iterate 6 (refine gk h rfl rfl (nb_f Bool.false_ne_true) rfl fun _ h => ?_)
          refine ga h (o_pickF rfl rfl Bool.false_ne_true) rfl fun h => ?_
          refine mv h rfl rfl fun h => ?_
          iterate 3 (refine gk h rfl rfl (nb_f Bool.false_ne_true) rfl fun _ h => ?_)
          refine ga h (o_pickF rfl rfl Bool.false_ne_true) rfl fun h => ?_
          refine mv h rfl rfl fun h => ?_
          iterate 6 (refine gk h rfl rfl (nb_f Bool.false_ne_true) rfl fun _ h => ?_)
          refine ga h (o_pickF rfl rfl Bool.false_ne_true) rfl fun h => ?_
          refine mv h rfl rfl fun h => ?_
          refine gk h rfl rfl (nb_f Bool.false_ne_true) rfl fun _ h => ?_
          refine gk h rfl rfl (nb_f Bool.false_ne_true) rfl fun _ h => ?_
          refine ga h (o_pickF rfl rfl Bool.false_ne_true) rfl fun h => ?_
          refine ga h (o_assign rfl) rfl fun h => ?_
          refine GoR.done ?_
          exact J1 false _ _ (som H).symm (h.wr [0, 5, 31])
        ·have H := ifF c8 H
         refine gk h rfl rfl (nb_f c8) rfl fun _ h => ?_
         refine gk h rfl rfl (nb_f c8) rfl fun _ h => ?_
         refine ga h (o_pickF rfl rfl c8) rfl fun h => ?_
         refine mv h rfl rfl fun h => ?_
         iterate 3 (refine gk h rfl rfl (nb_f Bool.false_ne_true) rfl fun _ h => ?_)
         refine ga h (o_pickF rfl rfl Bool.false_ne_true) rfl fun h => ?_
         refine mv h rfl rfl fun h => ?_
         iterate 5 (refine gk h rfl rfl (nb_f Bool.false_ne_true) rfl fun _ h => ?_)
         refine ga h (o_pickF rfl rfl Bool.false_ne_true) rfl fun h => ?_
         refine mv h rfl rfl fun h => ?_
         iterate 6 (refine gk h rfl rfl (nb_f Bool.false_ne_true) rfl fun _ h => ?_)
         refine ga h (o_pickF rfl rfl Bool.false_ne_true) rfl fun h => ?_
         refine mv h rfl rfl fun h => ?_
         refine gk h rfl rfl (nb_f Bool.false_ne_true) rfl fun _ h => ?_
         refine gk h rfl rfl (nb_f Bool.false_ne_true) rfl fun _ h => ?_
         refine ga h (o_pickF rfl rfl Bool.false_ne_true) rfl fun h => ?_
         refine mv h rfl rfl fun h => ?_
         refine gk h rfl rfl (nb_f Bool.false_ne_true) rfl fun _ h => ?_
         refine gk h rfl rfl (nb_f Bool.false_ne_true) rfl fun _ h => ?_
         refine ga h (o_pickF rfl rfl Bool.false_ne_true) rfl fun h => ?_
         refine mv h rfl rfl fun h => ?_
         iterate 3 (refine gk h rfl rfl (nb_f Bool.false_ne_true) rfl fun _ h => ?_)
         refine ga h (o_pickF rfl rfl Bool.false_ne_true) rfl fun h => ?_
         refine mv h rfl rfl fun h => ?_
         iterate 5 (refine gk h rfl rfl (nb_f Bool.false_ne_true) rfl fun _ h => ?_)
         refine ga h (o_pickF rfl rfl Bool.false_ne_true) rfl fun h => ?_
         refine mv h rfl rfl fun h => ?_
         iterate 6 (refine gk h rfl rfl (nb_f Bool.false_ne_true) rfl fun _ h => ?_)
         refine ga h (o_pickF rfl rfl Bool.false_ne_true) rfl fun h => ?_
         refine mv h rfl rfl fun h => ?_
         iterate 3 (refine gk h rfl rfl (nb_f Bool.false_ne_true) rfl fun _ h => ?_)
         refine ga h (o_pickF rfl rfl Bool.false_ne_true) rfl fun h => ?_
         refine mv h rfl rfl fun h => ?_
         iterate 6 (refine gk h rfl rfl (nb_f Bool.false_ne_true) rfl fun _ h => ?_)
         refine ga h (o_pickF rfl rfl Bool.false_ne_true) rfl fun h => ?_
         refine mv h rfl rfl fun h => ?_
         refine gk h rfl rfl (nb_f Bool.false_ne_true) rfl fun _ h => ?_
         refine gk h rfl rfl (nb_f Bool.false_ne_true) rfl fun _ h => ?_
         refine ga h (o_pickF rfl rfl Bool.false_ne_true) rfl fun h => ?_
         refine ga h (o_assign rfl) rfl fun h => ?_
         refine GoR.done ?_
         exact J1 false _ _ (som H).symm (h.wr [0, 5, 31])
       ·have H := ifF c7 H
        iterate 5 (refine gk h rfl rfl (nb_f c7) rfl fun _ h => ?_)
        refine ga h (o_pickF rfl rfl c7) rfl fun h => ?_
        refine mv h rfl rfl fun h => ?_
        refine gk h rfl rfl (nb_f Bool.false_ne_true) rfl fun _ h => ?_
        refine gk h rfl rfl (nb_f Bool.false_ne_true) rfl fun _ h => ?_
        refine ga h (o_pickF rfl rfl Bool.false_ne_true) rfl fun h => ?_
        refine mv h rfl rfl fun h => ?_
        iterate 3 (refine gk h rfl rfl (nb_f Bool.false_ne_true) rfl fun _ h => ?_)
        refine ga h (o_pickF rfl rfl Bool.false_ne_true) rfl fun h => ?_
        refine mv h rfl rfl fun h => ?_
        iterate 5 (refine gk h rfl rfl (nb_f Bool.false_ne_true) rfl fun _ h => ?_)
        refine ga h (o_pickF rfl rfl Bool.false_ne_true) rfl fun h => ?_
        refine mv h rfl rfl fun h => ?_
        iterate 6 (refine gk h rfl rfl (nb_f Bool.false_ne_true) rfl fun _ h => ?_)
        refine ga h (o_pickF rfl rfl Bool.false_ne_true) rfl fun h => ?_
        refine mv h rfl rfl fun h => ?_
        refine gk h rfl rfl (nb_f Bool.false_ne_true) rfl fun _ h => ?_
        refine gk h rfl rfl (nb_f Bool.false_ne_true) rfl fun _ h => ?_
        refine ga h (o_pickF rfl rfl Bool.false_ne_true) rfl fun h => ?_
        refine mv h rfl rfl fun h => ?_
        refine gk h rfl rfl (nb_f Bool.false_ne_true) rfl fun _ h => ?_
        refine gk h rfl rfl (nb_f Bool.false_ne_true) rfl fun _ h => ?_
        refine ga h (o_pickF rfl rfl Bool.false_ne_true) rfl fun h => ?_
        refine mv h rfl rfl fun h => ?_
        iterate 3 (refine gk h rfl rfl (nb_f Bool.false_ne_true) rfl fun _ h => ?_)
        refine ga h (o_pickF rfl rfl Bool.false_ne_true) rfl fun h => ?_
        refine mv h rfl rfl fun h => ?_
        iterate 5 (refine gk h rfl rfl (nb_f Bool.false_ne_true) rfl fun _ h => ?_)
        refine ga h (o_pickF rfl rfl Bool.false_ne_true) rfl fun h => ?_
        refine mv h rfl rfl fun h => ?_
        iterate 6 (refine gk h rfl rfl (nb_f Bool.false_ne_true) rfl fun _ h => ?_)
        refine ga h (o_pickF rfl rfl Bool.false_ne_true) rfl fun h => ?_
        refine mv h rfl rfl fun h => ?_
        iterate 3 (refine gk h rfl rfl (nb_f Bool.false_ne_true) rfl fun _ h => ?_)
        refine ga h (o_pickF rfl rfl Bool.false_ne_true) rfl fun h => ?_
        refine mv h rfl rfl fun h => ?_
        iterate 6 (refine gk h rfl rfl (nb_f Bool.false_ne_true) rfl fun _ h => ?_)
        refine ga h (o_pickF rfl rfl Bool.false_ne_true) rfl fun h => ?_
        refine mv h rfl rfl fun h => ?_
        refine gk h rfl rfl (nb_f Bool.false_ne_true) rfl fun _ h => ?_
        refine gk h rfl rfl (nb_f Bool.false_ne_true) rfl fun _ h => ?_
        refine ga h (o_pickF rfl rfl Bool.false_ne_true) rfl fun h => ?_
        refine ga h (o_assign rfl) rfl fun h => ?_
        refine GoR.done ?_
        exact J1 false _ _ (som H).symm (h.wr [0, 5, 31])
      ·have H := ifF c6 H
       iterate 3 (refine gk h rfl rfl (nb_f c6) rfl fun _ h => ?_)
       refine ga h (o_pickF rfl rfl c6) rfl fun h => ?_
       refine mv h rfl rfl fun h => ?_
       iterate 5 (refine gk h rfl rfl (nb_f Bool.false_ne_true) rfl fun _ h => ?_)
       refine ga h (o_pickF rfl rfl Bool.false_ne_true) rfl fun h => ?_
       refine mv h rfl rfl fun h => ?_
       refine gk h rfl rfl (nb_f Bool.false_ne_true) rfl fun _ h => ?_
       refine gk h rfl rfl (nb_f Bool.false_ne_true) rfl fun _ h => ?_
       refine ga h (o_pickF rfl rfl Bool.false_ne_true) rfl fun h => ?_
       refine mv h rfl rfl fun h => ?_
       iterate 3 (refine gk h rfl rfl (nb_f Bool.false_ne_true) rfl fun _ h => ?_)
       refine ga h (o_pickF rfl rfl Bool.false_ne_true) rfl fun h => ?_
       refine mv h rfl rfl fun h => ?_
       iterate 5 (refine gk h rfl rfl (nb_f Bool.false_ne_true) rfl fun _ h => ?_)
       refine ga h (o_pickF rfl rfl Bool.false_ne_true) rfl fun h => ?_
       refine mv h rfl rfl fun h => ?_
       iterate 6 (refine gk h rfl rfl (nb_f Bool.false_ne_true) rfl fun _ h => ?_)
       refine ga h (o_pickF rfl rfl Bool.false_ne_true) rfl fun h => ?_
       refine mv h rfl rfl fun h => ?_
       refine gk h rfl rfl (nb_f Bool.false_ne_true) rfl fun _ h => ?_
       refine gk h rfl rfl (nb_f Bool.false_ne_true) rfl fun _ h => ?_
       refine ga h (o_pickF rfl rfl Bool.false_ne_true) rfl fun h => ?_
       refine mv h rfl rfl fun h => ?_
       refine gk h rfl rfl (nb_f Bool.false_ne_true) rfl fun _ h => ?_
       refine gk h rfl rfl (nb_f Bool.false_ne_true) rfl fun _ h => ?_
       refine ga h (o_pickF rfl rfl Bool.false_ne_true) rfl fun h => ?_
       refine mv h rfl rfl fun h => ?_
       iterate 3 (refine gk h rfl rfl (nb_f Bool.false_ne_true) rfl fun _ h => ?_)
       refine ga h (o_pickF rfl rfl Bool.false_ne_true) rfl fun h => ?_
       refine mv h rfl rfl fun h => ?_
       iterate 5 (refine gk h rfl rfl (nb_f Bool.false_ne_true) rfl fun _ h => ?_)
       refine ga h (o_pickF rfl rfl Bool.false_ne_true) rfl fun h => ?_
       refine mv h rfl rfl fun h => ?_
       iterate 6 (refine gk h rfl rfl (nb_f Bool.false_ne_true) rfl fun _ h => ?_)
       refine ga h (o_pickF rfl rfl Bool.false_ne_true) rfl fun h => ?_
       refine mv h rfl rfl fun h => ?_
       iterate 3 (refine gk h rfl rfl (nb_f Bool.false_ne_true) rfl fun _ h => ?_)
       refine ga h (o_pickF rfl rfl Bool.false_ne_true) rfl fun h => ?_
       refine mv h rfl rfl fun h => ?_
       iterate 6 (refine gk h rfl rfl (nb_f Bool.false_ne_true) rfl fun _ h => ?_)
       refine ga h (o_pickF rfl rfl Bool.false_ne_true) rfl fun h => ?_
       refine mv h rfl rfl fun h => ?_
       refine gk h rfl rfl (nb_f Bool.false_ne_true) rfl fun _ h => ?_
       refine gk h rfl rfl (nb_f Bool.false_ne_true) rfl fun _ h => ?_
       refine ga h (o_pickF rfl rfl Bool.false_ne_true) rfl fun h => ?_
       refine ga h (o_assign rfl) rfl fun h => ?_
       refine GoR.done ?_
       exact J1 false _ _ (som H).symm (h.wr [0, 5, 31])
     ·have H := ifF c5 H
      iterate 5 (refine gk h rfl rfl (nb_f c5) rfl fun _ h => ?_)
      refine ga h (o_pickF rfl rfl c5) rfl fun h => ?_
      refine mv h rfl rfl fun h => ?_
      iterate 3 (refine gk h rfl rfl (nb_f Bool.false_ne_true) rfl fun _ h => ?_)
      refine ga h (o_pickF rfl rfl Bool.false_ne_true) rfl fun h => ?_
      refine mv h rfl rfl fun h => ?_
      iterate 5 (refine gk h rfl rfl (nb_f Bool.false_ne_true) rfl fun _ h => ?_)
      refine ga h (o_pickF rfl rfl Bool.false_ne_true) rfl fun h => ?_
      refine mv h rfl rfl fun h => ?_
      refine gk h rfl rfl (nb_f Bool.false_ne_true) rfl fun _ h => ?_
      refine gk h rfl rfl (nb_f Bool.false_ne_true) rfl fun _ h => ?_
      refine ga h (o_pickF rfl rfl Bool.false_ne_true) rfl fun h => ?_
      refine mv h rfl rfl fun h => ?_
      iterate 3 (refine gk h rfl rfl (nb_f Bool.false_ne_true) rfl fun _ h => ?_)
      refine ga h (o_pickF rfl rfl Bool.false_ne_true) rfl fun h => ?_
      refine mv h rfl rfl fun h => ?_
      iterate 5 (refine gk h rfl rfl (nb_f Bool.false_ne_true) rfl fun _ h => ?_)
      refine ga h (o_pickF rfl rfl Bool.false_ne_true) rfl fun h => ?_
      refine mv h rfl rfl fun h => ?_
      iterate 6 (refine gk h rfl rfl (nb_f Bool.false_ne_true) rfl fun _ h => ?_)
      refine ga h (o_pickF rfl rfl Bool.false_ne_true) rfl fun h => ?_
      refine mv h rfl rfl fun h => ?_
      refine gk h rfl rfl (nb_f Bool.false_ne_true) rfl fun _ h => ?_
      refine gk h rfl rfl (nb_f Bool.false_ne_true) rfl fun _ h => ?_
      refine ga h (o_pickF rfl rfl Bool.false_ne_true) rfl fun h => ?_
      refine mv h rfl rfl fun h => ?_
      refine gk h rfl rfl (nb_f Bool.false_ne_true) rfl fun _ h => ?_
      refine gk h rfl rfl (nb_f Bool.false_ne_true) rfl fun _ h => ?_
      refine ga h (o_pickF rfl rfl Bool.false_ne_true) rfl fun h => ?_
      refine mv h rfl rfl fun h => ?_
      iterate 3 (refine gk h rfl rfl (nb_f Bool.false_ne_true) rfl fun _ h => ?_)
      refine ga h (o_pickF rfl rfl Bool.false_ne_true) rfl fun h => ?_
      refine mv h rfl rfl fun h => ?_
      iterate 5 (refine gk h rfl rfl (nb_f Bool.false_ne_true) rfl fun _ h => ?_)
      refine ga h (o_pickF rfl rfl Bool.false_ne_true) rfl fun h => ?_
      refine mv h rfl rfl fun h => ?_
      iterate 6 (refine gk h rfl rfl (nb_f Bool.false_ne_true) rfl fun _ h => ?_)
      refine ga h (o_pickF rfl rfl Bool.false_ne_true) rfl fun h => ?_
      refine mv h rfl rfl fun h => ?_
      iterate 3 (refine gk h rfl rfl (nb_f Bool.false_ne_true) rfl fun _ h => ?_)
      refine ga h (o_pickF rfl rfl Bool.false_ne_true) rfl fun h => ?_
      refine mv h rfl rfl fun h => ?_
      iterate 6 (refine gk h rfl rfl (nb_f Bool.false_ne_true) rfl fun _ h => ?_)
      refine ga h (o_pickF rfl rfl Bool.false_ne_true) rfl fun h => ?_
      refine mv h rfl rfl fun h => ?_
      refine gk h rfl rfl (nb_f Bool.false_ne_true) rfl fun _ h => ?_
      refine gk h rfl rfl (nb_f Bool.false_ne_true) rfl fun _ h => ?_
      refine ga h (o_pickF rfl rfl Bool.false_ne_true) rfl fun h => ?_
      refine ga h (o_assign rfl) rfl fun h => ?_
      refine GoR.done ?_
      exact J1 false _ _ (som H).symm (h.wr [0, 5, 31])
    ·have H := ifF c4 H
     iterate 5 (refine gk h rfl rfl (nb_f c4) rfl fun _ h => ?_)
     refine ga h (o_pickF rfl rfl c4) rfl fun h => ?_
     refine mv h rfl rfl fun h => ?_
     iterate 5 (refine gk h rfl rfl (nb_f Bool.false_ne_true) rfl fun _ h => ?_)
     refine ga h (o_pickF rfl rfl Bool.false_ne_true) rfl fun h => ?_
     refine mv h rfl rfl fun h => ?_
     iterate 3 (refine gk h rfl rfl (nb_f Bool.false_ne_true) rfl fun _ h => ?_)
     refine ga h (o_pickF rfl rfl Bool.false_ne_true) rfl fun h => ?_
     refine mv h rfl rfl fun h => ?_
     iterate 5 (refine gk h rfl rfl (nb_f Bool.false_ne_true) rfl fun _ h => ?_)
     refine ga h (o_pickF rfl rfl Bool.false_ne_true) rfl fun h => ?_
     refine mv h rfl rfl fun h => ?_
     refine gk h rfl rfl (nb_f Bool.false_ne_true) rfl fun _ h => ?_
     refine gk h rfl rfl (nb_f Bool.false_ne_true) rfl fun _ h => ?_
     refine ga h (o_pickF rfl rfl Bool.false_ne_true) rfl fun h => ?_
     refine mv h rfl rfl fun h => ?_
     iterate 3 (refine gk h rfl rfl (nb_f Bool.false_ne_true) rfl fun _ h => ?_)
     refine ga h (o_pickF rfl rfl Bool.false_ne_true) rfl fun h => ?_
     refine mv h rfl rfl fun h => ?_
     iterate 5 (refine gk h rfl rfl (nb_f Bool.false_ne_true) rfl fun _ h => ?_)
     refine ga h (o_pickF rfl rfl Bool.false_ne_true) rfl fun h => ?_
     refine mv h rfl rfl fun h => ?_
     iterate 6 (refine gk h rfl rfl (nb_f Bool.false_ne_true) rfl fun _ h => ?_)
     refine ga h (o_pickF rfl rfl Bool.false_ne_true) rfl fun h => ?_
     refine mv h rfl rfl fun h => ?_
     refine gk h rfl rfl (nb_f Bool.false_ne_true) rfl fun _ h => ?_
     refine gk h rfl rfl (nb_f Bool.false_ne_true) rfl fun _ h => ?_
     refine ga h (o_pickF rfl rfl Bool.false_ne_true) rfl fun h => ?_
     refine mv h rfl rfl fun h => ?_
     refine gk h rfl rfl (nb_f Bool.false_ne_true) rfl fun _ h => ?_
     refine gk h rfl rfl (nb_f Bool.false_ne_true) rfl fun _ h => ?_
     refine ga h (o_pickF rfl rfl Bool.false_ne_true) rfl fun h => ?_
     refine mv h rfl rfl fun h => ?_
     iterate 3 (refine gk h rfl rfl (nb_f Bool.false_ne_true) rfl fun _ h => ?_)
     refine ga h (o_pickF rfl rfl Bool.false_ne_true) rfl fun h => ?_
     refine mv h rfl rfl fun h => ?_
     iterate 5 (refine gk h rfl rfl (nb_f Bool.false_ne_true) rfl fun _ h => ?_)
     refine ga h (o_pickF rfl rfl Bool.false_ne_true) rfl fun h => ?_
     refine mv h rfl rfl fun h => ?_
     iterate 6 (refine gk h rfl rfl (nb_f Bool.false_ne_true) rfl fun _ h => ?_)
     refine ga h (o_pickF rfl rfl Bool.false_ne_true) rfl fun h => ?_
     refine mv h rfl rfl fun h => ?_
     iterate 3 (refine gk h rfl rfl (nb_f Bool.false_ne_true) rfl fun _ h => ?_)
     refine ga h (o_pickF rfl rfl Bool.false_ne_true) rfl fun h => ?_
     refine mv h rfl rfl fun h => ?_
     iterate 6 (refine gk h rfl rfl (nb_f Bool.false_ne_true) rfl fun _ h => ?_)
     refine ga h (o_pickF rfl rfl Bool.false_ne_true) rfl fun h => ?_
     refine mv h rfl rfl fun h => ?_
     refine gk h rfl rfl (nb_f Bool.false_ne_true) rfl fun _ h => ?_
     refine gk h rfl rfl (nb_f Bool.false_ne_true) rfl fun _ h => ?_
     refine ga h (o_pickF rfl rfl Bool.false_ne_true) rfl fun h => ?_
     refine ga h (o_assign rfl) rfl fun h => ?_
     refine GoR.done ?_
     exact J1 false _ _ (som H).symm (h.wr [0, 5, 31])
   ·have H := ifF c3 H
    iterate 5 (refine gk h rfl rfl (nb_f c3) rfl fun _ h => ?_)
    refine ga h (o_pickF rfl rfl c3) rfl fun h => ?_
    refine mv h rfl rfl fun h => ?_
    iterate 5 (refine gk h rfl rfl (nb_f Bool.false_ne_true) rfl fun _ h => ?_)
    refine ga h (o_pickF rfl rfl Bool.false_ne_true) rfl fun h => ?_
    refine mv h rfl rfl fun h => ?_
    iterate 5 (refine gk h rfl rfl (nb_f Bool.false_ne_true) rfl fun _ h => ?_)
    refine ga h (o_pickF rfl rfl Bool.false_ne_true) rfl fun h => ?_
    refine mv h rfl rfl fun h => ?_
    iterate 3 (refine gk h rfl rfl (nb_f Bool.false_ne_true) rfl fun _ h => ?_)
    refine ga h (o_pickF rfl rfl Bool.false_ne_true) rfl fun h => ?_
    refine mv h rfl rfl fun h => ?_
    iterate 5 (refine gk h rfl rfl (nb_f Bool.false_ne_true) rfl fun _ h => ?_)
    refine ga h (o_pickF rfl rfl Bool.false_ne_true) rfl fun h => ?_
    refine mv h rfl rfl fun h => ?_
    refine gk h rfl rfl (nb_f Bool.false_ne_true) rfl fun _ h => ?_
    refine gk h rfl rfl (nb_f Bool.false_ne_true) rfl fun _ h => ?_
    refine ga h (o_pickF rfl rfl Bool.false_ne_true) rfl fun h => ?_
    refine mv h rfl rfl fun h => ?_
    iterate 3 (refine gk h rfl rfl (nb_f Bool.false_ne_true) rfl fun _ h => ?_)
    refine ga h (o_pickF rfl rfl Bool.false_ne_true) rfl fun h => ?_
    refine mv h rfl rfl fun h => ?_
    iterate 5 (refine gk h rfl rfl (nb_f Bool.false_ne_true) rfl fun _ h => ?_)
    refine ga h (o_pickF rfl rfl Bool.false_ne_true) rfl fun h => ?_
    refine mv h rfl rfl fun h => ?_
    iterate 6 (refine gk h rfl rfl (nb_f Bool.false_ne_true) rfl fun _ h => ?_)
    refine ga h (o_pickF rfl rfl Bool.false_ne_true) rfl fun h => ?_
    refine mv h rfl rfl fun h => ?_
    refine gk h rfl rfl (nb_f Bool.false_ne_true) rfl fun _ h => ?_
    refine gk h rfl rfl (nb_f Bool.false_ne_true) rfl fun _ h => ?_
    refine ga h (o_pickF rfl rfl Bool.false_ne_true) rfl fun h => ?_
    refine mv h rfl rfl fun h => ?_
    refine gk h rfl rfl (nb_f Bool.false_ne_true) rfl fun _ h => ?_
    refine gk h rfl rfl (nb_f Bool.false_ne_true) rfl fun _ h => ?_
    refine ga h (o_pickF rfl rfl Bool.false_ne_true) rfl fun h => ?_
    refine mv h rfl rfl fun h => ?_
    iterate 3 (refine gk h rfl rfl (nb_f Bool.false_ne_true) rfl fun _ h => ?_)
    refine ga h (o_pickF rfl rfl Bool.false_ne_true) rfl fun h => ?_
    refine mv h rfl rfl fun h => ?_
    iterate 5 (refine gk h rfl rfl (nb_f Bool.false_ne_true) rfl fun _ h => ?_)
    refine ga h (o_pickF rfl rfl Bool.false_ne_true) rfl fun h => ?_
    refine mv h rfl rfl fun h => ?_
    iterate 6 (refine gk h rfl rfl (nb_f Bool.false_ne_true) rfl fun _ h => ?_)
    refine ga h (o_pickF rfl rfl Bool.false_ne_true) rfl fun h => ?_
    refine mv h rfl rfl fun h => ?_
    iterate 3 (refine gk h rfl rfl (nb_f Bool.false_ne_true) rfl fun _ h => ?_)
    refine ga h (o_pickF rfl rfl Bool.false_ne_true) rfl fun h => ?_
    refine mv h rfl rfl fun h => ?_
    iterate 6 (refine gk h rfl rfl (nb_f Bool.false_ne_true) rfl fun _ h => ?_)
    refine ga h (o_pickF rfl rfl Bool.false_ne_true) rfl fun h => ?_
    refine mv h rfl rfl fun h => ?_
    refine gk h rfl rfl (nb_f Bool.false_ne_true) rfl fun _ h => ?_
    refine gk h rfl rfl (nb_f Bool.false_ne_true) rfl fun _ h => ?_
    refine ga h (o_pickF rfl rfl Bool.false_ne_true) rfl fun h => ?_
    refine ga h (o_assign rfl) rfl fun h => ?_
    refine GoR.done ?_
    exact J1 false _ _ (som H).symm (h.wr [0, 5, 31])
  ·have H := ifF c2 H
   iterate 5 (refine gk h rfl rfl (nb_f c2) rfl fun _ h => ?_)
   refine ga h (o_pickF rfl rfl c2) rfl fun h => ?_
   refine mv h rfl rfl fun h => ?_
   iterate 5 (refine gk h rfl rfl (nb_f Bool.false_ne_true) rfl fun _ h => ?_)
   refine ga h (o_pickF rfl rfl Bool.false_ne_true) rfl fun h => ?_
   refine mv h rfl rfl fun h => ?_
   iterate 5 (refine gk h rfl rfl (nb_f Bool.false_ne_true) rfl fun _ h => ?_)
   refine ga h (o_pickF rfl rfl Bool.false_ne_true) rfl fun h => ?_
   refine mv h rfl rfl fun h => ?_
   iterate 5 (refine gk h rfl rfl (nb_f Bool.false_ne_true) rfl fun _ h => ?_)
   refine ga h (o_pickF rfl rfl Bool.false_ne_true) rfl fun h => ?_
   refine mv h rfl rfl fun h => ?_
   iterate 3 (refine gk h rfl rfl (nb_f Bool.false_ne_true) rfl fun _ h => ?_)
   refine ga h (o_pickF rfl rfl Bool.false_ne_true) rfl fun h => ?_
   refine mv h rfl rfl fun h => ?_
   iterate 5 (refine gk h rfl rfl (nb_f Bool.false_ne_true) rfl fun _ h => ?_)
   refine ga h (o_pickF rfl rfl Bool.false_ne_true) rfl fun h => ?_
   refine mv h rfl rfl fun h => ?_
   refine gk h rfl rfl (nb_f Bool.false_ne_true) rfl fun _ h => ?_
   refine gk h rfl rfl (nb_f Bool.false_ne_true) rfl fun _ h => ?_
   refine ga h (o_pickF rfl rfl Bool.false_ne_true) rfl fun h => ?_
   refine mv h rfl rfl fun h => ?_
   iterate 3 (refine gk h rfl rfl (nb_f Bool.false_ne_true) rfl fun _ h => ?_)
   refine ga h (o_pickF rfl rfl Bool.false_ne_true) rfl fun h => ?_
   refine mv h rfl rfl fun h => ?_
   iterate 5 (refine gk h rfl rfl (nb_f Bool.false_ne_true) rfl fun _ h => ?_)
   refine ga h (o_pickF rfl rfl Bool.false_ne_true) rfl fun h => ?_
   refine mv h rfl rfl fun h => ?_
   iterate 6 (refine gk h rfl rfl (nb_f Bool.false_ne_true) rfl fun _ h => ?_)
   refine ga h (o_pickF rfl rfl Bool.false_ne_true) rfl fun h => ?_
   refine mv h rfl rfl fun h => ?_
   refine gk h rfl rfl (nb_f Bool.false_ne_true) rfl fun _ h => ?_
   refine gk h rfl rfl (nb_f Bool.false_ne_true) rfl fun _ h => ?_
   refine ga h (o_pickF rfl rfl Bool.false_ne_true) rfl fun h => ?_
   refine mv h rfl rfl fun h => ?_
   refine gk h rfl rfl (nb_f Bool.false_ne_true) rfl fun _ h => ?_
   refine gk h rfl rfl (nb_f Bool.false_ne_true) rfl fun _ h => ?_
   refine ga h (o_pickF rfl rfl Bool.false_ne_true) rfl fun h => ?_
   refine mv h rfl rfl fun h => ?_
   iterate 3 (refine gk h rfl rfl (nb_f Bool.false_ne_true) rfl fun _ h => ?_)
   refine ga h (o_pickF rfl rfl Bool.false_ne_true) rfl fun h => ?_
   refine mv h rfl rfl fun h => ?_
   iterate 5 (refine gk h rfl rfl (nb_f Bool.false_ne_true) rfl fun _ h => ?_)
   refine ga h (o_pickF rfl rfl Bool.false_ne_true) rfl fun h => ?_
   refine mv h rfl rfl fun h => ?_
   iterate 6 (refine gk h rfl rfl (nb_f Bool.false_ne_true) rfl fun _ h => ?_)
   refine ga h (o_pickF rfl rfl Bool.false_ne_true) rfl fun h => ?_
   refine mv h rfl rfl fun h => ?_
   iterate 3 (refine gk h rfl rfl (nb_f Bool.false_ne_true) rfl fun _ h => ?_)
   refine ga h (o_pickF rfl rfl Bool.false_ne_true) rfl fun h => ?_
   refine mv h rfl rfl fun h => ?_
   iterate 6 (refine gk h rfl rfl (nb_f Bool.false_ne_true) rfl fun _ h => ?_)
   refine ga h (o_pickF rfl rfl Bool.false_ne_true) rfl fun h => ?_
   refine mv h rfl rfl fun h => ?_
   refine gk h rfl rfl (nb_f Bool.false_ne_true) rfl fun _ h => ?_
   refine gk h rfl rfl (nb_f Bool.false_ne_true) rfl fun _ h => ?_
   refine ga h (o_pickF rfl rfl Bool.false_ne_true) rfl fun h => ?_
   refine ga h (o_assign rfl) rfl fun h => ?_
   refine GoR.done ?_
   exact J1 false _ _ (som H).symm (h.wr [0, 5, 31])
 ·have H := ifF c1 H
  iterate 3 (refine gk h rfl rfl (nb_f c1) rfl fun _ h => ?_)
  refine ga h (o_pickF rfl rfl c1) rfl fun h => ?_
  refine mv h rfl rfl fun h => ?_
  iterate 5 (refine gk h rfl rfl (nb_f Bool.false_ne_true) rfl fun _ h => ?_)
  refine ga h (o_pickF rfl rfl Bool.false_ne_true) rfl fun h => ?_
  refine mv h rfl rfl fun h => ?_
  iterate 5 (refine gk h rfl rfl (nb_f Bool.false_ne_true) rfl fun _ h => ?_)
  refine ga h (o_pickF rfl rfl Bool.false_ne_true) rfl fun h => ?_
  refine mv h rfl rfl fun h => ?_
  iterate 5 (refine gk h rfl rfl (nb_f Bool.false_ne_true) rfl fun _ h => ?_)
  refine ga h (o_pickF rfl rfl Bool.false_ne_true) rfl fun h => ?_
  refine mv h rfl rfl fun h => ?_
  iterate 5 (refine gk h rfl rfl (nb_f Bool.false_ne_true) rfl fun _ h => ?_)
  refine ga h (o_pickF rfl rfl Bool.false_ne_true) rfl fun h => ?_
  refine mv h rfl rfl fun h => ?_
  iterate 3 (refine gk h rfl rfl (nb_f Bool.false_ne_true) rfl fun _ h => ?_)
  refine ga h (o_pickF rfl rfl Bool.false_ne_true) rfl fun h => ?_
  refine mv h rfl rfl fun h => ?_
  iterate 5 (refine gk h rfl rfl (nb_f Bool.false_ne_true) rfl fun _ h => ?_)
  refine ga h (o_pickF rfl rfl Bool.false_ne_true) rfl fun h => ?_
  refine mv h rfl rfl fun h => ?_
  refine gk h rfl rfl (nb_f Bool.false_ne_true) rfl fun _ h => ?_
  refine gk h rfl rfl (nb_f Bool.false_ne_true) rfl fun _ h => ?_
  refine ga h (o_pickF rfl rfl Bool.false_ne_true) rfl fun h => ?_
  refine mv h rfl rfl fun h => ?_
  iterate 3 (refine gk h rfl rfl (nb_f Bool.false_ne_true) rfl fun _ h => ?_)
  refine ga h (o_pickF rfl rfl Bool.false_ne_true) rfl fun h => ?_
  refine mv h rfl rfl fun h => ?_
  iterate 5 (refine gk h rfl rfl (nb_f Bool.false_ne_true) rfl fun _ h => ?_)
  refine ga h (o_pickF rfl rfl Bool.false_ne_true) rfl fun h => ?_
  refine mv h rfl rfl fun h => ?_
  iterate 6 (refine gk h rfl rfl (nb_f Bool.false_ne_true) rfl fun _ h => ?_)
  refine ga h (o_pickF rfl rfl Bool.false_ne_true) rfl fun h => ?_
  refine mv h rfl rfl fun h => ?_
  refine gk h rfl rfl (nb_f Bool.false_ne_true) rfl fun _ h => ?_
  refine gk h rfl rfl (nb_f Bool.false_ne_true) rfl fun _ h => ?_
  refine ga h (o_pickF rfl rfl Bool.false_ne_true) rfl fun h => ?_
  refine mv h rfl rfl fun h => ?_
  refine gk h rfl rfl (nb_f Bool.false_ne_true) rfl fun _ h => ?_
  refine gk h rfl rfl (nb_f Bool.false_ne_true) rfl fun _ h => ?_
  refine ga h (o_pickF rfl rfl Bool.false_ne_true) rfl fun h => ?_
  refine mv h rfl rfl fun h => ?_
  iterate 3 (refine gk h rfl rfl (nb_f Bool.false_ne_true) rfl fun _ h => ?_)
  refine ga h (o_pickF rfl rfl Bool.false_ne_true) rfl fun h => ?_
  refine mv h rfl rfl fun h => ?_
  iterate 5 (refine gk h rfl rfl (nb_f Bool.false_ne_true) rfl fun _ h => ?_)
  refine ga h (o_pickF rfl rfl Bool.false_ne_true) rfl fun h => ?_
  refine mv h rfl rfl fun h => ?_
  iterate 6 (refine gk h rfl rfl (nb_f Bool.false_ne_true) rfl fun _ h => ?_)
  refine ga h (o_pickF rfl rfl Bool.false_ne_true) rfl fun h => ?_
  refine mv h rfl rfl fun h => ?_
  iterate 3 (refine gk h rfl rfl (nb_f Bool.false_ne_true) rfl fun _ h => ?_)
  refine ga h (o_pickF rfl rfl Bool.false_ne_true) rfl fun h => ?_
  refine mv h rfl rfl fun h => ?_
  iterate 6 (refine gk h rfl rfl (nb_f Bool.false_ne_true) rfl fun _ h => ?_)
  refine ga h (o_pickF rfl rfl Bool.false_ne_true) rfl fun h => ?_
  refine mv h rfl rfl fun h => ?_
  refine gk h rfl rfl (nb_f Bool.false_ne_true) rfl fun _ h => ?_
  refine gk h rfl rfl (nb_f Bool.false_ne_true) rfl fun _ h => ?_
  refine ga h (o_pickF rfl rfl Bool.false_ne_true) rfl fun h => ?_
  refine ga h (o_assign rfl) rfl fun h => ?_
  refine GoR.done ?_
  exact J1 false _ _ (som H).symm (h.wr [0, 5, 31])
def law28_heads.g (k_ : Nat)  : Option (Bool) :=
  (splice_Open.g k_ (⟨1000, 80, 4294967295, 0, 2, 9000, 0, []⟩ : TSeg) 1 2 1 500).bind fun r1 => (splice_Hear.g k_ r1.1 0 (⟨1, 1, [], 0⟩ : TTell)).bind fun r2 => (splice_Take.g k_ r2.1 0 (⟨1000, 80, 0, 501, 24, 9000, 0, ([97, 98, 99] : List Int)⟩ : TSeg)).bind fun r3 => (splice_Hear.g k_ r3.1 1 (⟨5, 1, [], 9⟩ : TTell)).bind fun r4 => (splice_Hear.g k_ r4.1 1 (⟨3, 1, ([120, 121] : List Int), 0⟩ : TTell)).bind fun r5 => (splice_Tick.g k_ r5.1 3).bind fun r6 => ((if r1.2 = true then (if decide ((r2.2.1.length : Int) = 1) = true then (idx r2.2.1 0).bind fun x1 => (if decide (x1.Flags = 18) = true then (idx r2.2.1 0).bind fun x2 => (if decide (x2.Seq = 500) = true then (idx r2.2.1 0).bind fun x3 => (if decide (x3.Ack = 0) = true then (idx r2.2.1 0).bind fun x4 => (if decide (x4.Mss = 1460) = true then (if decide ((r3.2.1.length : Int) = 1) = true then (idx r3.2.1 0).bind fun x5 => (if decide (x5.Ack = 3) = true then (if (!r3.2.2.2) = true then (if decide ((r4.2.2.1.length : Int) = 1) = true then (idx r4.2.2.1 0).bind fun x6 => (if decide (x6.Kind = 2) = true then (idx r4.2.2.1 0).bind fun x7 => (if decide (x7.Data = [97, 98, 99]) = true then (if decide (r4.2.2.2.1 = 3) = true then (if decide (r5.2.2.2.1 = 2) = true then (if decide ((r5.2.1.length : Int) = 1) = true then (idx r5.2.1 0).bind fun x8 => (if decide (x8.Seq = 501) = true then (idx r5.2.1 0).bind fun x9 => (if decide (x9.Data = [120, 121]) = true then (if decide ((r6.2.1.length : Int) = 1) = true then (idx r6.2.1 0).bind fun x10 => (if decide (x10.Data = [120, 121]) = true then (splice_Check.g k_ r5.1).bind fun r7 => some (r7) else some (false)) else some (false)) else some (false)) else some (false)) else some (false)) else some (false)) else some (false)) else some (false)) else some (false)) else some (false)) else some (false)) else some (false)) else some (false)) else some (false)) else some (false)) else some (false)) else some (false)) else some (false)) else some (false))).bind (fun j1 => some (j1))
theorem law28_heads.le (k_ : Nat)  : Le (law28_heads.g k_ ) (law28_heads.f ) := by
 unfold law28_heads.g law28_heads.f
 repeat' (first | with_reducible refine le_loop fun _ => ?_ | with_reducible refine le_bind ?_ fun _ => ?_ | with_reducible refine le_ite ?_ ?_ | with_reducible refine le_lt fun _ => ?_ | with_reducible refine le_elim (fun _ => ?_) (fun _ => ?_) _ | with_reducible apply splice_Check.le | with_reducible apply splice_Hear.le | with_reducible apply splice_Open.le | with_reducible apply splice_Take.le | with_reducible apply splice_Tick.le | with_reducible exact le_refl _)
end Go.Proofs.Ytpcbhkigmnpimaa.S
