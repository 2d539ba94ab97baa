/- Contracts, printed by a program of this session. -/
import Derived.Test.YtmmaojclfggioaaT2
import Derived.Test.YtmmaojclfggioaaT3
import Derived.Test.YtmmaojclfggioaaT7
namespace Go.Proofs.Ytmmaojclfggioaa.S
open Go Go.SL Go.RowKit
set_option linter.unusedVariables false
set_option linter.unusedSimpArgs false
/-! drawbridge/drawbridgelaw25.heads -/
noncomputable def law25_heads.f  : Option (Bool) :=
  (lease_Serve.f [] 0 (⟨1, 7, 0, 0, ([1, 2, 3, 4, 5, 6] : List Int), 1, 0, 0, 0, 0, 0, 0⟩ : TDhcp)).bind fun r1 => (lease_Serve.f [] 10 (⟨1, 0, 0, 0, ([1, 2, 3, 4, 5, 6] : List Int), 3, 167772688, 0, 0, 0, 0, 0⟩ : TDhcp)).bind fun r2 => (mk 6 0).bind fun x1 => (lease_Serve.f r2.1 11 (⟨1, 0, 0, 0, x1, 3, 167772688, 0, 0, 0, 0, 0⟩ : TDhcp)).bind fun r3 => (lease_Find.f r2.1 11 ([1, 2, 3, 4, 5, 6] : List Int)).bind fun r4 => (lease_Find.f r2.1 3610 ([1, 2, 3, 4, 5, 6] : List Int)).bind fun r5 => (lease_Owner.f r2.1 11 167772688).bind fun r6 => ((if r1.2.2 = true then (if decide (r1.2.1.Yi = 167772687) = true then (if decide (r1.2.1.Type_ = 2) = true then (if decide (r1.2.1.Xid = 7) = true then (if r2.2.2 = true then (if decide (r2.2.1.Type_ = 5) = true then (if decide ((r2.1.length : Int) = 1) = true then (if r3.2.2 = true then (if decide (r3.2.1.Type_ = 6) = true then (if decide (r3.2.1.Yi = 0) = true then (if r4.2 = true then (if decide (r4.1 = 167772688) = true then (if (!r5.2) = true then (if r6.2 = true then (ref01_Same.f r6.1 ([1, 2, 3, 4, 5, 6] : List Int)).bind fun r7 => (if r7 = true then (lease_Check.f r2.1).bind fun r8 => some (r8) else some (false)) else some (false)) else some (false)) else some (false)) else some (false)) else some (false)) else some (false)) else some (false)) else some (false)) else some (false)) else some (false)) else some (false)) else some (false)) else some (false)) else some (false))).bind (fun j1 => some (j1))
set_option maxRecDepth 100000 in
set_option maxHeartbeats 4000000 in
theorem law25_heads.spc  (r : Bool) (H : law25_heads.f  = some r) : Spc Try.prog 8 [] [] [] (fun (s : Unit) => .bool r) (fun s => []) := by
 unfold law25_heads.f at H
 refine Spc.go Try.func8 rfl (by kernel_rfl) rfl rfl all_nil fun F a w h => ?_
 refine Go.seq ?_
 refine Go.reg ?_
 refine ga h (o_assign rfl) rfl fun h => ?_
 refine GoR.done ?_
 refine Go.seq ?_
 refine Go.reg ?_
 refine gs h (o_bs (K := (Kd.int .u8)) (vs := [.int .u8 1, .int .u8 2, .int .u8 3, .int .u8 4, .int .u8 5, .int .u8 6]) (xs := ([1, 2, 3, 4, 5, 6] : List Int)) rfl rfl (pvs_cons (pv_int (show InR .u8 1 by decide)) (pvs_cons (pv_int (show InR .u8 2 by decide)) (pvs_cons (pv_int (show InR .u8 3 by decide)) (pvs_cons (pv_int (show InR .u8 4 by decide)) (pvs_cons (pv_int (show InR .u8 5 by decide)) (pvs_cons (pv_int (show InR .u8 6 by decide)) pvs_nil)))))) t_a22 (by decide) (by decide)) rfl fun v1 _ _ h => ?_
 refine ga h (o_assign rfl) rfl fun h => ?_
 refine GoR.done ?_
 refine Go.seq ?_
 refine Go.reg ?_
 refine mv h rfl rfl fun h => ?_
 replace h := h.mm fun m => m.freeze 0 rfl
 refine gs h (o_build (K := KDhcp) (x := (⟨1, 7, 0, 0, ([1, 2, 3, 4, 5, 6] : List Int), 1, 0, 0, 0, 0, 0, 0⟩ : TDhcp)) (ps := [(0, .int .i64 1), (1, .int .u32 7), (4, v1), (5, .int .i64 1)]) rfl (zs := zsDhcp) rfl t_b28 rfl (show PB (Kd.pair (Kd.int .i64) (Kd.pair (Kd.int .u32) (Kd.pair (Kd.int .u32) (Kd.pair (Kd.int .u32) (Kd.pair (Kd.sl (Kd.int .u8)) (Kd.pair (Kd.int .i64) (Kd.pair (Kd.int .u32) (Kd.pair (Kd.int .u32) (Kd.pair (Kd.int .u32) (Kd.pair (Kd.int .u32) (Kd.pair (Kd.int .u32) (Kd.last (Kd.int .u32))))))))))))) (1, 7, 0, 0, ([1, 2, 3, 4, 5, 6] : List Int), 1, 0, 0, 0, 0, 0, 0) 0 zsDhcp _ _ from (pb_part (pv_int (show InR .i64 1 by decide)) rfl (pb_part (pv_int (show InR .u32 7 by decide)) rfl (pb_zero z_int (pb_zero z_int (pb_part (pv_at Per_sl 0 rfl) rfl (pb_part (pv_int (show InR .i64 1 by decide)) rfl (pb_zero z_int (pb_zero z_int (pb_zero z_int (pb_zero z_int (pb_zero z_int (pb_lastz z_int)))))))))))))) rfl fun v2 _ _ h => ?_
 replace h := h.mm fun m => (pv_nil (K := KLease)).ent m
 obtain ⟨r1, er1, H⟩ := bindE H
 refine gs h (o_call (lease_Serve.spc (.slice none 0 0) [] 0 (show InR .i64 0 by decide) v2 (⟨1, 7, 0, 0, ([1, 2, 3, 4, 5, 6] : List Int), 1, 0, 0, 0, 0, 0, 0⟩ : TDhcp) r1 er1) rfl [0, 1] [] (by decide) rfl rfl) rfl fun s_ _ _ h => ?_
 obtain ⟨v3, v4⟩ := s_
 refine mv h rfl rfl fun h => ?_
 iterate 3 (refine ga h (o_extract rfl rfl) rfl fun h => ?_)
 refine gs h (o_alloc (K := KDhcp) (z := (.agg #[.int .i64 0, .int .u32 0, .int .u32 0, .int .u32 0, .slice none 0 0, .int .i64 0, .int .u32 0, .int .u32 0, .int .u32 0, .int .u32 0, .int .u32 0, .int .u32 0])) rfl ZDhcp) rfl fun b1 _ _ h => ?_
 refine ga h (o_assign rfl) rfl fun h => ?_
 refine gs0 h (o_st 0 rfl rfl rfl (pv_at PDhcp 2 rfl) rfl t_w28) fun _ _ _ h => ?_
 refine ga h (o_assign rfl) rfl fun h => ?_
 refine GoR.done ?_
 refine Go.seq ?_
 refine Go.reg ?_
 refine mv h rfl rfl fun h => ?_
 refine gs h (o_build (K := KDhcp) (x := (⟨1, 0, 0, 0, ([1, 2, 3, 4, 5, 6] : List Int), 3, 167772688, 0, 0, 0, 0, 0⟩ : TDhcp)) (ps := [(0, .int .i64 1), (4, v1), (5, .int .i64 3), (6, .int .u32 167772688)]) rfl (zs := zsDhcp) rfl t_b28 rfl (show PB (Kd.pair (Kd.int .i64) (Kd.pair (Kd.int .u32) (Kd.pair (Kd.int .u32) (Kd.pair (Kd.int .u32) (Kd.pair (Kd.sl (Kd.int .u8)) (Kd.pair (Kd.int .i64) (Kd.pair (Kd.int .u32) (Kd.pair (Kd.int .u32) (Kd.pair (Kd.int .u32) (Kd.pair (Kd.int .u32) (Kd.pair (Kd.int .u32) (Kd.last (Kd.int .u32))))))))))))) (1, 0, 0, 0, ([1, 2, 3, 4, 5, 6] : List Int), 3, 167772688, 0, 0, 0, 0, 0) 0 zsDhcp _ _ from (pb_part (pv_int (show InR .i64 1 by decide)) rfl (pb_zero z_int (pb_zero z_int (pb_zero z_int (pb_part (pv_at Per_sl 5 rfl) rfl (pb_part (pv_int (show InR .i64 3 by decide)) rfl (pb_part (pv_int (show InR .u32 167772688 by decide)) rfl (pb_zero z_int (pb_zero z_int (pb_zero z_int (pb_zero z_int (pb_lastz z_int)))))))))))))) rfl fun v5 _ _ h => ?_
 replace h := h.mm fun m => (pv_nil (K := KLease)).ent m
 obtain ⟨r2, er2, H⟩ := bindE H
 refine gs h (o_call (lease_Serve.spc (.slice none 0 0) [] 10 (show InR .i64 10 by decide) v5 (⟨1, 0, 0, 0, ([1, 2, 3, 4, 5, 6] : List Int), 3, 167772688, 0, 0, 0, 0, 0⟩ : TDhcp) r2 er2) rfl [0, 1] [] (by decide) rfl rfl) rfl fun s_ _ _ h => ?_
 obtain ⟨v6, v7⟩ := s_
 refine mv h rfl rfl fun h => ?_
 iterate 3 (refine ga h (o_extract rfl rfl) rfl fun h => ?_)
 refine gs h (o_alloc (K := KDhcp) (z := (.agg #[.int .i64 0, .int .u32 0, .int .u32 0, .int .u32 0, .slice none 0 0, .int .i64 0, .int .u32 0, .int .u32 0, .int .u32 0, .int .u32 0, .int .u32 0, .int .u32 0])) rfl ZDhcp) rfl fun b2 _ _ h => ?_
 refine ga h (o_assign rfl) rfl fun h => ?_
 refine gs0 h (o_st 0 rfl rfl rfl (pv_at PDhcp 2 rfl) rfl t_w28) fun _ _ _ h => ?_
 refine ga h (o_assign rfl) rfl fun h => ?_
 refine GoR.done ?_
 refine Go.seq ?_
 refine Go.reg ?_
 refine mv h rfl rfl fun h => ?_
 obtain ⟨x1, ex1, H⟩ := bindE H
 refine gs h (o_mk (K := (Kd.int .u8)) rfl rfl ex1 t_a22 (by decide) (fun e he => ⟨[.int .u8 0], by cases he; exact t_zc5, z_int⟩)) rfl fun v8 _ _ h => ?_
 replace h := h.mm fun m => m.freeze 0 rfl
 refine gs h (o_build (K := KDhcp) (x := (⟨1, 0, 0, 0, x1, 3, 167772688, 0, 0, 0, 0, 0⟩ : TDhcp)) (ps := [(0, .int .i64 1), (4, v8), (5, .int .i64 3), (6, .int .u32 167772688)]) rfl (zs := zsDhcp) rfl t_b28 rfl (show PB (Kd.pair (Kd.int .i64) (Kd.pair (Kd.int .u32) (Kd.pair (Kd.int .u32) (Kd.pair (Kd.int .u32) (Kd.pair (Kd.sl (Kd.int .u8)) (Kd.pair (Kd.int .i64) (Kd.pair (Kd.int .u32) (Kd.pair (Kd.int .u32) (Kd.pair (Kd.int .u32) (Kd.pair (Kd.int .u32) (Kd.pair (Kd.int .u32) (Kd.last (Kd.int .u32))))))))))))) (1, 0, 0, 0, x1, 3, 167772688, 0, 0, 0, 0, 0) 0 zsDhcp _ _ from (pb_part (pv_int (show InR .i64 1 by decide)) rfl (pb_zero z_int (pb_zero z_int (pb_zero z_int (pb_part (pv_at Per_sl 0 rfl) rfl (pb_part (pv_int (show InR .i64 3 by decide)) rfl (pb_part (pv_int (show InR .u32 167772688 by decide)) rfl (pb_zero z_int (pb_zero z_int (pb_zero z_int (pb_zero z_int (pb_lastz z_int)))))))))))))) rfl fun v9 _ _ h => ?_
 obtain ⟨r3, er3, H⟩ := bindE H
 refine gs h (o_call (lease_Serve.spc v6 r2.1 11 (show InR .i64 11 by decide) v9 (⟨1, 0, 0, 0, x1, 3, 167772688, 0, 0, 0, 0, 0⟩ : TDhcp) r3 er3) rfl [3, 0] [] (by decide) rfl rfl) rfl fun s_ _ _ h => ?_
 obtain ⟨v10, v11⟩ := s_
 refine mv h rfl rfl fun h => ?_
 iterate 3 (refine ga h (o_extract rfl rfl) rfl fun h => ?_)
 refine gs h (o_alloc (K := KDhcp) (z := (.agg #[.int .i64 0, .int .u32 0, .int .u32 0, .int .u32 0, .slice none 0 0, .int .i64 0, .int .u32 0, .int .u32 0, .int .u32 0, .int .u32 0, .int .u32 0, .int .u32 0])) rfl ZDhcp) rfl fun b3 _ _ h => ?_
 refine ga h (o_assign rfl) rfl fun h => ?_
 refine gs0 h (o_st 0 rfl rfl rfl (pv_at PDhcp 2 rfl) rfl t_w28) fun _ _ _ h => ?_
 refine ga h (o_assign rfl) rfl fun h => ?_
 refine GoR.done ?_
 refine Go.seq ?_
 refine Go.reg ?_
 refine mv h rfl rfl fun h => ?_
 refine mv h rfl rfl fun h => ?_
 obtain ⟨r4, er4, H⟩ := bindE H
 refine ga h (o_call (lease_Find.spc v6 r2.1 11 (show InR .i64 11 by decide) v1 ([1, 2, 3, 4, 5, 6] : List Int) r4 er4) rfl [6, 15] [] (by decide) rfl rfl) rfl fun h => ?_
 have g1 := h.mem.pur 0 rfl
 refine mv h rfl rfl fun h => ?_
 refine ga h (o_extract rfl rfl) rfl fun h => ?_
 refine ga h (o_extract rfl rfl) rfl fun h => ?_
 refine ga h (o_assign rfl) rfl fun h => ?_
 refine ga h (o_assign rfl) rfl fun h => ?_
 refine GoR.done ?_
 refine Go.seq ?_
 refine Go.reg ?_
 refine mv h rfl rfl fun h => ?_
 refine mv h rfl rfl fun h => ?_
 obtain ⟨r5, er5, H⟩ := bindE H
 refine ga h (o_call (lease_Find.spc v6 r2.1 3610 (show InR .i64 3610 by decide) v1 ([1, 2, 3, 4, 5, 6] : List Int) r5 er5) rfl [7, 16] [] (by decide) rfl rfl) rfl fun h => ?_
 have g2 := h.mem.pur 0 rfl
 refine mv h rfl rfl fun h => ?_
 refine ga h (o_extract rfl rfl) rfl fun h => ?_
 refine ga h (o_extract rfl rfl) rfl fun h => ?_
 refine ga h (o_assign rfl) rfl fun h => ?_
 refine ga h (o_assign rfl) rfl fun h => ?_
 refine GoR.done ?_
 refine Go.seq ?_
 refine Go.reg ?_
 refine mv h rfl rfl fun h => ?_
 obtain ⟨r6, er6, H⟩ := bindE H
 refine gs h (o_call (lease_Owner.spc v6 r2.1 11 (show InR .i64 11 by decide) 167772688 (show InR .u32 167772688 by decide) r6 er6) rfl [8] [] (by decide) rfl rfl) rfl fun v12 _ _ h => ?_
 refine mv h rfl rfl fun h => ?_
 refine ga h (o_extract rfl rfl) rfl fun h => ?_
 refine ga h (o_extract rfl rfl) rfl fun h => ?_
 refine ga h (o_assign rfl) rfl fun h => ?_
 refine ga h (o_assign rfl) rfl fun h => ?_
 refine GoR.done ?_
 refine Go.seq ?_
 obtain ⟨o1, H, G1⟩ := bindE H
 refine g_cut (fun G => ∀ j1 (a : Act) (w : World), o1 = j1 → St Try.f8.ntmps F [(0, .bool j1)] [Fld KDhcp b3 0 r3.2.1, Fld KDhcp b2 0 r2.2.1, Fld KDhcp b1 0 r1.2.1] a w → G a w) 1 ?_ fun J1 => ?_
 ·intro j1 a w ho_ h
  rw [ho_] at G1
  have H := G1
  rw [← som H]
  exact g_ret (vs := [.bool j1]) h Try.func8 ⟨rfl, trivial⟩ ⟨(), rfl, (h.mem.pick [] (by decide) rfl)⟩
 refine Go.reg ?_
 refine mv h rfl rfl fun h => ?_
 refine mv h rfl rfl fun h => ?_
 by_cases c1 : r1.2.2 = true
 ·have H := ifT c1 H
  refine gg h rfl rfl c1 (o_fa rfl t_f28_3 rfl rfl) rfl fun _ _ _ h => ?_
  have g3 := (in2 (fd_sub sDhcp_Yi 13 rfl h.mem))
  refine gg h rfl rfl c1 (o_lfx 13 rfl rfl sDhcp_Yi rfl X_int t_y25) rfl fun _ _ _ h => ?_
  refine gg h rfl rfl c1 (o_bin rfl rfl rfl) rfl fun _ _ _ h => ?_
  refine ga h (o_pickT rfl rfl c1) rfl fun h => ?_
  refine mv h rfl rfl fun h => ?_
  by_cases c2 : decide (r1.2.1.Yi = 167772687) = true
  ·have H := ifT c2 H
   refine gg h rfl rfl c2 (o_fa rfl t_f28_5 rfl rfl) rfl fun _ _ _ h => ?_
   have g4 := (in2 (fd_sub sDhcp_Type_ 13 rfl h.mem))
   refine gg h rfl rfl c2 (o_lfx 13 rfl rfl sDhcp_Type_ rfl X_int t_y3) rfl fun _ _ _ h => ?_
   refine gg h rfl rfl c2 (o_bin rfl rfl rfl) rfl fun _ _ _ h => ?_
   refine ga h (o_pickT rfl rfl c2) rfl fun h => ?_
   refine mv h rfl rfl fun h => ?_
   by_cases c3 : decide (r1.2.1.Type_ = 2) = true
   ·have H := ifT c3 H
    refine gg h rfl rfl c3 (o_fa rfl t_f28_1 rfl rfl) rfl fun _ _ _ h => ?_
    have g5 := (in2 (fd_sub sDhcp_Xid 13 rfl h.mem))
    refine gg h rfl rfl c3 (o_lfx 13 rfl rfl sDhcp_Xid rfl X_int t_y25) rfl fun _ _ _ h => ?_
    refine gg h rfl rfl c3 (o_bin rfl rfl rfl) rfl fun _ _ _ h => ?_
    refine ga h (o_pickT rfl rfl c3) rfl fun h => ?_
    refine mv h rfl rfl fun h => ?_
    by_cases c4 : decide (r1.2.1.Xid = 7) = true
    ·have H := ifT c4 H
     refine gg h rfl rfl c4 (o_move rfl) rfl fun _ _ _ h => ?_
     refine ga h (o_pickT rfl rfl c4) rfl fun h => ?_
     refine mv h rfl rfl fun h => ?_
     by_cases c5 : r2.2.2 = true
     ·have H := ifT c5 H
      refine gg h rfl rfl c5 (o_fa rfl t_f28_5 rfl rfl) rfl fun _ _ _ h => ?_
      have g6 := (in2 (fd_sub sDhcp_Type_ 8 rfl h.mem))
      refine gg h rfl rfl c5 (o_lfx 8 rfl rfl sDhcp_Type_ rfl X_int t_y3) rfl fun _ _ _ h => ?_
      refine gg h rfl rfl c5 (o_bin rfl rfl rfl) rfl fun _ _ _ h => ?_
      refine ga h (o_pickT rfl rfl c5) rfl fun h => ?_
      refine mv h rfl rfl fun h => ?_
      by_cases c6 : decide (r2.2.1.Type_ = 5) = true
      ·have H := ifT c6 H
       refine gg h rfl rfl c6 (o_move rfl) rfl fun _ _ _ h => ?_
       have g7 := (len_at 9 rfl h.mem)
       refine gg h rfl rfl c6 (o_ln rfl (rd_at 9 rfl) t_v26) rfl fun _ _ _ h => ?_
       refine gg h rfl rfl c6 (o_bin rfl rfl rfl) rfl fun _ _ _ h => ?_
       refine ga h (o_pickT rfl rfl c6) rfl fun h => ?_
       refine mv h rfl rfl fun h => ?_
       by_cases c7 : decide ((r2.1.length : Int) = 1) = true
       ·have H := ifT c7 H
        refine gg h rfl rfl c7 (o_move rfl) rfl fun _ _ _ h => ?_
        refine ga h (o_pickT rfl rfl c7) rfl fun h => ?_
        refine mv h rfl rfl fun h => ?_
        by_cases c8 : r3.2.2 = true
        ·have H := ifT c8 H
         refine gg h rfl rfl c8 (o_fa rfl t_f28_5 rfl rfl) rfl fun _ _ _ h => ?_
         have g8 := (in2 (fd_sub sDhcp_Type_ 3 rfl h.mem))
         refine gg h rfl rfl c8 (o_lfx 3 rfl rfl sDhcp_Type_ rfl X_int t_y3) rfl fun _ _ _ h => ?_
         refine gg h rfl rfl c8 (o_bin rfl rfl rfl) rfl fun _ _ _ h => ?_
         refine ga h (o_pickT rfl rfl c8) rfl fun h => ?_
         refine mv h rfl rfl fun h => ?_
         by_cases c9 : decide (r3.2.1.Type_ = 6) = true
         ·have H := ifT c9 H
          refine gg h rfl rfl c9 (o_fa rfl t_f28_3 rfl rfl) rfl fun _ _ _ h => ?_
          have g9 := (in2 (fd_sub sDhcp_Yi 3 rfl h.mem))
          refine gg h rfl rfl c9 (o_lfx 3 rfl rfl sDhcp_Yi rfl X_int t_y25) rfl fun _ _ _ h => ?_
          refine gg h rfl rfl c9 (o_bin rfl rfl rfl) rfl fun _ _ _ h => ?_
          refine ga h (o_pickT rfl rfl c9) rfl fun h => ?_
          refine mv h rfl rfl fun h => ?_
          by_cases c10 : decide (r3.2.1.Yi = 0) = true
          ·have H := ifT c10 H
           refine gg h rfl rfl c10 (o_move rfl) rfl fun _ _ _ h => ?_
           refine ga h (o_pickT rfl rfl c10) rfl fun h => ?_
           refine mv h rfl rfl fun h => ?_
           by_cases c11 : r4.2 = true
           ·have H := ifT c11 H
            refine gg h rfl rfl c11 (o_move rfl) rfl fun _ _ _ h => ?_
            refine gg h rfl rfl c11 (o_bin rfl rfl rfl) rfl fun _ _ _ h => ?_
            refine ga h (o_pickT rfl rfl c11) rfl fun h => ?_
            refine mv h rfl rfl fun h => ?_
            by_cases c12 : decide (r4.1 = 167772688) = true
            ·have H := ifT c12 H
             refine gg h rfl rfl c12 (o_move rfl) rfl fun _ _ _ h => ?_
             refine gg h rfl rfl c12 (o_not rfl) rfl fun _ _ _ h => ?_
             refine ga h (o_pickT rfl rfl c12) rfl fun h => ?_
             refine mv h rfl rfl fun h => ?_
             by_cases c13 : (!r5.2) = true
             ·have H := ifT c13 H
              refine gg h rfl rfl c13 (o_move rfl) rfl fun _ _ _ h => ?_
              refine ga h (o_pickT rfl rfl c13) rfl fun h => ?_
              refine mv h rfl rfl fun h => ?_
              by_cases c14 : r6.2 = true
              ·have H := ifT c14 H
               refine gg h rfl rfl c14 (o_move rfl) rfl fun _ _ _ h => ?_
               refine gg h rfl rfl c14 (o_move rfl) rfl fun _ _ _ h => ?_
               replace h := h.mm fun m => m.freeze 0 rfl
               obtain ⟨r7, er7, H⟩ := bindE H
               refine gg h rfl rfl c14 (o_call (ref01_Same.spc v12 r6.1 v1 ([1, 2, 3, 4, 5, 6] : List Int) r7 er7) rfl [0, 18] [] (by decide) rfl rfl) rfl fun _ _ _ h => ?_
               refine ga h (o_pickT rfl rfl c14) rfl fun h => ?_
               refine mv h rfl rfl fun h => ?_
               by_cases c15 : r7 = true
               ·have H := ifT c15 H
                refine gg h rfl rfl c15 (o_move rfl) rfl fun _ _ _ h => ?_
                obtain ⟨r8, er8, H⟩ := bindE H
                refine gg h rfl rfl c15 (o_call (lease_Check.spc v6 r2.1 r8 er8) rfl [9] [] (by decide) rfl rfl) rfl fun _ _ _ h => ?_
                refine ga h (o_pickT rfl rfl c15) rfl fun h => ?_
                refine ga h (o_assign rfl) rfl fun h => ?_
                refine GoR.done ?_
                exact J1 r8 _ _ (som H).symm (h.wr [3, 8, 13])
               ·have H := ifF c15 H
                refine gk h rfl rfl (nb_f c15) rfl fun _ h => ?_
                refine gk h rfl rfl (nb_f c15) rfl fun _ h => ?_
                refine ga h (o_pickF rfl rfl c15) rfl fun h => ?_
                refine ga h (o_assign rfl) rfl fun h => ?_
                refine GoR.done ?_
                exact J1 false _ _ (som H).symm (h.wr [3, 8, 13])
              ·have H := ifF c14 H
               iterate 3 (refine gk h rfl rfl (nb_f c14) rfl fun _ h => ?_)
               refine ga h (o_pickF rfl rfl c14) rfl fun h => ?_
               refine mv h rfl rfl fun h => ?_
               refine gk h rfl rfl (nb_f Bool.false_ne_true) rfl fun _ h => ?_
               refine gk h rfl rfl (nb_f Bool.false_ne_true) rfl fun _ h => ?_
               refine ga h (o_pickF rfl rfl Bool.false_ne_true) rfl fun h => ?_
               refine ga h (o_assign rfl) rfl fun h => ?_
               refine GoR.done ?_
               exact J1 false _ _ (som H).symm (h.wr [3, 8, 13])
             ·have H := ifF c13 H
              refine gk h rfl rfl (nb_f c13) rfl fun _ h => ?_
              refine ga h (o_pickF rfl rfl c13) rfl fun h => ?_
              refine mv h rfl rfl fun h => ?_
              iterate 3 (refine gk h rfl rfl (nb_f Bool.false_ne_true) rfl fun _ h => ?_)
              refine ga h (o_pickF rfl rfl Bool.false_ne_true) rfl fun h => ?_
              refine mv h rfl rfl fun h => ?_
              refine gk h rfl rfl (nb_f Bool.false_ne_true) rfl fun _ h => ?_
              refine gk h rfl rfl (nb_f Bool.false_ne_true) rfl fun _ h => ?_
              refine ga h (o_pickF rfl rfl Bool.false_ne_true) rfl fun h => ?_
              refine ga h (o_assign rfl) rfl fun h => ?_
              refine GoR.done ?_
              exact J1 false _ _ (som H).symm (h.wr [3, 8, 13])
            ·have H := ifF c12 H
             refine gk h rfl rfl (nb_f c12) rfl fun _ h => ?_
             refine gk h rfl rfl (nb_f c12) rfl fun _ h => ?_
             refine ga h (o_pickF rfl rfl c12) rfl fun h => ?_
             refine mv h rfl rfl fun h => ?_
             refine gk h rfl rfl (nb_f Bool.false_ne_true) rfl fun _ h => ?_
             refine ga h (o_pickF rfl rfl Bool.false_ne_true) rfl fun h => ?_
             refine mv h rfl rfl fun h => ?_
             iterate 3 (refine gk h rfl rfl (nb_f Bool.false_ne_true) rfl fun _ h => ?_)
             refine ga h (o_pickF rfl rfl Bool.false_ne_true) rfl fun h => ?_
             refine mv h rfl rfl fun h => ?_
             refine gk h rfl rfl (nb_f Bool.false_ne_true) rfl fun _ h => ?_
             refine gk h rfl rfl (nb_f Bool.false_ne_true) rfl fun _ h => ?_
             refine ga h (o_pickF rfl rfl Bool.false_ne_true) rfl fun h => ?_
             refine ga h (o_assign rfl) rfl fun h => ?_
             refine GoR.done ?_
             exact J1 false _ _ (som H).symm (h.wr [3, 8, 13])
           ·have H := ifF c11 H
            refine gk h rfl rfl (nb_f c11) rfl fun _ h => ?_
            refine gk h rfl rfl (nb_f c11) rfl fun _ h => ?_
            refine ga h (o_pickF rfl rfl c11) rfl fun h => ?_
            refine mv h rfl rfl fun h => ?_
            refine gk h rfl rfl (nb_f Bool.false_ne_true) rfl fun _ h => ?_
            refine gk h rfl rfl (nb_f Bool.false_ne_true) rfl fun _ h => ?_
            refine ga h (o_pickF rfl rfl Bool.false_ne_true) rfl fun h => ?_
            refine mv h rfl rfl fun h => ?_
            refine gk h rfl rfl (nb_f Bool.false_ne_true) rfl fun _ h => ?_
            refine ga h (o_pickF rfl rfl Bool.false_ne_true) rfl fun h => ?_
            refine mv h rfl rfl fun h => ?_
            iterate 3 (refine gk h rfl rfl (nb_f Bool.false_ne_true) rfl fun _ h => ?_)
            refine ga h (o_pickF rfl rfl Bool.false_ne_true) rfl fun h => ?_
            refine mv h rfl rfl fun h => ?_
            refine gk h rfl rfl (nb_f Bool.false_ne_true) rfl fun _ h => ?_
            refine gk h rfl rfl (nb_f Bool.false_ne_true) rfl fun _ h => ?_
            refine ga h (o_pickF rfl rfl Bool.false_ne_true) rfl fun h => ?_
            refine ga h (o_assign rfl) rfl fun h => ?_
            refine GoR.done ?_
            exact J1 false _ _ (som H).symm (h.wr [3, 8, 13])
          ·have H := ifF c10 H
           refine gk h rfl rfl (nb_f c10) rfl fun _ h => ?_
           refine ga h (o_pickF rfl rfl c10) rfl fun h => ?_
           refine mv h rfl rfl fun h => ?_
           refine gk h rfl rfl (nb_f Bool.false_ne_true) rfl fun _ h => ?_
           refine gk h rfl rfl (nb_f Bool.false_ne_true) rfl fun _ h => ?_
           refine ga h (o_pickF rfl rfl Bool.false_ne_true) rfl fun h => ?_
           refine mv h rfl rfl fun h => ?_
           refine gk h rfl rfl (nb_f Bool.false_ne_true) rfl fun _ h => ?_
           refine gk h rfl rfl (nb_f Bool.false_ne_true) rfl fun _ h => ?_
           refine ga h (o_pickF rfl rfl Bool.false_ne_true) rfl fun h => ?_
           refine mv h rfl rfl fun h => ?_
           refine gk h rfl rfl (nb_f Bool.false_ne_true) rfl fun _ h => ?_
           refine ga h (o_pickF rfl rfl Bool.false_ne_true) rfl fun h => ?_
           refine mv h rfl rfl fun h => ?_
           iterate 3 (refine gk h rfl rfl (nb_f Bool.false_ne_true) rfl fun _ h => ?_)
           refine ga h (o_pickF rfl rfl Bool.false_ne_true) rfl fun h => ?_
           refine mv h rfl rfl fun h => ?_
           refine gk h rfl rfl (nb_f Bool.false_ne_true) rfl fun _ h => ?_
           refine gk h rfl rfl (nb_f Bool.false_ne_true) rfl fun _ h => ?_
           refine ga h (o_pickF rfl rfl Bool.false_ne_true) rfl fun h => ?_
           refine ga h (o_assign rfl) rfl fun h => ?_
           refine GoR.done ?_
           exact J1 false _ _ (som H).symm (h.wr [3, 8, 13])
         ·have H := ifF c9 H
          iterate 3 (refine gk h rfl rfl (nb_f c9) rfl fun _ h => ?_)
          refine ga h (o_pickF rfl rfl c9) rfl fun h => ?_
          refine mv h rfl rfl fun h => ?_
          refine gk h rfl rfl (nb_f Bool.false_ne_true) rfl fun _ h => ?_
          refine ga h (o_pickF rfl rfl Bool.false_ne_true) rfl fun h => ?_
          refine mv h rfl rfl fun h => ?_
          refine gk h rfl rfl (nb_f Bool.false_ne_true) rfl fun _ h => ?_
          refine gk h rfl rfl (nb_f Bool.false_ne_true) rfl fun _ h => ?_
          refine ga h (o_pickF rfl rfl Bool.false_ne_true) rfl fun h => ?_
          refine mv h rfl rfl fun h => ?_
          refine gk h rfl rfl (nb_f Bool.false_ne_true) rfl fun _ h => ?_
          refine gk h rfl rfl (nb_f Bool.false_ne_true) rfl fun _ h => ?_
          refine ga h (o_pickF rfl rfl Bool.false_ne_true) rfl fun h => ?_
          refine mv h rfl rfl fun h => ?_
          refine gk h rfl rfl (nb_f Bool.false_ne_true) rfl fun _ h => ?_
          refine ga h (o_pickF rfl rfl Bool.false_ne_true) rfl fun h => ?_
          refine mv h rfl rfl fun h => ?_
          iterate 3 (refine gk h rfl rfl (nb_f Bool.false_ne_true) rfl fun _ h => ?_)
          refine ga h (o_pickF rfl rfl Bool.false_ne_true) rfl fun h => ?_
          refine mv h rfl rfl fun h => ?_
          refine gk h rfl rfl (nb_f Bool.false_ne_true) rfl fun _ h => ?_
          refine gk h rfl rfl (nb_f Bool.false_ne_true) rfl fun _ h => ?_
          refine ga h (o_pickF rfl rfl Bool.false_ne_true) rfl fun h => ?_
          refine ga h (o_assign rfl) rfl fun h => ?_
          refine GoR.done ?_
          exact J1 false _ _ (som H).symm (h.wr [3, 8, 13])
        ·have H := ifF c8 H
         iterate 3 (refine gk h rfl rfl (nb_f c8) rfl fun _ h => ?_)
         refine ga h (o_pickF rfl rfl c8) rfl fun h => ?_
         refine mv h rfl rfl fun h => ?_
         iterate 3 (refine gk h rfl rfl (nb_f Bool.false_ne_true) rfl fun _ h => ?_)
         refine ga h (o_pickF rfl rfl Bool.false_ne_true) rfl fun h => ?_
         refine mv h rfl rfl fun h => ?_
         refine gk h rfl rfl (nb_f Bool.false_ne_true) rfl fun _ h => ?_
         refine ga h (o_pickF rfl rfl Bool.false_ne_true) rfl fun h => ?_
         refine mv h rfl rfl fun h => ?_
         refine gk h rfl rfl (nb_f Bool.false_ne_true) rfl fun _ h => ?_
         refine gk h rfl rfl (nb_f Bool.false_ne_true) rfl fun _ h => ?_
         refine ga h (o_pickF rfl rfl Bool.false_ne_true) rfl fun h => ?_
         refine mv h rfl rfl fun h => ?_
         refine gk h rfl rfl (nb_f Bool.false_ne_true) rfl fun _ h => ?_
         refine gk h rfl rfl (nb_f Bool.false_ne_true) rfl fun _ h => ?_
         refine ga h (o_pickF rfl rfl Bool.false_ne_true) rfl fun h => ?_
         refine mv h rfl rfl fun h => ?_
         refine gk h rfl rfl (nb_f Bool.false_ne_true) rfl fun _ h => ?_
         refine ga h (o_pickF rfl rfl Bool.false_ne_true) rfl fun h => ?_
         refine mv h rfl rfl fun h => ?_
         iterate 3 (refine gk h rfl rfl (nb_f Bool.false_ne_true) rfl fun _ h => ?_)
         refine ga h (o_pickF rfl rfl Bool.false_ne_true) rfl fun h => ?_
         refine mv h rfl rfl fun h => ?_
         refine gk h rfl rfl (nb_f Bool.false_ne_true) rfl fun _ h => ?_
         refine gk h rfl rfl (nb_f Bool.false_ne_true) rfl fun _ h => ?_
         refine ga h (o_pickF rfl rfl Bool.false_ne_true) rfl fun h => ?_
         refine ga h (o_assign rfl) rfl fun h => ?_
         refine GoR.done ?_
         exact J1 false _ _ (som H).symm (h.wr [3, 8, 13])
       ·have H := ifF c7 H
        refine gk h rfl rfl (nb_f c7) rfl fun _ h => ?_
        refine ga h (o_pickF rfl rfl c7) rfl fun h => ?_
        refine mv h rfl rfl fun h => ?_
        iterate 3 (refine gk h rfl rfl (nb_f Bool.false_ne_true) rfl fun _ h => ?_)
        refine ga h (o_pickF rfl rfl Bool.false_ne_true) rfl fun h => ?_
        refine mv h rfl rfl fun h => ?_
        iterate 3 (refine gk h rfl rfl (nb_f Bool.false_ne_true) rfl fun _ h => ?_)
        refine ga h (o_pickF rfl rfl Bool.false_ne_true) rfl fun h => ?_
        refine mv h rfl rfl fun h => ?_
        refine gk h rfl rfl (nb_f Bool.false_ne_true) rfl fun _ h => ?_
        refine ga h (o_pickF rfl rfl Bool.false_ne_true) rfl fun h => ?_
        refine mv h rfl rfl fun h => ?_
        refine gk h rfl rfl (nb_f Bool.false_ne_true) rfl fun _ h => ?_
        refine gk h rfl rfl (nb_f Bool.false_ne_true) rfl fun _ h => ?_
        refine ga h (o_pickF rfl rfl Bool.false_ne_true) rfl fun h => ?_
        refine mv h rfl rfl fun h => ?_
        refine gk h rfl rfl (nb_f Bool.false_ne_true) rfl fun _ h => ?_
        refine gk h rfl rfl (nb_f Bool.false_ne_true) rfl fun _ h => ?_
        refine ga h (o_pickF rfl rfl Bool.false_ne_true) rfl fun h => ?_
        refine mv h rfl rfl fun h => ?_
        refine gk h rfl rfl (nb_f Bool.false_ne_true) rfl fun _ h => ?_
        refine ga h (o_pickF rfl rfl Bool.false_ne_true) rfl fun h => ?_
        refine mv h rfl rfl fun h => ?_
        iterate 3 (refine gk h rfl rfl (nb_f Bool.false_ne_true) rfl fun _ h => ?_)
        refine ga h (o_pickF rfl rfl Bool.false_ne_true) rfl fun h => ?_
        refine mv h rfl rfl fun h => ?_
        refine gk h rfl rfl (nb_f Bool.false_ne_true) rfl fun _ h => ?_
        refine gk h rfl rfl (nb_f Bool.false_ne_true) rfl fun _ h => ?_
        refine ga h (o_pickF rfl rfl Bool.false_ne_true) rfl fun h => ?_
        refine ga h (o_assign rfl) rfl fun h => ?_
        refine GoR.done ?_
        exact J1 false _ _ (som H).symm (h.wr [3, 8, 13])
      ·have H := ifF c6 H
       iterate 3 (refine gk h rfl rfl (nb_f c6) rfl fun _ h => ?_)
       refine ga h (o_pickF rfl rfl c6) rfl fun h => ?_
       refine mv h rfl rfl fun h => ?_
       refine gk h rfl rfl (nb_f Bool.false_ne_true) rfl fun _ h => ?_
       refine ga h (o_pickF rfl rfl Bool.false_ne_true) rfl fun h => ?_
       refine mv h rfl rfl fun h => ?_
       iterate 3 (refine gk h rfl rfl (nb_f Bool.false_ne_true) rfl fun _ h => ?_)
       refine ga h (o_pickF rfl rfl Bool.false_ne_true) rfl fun h => ?_
       refine mv h rfl rfl fun h => ?_
       iterate 3 (refine gk h rfl rfl (nb_f Bool.false_ne_true) rfl fun _ h => ?_)
       refine ga h (o_pickF rfl rfl Bool.false_ne_true) rfl fun h => ?_
       refine mv h rfl rfl fun h => ?_
       refine gk h rfl rfl (nb_f Bool.false_ne_true) rfl fun _ h => ?_
       refine ga h (o_pickF rfl rfl Bool.false_ne_true) rfl fun h => ?_
       refine mv h rfl rfl fun h => ?_
       refine gk h rfl rfl (nb_f Bool.false_ne_true) rfl fun _ h => ?_
       refine gk h rfl rfl (nb_f Bool.false_ne_true) rfl fun _ h => ?_
       refine ga h (o_pickF rfl rfl Bool.false_ne_true) rfl fun h => ?_
       refine mv h rfl rfl fun h => ?_
       refine gk h rfl rfl (nb_f Bool.false_ne_true) rfl fun _ h => ?_
       refine gk h rfl rfl (nb_f Bool.false_ne_true) rfl fun _ h => ?_
       refine ga h (o_pickF rfl rfl Bool.false_ne_true) rfl fun h => ?_
       refine mv h rfl rfl fun h => ?_
       refine gk h rfl rfl (nb_f Bool.false_ne_true) rfl fun _ h => ?_
       refine ga h (o_pickF rfl rfl Bool.false_ne_true) rfl fun h => ?_
       refine mv h rfl rfl fun h => ?_
       iterate 3 (refine gk h rfl rfl (nb_f Bool.false_ne_true) rfl fun _ h => ?_)
       refine ga h (o_pickF rfl rfl Bool.false_ne_true) rfl fun h => ?_
       refine mv h rfl rfl fun h => ?_
       refine gk h rfl rfl (nb_f Bool.false_ne_true) rfl fun _ h => ?_
       refine gk h rfl rfl (nb_f Bool.false_ne_true) rfl fun _ h => ?_
       refine ga h (o_pickF rfl rfl Bool.false_ne_true) rfl fun h => ?_
       refine ga h (o_assign rfl) rfl fun h => ?_
       refine GoR.done ?_
       exact J1 false _ _ (som H).symm (h.wr [3, 8, 13])
     ·have H := ifF c5 H
      iterate 3 (refine gk h rfl rfl (nb_f c5) rfl fun _ h => ?_)
      refine ga h (o_pickF rfl rfl c5) rfl fun h => ?_
      refine mv h rfl rfl fun h => ?_
      iterate 3 (refine gk h rfl rfl (nb_f Bool.false_ne_true) rfl fun _ h => ?_)
      refine ga h (o_pickF rfl rfl Bool.false_ne_true) rfl fun h => ?_
      refine mv h rfl rfl fun h => ?_
      refine gk h rfl rfl (nb_f Bool.false_ne_true) rfl fun _ h => ?_
      refine ga h (o_pickF rfl rfl Bool.false_ne_true) rfl fun h => ?_
      refine mv h rfl rfl fun h => ?_
      iterate 3 (refine gk h rfl rfl (nb_f Bool.false_ne_true) rfl fun _ h => ?_)
      refine ga h (o_pickF rfl rfl Bool.false_ne_true) rfl fun h => ?_
      refine mv h rfl rfl fun h => ?_
      iterate 3 (refine gk h rfl rfl (nb_f Bool.false_ne_true) rfl fun _ h => ?_)
      refine ga h (o_pickF rfl rfl Bool.false_ne_true) rfl fun h => ?_
      refine mv h rfl rfl fun h => ?_
      refine gk h rfl rfl (nb_f Bool.false_ne_true) rfl fun _ h => ?_
      refine ga h (o_pickF rfl rfl Bool.false_ne_true) rfl fun h => ?_
      refine mv h rfl rfl fun h => ?_
      refine gk h rfl rfl (nb_f Bool.false_ne_true) rfl fun _ h => ?_
      refine gk h rfl rfl (nb_f Bool.false_ne_true) rfl fun _ h => ?_
      refine ga h (o_pickF rfl rfl Bool.false_ne_true) rfl fun h => ?_
      refine mv h rfl rfl fun h => ?_
      refine gk h rfl rfl (nb_f Bool.false_ne_true) rfl fun _ h => ?_
      refine gk h rfl rfl (nb_f Bool.false_ne_true) rfl fun _ h => ?_
      refine ga h (o_pickF rfl rfl Bool.false_ne_true) rfl fun h => ?_
      refine mv h rfl rfl fun h => ?_
      refine gk h rfl rfl (nb_f Bool.false_ne_true) rfl fun _ h => ?_
      refine ga h (o_pickF rfl rfl Bool.false_ne_true) rfl fun h => ?_
      refine mv h rfl rfl fun h => ?_
      iterate 3 (refine gk h rfl rfl (nb_f Bool.false_ne_true) rfl fun _ h => ?_)
      refine ga h (o_pickF rfl rfl Bool.false_ne_true) rfl fun h => ?_
      refine mv h rfl rfl fun h => ?_
      refine gk h rfl rfl (nb_f Bool.false_ne_true) rfl fun _ h => ?_
      refine gk h rfl rfl (nb_f Bool.false_ne_true) rfl fun _ h => ?_
      refine ga h (o_pickF rfl rfl Bool.false_ne_true) rfl fun h => ?_
      refine ga h (o_assign rfl) rfl fun h => ?_
      refine GoR.done ?_
      exact J1 false _ _ (som H).symm (h.wr [3, 8, 13])
    ·have H := ifF c4 H
     refine gk h rfl rfl (nb_f c4) rfl fun _ h => ?_
     refine ga h (o_pickF rfl rfl c4) rfl fun h => ?_
     refine mv h rfl rfl fun h => ?_
     iterate 3 (refine gk h rfl rfl (nb_f Bool.false_ne_true) rfl fun _ h => ?_)
     refine ga h (o_pickF rfl rfl Bool.false_ne_true) rfl fun h => ?_
     refine mv h rfl rfl fun h => ?_
     iterate 3 (refine gk h rfl rfl (nb_f Bool.false_ne_true) rfl fun _ h => ?_)
     refine ga h (o_pickF rfl rfl Bool.false_ne_true) rfl fun h => ?_
     refine mv h rfl rfl fun h => ?_
     refine gk h rfl rfl (nb_f Bool.false_ne_true) rfl fun _ h => ?_
     refine ga h (o_pickF rfl rfl Bool.false_ne_true) rfl fun h => ?_
     refine mv h rfl rfl fun h => ?_
     iterate 3 (refine gk h rfl rfl (nb_f Bool.false_ne_true) rfl fun _ h => ?_)
     refine ga h (o_pickF rfl rfl Bool.false_ne_true) rfl fun h => ?_
     refine mv h rfl rfl fun h => ?_
     iterate 3 (refine gk h rfl rfl (nb_f Bool.false_ne_true) rfl fun _ h => ?_)
     refine ga h (o_pickF rfl rfl Bool.false_ne_true) rfl fun h => ?_
     refine mv h rfl rfl fun h => ?_
     refine gk h rfl rfl (nb_f Bool.false_ne_true) rfl fun _ h => ?_
     refine ga h (o_pickF rfl rfl Bool.false_ne_true) rfl fun h => ?_
     refine mv h rfl rfl fun h => ?_
     refine gk h rfl rfl (nb_f Bool.false_ne_true) rfl fun _ h => ?_
     refine gk h rfl rfl (nb_f Bool.false_ne_true) rfl fun _ h => ?_
     refine ga h (o_pickF rfl rfl Bool.false_ne_true) rfl fun h => ?_
     refine mv h rfl rfl fun h => ?_
     refine gk h rfl rfl (nb_f Bool.false_ne_true) rfl fun _ h => ?_
     refine gk h rfl rfl (nb_f Bool.false_ne_true) rfl fun _ h => ?_
     refine ga h (o_pickF rfl rfl Bool.false_ne_true) rfl fun h => ?_
     refine mv h rfl rfl fun h => ?_
     refine gk h rfl rfl (nb_f Bool.false_ne_true) rfl fun _ h => ?_
     refine ga h (o_pickF rfl rfl Bool.false_ne_true) rfl fun h => ?_
     refine mv h rfl rfl fun h => ?_
     iterate 3 (refine gk h rfl rfl (nb_f Bool.false_ne_true) rfl fun _ h => ?_)
     refine ga h (o_pickF rfl rfl Bool.false_ne_true) rfl fun h => ?_
     refine mv h rfl rfl fun h => ?_
     refine gk h rfl rfl (nb_f Bool.false_ne_true) rfl fun _ h => ?_
     refine gk h rfl rfl (nb_f Bool.false_ne_true) rfl fun _ h => ?_
     refine ga h (o_pickF rfl rfl Bool.false_ne_true) rfl fun h => ?_
     refine ga h (o_assign rfl) rfl fun h => ?_
     refine GoR.done ?_
     exact J1 false _ _ (som H).symm (h.wr [3, 8, 13])
   ·have H := ifF c3 H
    iterate 3 (refine gk h rfl rfl (nb_f c3) rfl fun _ h => ?_)
    refine ga h (o_pickF rfl rfl c3) rfl fun h => ?_
    refine mv h rfl rfl fun h => ?_
    refine gk h rfl rfl (nb_f Bool.false_ne_true) rfl fun _ h => ?_
    refine ga h (o_pickF rfl rfl Bool.false_ne_true) rfl fun h => ?_
    refine mv h rfl rfl fun h => ?_
    iterate 3 (refine gk h rfl rfl (nb_f Bool.false_ne_true) rfl fun _ h => ?_)
    refine ga h (o_pickF rfl rfl Bool.false_ne_true) rfl fun h => ?_
    refine mv h rfl rfl fun h => ?_
    iterate 3 (refine gk h rfl rfl (nb_f Bool.false_ne_true) rfl fun _ h => ?_)
    refine ga h (o_pickF rfl rfl Bool.false_ne_true) rfl fun h => ?_
    refine mv h rfl rfl fun h => ?_
    refine gk h rfl rfl (nb_f Bool.false_ne_true) rfl fun _ h => ?_
    refine ga h (o_pickF rfl rfl Bool.false_ne_true) rfl fun h => ?_
    refine mv h rfl rfl fun h => ?_
    iterate 3 (refine gk h rfl rfl (nb_f Bool.false_ne_true) rfl fun _ h => ?_)
    refine ga h (o_pickF rfl rfl Bool.false_ne_true) rfl fun h => ?_
    refine mv h rfl rfl fun h => ?_
    iterate 3 (refine gk h rfl rfl (nb_f Bool.false_ne_true) rfl fun _ h => ?_)
    refine ga h (o_pickF rfl rfl Bool.false_ne_true) rfl fun h => ?_
    refine mv h rfl rfl fun h => ?_
    refine gk h rfl rfl (nb_f Bool.false_ne_true) rfl fun _ h => ?_
    refine ga h (o_pickF rfl rfl Bool.false_ne_true) rfl fun h => ?_
    refine mv h rfl rfl fun h => ?_
    refine gk h rfl rfl (nb_f Bool.false_ne_true) rfl fun _ h => ?_
    refine gk h rfl rfl (nb_f Bool.false_ne_true) rfl fun _ h => ?_
    refine ga h (o_pickF rfl rfl Bool.false_ne_true) rfl fun h => ?_
    refine mv h rfl rfl fun h => ?_
    refine gk h rfl rfl (nb_f Bool.false_ne_true) rfl fun _ h => ?_
    refine gk h rfl rfl (nb_f Bool.false_ne_true) rfl fun _ h => ?_
    refine ga h (o_pickF rfl rfl Bool.false_ne_true) rfl fun h => ?_
    refine mv h rfl rfl fun h => ?_
    refine gk h rfl rfl (nb_f Bool.false_ne_true) rfl fun _ h => ?_
    refine ga h (o_pickF rfl rfl Bool.false_ne_true) rfl fun h => ?_
    refine mv h rfl rfl fun h => ?_
    iterate 3 (refine gk h rfl rfl (nb_f Bool.false_ne_true) rfl fun _ h => ?_)
    refine ga h (o_pickF rfl rfl Bool.false_ne_true) rfl fun h => ?_
    refine mv h rfl rfl fun h => ?_
    refine gk h rfl rfl (nb_f Bool.false_ne_true) rfl fun _ h => ?_
    refine gk h rfl rfl (nb_f Bool.false_ne_true) rfl fun _ h => ?_
    refine ga h (o_pickF rfl rfl Bool.false_ne_true) rfl fun h => ?_
    refine ga h (o_assign rfl) rfl fun h => ?_
    refine GoR.done ?_
    exact J1 false _ _ (som H).symm (h.wr [3, 8, 13])
  ·have H := ifF c2 H
   iterate 3 (refine gk h rfl rfl (nb_f c2) rfl fun _ h => ?_)
   refine ga h (o_pickF rfl rfl c2) rfl fun h => ?_
   refine mv h rfl rfl fun h => ?_
   iterate 3 (refine gk h rfl rfl (nb_f Bool.false_ne_true) rfl fun _ h => ?_)
   refine ga h (o_pickF rfl rfl Bool.false_ne_true) rfl fun h => ?_
   refine mv h rfl rfl fun h => ?_
   refine gk h rfl rfl (nb_f Bool.false_ne_true) rfl fun _ h => ?_
   refine ga h (o_pickF rfl rfl Bool.false_ne_true) rfl fun h => ?_
   refine mv h rfl rfl fun h => ?_
   iterate 3 (refine gk h rfl rfl (nb_f Bool.false_ne_true) rfl fun _ h => ?_)
   refine ga h (o_pickF rfl rfl Bool.false_ne_true) rfl fun h => ?_
   refine mv h rfl rfl fun h => ?_
   iterate 3 (refine gk h rfl rfl (nb_f Bool.false_ne_true) rfl fun _ h => ?_)
   refine ga h (o_pickF rfl rfl Bool.false_ne_true) rfl fun h => ?_
   refine mv h rfl rfl fun h => ?_
   refine gk h rfl rfl (nb_f Bool.false_ne_true) rfl fun _ h => ?_
   refine ga h (o_pickF rfl rfl Bool.false_ne_true) rfl fun h => ?_
   refine mv h rfl rfl fun h => ?_
   iterate 3 (refine gk h rfl rfl (nb_f Bool.false_ne_true) rfl fun _ h => ?_)
   refine ga h (o_pickF rfl rfl Bool.false_ne_true) rfl fun h => ?_
   refine mv h rfl rfl fun h => ?_
   iterate 3 (refine gk h rfl rfl (nb_f Bool.false_ne_true) rfl fun _ h => ?_)
   refine ga h (o_pickF rfl rfl Bool.false_ne_true) rfl fun h => ?_
   refine mv h rfl rfl fun h => ?_
   refine gk h rfl rfl (nb_f Bool.false_ne_true) rfl fun _ h => ?_
   refine ga h (o_pickF rfl rfl Bool.false_ne_true) rfl fun h => ?_
   refine mv h rfl rfl fun h => ?_
   refine gk h rfl rfl (nb_f Bool.false_ne_true) rfl fun _ h => ?_
   refine gk h rfl rfl (nb_f Bool.false_ne_true) rfl fun _ h => ?_
   refine ga h (o_pickF rfl rfl Bool.false_ne_true) rfl fun h => ?_
   refine mv h rfl rfl fun h => ?_
   refine gk h rfl rfl (nb_f Bool.false_ne_true) rfl fun _ h => ?_
   refine gk h rfl rfl (nb_f Bool.false_ne_true) rfl fun _ h => ?_
   refine ga h (o_pickF rfl rfl Bool.false_ne_true) rfl fun h => ?_
   refine mv h rfl rfl fun h => ?_
   refine gk h rfl rfl (nb_f Bool.false_ne_true) rfl fun _ h => ?_
   refine ga h (o_pickF rfl rfl Bool.false_ne_true) rfl fun h => ?_
   refine mv h rfl rfl fun h => ?_
   iterate 3 (refine gk h rfl rfl (nb_f Bool.false_ne_true) rfl fun _ h => ?_)
   refine ga h (o_pickF rfl rfl Bool.false_ne_true) rfl fun h => ?_
   refine mv h rfl rfl fun h => ?_
   refine gk h rfl rfl (nb_f Bool.false_ne_true) rfl fun _ h => ?_
   refine gk h rfl rfl (nb_f Bool.false_ne_true) rfl fun _ h => ?_
   refine ga h (o_pickF rfl rfl Bool.false_ne_true) rfl fun h => ?_
   refine ga h (o_assign rfl) rfl fun h => ?_
   refine GoR.done ?_
   exact J1 false _ _ (som H).symm (h.wr [3, 8, 13])
 ·have H := ifF c1 H
  iterate 3 (refine gk h rfl rfl (nb_f c1) rfl fun _ h => ?_)
  refine ga h (o_pickF rfl rfl c1) rfl fun h => ?_
  refine mv h rfl rfl fun h => ?_
  iterate 3 (refine gk h rfl rfl (nb_f Bool.false_ne_true) rfl fun _ h => ?_)
  refine ga h (o_pickF rfl rfl Bool.false_ne_true) rfl fun h => ?_
  refine mv h rfl rfl fun h => ?_
  iterate 3 (refine gk h rfl rfl (nb_f Bool.false_ne_true) rfl fun _ h => ?_)
  refine ga h (o_pickF rfl rfl Bool.false_ne_true) rfl fun h => ?_
  refine mv h rfl rfl fun h => ?_
  refine gk h rfl rfl (nb_f Bool.false_ne_true) rfl fun _ h => ?_
  refine ga h (o_pickF rfl rfl Bool.false_ne_true) rfl fun h => ?_
  refine mv h rfl rfl fun h => ?_
  iterate 3 (refine gk h rfl rfl (nb_f Bool.false_ne_true) rfl fun _ h => ?_)
  refine ga h (o_pickF rfl rfl Bool.false_ne_true) rfl fun h => ?_
  refine mv h rfl rfl fun h => ?_
  iterate 3 (refine gk h rfl rfl (nb_f Bool.false_ne_true) rfl fun _ h => ?_)
  refine ga h (o_pickF rfl rfl Bool.false_ne_true) rfl fun h => ?_
  refine mv h rfl rfl fun h => ?_
  refine gk h rfl rfl (nb_f Bool.false_ne_true) rfl fun _ h => ?_
  refine ga h (o_pickF rfl rfl Bool.false_ne_true) rfl fun h => ?_
  refine mv h rfl rfl fun h => ?_
  iterate 3 (refine gk h rfl rfl (nb_f Bool.false_ne_true) rfl fun _ h => ?_)
  refine ga h (o_pickF rfl rfl Bool.false_ne_true) rfl fun h => ?_
  refine mv h rfl rfl fun h => ?_
  iterate 3 (refine gk h rfl rfl (nb_f Bool.false_ne_true) rfl fun _ h => ?_)
  refine ga h (o_pickF rfl rfl Bool.false_ne_true) rfl fun h => ?_
  refine mv h rfl rfl fun h => ?_
  refine gk h rfl rfl (nb_f Bool.false_ne_true) rfl fun _ h => ?_
  refine ga h (o_pickF rfl rfl Bool.false_ne_true) rfl fun h => ?_
  refine mv h rfl rfl fun h => ?_
  refine gk h rfl rfl (nb_f Bool.false_ne_true) rfl fun _ h => ?_
  refine gk h rfl rfl (nb_f Bool.false_ne_true) rfl fun _ h => ?_
  refine ga h (o_pickF rfl rfl Bool.false_ne_true) rfl fun h => ?_
  refine mv h rfl rfl fun h => ?_
  refine gk h rfl rfl (nb_f Bool.false_ne_true) rfl fun _ h => ?_
  refine gk h rfl rfl (nb_f Bool.false_ne_true) rfl fun _ h => ?_
  refine ga h (o_pickF rfl rfl Bool.false_ne_true) rfl fun h => ?_
  refine mv h rfl rfl fun h => ?_
  refine gk h rfl rfl (nb_f Bool.false_ne_true) rfl fun _ h => ?_
  refine ga h (o_pickF rfl rfl Bool.false_ne_true) rfl fun h => ?_
  refine mv h rfl rfl fun h => ?_
  iterate 3 (refine gk h rfl rfl (nb_f Bool.false_ne_true) rfl fun _ h => ?_)
  refine ga h (o_pickF rfl rfl Bool.false_ne_true) rfl fun h => ?_
  refine mv h rfl rfl fun h => ?_
  refine gk h rfl rfl (nb_f Bool.false_ne_true) rfl fun _ h => ?_
  refine gk h rfl rfl (nb_f Bool.false_ne_true) rfl fun _ h => ?_
  refine ga h (o_pickF rfl rfl Bool.false_ne_true) rfl fun h => ?_
  refine ga h (o_assign rfl) rfl fun h => ?_
  refine GoR.done ?_
  exact J1 false _ _ (som H).symm (h.wr [3, 8, 13])
def law25_heads.g (k_ : Nat)  : Option (Bool) :=
  (lease_Serve.g k_ [] 0 (⟨1, 7, 0, 0, ([1, 2, 3, 4, 5, 6] : List Int), 1, 0, 0, 0, 0, 0, 0⟩ : TDhcp)).bind fun r1 => (lease_Serve.g k_ [] 10 (⟨1, 0, 0, 0, ([1, 2, 3, 4, 5, 6] : List Int), 3, 167772688, 0, 0, 0, 0, 0⟩ : TDhcp)).bind fun r2 => (mk 6 0).bind fun x1 => (lease_Serve.g k_ r2.1 11 (⟨1, 0, 0, 0, x1, 3, 167772688, 0, 0, 0, 0, 0⟩ : TDhcp)).bind fun r3 => (lease_Find.g k_ r2.1 11 ([1, 2, 3, 4, 5, 6] : List Int)).bind fun r4 => (lease_Find.g k_ r2.1 3610 ([1, 2, 3, 4, 5, 6] : List Int)).bind fun r5 => (lease_Owner.g k_ r2.1 11 167772688).bind fun r6 => ((if r1.2.2 = true then (if decide (r1.2.1.Yi = 167772687) = true then (if decide (r1.2.1.Type_ = 2) = true then (if decide (r1.2.1.Xid = 7) = true then (if r2.2.2 = true then (if decide (r2.2.1.Type_ = 5) = true then (if decide ((r2.1.length : Int) = 1) = true then (if r3.2.2 = true then (if decide (r3.2.1.Type_ = 6) = true then (if decide (r3.2.1.Yi = 0) = true then (if r4.2 = true then (if decide (r4.1 = 167772688) = true then (if (!r5.2) = true then (if r6.2 = true then (ref01_Same.g k_ r6.1 ([1, 2, 3, 4, 5, 6] : List Int)).bind fun r7 => (if r7 = true then (lease_Check.g k_ r2.1).bind fun r8 => some (r8) else some (false)) else some (false)) else some (false)) else some (false)) else some (false)) else some (false)) else some (false)) else some (false)) else some (false)) else some (false)) else some (false)) else some (false)) else some (false)) else some (false)) else some (false))).bind (fun j1 => some (j1))
theorem law25_heads.le (k_ : Nat)  : Le (law25_heads.g k_ ) (law25_heads.f ) := by
 unfold law25_heads.g law25_heads.f
 repeat' (first | with_reducible refine le_loop fun _ => ?_ | with_reducible refine le_bind ?_ fun _ => ?_ | with_reducible refine le_ite ?_ ?_ | with_reducible refine le_lt fun _ => ?_ | with_reducible refine le_elim (fun _ => ?_) (fun _ => ?_) _ | with_reducible apply lease_Check.le | with_reducible apply lease_Find.le | with_reducible apply lease_Owner.le | with_reducible apply lease_Serve.le | with_reducible apply ref01_Same.le | with_reducible exact le_refl _)
/-! drawbridge/drawbridgeref01.Put -/
noncomputable def ref01_Put.f (a1 : Int) (a2 : Int) (a3 : Bool) : Option ((List Int)) :=
  (loop (fun s1 => ((if decide (s1.2 < a2) = true then some (decide (s1.2 < 8)) else some (false))).bind (fun j1 => (if j1 = true then ((if 0 ≤ (IntKind.u64.wrap (IntKind.i64.wrap (8 * s1.2))) then (lt (IntKind.u8.wrap (ishr .u64 a1 (IntKind.u64.wrap (IntKind.i64.wrap (8 * s1.2))))) fun y1 => (if a3 = true then (app ([y1] : List Int) s1.1).bind fun x1 => some (x1) else (app s1.1 ([y1] : List Int)).bind fun x2 => some (x2))) else none).bind (fun j2 => some (j2))).bind (fun j3 => lt (IntKind.i64.wrap (s1.2 + 1)) fun y2 => some (.inl (j3, y2))) else some (.inr (s1.1))))) (([] : List Int), 0)).bind (fun j4 => some (j4))
set_option maxRecDepth 100000 in
set_option maxHeartbeats 4000000 in
theorem ref01_Put.spc (a1 : Int) (ha1 : InR .u64 a1) (a2 : Int) (ha2 : InR .i64 a2) (a3 : Bool) (r : (List Int)) (H : ref01_Put.f a1 a2 a3 = some r) : Spc Try.prog 67 [.int .u64 a1, .int .i64 a2, .bool a3] [] [] (fun (s : Value) => s) (fun s => [Val (Kd.osl (Kd.int .u8)) s r]) := by
 unfold ref01_Put.f at H
 refine Spc.go Try.func67 rfl (by kernel_rfl) rfl rfl all_nil fun F a w h => ?_
 refine Go.seq ?_
 refine Go.reg ?_
 refine ga h (o_assign rfl) rfl fun h => ?_
 refine GoR.done ?_
 refine Go.seq ?_
 refine Go.reg ?_
 refine ga h (o_assign rfl) rfl fun h => ?_
 refine GoR.done ?_
 refine Go.seq ?_
 refine Go.seq ?_
 refine Go.reg ?_
 refine ga h (o_assign rfl) rfl fun h => ?_
 refine GoR.done ?_
 refine Go.block ?_
 obtain ⟨o1, hl, G1⟩ := bindE H
 refine g_cut (fun G => ∀ j4 (v8 : Value) (a : Act) (w : World), o1 = j4 → St Try.f67.ntmps F [(7, v8)] [Val (Kd.osl (Kd.int .u8)) v8 j4] a w → G a w) 2 ?_ fun J4 => ?_
 ·intro j4 v8 a w ho_ h
  rw [ho_] at G1
  have H := G1
  refine Go.seq ?_
  refine Go.reg ?_
  refine mv h rfl rfl fun h => ?_
  refine ga h (o_assign rfl) rfl fun h => ?_
  refine GoR.done ?_
  rw [← som H]
  exact g_ret (vs := [v8]) h Try.func67 ⟨rfl, trivial⟩ ⟨v8, rfl, (h.mem.pick [0] (by decide) rfl)⟩
 refine g_loop (fun s1 G => ∀ (v1 : Value) (a : Act) (w : World), InR .i64 s1.2 → St Try.f67.ntmps F [(0, .int .u64 a1), (1, .int .i64 a2), (2, .bool a3), (7, v1), (8, .int .i64 s1.2)] [Val (Kd.osl (Kd.int .u8)) v1 s1.1] a w → G a w) hl (fun s1 p1 H i1 => ?_) fun I_ => ?_
 ·intro v1 a w g1 h
  refine Go.seq ?_
  refine Go.seq ?_
  obtain ⟨o2, H, G2⟩ := bindE H
  refine g_cut (fun G => ∀ j1 (a : Act) (w : World), o2 = j1 → St Try.f67.ntmps F [(0, .int .u64 a1), (1, .int .i64 a2), (2, .bool a3), (7, v1), (8, .int .i64 s1.2), (16, .bool j1)] [Val (Kd.osl (Kd.int .u8)) v1 s1.1] a w → G a w) 1 ?_ fun J1 => ?_
  ·intro j1 a w ho_ h
   rw [ho_] at G2
   have H := G2
   by_cases c2 : j1 = true
   ·have H := ifT c2 H
    refine g_t h rfl c2 ?_
    refine Go.skip ?_
    refine Go.seq ?_
    obtain ⟨o3, H, G3⟩ := bindE H
    refine g_cut (fun G => ∀ j3 (v7 : Value) (a : Act) (w : World), o3 = j3 → St Try.f67.ntmps F [(0, .int .u64 a1), (1, .int .i64 a2), (2, .bool a3), (7, v7), (8, .int .i64 s1.2)] [Val (Kd.osl (Kd.int .u8)) v7 j3] a w → G a w) 1 ?_ fun J3 => ?_
    ·intro j3 v7 a w ho_ h
     rw [ho_] at G3
     have H := G3
     refine Go.reg ?_
     refine mv h rfl rfl fun h => ?_
     refine ga h (o_bin rfl rfl rfl) rfl fun h => ?_
     obtain ⟨y2, ey2, H⟩ := ltE H
     refine ga h (o_assign' rfl (congrArg (fun z => Value.int .i64 z) ey2)) rfl fun h => ?_
     refine GoR.done ?_
     have e_ := som H; subst e_
     exact Go.inLoop (nx_in i1 v7 _ _ (ey2 ▸ (wrap_in _ _)) (h.wr [0]))
    refine Go.block ?_
    obtain ⟨o4, H, G4⟩ := bindE H
    refine g_cut (fun G => ∀ j2 (v6 : Value) (a : Act) (w : World), o4 = j2 → St Try.f67.ntmps F [(0, .int .u64 a1), (1, .int .i64 a2), (2, .bool a3), (7, v6), (8, .int .i64 s1.2)] [Val (Kd.osl (Kd.int .u8)) v6 j2] a w → G a w) 2 ?_ fun J2 => ?_
    ·intro j2 v6 a w ho_ h
     rw [ho_] at G4
     have H := G4
     exact J3 j2 v6 _ _ (som H).symm (h.wr [0])
    refine Go.seq ?_
    refine Go.reg ?_
    refine mv h rfl rfl fun h => ?_
    refine mv h rfl rfl fun h => ?_
    refine ga h (o_bin rfl rfl rfl) rfl fun h => ?_
    refine ga h (o_conv rfl t_q3 t_u94) rfl fun h => ?_
    obtain ⟨q1, H⟩ := ifS H
    refine ga h (o_shr rfl rfl q1) rfl fun h => ?_
    refine ga h (o_conv rfl t_q70 t_u5) rfl fun h => ?_
    obtain ⟨y1, ey1, H⟩ := ltE H
    refine ga h (o_assign' rfl (congrArg (fun z => Value.int .u8 z) ey1)) rfl fun h => ?_
    refine GoR.done ?_
    refine Go.seq ?_
    refine Go.reg ?_
    refine mv h rfl rfl fun h => ?_
    refine GoR.done ?_
    by_cases c3 : a3 = true
    ·have H := ifT c3 H
     refine g_t h rfl c3 ?_
     refine Go.reg ?_
     refine mv h rfl rfl fun h => ?_
     refine gs h (o_bs (K := (Kd.int .u8)) (vs := [.int .u8 y1]) (xs := ([y1] : List Int)) rfl rfl (pvs_cons (pv_int (ey1 ▸ (wrap_in _ _))) pvs_nil) t_a22 (by decide) (by decide)) rfl fun v2 _ _ h => ?_
     refine mv h rfl rfl fun h => ?_
     obtain ⟨x1, ex1, H⟩ := bindE H
     refine gs h (o_app (K := (Kd.int .u8)) 0 rfl rfl rfl (rd_own 1 rfl) ex1 t_a22 t_n22) rfl fun v3 _ _ h => ?_
     refine ga h (o_assign rfl) rfl fun h => ?_
     refine GoR.done ?_
     refine Go.inBlock ?_
     exact J2 x1 v3 _ _ (som H).symm (h.wr [0])
    ·have H := ifF c3 H
     refine g_f h rfl c3 ?_
     refine Go.reg ?_
     refine mv h rfl rfl fun h => ?_
     refine mv h rfl rfl fun h => ?_
     refine gs h (o_bs (K := (Kd.int .u8)) (vs := [.int .u8 y1]) (xs := ([y1] : List Int)) rfl rfl (pvs_cons (pv_int (ey1 ▸ (wrap_in _ _))) pvs_nil) t_a22 (by decide) (by decide)) rfl fun v4 _ _ h => ?_
     obtain ⟨x2, ex2, H⟩ := bindE H
     refine gs h (o_app (K := (Kd.int .u8)) 1 rfl rfl rfl (rd_own 0 rfl) ex2 t_a22 t_n22) rfl fun v5 _ _ h => ?_
     refine ga h (o_assign rfl) rfl fun h => ?_
     refine GoR.done ?_
     refine Go.inBlock ?_
     exact J2 x2 v5 _ _ (som H).symm (h.wr [1])
   ·have H := ifF c2 H
    refine g_f h rfl c2 ?_
    refine Go.exit rfl ?_
    have e_ := som H; subst e_
    exact J4 s1.1 v1 _ _ (nx_out i1).symm (h.wr [0])
  refine Go.reg ?_
  refine mv h rfl rfl fun h => ?_
  refine mv h rfl rfl fun h => ?_
  refine ga h (o_bin rfl rfl rfl) rfl fun h => ?_
  refine mv h rfl rfl fun h => ?_
  by_cases c1 : decide (s1.2 < a2) = true
  ·have H := ifT c1 H
   refine gg h rfl rfl c1 (o_move rfl) rfl fun _ _ _ h => ?_
   refine gg h rfl rfl c1 (o_bin rfl rfl rfl) rfl fun _ _ _ h => ?_
   refine ga h (o_pickT rfl rfl c1) rfl fun h => ?_
   refine GoR.done ?_
   exact J1 (decide (s1.2 < 8)) _ _ (som H).symm (h.wr [0])
  ·have H := ifF c1 H
   refine gk h rfl rfl (nb_f c1) rfl fun _ h => ?_
   refine gk h rfl rfl (nb_f c1) rfl fun _ h => ?_
   refine ga h (o_pickF rfl rfl c1) rfl fun h => ?_
   refine GoR.done ?_
   exact J1 false _ _ (som H).symm (h.wr [0])
 ·replace h := h.mm fun m => m.nilo (Kd.int .u8)
  exact I_ (.slice none 0 0) _ _ (show InR .i64 0 by decide) (h.wr [0])
def ref01_Put.g (k_ : Nat) (a1 : Int) (a2 : Int) (a3 : Bool) : Option ((List Int)) :=
  (loopK k_ (fun s1 => ((if decide (s1.2 < a2) = true then some (decide (s1.2 < 8)) else some (false))).bind (fun j1 => (if j1 = true then ((if 0 ≤ (IntKind.u64.wrap (IntKind.i64.wrap (8 * s1.2))) then (lt (IntKind.u8.wrap (ishr .u64 a1 (IntKind.u64.wrap (IntKind.i64.wrap (8 * s1.2))))) fun y1 => (if a3 = true then (app ([y1] : List Int) s1.1).bind fun x1 => some (x1) else (app s1.1 ([y1] : List Int)).bind fun x2 => some (x2))) else none).bind (fun j2 => some (j2))).bind (fun j3 => lt (IntKind.i64.wrap (s1.2 + 1)) fun y2 => some (.inl (j3, y2))) else some (.inr (s1.1))))) (([] : List Int), 0)).bind (fun j4 => some (j4))
theorem ref01_Put.le (k_ : Nat) (a1 : Int) (a2 : Int) (a3 : Bool) : Le (ref01_Put.g k_ a1 a2 a3) (ref01_Put.f a1 a2 a3) := by
 unfold ref01_Put.g ref01_Put.f
 repeat' (first | with_reducible refine le_loop fun _ => ?_ | with_reducible refine le_bind ?_ fun _ => ?_ | with_reducible refine le_ite ?_ ?_ | with_reducible refine le_lt fun _ => ?_ | with_reducible refine le_elim (fun _ => ?_) (fun _ => ?_) _ | with_reducible exact le_refl _)
/-! drawbridge/drawbridgeref20.four -/
noncomputable def ref20_four.f (a1 : Int) : Option ((List Int)) :=
  (ref01_Put.f a1 4 true).bind fun r1 => some (r1)
set_option maxRecDepth 100000 in
set_option maxHeartbeats 4000000 in
theorem ref20_four.spc (a1 : Int) (ha1 : InR .u32 a1) (r : (List Int)) (H : ref20_four.f a1 = some r) : Spc Try.prog 58 [.int .u32 a1] [] [] (fun (s : Value) => s) (fun s => [Val (Kd.osl (Kd.int .u8)) s r]) := by
 unfold ref20_four.f at H
 refine Spc.go Try.func58 rfl (by kernel_rfl) rfl rfl all_nil fun F a w h => ?_
 refine Go.seq ?_
 refine Go.reg ?_
 refine ga h (o_assign rfl) rfl fun h => ?_
 refine GoR.done ?_
 refine Go.seq ?_
 refine Go.reg ?_
 refine mv h rfl rfl fun h => ?_
 refine ga h (o_convw rfl t_q25 t_u70 ha1 rfl) rfl fun h => ?_
 obtain ⟨r1, er1, H⟩ := bindE H
 refine gs h (o_call (ref01_Put.spc a1 (inr_wid (k := .u32) (k' := .u64) ha1 rfl) 4 (show InR .i64 4 by decide) true r1 er1) rfl [] [] (by decide) rfl rfl) rfl fun v1 _ _ h => ?_
 refine ga h (o_assign rfl) rfl fun h => ?_
 refine GoR.done ?_
 rw [← som H]
 exact g_ret (vs := [v1]) h Try.func58 ⟨rfl, trivial⟩ ⟨v1, rfl, (h.mem.pick [0] (by decide) rfl)⟩
def ref20_four.g (k_ : Nat) (a1 : Int) : Option ((List Int)) :=
  (ref01_Put.g k_ a1 4 true).bind fun r1 => some (r1)
theorem ref20_four.le (k_ : Nat) (a1 : Int) : Le (ref20_four.g k_ a1) (ref20_four.f a1) := by
 unfold ref20_four.g ref20_four.f
 repeat' (first | with_reducible refine le_loop fun _ => ?_ | with_reducible refine le_bind ?_ fun _ => ?_ | with_reducible refine le_ite ?_ ?_ | with_reducible refine le_lt fun _ => ?_ | with_reducible refine le_elim (fun _ => ?_) (fun _ => ?_) _ | with_reducible apply ref01_Put.le | with_reducible exact le_refl _)
/-! drawbridge/drawbridgeref20.option -/
noncomputable def ref20_option.f (a1 : Int) (a2 : Int) : Option ((List Int)) :=
  (if decide (a2 = 0) = true then some ([]) else (ref20_four.f a2).bind fun r1 => (app ([a1, 4] : List Int) r1).bind fun x1 => some (x1))
set_option maxRecDepth 100000 in
set_option maxHeartbeats 4000000 in
theorem ref20_option.spc (a1 : Int) (ha1 : InR .u8 a1) (a2 : Int) (ha2 : InR .u32 a2) (r : (List Int)) (H : ref20_option.f a1 a2 = some r) : Spc Try.prog 59 [.int .u8 a1, .int .u32 a2] [] [] (fun (s : Value) => s) (fun s => [Val (Kd.osl (Kd.int .u8)) s r]) := by
 unfold ref20_option.f at H
 refine Spc.go Try.func59 rfl (by kernel_rfl) rfl rfl all_nil fun F a w h => ?_
 refine Go.seq ?_
 refine Go.reg ?_
 refine ga h (o_assign rfl) rfl fun h => ?_
 refine GoR.done ?_
 refine Go.seq ?_
 refine Go.seq ?_
 refine Go.reg ?_
 refine mv h rfl rfl fun h => ?_
 refine ga h (o_bin rfl rfl rfl) rfl fun h => ?_
 refine GoR.done ?_
 by_cases c1 : decide (a2 = 0) = true
 ·have H := ifT c1 H
  refine g_t h rfl c1 ?_
  refine Go.seq ?_
  refine Go.reg ?_
  refine ga h (o_assign rfl) rfl fun h => ?_
  refine GoR.done ?_
  replace h := h.mm fun m => m.nilo (Kd.int .u8)
  rw [← som H]
  exact g_ret (vs := [.slice none 0 0]) h Try.func59 ⟨rfl, trivial⟩ ⟨.slice none 0 0, rfl, (h.mem.pick [0] (by decide) rfl)⟩
 ·have H := ifF c1 H
  refine g_f h rfl c1 ?_
  refine Go.skip ?_
  refine Go.seq ?_
  refine Go.reg ?_
  refine mv h rfl rfl fun h => ?_
  refine gs h (o_bs (K := (Kd.int .u8)) (vs := [.int .u8 a1, .int .u8 4]) (xs := ([a1, 4] : List Int)) rfl rfl (pvs_cons (pv_int ha1) (pvs_cons (pv_int (show InR .u8 4 by decide)) pvs_nil)) t_a22 (by decide) (by decide)) rfl fun v1 _ _ h => ?_
  refine mv h rfl rfl fun h => ?_
  obtain ⟨r1, er1, H⟩ := bindE H
  refine gs h (o_call (ref20_four.spc a2 ha2 r1 er1) rfl [] [] (by decide) rfl rfl) rfl fun v2 _ _ h => ?_
  obtain ⟨x1, ex1, H⟩ := bindE H
  refine gs h (o_app (K := (Kd.int .u8)) 1 rfl rfl rfl (rd_own 0 rfl) ex1 t_a22 t_n22) rfl fun v3 _ _ h => ?_
  refine ga h (o_assign rfl) rfl fun h => ?_
  refine GoR.done ?_
  rw [← som H]
  exact g_ret (vs := [v3]) h Try.func59 ⟨rfl, trivial⟩ ⟨v3, rfl, (h.mem.pick [1] (by decide) rfl)⟩
def ref20_option.g (k_ : Nat) (a1 : Int) (a2 : Int) : Option ((List Int)) :=
  (if decide (a2 = 0) = true then some ([]) else (ref20_four.g k_ a2).bind fun r1 => (app ([a1, 4] : List Int) r1).bind fun x1 => some (x1))
theorem ref20_option.le (k_ : Nat) (a1 : Int) (a2 : Int) : Le (ref20_option.g k_ a1 a2) (ref20_option.f a1 a2) := by
 unfold ref20_option.g ref20_option.f
 repeat' (first | with_reducible refine le_loop fun _ => ?_ | with_reducible refine le_bind ?_ fun _ => ?_ | with_reducible refine le_ite ?_ ?_ | with_reducible refine le_lt fun _ => ?_ | with_reducible refine le_elim (fun _ => ?_) (fun _ => ?_) _ | with_reducible apply ref20_four.le | with_reducible exact le_refl _)
end Go.Proofs.Ytmmaojclfggioaa.S
