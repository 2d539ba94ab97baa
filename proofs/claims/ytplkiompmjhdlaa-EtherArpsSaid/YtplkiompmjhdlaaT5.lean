/- Contracts, printed by a program of this session. -/
import Derived.Test.YtplkiompmjhdlaaT1
import Derived.Test.YtplkiompmjhdlaaT3
import Derived.Test.YtplkiompmjhdlaaT4
namespace Go.Proofs.Ytplkiompmjhdlaa.S
open Go Go.SL Go.RowKit
set_option linter.unusedVariables false
set_option linter.unusedSimpArgs false
/-! drawbridge/drawbridgelaw16.heads -/
noncomputable def law16_heads.f  : Option (Bool) :=
  (mk 6 0).bind fun x1 => (ether_Put.f (⟨x1, x1, 2054, ([7] : List Int)⟩ : TFrm)).bind fun r1 => (ether_Get.f r1.1).bind fun r2 => (cut r1.1 0 (IntKind.i64.wrap (Int.tdiv (r1.1.length : Int) 2))).bind fun x2 => (ether_Get.f x2).bind fun r3 => (ether_PutArp.f (⟨1, x1, 0, x1, 5⟩ : TArp)).bind fun r4 => (app ([] : List Int) r4.1).bind fun x3 => (app x3 ([1] : List Int)).bind fun x4 => (ether_GetArp.f x4).bind fun r5 => (ether_Answer.f r5.1 ([1, 2, 3, 4, 5, 6] : List Int) 5).bind fun r6 => (ether_Answer.f r6.1 x1 0).bind fun r7 => ((if decide (r1.2 = 0) = true then (if decide ((r1.1.length : Int) = 15) = true then (if decide (r2.2 = 0) = true then (if decide (r2.1.Type_ = 2054) = true then (if decide (r3.2 = 160) = true then (if decide (r4.2 = 0) = true then (if decide ((r4.1.length : Int) = 28) = true then (if decide (r5.2 = 0) = true then (if decide (r5.1.Tip = 5) = true then (if r6.2 = true then (if decide (r6.1.Op = 2) = true then (if decide (r6.1.Sip = 5) = true then some ((!r7.2)) else some (false)) else some (false)) else some (false)) else some (false)) else some (false)) else some (false)) else some (false)) else some (false)) else some (false)) else some (false)) else some (false)) else some (false))).bind (fun j1 => some (j1))
set_option maxRecDepth 100000 in
set_option maxHeartbeats 4000000 in
theorem law16_heads.spc  (r : Bool) (H : law16_heads.f  = some r) : Spc Try.prog 8 [] [] [] (fun (s : Unit) => .bool r) (fun s => []) := by
 unfold law16_heads.f at H
 refine Spc.go Try.func8 rfl (by kernel_rfl) rfl rfl all_nil fun F a w h => ?_
 refine Go.seq ?_
 refine Go.reg ?_
 refine gs h (o_assign rfl) rfl fun _ _ _ h => ?_
 refine GoR.done ?_
 refine Go.seq ?_
 refine Go.reg ?_
 obtain ⟨x1, ex1, H⟩ := bindE H
 refine gs h (o_mk (K := (Kd.int .u8)) rfl rfl ex1 t_a22 (by decide) (fun e he => ⟨[.int .u8 0], by cases he; exact t_zc5, z_int⟩)) rfl fun v1 _ _ h => ?_
 refine gs h (o_assign rfl) rfl fun _ _ _ h => ?_
 refine GoR.done ?_
 refine Go.seq ?_
 refine Go.reg ?_
 refine gs h (o_move rfl) rfl fun _ _ _ h => ?_
 refine gs h (o_move rfl) rfl fun _ _ _ h => ?_
 refine gs h (o_bs (K := (Kd.int .u8)) (vs := [.int .u8 7]) (xs := ([7] : List Int)) rfl rfl (pvs_cons (pv_int (show InR .u8 7 by decide)) pvs_nil) t_a22 (by decide) (by decide)) rfl fun v2 _ _ h => ?_
 replace h := h.mm fun m => m.freeze 1 rfl
 replace h := h.mm fun m => m.freeze 0 rfl
 refine gs h (o_build (K := KFrm) (x := (⟨x1, x1, 2054, ([7] : List Int)⟩ : TFrm)) (ps := [(0, v1), (1, v1), (2, .int .i64 2054), (3, v2)]) rfl (zs := zsFrm) rfl t_b25 rfl (show PB (Kd.pair (Kd.sl (Kd.int .u8)) (Kd.pair (Kd.sl (Kd.int .u8)) (Kd.pair (Kd.int .i64) (Kd.last (Kd.sl (Kd.int .u8)))))) (x1, x1, 2054, ([7] : List Int)) 0 zsFrm _ _ from (pb_part (pv_at Per_sl 1 rfl) rfl (pb_part (pv_at Per_sl 1 rfl) rfl (pb_part (pv_int (show InR .i64 2054 by decide)) rfl (pb_lastp (pv_at Per_sl 0 rfl) rfl)))))) rfl fun v3 _ _ h => ?_
 obtain ⟨r1, er1, H⟩ := bindE H
 refine gs h (o_call (ether_Put.spc v3 (⟨x1, x1, 2054, ([7] : List Int)⟩ : TFrm) r1 er1) rfl [0] [] (by decide) rfl rfl) rfl fun v4 _ _ h => ?_
 have g1 := h.mem.pur 0 rfl
 refine gs h (o_move rfl) rfl fun _ _ _ h => ?_
 refine gs h (o_extract rfl rfl) rfl fun _ _ _ h => ?_
 refine gs h (o_extract rfl rfl) rfl fun _ _ _ h => ?_
 refine gs h (o_assign rfl) rfl fun _ _ _ h => ?_
 refine gs h (o_assign rfl) rfl fun _ _ _ h => ?_
 refine GoR.done ?_
 refine Go.seq ?_
 refine Go.reg ?_
 refine gs h (o_move rfl) rfl fun _ _ _ h => ?_
 replace h := h.mm fun m => m.freeze 1 rfl
 obtain ⟨r2, er2, H⟩ := bindE H
 refine gs h (o_call (ether_Get.spc v4 r1.1 r2 er2) rfl [1] [] (by decide) rfl rfl) rfl fun v5 _ _ h => ?_
 have g2 := h.mem.pur 0 rfl
 refine gs h (o_move rfl) rfl fun _ _ _ h => ?_
 refine gs h (o_extract rfl rfl) rfl fun _ _ _ h => ?_
 refine gs h (o_extract rfl rfl) rfl fun _ _ _ h => ?_
 refine gs h (o_alloc (K := KFrm) (z := (.agg #[.slice none 0 0, .slice none 0 0, .int .i64 0, .slice none 0 0])) rfl ZFrm) rfl fun b1 _ _ h => ?_
 refine gs0 h (o_st 0 rfl rfl rfl (pv_at PFrm 2 rfl) rfl t_w25) fun _ _ _ h => ?_
 refine gs h (o_assign rfl) rfl fun _ _ _ h => ?_
 refine GoR.done ?_
 refine Go.seq ?_
 refine Go.reg ?_
 refine gs h (o_move rfl) rfl fun _ _ _ h => ?_
 refine gs h (o_move rfl) rfl fun _ _ _ h => ?_
 have g3 := (len_at 4 rfl h.mem)
 refine gs h (o_ln rfl (rd_at 4 rfl) t_v22) rfl fun _ _ _ h => ?_
 refine gs h (o_quo rfl rfl (show (2 : Int) ≠ 0 by decide)) rfl fun _ _ _ h => ?_
 obtain ⟨x2, ex2, H⟩ := bindE H
 refine gs h (o_cuth rfl (pv_at Per_sl 4 rfl) rfl ex2 t_v22) rfl fun v6 _ _ h => ?_
 obtain ⟨r3, er3, H⟩ := bindE H
 refine gs h (o_call (ether_Get.spc v6 x2 r3 er3) rfl [0] [] (by decide) rfl rfl) rfl fun v7 _ _ h => ?_
 have g4 := h.mem.pur 0 rfl
 refine gs h (o_move rfl) rfl fun _ _ _ h => ?_
 refine gs h (o_extract rfl rfl) rfl fun _ _ _ h => ?_
 refine gs h (o_extract rfl rfl) rfl fun _ _ _ h => ?_
 refine gs h (o_alloc (K := KFrm) (z := (.agg #[.slice none 0 0, .slice none 0 0, .int .i64 0, .slice none 0 0])) rfl ZFrm) rfl fun b2 _ _ h => ?_
 refine gs0 h (o_st 0 rfl rfl rfl (pv_at PFrm 2 rfl) rfl t_w25) fun _ _ _ h => ?_
 refine gs h (o_assign rfl) rfl fun _ _ _ h => ?_
 refine GoR.done ?_
 refine Go.seq ?_
 refine Go.reg ?_
 refine gs h (o_move rfl) rfl fun _ _ _ h => ?_
 refine gs h (o_move rfl) rfl fun _ _ _ h => ?_
 refine gs h (o_build (K := KArp) (x := (⟨1, x1, 0, x1, 5⟩ : TArp)) (ps := [(0, .int .i64 1), (1, v1), (3, v1), (4, .int .u32 5)]) rfl (zs := zsArp) rfl t_b34 rfl (show PB (Kd.pair (Kd.int .i64) (Kd.pair (Kd.sl (Kd.int .u8)) (Kd.pair (Kd.int .u32) (Kd.pair (Kd.sl (Kd.int .u8)) (Kd.last (Kd.int .u32)))))) (1, x1, 0, x1, 5) 0 zsArp _ _ from (pb_part (pv_int (show InR .i64 1 by decide)) rfl (pb_part (pv_at Per_sl 11 rfl) rfl (pb_zero z_int (pb_part (pv_at Per_sl 11 rfl) rfl (pb_lastp (pv_int (show InR .u32 5 by decide)) rfl))))))) rfl fun v8 _ _ h => ?_
 obtain ⟨r4, er4, H⟩ := bindE H
 refine gs h (o_call (ether_PutArp.spc v8 (⟨1, x1, 0, x1, 5⟩ : TArp) r4 er4) rfl [0] [] (by decide) rfl rfl) rfl fun v9 _ _ h => ?_
 have g5 := h.mem.pur 0 rfl
 refine gs h (o_move rfl) rfl fun _ _ _ h => ?_
 refine gs h (o_extract rfl rfl) rfl fun _ _ _ h => ?_
 refine gs h (o_extract rfl rfl) rfl fun _ _ _ h => ?_
 refine gs h (o_assign rfl) rfl fun _ _ _ h => ?_
 refine gs h (o_assign rfl) rfl fun _ _ _ h => ?_
 refine GoR.done ?_
 refine Go.seq ?_
 refine Go.reg ?_
 refine gs h (o_bs (K := (Kd.int .u8)) (vs := []) (xs := ([] : List Int)) rfl rfl pvs_nil t_a22 (by decide) (by decide)) rfl fun v10 _ _ h => ?_
 refine gs h (o_move rfl) rfl fun _ _ _ h => ?_
 obtain ⟨x3, ex3, H⟩ := bindE H
 refine gs h (o_app (K := (Kd.int .u8)) 0 rfl rfl rfl (rd_own 2 rfl) ex3 t_a22 t_n22) rfl fun v11 _ _ h => ?_
 refine gs h (o_bs (K := (Kd.int .u8)) (vs := [.int .u8 1]) (xs := ([1] : List Int)) rfl rfl (pvs_cons (pv_int (show InR .u8 1 by decide)) pvs_nil) t_a22 (by decide) (by decide)) rfl fun v12 _ _ h => ?_
 obtain ⟨x4, ex4, H⟩ := bindE H
 refine gs h (o_app (K := (Kd.int .u8)) 1 rfl rfl rfl (rd_own 0 rfl) ex4 t_a22 t_n22) rfl fun v13 _ _ h => ?_
 replace h := h.mm fun m => m.freeze 1 rfl
 obtain ⟨r5, er5, H⟩ := bindE H
 refine gs h (o_call (ether_GetArp.spc v13 x4 r5 er5) rfl [1] [] (by decide) rfl rfl) rfl fun v14 _ _ h => ?_
 have g6 := h.mem.pur 0 rfl
 refine gs h (o_move rfl) rfl fun _ _ _ h => ?_
 refine gs h (o_extract rfl rfl) rfl fun _ _ _ h => ?_
 refine gs h (o_extract rfl rfl) rfl fun _ _ _ h => ?_
 refine gs h (o_alloc (K := KArp) (z := (.agg #[.int .i64 0, .slice none 0 0, .int .u32 0, .slice none 0 0, .int .u32 0])) rfl ZArp) rfl fun b3 _ _ h => ?_
 refine gs0 h (o_st 0 rfl rfl rfl (pv_at PArp 2 rfl) rfl t_w34) fun _ _ _ h => ?_
 refine gs h (o_assign rfl) rfl fun _ _ _ h => ?_
 refine GoR.done ?_
 refine Go.seq ?_
 refine Go.reg ?_
 refine gs h (o_ldv 0 rfl rfl PArp t_y34) rfl fun v15 _ _ h => ?_
 refine gs h (o_bs (K := (Kd.int .u8)) (vs := [.int .u8 1, .int .u8 2, .int .u8 3, .int .u8 4, .int .u8 5, .int .u8 6]) (xs := ([1, 2, 3, 4, 5, 6] : List Int)) rfl rfl (pvs_cons (pv_int (show InR .u8 1 by decide)) (pvs_cons (pv_int (show InR .u8 2 by decide)) (pvs_cons (pv_int (show InR .u8 3 by decide)) (pvs_cons (pv_int (show InR .u8 4 by decide)) (pvs_cons (pv_int (show InR .u8 5 by decide)) (pvs_cons (pv_int (show InR .u8 6 by decide)) pvs_nil)))))) t_a22 (by decide) (by decide)) rfl fun v16 _ _ h => ?_
 replace h := h.mm fun m => m.freeze 0 rfl
 obtain ⟨r6, er6, H⟩ := bindE H
 refine gs h (o_call (ether_Answer.spc v15 r5.1 v16 ([1, 2, 3, 4, 5, 6] : List Int) 5 (show InR .u32 5 by decide) r6 er6) rfl [1, 0] [] (by decide) rfl rfl) rfl fun v17 _ _ h => ?_
 refine gs h (o_move rfl) rfl fun _ _ _ h => ?_
 refine gs h (o_extract rfl rfl) rfl fun _ _ _ h => ?_
 refine gs h (o_extract rfl rfl) rfl fun _ _ _ h => ?_
 refine gs h (o_alloc (K := KArp) (z := (.agg #[.int .i64 0, .slice none 0 0, .int .u32 0, .slice none 0 0, .int .u32 0])) rfl ZArp) rfl fun b4 _ _ h => ?_
 refine gs0 h (o_st 0 rfl rfl rfl (pv_at PArp 1 rfl) rfl t_w34) fun _ _ _ h => ?_
 refine gs h (o_assign rfl) rfl fun _ _ _ h => ?_
 refine GoR.done ?_
 refine Go.seq ?_
 refine Go.reg ?_
 refine gs h (o_ldv 0 rfl rfl PArp t_y34) rfl fun v18 _ _ h => ?_
 refine gs h (o_move rfl) rfl fun _ _ _ h => ?_
 obtain ⟨r7, er7, H⟩ := bindE H
 refine gs h (o_call (ether_Answer.spc v18 r6.1 v1 x1 0 (show InR .u32 0 by decide) r7 er7) rfl [0, 24] [] (by decide) rfl rfl) rfl fun v19 _ _ h => ?_
 refine gs h (o_move rfl) rfl fun _ _ _ h => ?_
 refine gs h (o_extract rfl rfl) rfl fun _ _ _ h => ?_
 refine gs h (o_extract rfl rfl) rfl fun _ _ _ h => ?_
 refine gs h (o_alloc (K := KArp) (z := (.agg #[.int .i64 0, .slice none 0 0, .int .u32 0, .slice none 0 0, .int .u32 0])) rfl ZArp) rfl fun b5 _ _ h => ?_
 refine gs0 h (o_st 0 rfl rfl rfl (pv_at PArp 1 rfl) rfl t_w34) fun _ _ _ h => ?_
 refine gs h (o_assign rfl) rfl fun _ _ _ h => ?_
 refine GoR.done ?_
 refine Go.seq ?_
 obtain ⟨o1, H, G1⟩ := bindE H
 refine g_cut (fun G => ∀ j1 (a : Act) (w : World), o1 = j1 → St Try.f8.ntmps F [(0, .bool j1)] [Fld KArp b5 0 r7.1, Fld KArp b4 0 r6.1, Fld KArp b3 0 r5.1, Fld KFrm b2 0 r3.1, Fld KFrm b1 0 r2.1] a w → G a w) 1 ?_ fun J1 => ?_
 ·intro j1 a w ho_ h
  rw [ho_] at G1
  have H := G1
  rw [← som H]
  exact g_ret (vs := [.bool j1]) h Try.func8 ⟨rfl, trivial⟩ ⟨(), rfl, (h.mem.pick [] (by decide) rfl)⟩
 refine Go.reg ?_
 refine gs h (o_move rfl) rfl fun _ _ _ h => ?_
 refine gs h (o_bin rfl rfl rfl) rfl fun _ _ _ h => ?_
 refine gs h (o_move rfl) rfl fun _ _ _ h => ?_
 by_cases c1 : decide (r1.2 = 0) = true
 ·have H := ifT c1 H
  refine gg h rfl rfl c1 (o_move rfl) rfl fun _ _ _ h => ?_
  have g7 := (len_at 23 rfl h.mem)
  refine gg h rfl rfl c1 (o_ln rfl (rd_at 23 rfl) t_v22) rfl fun _ _ _ h => ?_
  refine gg h rfl rfl c1 (o_bin rfl rfl rfl) rfl fun _ _ _ h => ?_
  refine gs h (o_pickT rfl rfl c1) rfl fun _ _ _ h => ?_
  refine gs h (o_move rfl) rfl fun _ _ _ h => ?_
  by_cases c2 : decide ((r1.1.length : Int) = 15) = true
  ·have H := ifT c2 H
   refine gg h rfl rfl c2 (o_move rfl) rfl fun _ _ _ h => ?_
   refine gg h rfl rfl c2 (o_bin rfl rfl rfl) rfl fun _ _ _ h => ?_
   refine gs h (o_pickT rfl rfl c2) rfl fun _ _ _ h => ?_
   refine gs h (o_move rfl) rfl fun _ _ _ h => ?_
   by_cases c3 : decide (r2.2 = 0) = true
   ·have H := ifT c3 H
    refine gg h rfl rfl c3 (o_fa rfl t_f25_2 rfl rfl) rfl fun _ _ _ h => ?_
    have g8 := (in2 (fd_sub sFrm_Type_ 19 rfl h.mem))
    refine gg h rfl rfl c3 (o_lfx 19 rfl rfl sFrm_Type_ rfl X_int t_y3) rfl fun _ _ _ h => ?_
    refine gg h rfl rfl c3 (o_bin rfl rfl rfl) rfl fun _ _ _ h => ?_
    refine gs h (o_pickT rfl rfl c3) rfl fun _ _ _ h => ?_
    refine gs h (o_move rfl) rfl fun _ _ _ h => ?_
    by_cases c4 : decide (r2.1.Type_ = 2054) = true
    ·have H := ifT c4 H
     refine gg h rfl rfl c4 (o_move rfl) rfl fun _ _ _ h => ?_
     refine gg h rfl rfl c4 (o_bin rfl rfl rfl) rfl fun _ _ _ h => ?_
     refine gs h (o_pickT rfl rfl c4) rfl fun _ _ _ h => ?_
     refine gs h (o_move rfl) rfl fun _ _ _ h => ?_
     by_cases c5 : decide (r3.2 = 160) = true
     ·have H := ifT c5 H
      refine gg h rfl rfl c5 (o_move rfl) rfl fun _ _ _ h => ?_
      refine gg h rfl rfl c5 (o_bin rfl rfl rfl) rfl fun _ _ _ h => ?_
      refine gs h (o_pickT rfl rfl c5) rfl fun _ _ _ h => ?_
      refine gs h (o_move rfl) rfl fun _ _ _ h => ?_
      by_cases c6 : decide (r4.2 = 0) = true
      ·have H := ifT c6 H
       refine gg h rfl rfl c6 (o_move rfl) rfl fun _ _ _ h => ?_
       have g9 := (len_own 13 rfl h.mem)
       refine gg h rfl rfl c6 (o_ln rfl (rd_own 13 rfl) t_v22) rfl fun _ _ _ h => ?_
       refine gg h rfl rfl c6 (o_bin rfl rfl rfl) rfl fun _ _ _ h => ?_
       refine gs h (o_pickT rfl rfl c6) rfl fun _ _ _ h => ?_
       refine gs h (o_move rfl) rfl fun _ _ _ h => ?_
       by_cases c7 : decide ((r4.1.length : Int) = 28) = true
       ·have H := ifT c7 H
        refine gg h rfl rfl c7 (o_move rfl) rfl fun _ _ _ h => ?_
        refine gg h rfl rfl c7 (o_bin rfl rfl rfl) rfl fun _ _ _ h => ?_
        refine gs h (o_pickT rfl rfl c7) rfl fun _ _ _ h => ?_
        refine gs h (o_move rfl) rfl fun _ _ _ h => ?_
        by_cases c8 : decide (r5.2 = 0) = true
        ·have H := ifT c8 H
         refine gg h rfl rfl c8 (o_fa rfl t_f34_4 rfl rfl) rfl fun _ _ _ h => ?_
         have g10 := (in2 (fd_sub sArp_Tip 7 rfl h.mem))
         refine gg h rfl rfl c8 (o_lfx 7 rfl rfl sArp_Tip rfl X_int t_y32) rfl fun _ _ _ h => ?_
         refine gg h rfl rfl c8 (o_bin rfl rfl rfl) rfl fun _ _ _ h => ?_
         refine gs h (o_pickT rfl rfl c8) rfl fun _ _ _ h => ?_
         refine gs h (o_move rfl) rfl fun _ _ _ h => ?_
         by_cases c9 : decide (r5.1.Tip = 5) = true
         ·have H := ifT c9 H
          refine gg h rfl rfl c9 (o_move rfl) rfl fun _ _ _ h => ?_
          refine gs h (o_pickT rfl rfl c9) rfl fun _ _ _ h => ?_
          refine gs h (o_move rfl) rfl fun _ _ _ h => ?_
          by_cases c10 : r6.2 = true
          ·have H := ifT c10 H
           refine gg h rfl rfl c10 (o_fa rfl t_f34_0 rfl rfl) rfl fun _ _ _ h => ?_
           have g11 := (in2 (fd_sub sArp_Op 3 rfl h.mem))
           refine gg h rfl rfl c10 (o_lfx 3 rfl rfl sArp_Op rfl X_int t_y3) rfl fun _ _ _ h => ?_
           refine gg h rfl rfl c10 (o_bin rfl rfl rfl) rfl fun _ _ _ h => ?_
           refine gs h (o_pickT rfl rfl c10) rfl fun _ _ _ h => ?_
           refine gs h (o_move rfl) rfl fun _ _ _ h => ?_
           by_cases c11 : decide (r6.1.Op = 2) = true
           ·have H := ifT c11 H
            refine gg h rfl rfl c11 (o_fa rfl t_f34_2 rfl rfl) rfl fun _ _ _ h => ?_
            have g12 := (in2 (fd_sub sArp_Sip 3 rfl h.mem))
            refine gg h rfl rfl c11 (o_lfx 3 rfl rfl sArp_Sip rfl X_int t_y32) rfl fun _ _ _ h => ?_
            refine gg h rfl rfl c11 (o_bin rfl rfl rfl) rfl fun _ _ _ h => ?_
            refine gs h (o_pickT rfl rfl c11) rfl fun _ _ _ h => ?_
            refine gs h (o_move rfl) rfl fun _ _ _ h => ?_
            by_cases c12 : decide (r6.1.Sip = 5) = true
            ·have H := ifT c12 H
             refine gg h rfl rfl c12 (o_move rfl) rfl fun _ _ _ h => ?_
             refine gg h rfl rfl c12 (o_not rfl) rfl fun _ _ _ h => ?_
             refine gs h (o_pickT rfl rfl c12) rfl fun _ _ _ h => ?_
             refine gs h (o_assign rfl) rfl fun _ _ _ h => ?_
             refine GoR.done ?_
             exact J1 (!r7.2) _ _ (som H).symm (h.wk (by rfl) [0, 3, 7, 15, 19] (by decide) (by rfl))
            ·have H := ifF c12 H
             refine gk h rfl rfl (nb_f c12) rfl fun _ h => ?_
             refine gk h rfl rfl (nb_f c12) rfl fun _ h => ?_
             refine gs h (o_pickF rfl rfl c12) rfl fun _ _ _ h => ?_
             refine gs h (o_assign rfl) rfl fun _ _ _ h => ?_
             refine GoR.done ?_
             exact J1 false _ _ (som H).symm (h.wk (by rfl) [0, 3, 7, 15, 19] (by decide) (by rfl))
           ·have H := ifF c11 H
            refine gk h rfl rfl (nb_f c11) rfl fun _ h => ?_
            refine gk h rfl rfl (nb_f c11) rfl fun _ h => ?_
            refine gk h rfl rfl (nb_f c11) rfl fun _ h => ?_
            refine gs h (o_pickF rfl rfl c11) rfl fun _ _ _ h => ?_
            refine gs h (o_move rfl) rfl fun _ _ _ h => ?_
            refine gk h rfl rfl (nb_f Bool.false_ne_true) rfl fun _ h => ?_
            refine gk h rfl rfl (nb_f Bool.false_ne_true) rfl fun _ h => ?_
            refine gs h (o_pickF rfl rfl Bool.false_ne_true) rfl fun _ _ _ h => ?_
            refine gs h (o_assign rfl) rfl fun _ _ _ h => ?_
            refine GoR.done ?_
            exact J1 false _ _ (som H).symm (h.wk (by rfl) [0, 3, 7, 15, 19] (by decide) (by rfl))
          ·have H := ifF c10 H
           refine gk h rfl rfl (nb_f c10) rfl fun _ h => ?_
           refine gk h rfl rfl (nb_f c10) rfl fun _ h => ?_
           refine gk h rfl rfl (nb_f c10) rfl fun _ h => ?_
           refine gs h (o_pickF rfl rfl c10) rfl fun _ _ _ h => ?_
           refine gs h (o_move rfl) rfl fun _ _ _ h => ?_
           refine gk h rfl rfl (nb_f Bool.false_ne_true) rfl fun _ h => ?_
           refine gk h rfl rfl (nb_f Bool.false_ne_true) rfl fun _ h => ?_
           refine gk h rfl rfl (nb_f Bool.false_ne_true) rfl fun _ h => ?_
           refine gs h (o_pickF rfl rfl Bool.false_ne_true) rfl fun _ _ _ h => ?_
           refine gs h (o_move rfl) rfl fun _ _ _ h => ?_
           refine gk h rfl rfl (nb_f Bool.false_ne_true) rfl fun _ h => ?_
           refine gk h rfl rfl (nb_f Bool.false_ne_true) rfl fun _ h => ?_
           refine gs h (o_pickF rfl rfl Bool.false_ne_true) rfl fun _ _ _ h => ?_
           refine gs h (o_assign rfl) rfl fun _ _ _ h => ?_
           refine GoR.done ?_
           exact J1 false _ _ (som H).symm (h.wk (by rfl) [0, 3, 7, 15, 19] (by decide) (by rfl))
         ·have H := ifF c9 H
          refine gk h rfl rfl (nb_f c9) rfl fun _ h => ?_
          refine gs h (o_pickF rfl rfl c9) rfl fun _ _ _ h => ?_
          refine gs h (o_move rfl) rfl fun _ _ _ h => ?_
          refine gk h rfl rfl (nb_f Bool.false_ne_true) rfl fun _ h => ?_
          refine gk h rfl rfl (nb_f Bool.false_ne_true) rfl fun _ h => ?_
          refine gk h rfl rfl (nb_f Bool.false_ne_true) rfl fun _ h => ?_
          refine gs h (o_pickF rfl rfl Bool.false_ne_true) rfl fun _ _ _ h => ?_
          refine gs h (o_move rfl) rfl fun _ _ _ h => ?_
          refine gk h rfl rfl (nb_f Bool.false_ne_true) rfl fun _ h => ?_
          refine gk h rfl rfl (nb_f Bool.false_ne_true) rfl fun _ h => ?_
          refine gk h rfl rfl (nb_f Bool.false_ne_true) rfl fun _ h => ?_
          refine gs h (o_pickF rfl rfl Bool.false_ne_true) rfl fun _ _ _ h => ?_
          refine gs h (o_move rfl) rfl fun _ _ _ h => ?_
          refine gk h rfl rfl (nb_f Bool.false_ne_true) rfl fun _ h => ?_
          refine gk h rfl rfl (nb_f Bool.false_ne_true) rfl fun _ h => ?_
          refine gs h (o_pickF rfl rfl Bool.false_ne_true) rfl fun _ _ _ h => ?_
          refine gs h (o_assign rfl) rfl fun _ _ _ h => ?_
          refine GoR.done ?_
          exact J1 false _ _ (som H).symm (h.wk (by rfl) [0, 3, 7, 15, 19] (by decide) (by rfl))
        ·have H := ifF c8 H
         refine gk h rfl rfl (nb_f c8) rfl fun _ h => ?_
         refine gk h rfl rfl (nb_f c8) rfl fun _ h => ?_
         refine gk h rfl rfl (nb_f c8) rfl fun _ h => ?_
         refine gs h (o_pickF rfl rfl c8) rfl fun _ _ _ h => ?_
         refine gs h (o_move rfl) rfl fun _ _ _ h => ?_
         refine gk h rfl rfl (nb_f Bool.false_ne_true) rfl fun _ h => ?_
         refine gs h (o_pickF rfl rfl Bool.false_ne_true) rfl fun _ _ _ h => ?_
         refine gs h (o_move rfl) rfl fun _ _ _ h => ?_
         refine gk h rfl rfl (nb_f Bool.false_ne_true) rfl fun _ h => ?_
         refine gk h rfl rfl (nb_f Bool.false_ne_true) rfl fun _ h => ?_
         refine gk h rfl rfl (nb_f Bool.false_ne_true) rfl fun _ h => ?_
         refine gs h (o_pickF rfl rfl Bool.false_ne_true) rfl fun _ _ _ h => ?_
         refine gs h (o_move rfl) rfl fun _ _ _ h => ?_
         refine gk h rfl rfl (nb_f Bool.false_ne_true) rfl fun _ h => ?_
         refine gk h rfl rfl (nb_f Bool.false_ne_true) rfl fun _ h => ?_
         refine gk h rfl rfl (nb_f Bool.false_ne_true) rfl fun _ h => ?_
         refine gs h (o_pickF rfl rfl Bool.false_ne_true) rfl fun _ _ _ h => ?_
         refine gs h (o_move rfl) rfl fun _ _ _ h => ?_
         refine gk h rfl rfl (nb_f Bool.false_ne_true) rfl fun _ h => ?_
         refine gk h rfl rfl (nb_f Bool.false_ne_true) rfl fun _ h => ?_
         refine gs h (o_pickF rfl rfl Bool.false_ne_true) rfl fun _ _ _ h => ?_
         refine gs h (o_assign rfl) rfl fun _ _ _ h => ?_
         refine GoR.done ?_
         exact J1 false _ _ (som H).symm (h.wk (by rfl) [0, 3, 7, 15, 19] (by decide) (by rfl))
       ·have H := ifF c7 H
        refine gk h rfl rfl (nb_f c7) rfl fun _ h => ?_
        refine gk h rfl rfl (nb_f c7) rfl fun _ h => ?_
        refine gs h (o_pickF rfl rfl c7) rfl fun _ _ _ h => ?_
        refine gs h (o_move rfl) rfl fun _ _ _ h => ?_
        refine gk h rfl rfl (nb_f Bool.false_ne_true) rfl fun _ h => ?_
        refine gk h rfl rfl (nb_f Bool.false_ne_true) rfl fun _ h => ?_
        refine gk h rfl rfl (nb_f Bool.false_ne_true) rfl fun _ h => ?_
        refine gs h (o_pickF rfl rfl Bool.false_ne_true) rfl fun _ _ _ h => ?_
        refine gs h (o_move rfl) rfl fun _ _ _ h => ?_
        refine gk h rfl rfl (nb_f Bool.false_ne_true) rfl fun _ h => ?_
        refine gs h (o_pickF rfl rfl Bool.false_ne_true) rfl fun _ _ _ h => ?_
        refine gs h (o_move rfl) rfl fun _ _ _ h => ?_
        refine gk h rfl rfl (nb_f Bool.false_ne_true) rfl fun _ h => ?_
        refine gk h rfl rfl (nb_f Bool.false_ne_true) rfl fun _ h => ?_
        refine gk h rfl rfl (nb_f Bool.false_ne_true) rfl fun _ h => ?_
        refine gs h (o_pickF rfl rfl Bool.false_ne_true) rfl fun _ _ _ h => ?_
        refine gs h (o_move rfl) rfl fun _ _ _ h => ?_
        refine gk h rfl rfl (nb_f Bool.false_ne_true) rfl fun _ h => ?_
        refine gk h rfl rfl (nb_f Bool.false_ne_true) rfl fun _ h => ?_
        refine gk h rfl rfl (nb_f Bool.false_ne_true) rfl fun _ h => ?_
        refine gs h (o_pickF rfl rfl Bool.false_ne_true) rfl fun _ _ _ h => ?_
        refine gs h (o_move rfl) rfl fun _ _ _ h => ?_
        refine gk h rfl rfl (nb_f Bool.false_ne_true) rfl fun _ h => ?_
        refine gk h rfl rfl (nb_f Bool.false_ne_true) rfl fun _ h => ?_
        refine gs h (o_pickF rfl rfl Bool.false_ne_true) rfl fun _ _ _ h => ?_
        refine gs h (o_assign rfl) rfl fun _ _ _ h => ?_
        refine GoR.done ?_
        exact J1 false _ _ (som H).symm (h.wk (by rfl) [0, 3, 7, 15, 19] (by decide) (by rfl))
      ·have H := ifF c6 H
       refine gk h rfl rfl (nb_f c6) rfl fun _ h => ?_
       refine gk h rfl rfl (nb_f c6) rfl fun _ h => ?_
       refine gk h rfl rfl (nb_f c6) rfl fun _ h => ?_
       refine gs h (o_pickF rfl rfl c6) rfl fun _ _ _ h => ?_
       refine gs h (o_move rfl) rfl fun _ _ _ h => ?_
       refine gk h rfl rfl (nb_f Bool.false_ne_true) rfl fun _ h => ?_
       refine gk h rfl rfl (nb_f Bool.false_ne_true) rfl fun _ h => ?_
       refine gs h (o_pickF rfl rfl Bool.false_ne_true) rfl fun _ _ _ h => ?_
       refine gs h (o_move rfl) rfl fun _ _ _ h => ?_
       refine gk h rfl rfl (nb_f Bool.false_ne_true) rfl fun _ h => ?_
       refine gk h rfl rfl (nb_f Bool.false_ne_true) rfl fun _ h => ?_
       refine gk h rfl rfl (nb_f Bool.false_ne_true) rfl fun _ h => ?_
       refine gs h (o_pickF rfl rfl Bool.false_ne_true) rfl fun _ _ _ h => ?_
       refine gs h (o_move rfl) rfl fun _ _ _ h => ?_
       refine gk h rfl rfl (nb_f Bool.false_ne_true) rfl fun _ h => ?_
       refine gs h (o_pickF rfl rfl Bool.false_ne_true) rfl fun _ _ _ h => ?_
       refine gs h (o_move rfl) rfl fun _ _ _ h => ?_
       refine gk h rfl rfl (nb_f Bool.false_ne_true) rfl fun _ h => ?_
       refine gk h rfl rfl (nb_f Bool.false_ne_true) rfl fun _ h => ?_
       refine gk h rfl rfl (nb_f Bool.false_ne_true) rfl fun _ h => ?_
       refine gs h (o_pickF rfl rfl Bool.false_ne_true) rfl fun _ _ _ h => ?_
       refine gs h (o_move rfl) rfl fun _ _ _ h => ?_
       refine gk h rfl rfl (nb_f Bool.false_ne_true) rfl fun _ h => ?_
       refine gk h rfl rfl (nb_f Bool.false_ne_true) rfl fun _ h => ?_
       refine gk h rfl rfl (nb_f Bool.false_ne_true) rfl fun _ h => ?_
       refine gs h (o_pickF rfl rfl Bool.false_ne_true) rfl fun _ _ _ h => ?_
       refine gs h (o_move rfl) rfl fun _ _ _ h => ?_
       refine gk h rfl rfl (nb_f Bool.false_ne_true) rfl fun _ h => ?_
       refine gk h rfl rfl (nb_f Bool.false_ne_true) rfl fun _ h => ?_
       refine gs h (o_pickF rfl rfl Bool.false_ne_true) rfl fun _ _ _ h => ?_
       refine gs h (o_assign rfl) rfl fun _ _ _ h => ?_
       refine GoR.done ?_
       exact J1 false _ _ (som H).symm (h.wk (by rfl) [0, 3, 7, 15, 19] (by decide) (by rfl))
     ·have H := ifF c5 H
      refine gk h rfl rfl (nb_f c5) rfl fun _ h => ?_
      refine gk h rfl rfl (nb_f c5) rfl fun _ h => ?_
      refine gs h (o_pickF rfl rfl c5) rfl fun _ _ _ h => ?_
      refine gs h (o_move rfl) rfl fun _ _ _ h => ?_
      refine gk h rfl rfl (nb_f Bool.false_ne_true) rfl fun _ h => ?_
      refine gk h rfl rfl (nb_f Bool.false_ne_true) rfl fun _ h => ?_
      refine gk h rfl rfl (nb_f Bool.false_ne_true) rfl fun _ h => ?_
      refine gs h (o_pickF rfl rfl Bool.false_ne_true) rfl fun _ _ _ h => ?_
      refine gs h (o_move rfl) rfl fun _ _ _ h => ?_
      refine gk h rfl rfl (nb_f Bool.false_ne_true) rfl fun _ h => ?_
      refine gk h rfl rfl (nb_f Bool.false_ne_true) rfl fun _ h => ?_
      refine gs h (o_pickF rfl rfl Bool.false_ne_true) rfl fun _ _ _ h => ?_
      refine gs h (o_move rfl) rfl fun _ _ _ h => ?_
      refine gk h rfl rfl (nb_f Bool.false_ne_true) rfl fun _ h => ?_
      refine gk h rfl rfl (nb_f Bool.false_ne_true) rfl fun _ h => ?_
      refine gk h rfl rfl (nb_f Bool.false_ne_true) rfl fun _ h => ?_
      refine gs h (o_pickF rfl rfl Bool.false_ne_true) rfl fun _ _ _ h => ?_
      refine gs h (o_move rfl) rfl fun _ _ _ h => ?_
      refine gk h rfl rfl (nb_f Bool.false_ne_true) rfl fun _ h => ?_
      refine gs h (o_pickF rfl rfl Bool.false_ne_true) rfl fun _ _ _ h => ?_
      refine gs h (o_move rfl) rfl fun _ _ _ h => ?_
      refine gk h rfl rfl (nb_f Bool.false_ne_true) rfl fun _ h => ?_
      refine gk h rfl rfl (nb_f Bool.false_ne_true) rfl fun _ h => ?_
      refine gk h rfl rfl (nb_f Bool.false_ne_true) rfl fun _ h => ?_
      refine gs h (o_pickF rfl rfl Bool.false_ne_true) rfl fun _ _ _ h => ?_
      refine gs h (o_move rfl) rfl fun _ _ _ h => ?_
      refine gk h rfl rfl (nb_f Bool.false_ne_true) rfl fun _ h => ?_
      refine gk h rfl rfl (nb_f Bool.false_ne_true) rfl fun _ h => ?_
      refine gk h rfl rfl (nb_f Bool.false_ne_true) rfl fun _ h => ?_
      refine gs h (o_pickF rfl rfl Bool.false_ne_true) rfl fun _ _ _ h => ?_
      refine gs h (o_move rfl) rfl fun _ _ _ h => ?_
      refine gk h rfl rfl (nb_f Bool.false_ne_true) rfl fun _ h => ?_
      refine gk h rfl rfl (nb_f Bool.false_ne_true) rfl fun _ h => ?_
      refine gs h (o_pickF rfl rfl Bool.false_ne_true) rfl fun _ _ _ h => ?_
      refine gs h (o_assign rfl) rfl fun _ _ _ h => ?_
      refine GoR.done ?_
      exact J1 false _ _ (som H).symm (h.wk (by rfl) [0, 3, 7, 15, 19] (by decide) (by rfl))
    ·have H := ifF c4 H
     refine gk h rfl rfl (nb_f c4) rfl fun _ h => ?_
     refine gk h rfl rfl (nb_f c4) rfl fun _ h => ?_
     refine gs h (o_pickF rfl rfl c4) rfl fun _ _ _ h => ?_
     refine gs h (o_move rfl) rfl fun _ _ _ h => ?_
     refine gk h rfl rfl (nb_f Bool.false_ne_true) rfl fun _ h => ?_
     refine gk h rfl rfl (nb_f Bool.false_ne_true) rfl fun _ h => ?_
     refine gs h (o_pickF rfl rfl Bool.false_ne_true) rfl fun _ _ _ h => ?_
     refine gs h (o_move rfl) rfl fun _ _ _ h => ?_
     refine gk h rfl rfl (nb_f Bool.false_ne_true) rfl fun _ h => ?_
     refine gk h rfl rfl (nb_f Bool.false_ne_true) rfl fun _ h => ?_
     refine gk h rfl rfl (nb_f Bool.false_ne_true) rfl fun _ h => ?_
     refine gs h (o_pickF rfl rfl Bool.false_ne_true) rfl fun _ _ _ h => ?_
     refine gs h (o_move rfl) rfl fun _ _ _ h => ?_
     refine gk h rfl rfl (nb_f Bool.false_ne_true) rfl fun _ h => ?_
     refine gk h rfl rfl (nb_f Bool.false_ne_true) rfl fun _ h => ?_
     refine gs h (o_pickF rfl rfl Bool.false_ne_true) rfl fun _ _ _ h => ?_
     refine gs h (o_move rfl) rfl fun _ _ _ h => ?_
     refine gk h rfl rfl (nb_f Bool.false_ne_true) rfl fun _ h => ?_
     refine gk h rfl rfl (nb_f Bool.false_ne_true) rfl fun _ h => ?_
     refine gk h rfl rfl (nb_f Bool.false_ne_true) rfl fun _ h => ?_
     refine gs h (o_pickF rfl rfl Bool.false_ne_true) rfl fun _ _ _ h => ?_
     refine gs h (o_move rfl) rfl fun _ _ _ h => ?_
     refine gk h rfl rfl (nb_f Bool.false_ne_true) rfl fun _ h => ?_
     refine gs h (o_pickF rfl rfl Bool.false_ne_true) rfl fun _ _ _ h => ?_
     refine gs h (o_move rfl) rfl fun _ _ _ h => ?_
     refine gk h rfl rfl (nb_f Bool.false_ne_true) rfl fun _ h => ?_
     refine gk h rfl rfl (nb_f Bool.false_ne_true) rfl fun _ h => ?_
     refine gk h rfl rfl (nb_f Bool.false_ne_true) rfl fun _ h => ?_
     refine gs h (o_pickF rfl rfl Bool.false_ne_true) rfl fun _ _ _ h => ?_
     refine gs h (o_move rfl) rfl fun _ _ _ h => ?_
     refine gk h rfl rfl (nb_f Bool.false_ne_true) rfl fun _ h => ?_
     refine gk h rfl rfl (nb_f Bool.false_ne_true) rfl fun _ h => ?_
     refine gk h rfl rfl (nb_f Bool.false_ne_true) rfl fun _ h => ?_
     refine gs h (o_pickF rfl rfl Bool.false_ne_true) rfl fun _ _ _ h => ?_
     refine gs h (o_move rfl) rfl fun _ _ _ h => ?_
     refine gk h rfl rfl (nb_f Bool.false_ne_true) rfl fun _ h => ?_
     refine gk h rfl rfl (nb_f Bool.false_ne_true) rfl fun _ h => ?_
     refine gs h (o_pickF rfl rfl Bool.false_ne_true) rfl fun _ _ _ h => ?_
     refine gs h (o_assign rfl) rfl fun _ _ _ h => ?_
     refine GoR.done ?_
     exact J1 false _ _ (som H).symm (h.wk (by rfl) [0, 3, 7, 15, 19] (by decide) (by rfl))
   ·have H := ifF c3 H
    refine gk h rfl rfl (nb_f c3) rfl fun _ h => ?_
    refine gk h rfl rfl (nb_f c3) rfl fun _ h => ?_
    refine gk h rfl rfl (nb_f c3) rfl fun _ h => ?_
    refine gs h (o_pickF rfl rfl c3) rfl fun _ _ _ h => ?_
    refine gs h (o_move rfl) rfl fun _ _ _ h => ?_
    refine gk h rfl rfl (nb_f Bool.false_ne_true) rfl fun _ h => ?_
    refine gk h rfl rfl (nb_f Bool.false_ne_true) rfl fun _ h => ?_
    refine gs h (o_pickF rfl rfl Bool.false_ne_true) rfl fun _ _ _ h => ?_
    refine gs h (o_move rfl) rfl fun _ _ _ h => ?_
    refine gk h rfl rfl (nb_f Bool.false_ne_true) rfl fun _ h => ?_
    refine gk h rfl rfl (nb_f Bool.false_ne_true) rfl fun _ h => ?_
    refine gs h (o_pickF rfl rfl Bool.false_ne_true) rfl fun _ _ _ h => ?_
    refine gs h (o_move rfl) rfl fun _ _ _ h => ?_
    refine gk h rfl rfl (nb_f Bool.false_ne_true) rfl fun _ h => ?_
    refine gk h rfl rfl (nb_f Bool.false_ne_true) rfl fun _ h => ?_
    refine gk h rfl rfl (nb_f Bool.false_ne_true) rfl fun _ h => ?_
    refine gs h (o_pickF rfl rfl Bool.false_ne_true) rfl fun _ _ _ h => ?_
    refine gs h (o_move rfl) rfl fun _ _ _ h => ?_
    refine gk h rfl rfl (nb_f Bool.false_ne_true) rfl fun _ h => ?_
    refine gk h rfl rfl (nb_f Bool.false_ne_true) rfl fun _ h => ?_
    refine gs h (o_pickF rfl rfl Bool.false_ne_true) rfl fun _ _ _ h => ?_
    refine gs h (o_move rfl) rfl fun _ _ _ h => ?_
    refine gk h rfl rfl (nb_f Bool.false_ne_true) rfl fun _ h => ?_
    refine gk h rfl rfl (nb_f Bool.false_ne_true) rfl fun _ h => ?_
    refine gk h rfl rfl (nb_f Bool.false_ne_true) rfl fun _ h => ?_
    refine gs h (o_pickF rfl rfl Bool.false_ne_true) rfl fun _ _ _ h => ?_
    refine gs h (o_move rfl) rfl fun _ _ _ h => ?_
    refine gk h rfl rfl (nb_f Bool.false_ne_true) rfl fun _ h => ?_
    refine gs h (o_pickF rfl rfl Bool.false_ne_true) rfl fun _ _ _ h => ?_
    refine gs h (o_move rfl) rfl fun _ _ _ h => ?_
    refine gk h rfl rfl (nb_f Bool.false_ne_true) rfl fun _ h => ?_
    refine gk h rfl rfl (nb_f Bool.false_ne_true) rfl fun _ h => ?_
    refine gk h rfl rfl (nb_f Bool.false_ne_true) rfl fun _ h => ?_
    refine gs h (o_pickF rfl rfl Bool.false_ne_true) rfl fun _ _ _ h => ?_
    refine gs h (o_move rfl) rfl fun _ _ _ h => ?_
    refine gk h rfl rfl (nb_f Bool.false_ne_true) rfl fun _ h => ?_
    refine gk h rfl rfl (nb_f Bool.false_ne_true) rfl fun _ h => ?_
    refine gk h rfl rfl (nb_f Bool.false_ne_true) rfl fun _ h => ?_
    refine gs h (o_pickF rfl rfl Bool.false_ne_true) rfl fun _ _ _ h => ?_
    refine gs h (o_move rfl) rfl fun _ _ _ h => ?_
    refine gk h rfl rfl (nb_f Bool.false_ne_true) rfl fun _ h => ?_
    refine gk h rfl rfl (nb_f Bool.false_ne_true) rfl fun _ h => ?_
    refine gs h (o_pickF rfl rfl Bool.false_ne_true) rfl fun _ _ _ h => ?_
    refine gs h (o_assign rfl) rfl fun _ _ _ h => ?_
    refine GoR.done ?_
    exact J1 false _ _ (som H).symm (h.wk (by rfl) [0, 3, 7, 15, 19] (by decide) (by rfl))
  ·have H := ifF c2 H
   refine gk h rfl rfl (nb_f c2) rfl fun _ h => ?_
   refine gk h rfl rfl (nb_f c2) rfl fun _ h => ?_
   refine gs h (o_pickF rfl rfl c2) rfl fun _ _ _ h => ?_
   refine gs h (o_move rfl) rfl fun _ _ _ h => ?_
   refine gk h rfl rfl (nb_f Bool.false_ne_true) rfl fun _ h => ?_
   refine gk h rfl rfl (nb_f Bool.false_ne_true) rfl fun _ h => ?_
   refine gk h rfl rfl (nb_f Bool.false_ne_true) rfl fun _ h => ?_
   refine gs h (o_pickF rfl rfl Bool.false_ne_true) rfl fun _ _ _ h => ?_
   refine gs h (o_move rfl) rfl fun _ _ _ h => ?_
   refine gk h rfl rfl (nb_f Bool.false_ne_true) rfl fun _ h => ?_
   refine gk h rfl rfl (nb_f Bool.false_ne_true) rfl fun _ h => ?_
   refine gs h (o_pickF rfl rfl Bool.false_ne_true) rfl fun _ _ _ h => ?_
   refine gs h (o_move rfl) rfl fun _ _ _ h => ?_
   refine gk h rfl rfl (nb_f Bool.false_ne_true) rfl fun _ h => ?_
   refine gk h rfl rfl (nb_f Bool.false_ne_true) rfl fun _ h => ?_
   refine gs h (o_pickF rfl rfl Bool.false_ne_true) rfl fun _ _ _ h => ?_
   refine gs h (o_move rfl) rfl fun _ _ _ h => ?_
   refine gk h rfl rfl (nb_f Bool.false_ne_true) rfl fun _ h => ?_
   refine gk h rfl rfl (nb_f Bool.false_ne_true) rfl fun _ h => ?_
   refine gk h rfl rfl (nb_f Bool.false_ne_true) rfl fun _ h => ?_
   refine gs h (o_pickF rfl rfl Bool.false_ne_true) rfl fun _ _ _ h => ?_
   refine gs h (o_move rfl) rfl fun _ _ _ h => ?_
   refine gk h rfl rfl (nb_f Bool.false_ne_true) rfl fun _ h => ?_
   refine gk h rfl rfl (nb_f Bool.false_ne_true) rfl fun _ h => ?_
   refine gs h (o_pickF rfl rfl Bool.false_ne_true) rfl fun _ _ _ h => ?_
   refine gs h (o_move rfl) rfl fun _ _ _ h => ?_
   refine gk h rfl rfl (nb_f Bool.false_ne_true) rfl fun _ h => ?_
   refine gk h rfl rfl (nb_f Bool.false_ne_true) rfl fun _ h => ?_
   refine gk h rfl rfl (nb_f Bool.false_ne_true) rfl fun _ h => ?_
   refine gs h (o_pickF rfl rfl Bool.false_ne_true) rfl fun _ _ _ h => ?_
   refine gs h (o_move rfl) rfl fun _ _ _ h => ?_
   refine gk h rfl rfl (nb_f Bool.false_ne_true) rfl fun _ h => ?_
   refine gs h (o_pickF rfl rfl Bool.false_ne_true) rfl fun _ _ _ h => ?_
   refine gs h (o_move rfl) rfl fun _ _ _ h => ?_
   refine gk h rfl rfl (nb_f Bool.false_ne_true) rfl fun _ h => ?_
   refine gk h rfl rfl (nb_f Bool.false_ne_true) rfl fun _ h => ?_
   refine gk h rfl rfl (nb_f Bool.false_ne_true) rfl fun _ h => ?_
   refine gs h (o_pickF rfl rfl Bool.false_ne_true) rfl fun _ _ _ h => ?_
   refine gs h (o_move rfl) rfl fun _ _ _ h => ?_
   refine gk h rfl rfl (nb_f Bool.false_ne_true) rfl fun _ h => ?_
   refine gk h rfl rfl (nb_f Bool.false_ne_true) rfl fun _ h => ?_
   refine gk h rfl rfl (nb_f Bool.false_ne_true) rfl fun _ h => ?_
   refine gs h (o_pickF rfl rfl Bool.false_ne_true) rfl fun _ _ _ h => ?_
   refine gs h (o_move rfl) rfl fun _ _ _ h => ?_
   refine gk h rfl rfl (nb_f Bool.false_ne_true) rfl fun _ h => ?_
   refine gk h rfl rfl (nb_f Bool.false_ne_true) rfl fun _ h => ?_
   refine gs h (o_pickF rfl rfl Bool.false_ne_true) rfl fun _ _ _ h => ?_
   refine gs h (o_assign rfl) rfl fun _ _ _ h => ?_
   refine GoR.done ?_
   exact J1 false _ _ (som H).symm (h.wk (by rfl) [0, 3, 7, 15, 19] (by decide) (by rfl))
 ·have H := ifF c1 H
  refine gk h rfl rfl (nb_f c1) rfl fun _ h => ?_
  refine gk h rfl rfl (nb_f c1) rfl fun _ h => ?_
  refine gk h rfl rfl (nb_f c1) rfl fun _ h => ?_
  refine gs h (o_pickF rfl rfl c1) rfl fun _ _ _ h => ?_
  refine gs h (o_move rfl) rfl fun _ _ _ h => ?_
  refine gk h rfl rfl (nb_f Bool.false_ne_true) rfl fun _ h => ?_
  refine gk h rfl rfl (nb_f Bool.false_ne_true) rfl fun _ h => ?_
  refine gs h (o_pickF rfl rfl Bool.false_ne_true) rfl fun _ _ _ h => ?_
  refine gs h (o_move rfl) rfl fun _ _ _ h => ?_
  refine gk h rfl rfl (nb_f Bool.false_ne_true) rfl fun _ h => ?_
  refine gk h rfl rfl (nb_f Bool.false_ne_true) rfl fun _ h => ?_
  refine gk h rfl rfl (nb_f Bool.false_ne_true) rfl fun _ h => ?_
  refine gs h (o_pickF rfl rfl Bool.false_ne_true) rfl fun _ _ _ h => ?_
  refine gs h (o_move rfl) rfl fun _ _ _ h => ?_
  refine gk h rfl rfl (nb_f Bool.false_ne_true) rfl fun _ h => ?_
  refine gk h rfl rfl (nb_f Bool.false_ne_true) rfl fun _ h => ?_
  refine gs h (o_pickF rfl rfl Bool.false_ne_true) rfl fun _ _ _ h => ?_
  refine gs h (o_move rfl) rfl fun _ _ _ h => ?_
  refine gk h rfl rfl (nb_f Bool.false_ne_true) rfl fun _ h => ?_
  refine gk h rfl rfl (nb_f Bool.false_ne_true) rfl fun _ h => ?_
  refine gs h (o_pickF rfl rfl Bool.false_ne_true) rfl fun _ _ _ h => ?_
  refine gs h (o_move rfl) rfl fun _ _ _ h => ?_
  refine gk h rfl rfl (nb_f Bool.false_ne_true) rfl fun _ h => ?_
  refine gk h rfl rfl (nb_f Bool.false_ne_true) rfl fun _ h => ?_
  refine gk h rfl rfl (nb_f Bool.false_ne_true) rfl fun _ h => ?_
  refine gs h (o_pickF rfl rfl Bool.false_ne_true) rfl fun _ _ _ h => ?_
  refine gs h (o_move rfl) rfl fun _ _ _ h => ?_
  refine gk h rfl rfl (nb_f Bool.false_ne_true) rfl fun _ h => ?_
  refine gk h rfl rfl (nb_f Bool.false_ne_true) rfl fun _ h => ?_
  refine gs h (o_pickF rfl rfl Bool.false_ne_true) rfl fun _ _ _ h => ?_
  refine gs h (o_move rfl) rfl fun _ _ _ h => ?_
  refine gk h rfl rfl (nb_f Bool.false_ne_true) rfl fun _ h => ?_
  refine gk h rfl rfl (nb_f Bool.false_ne_true) rfl fun _ h => ?_
  refine gk h rfl rfl (nb_f Bool.false_ne_true) rfl fun _ h => ?_
  refine gs h (o_pickF rfl rfl Bool.false_ne_true) rfl fun _ _ _ h => ?_
  refine gs h (o_move rfl) rfl fun _ _ _ h => ?_
  refine gk h rfl rfl (nb_f Bool.false_ne_true) rfl fun _ h => ?_
  refine gs h (o_pickF rfl rfl Bool.false_ne_true) rfl fun _ _ _ h => ?_
  refine gs h (o_move rfl) rfl fun _ _ _ h => ?_
  refine gk h rfl rfl (nb_f Bool.false_ne_true) rfl fun _ h => ?_
  refine gk h rfl rfl (nb_f Bool.false_ne_true) rfl fun _ h => ?_
  refine gk h rfl rfl (nb_f Bool.false_ne_true) rfl fun _ h => ?_
  refine gs h (o_pickF rfl rfl Bool.false_ne_true) rfl fun _ _ _ h => ?_
  refine gs h (o_move rfl) rfl fun _ _ _ h => ?_
  refine gk h rfl rfl (nb_f Bool.false_ne_true) rfl fun _ h => ?_
  refine gk h rfl rfl (nb_f Bool.false_ne_true) rfl fun _ h => ?_
  refine gk h rfl rfl (nb_f Bool.false_ne_true) rfl fun _ h => ?_
  refine gs h (o_pickF rfl rfl Bool.false_ne_true) rfl fun _ _ _ h => ?_
  refine gs h (o_move rfl) rfl fun _ _ _ h => ?_
  refine gk h rfl rfl (nb_f Bool.false_ne_true) rfl fun _ h => ?_
  refine gk h rfl rfl (nb_f Bool.false_ne_true) rfl fun _ h => ?_
  refine gs h (o_pickF rfl rfl Bool.false_ne_true) rfl fun _ _ _ h => ?_
  refine gs h (o_assign rfl) rfl fun _ _ _ h => ?_
  refine GoR.done ?_
  exact J1 false _ _ (som H).symm (h.wk (by rfl) [0, 3, 7, 15, 19] (by decide) (by rfl))
def law16_heads.g (k_ : Nat)  : Option (Bool) :=
  (mk 6 0).bind fun x1 => (ether_Put.g k_ (⟨x1, x1, 2054, ([7] : List Int)⟩ : TFrm)).bind fun r1 => (ether_Get.g k_ r1.1).bind fun r2 => (cut r1.1 0 (IntKind.i64.wrap (Int.tdiv (r1.1.length : Int) 2))).bind fun x2 => (ether_Get.g k_ x2).bind fun r3 => (ether_PutArp.g k_ (⟨1, x1, 0, x1, 5⟩ : TArp)).bind fun r4 => (app ([] : List Int) r4.1).bind fun x3 => (app x3 ([1] : List Int)).bind fun x4 => (ether_GetArp.g k_ x4).bind fun r5 => (ether_Answer.g k_ r5.1 ([1, 2, 3, 4, 5, 6] : List Int) 5).bind fun r6 => (ether_Answer.g k_ r6.1 x1 0).bind fun r7 => ((if decide (r1.2 = 0) = true then (if decide ((r1.1.length : Int) = 15) = true then (if decide (r2.2 = 0) = true then (if decide (r2.1.Type_ = 2054) = true then (if decide (r3.2 = 160) = true then (if decide (r4.2 = 0) = true then (if decide ((r4.1.length : Int) = 28) = true then (if decide (r5.2 = 0) = true then (if decide (r5.1.Tip = 5) = true then (if r6.2 = true then (if decide (r6.1.Op = 2) = true then (if decide (r6.1.Sip = 5) = true then some ((!r7.2)) else some (false)) else some (false)) else some (false)) else some (false)) else some (false)) else some (false)) else some (false)) else some (false)) else some (false)) else some (false)) else some (false)) else some (false))).bind (fun j1 => some (j1))
theorem law16_heads.le (k_ : Nat)  : Le (law16_heads.g k_ ) (law16_heads.f ) := by
 unfold law16_heads.g law16_heads.f
 repeat' (first | with_reducible refine le_loop fun _ => ?_ | with_reducible refine le_bind ?_ fun _ => ?_ | with_reducible refine le_ite ?_ ?_ | with_reducible refine le_lt fun _ => ?_ | with_reducible refine le_elim (fun _ => ?_) (fun _ => ?_) _ | with_reducible apply ether_Answer.le | with_reducible apply ether_Get.le | with_reducible apply ether_GetArp.le | with_reducible apply ether_Put.le | with_reducible apply ether_PutArp.le | with_reducible exact le_refl _)
/-! drawbridge/drawbridgeref01.Put -/
noncomputable def ref01_Put.f (a1 : Int) (a2 : Int) (a3 : Bool) : Option ((List Int)) :=
  (loop (fun s1 => ((if decide (s1.2 < a2) = true then some (decide (s1.2 < 8)) else some (false))).bind (fun j1 => (if j1 = true then ((if 0 ≤ (IntKind.u64.wrap (IntKind.i64.wrap (8 * s1.2))) then (lt (IntKind.u8.wrap (ishr .u64 a1 (IntKind.u64.wrap (IntKind.i64.wrap (8 * s1.2))))) fun y1 => (if a3 = true then (app ([y1] : List Int) s1.1).bind fun x1 => some (x1) else (app s1.1 ([y1] : List Int)).bind fun x2 => some (x2))) else none).bind (fun j2 => some (j2))).bind (fun j3 => lt (IntKind.i64.wrap (s1.2 + 1)) fun y2 => some (.inl (j3, y2))) else some (.inr (s1.1))))) (([] : List Int), 0)).bind (fun j4 => some (j4))
set_option maxRecDepth 100000 in
set_option maxHeartbeats 4000000 in
theorem ref01_Put.spc (a1 : Int) (ha1 : InR .u64 a1) (a2 : Int) (ha2 : InR .i64 a2) (a3 : Bool) (r : (List Int)) (H : ref01_Put.f a1 a2 a3 = some r) : Spc Try.prog 39 [.int .u64 a1, .int .i64 a2, .bool a3] [] [] (fun (s : Value) => s) (fun s => [Val (Kd.osl (Kd.int .u8)) s r]) := by
 unfold ref01_Put.f at H
 refine Spc.go Try.func39 rfl (by kernel_rfl) rfl rfl all_nil fun F a w h => ?_
 refine Go.seq ?_
 refine Go.reg ?_
 refine gs h (o_assign rfl) rfl fun _ _ _ h => ?_
 refine GoR.done ?_
 refine Go.seq ?_
 refine Go.reg ?_
 refine gs h (o_assign rfl) rfl fun _ _ _ h => ?_
 refine GoR.done ?_
 refine Go.seq ?_
 refine Go.seq ?_
 refine Go.reg ?_
 refine gs h (o_assign rfl) rfl fun _ _ _ h => ?_
 refine GoR.done ?_
 refine Go.block ?_
 obtain ⟨o1, hl, G1⟩ := bindE H
 refine g_cut (fun G => ∀ j4 (v8 : Value) (a : Act) (w : World), o1 = j4 → St Try.f39.ntmps F [(7, v8)] [Val (Kd.osl (Kd.int .u8)) v8 j4] a w → G a w) 2 ?_ fun J4 => ?_
 ·intro j4 v8 a w ho_ h
  rw [ho_] at G1
  have H := G1
  refine Go.seq ?_
  refine Go.reg ?_
  refine gs h (o_move rfl) rfl fun _ _ _ h => ?_
  refine gs h (o_assign rfl) rfl fun _ _ _ h => ?_
  refine GoR.done ?_
  rw [← som H]
  exact g_ret (vs := [v8]) h Try.func39 ⟨rfl, trivial⟩ ⟨v8, rfl, (h.mem.pick [0] (by decide) rfl)⟩
 refine g_loop (fun s1 G => ∀ (v1 : Value) (a : Act) (w : World), InR .i64 s1.2 → St Try.f39.ntmps F [(0, .int .u64 a1), (1, .int .i64 a2), (2, .bool a3), (7, v1), (8, .int .i64 s1.2)] [Val (Kd.osl (Kd.int .u8)) v1 s1.1] a w → G a w) hl (fun s1 p1 H i1 => ?_) fun I_ => ?_
 ·intro v1 a w g1 h
  refine Go.seq ?_
  refine Go.seq ?_
  obtain ⟨o2, H, G2⟩ := bindE H
  refine g_cut (fun G => ∀ j1 (a : Act) (w : World), o2 = j1 → St Try.f39.ntmps F [(0, .int .u64 a1), (1, .int .i64 a2), (2, .bool a3), (7, v1), (8, .int .i64 s1.2), (16, .bool j1)] [Val (Kd.osl (Kd.int .u8)) v1 s1.1] a w → G a w) 1 ?_ fun J1 => ?_
  ·intro j1 a w ho_ h
   rw [ho_] at G2
   have H := G2
   by_cases c2 : j1 = true
   ·have H := ifT c2 H
    refine g_t h rfl c2 ?_
    refine Go.skip ?_
    refine Go.seq ?_
    obtain ⟨o3, H, G3⟩ := bindE H
    refine g_cut (fun G => ∀ j3 (v7 : Value) (a : Act) (w : World), o3 = j3 → St Try.f39.ntmps F [(0, .int .u64 a1), (1, .int .i64 a2), (2, .bool a3), (7, v7), (8, .int .i64 s1.2)] [Val (Kd.osl (Kd.int .u8)) v7 j3] a w → G a w) 1 ?_ fun J3 => ?_
    ·intro j3 v7 a w ho_ h
     rw [ho_] at G3
     have H := G3
     refine Go.reg ?_
     refine gs h (o_move rfl) rfl fun _ _ _ h => ?_
     refine gs h (o_bin rfl rfl rfl) rfl fun _ _ _ h => ?_
     obtain ⟨y2, ey2, H⟩ := ltE H
     refine gs h (o_assign' rfl (congrArg (fun z => Value.int .i64 z) ey2)) rfl fun _ _ _ h => ?_
     refine GoR.done ?_
     have e_ := som H; subst e_
     exact Go.inLoop (nx_in i1 v7 _ _ (ey2 ▸ (wrap_in _ _)) (h.wk (by rfl) [0] (by decide) (by rfl)))
    refine Go.block ?_
    obtain ⟨o4, H, G4⟩ := bindE H
    refine g_cut (fun G => ∀ j2 (v6 : Value) (a : Act) (w : World), o4 = j2 → St Try.f39.ntmps F [(0, .int .u64 a1), (1, .int .i64 a2), (2, .bool a3), (7, v6), (8, .int .i64 s1.2)] [Val (Kd.osl (Kd.int .u8)) v6 j2] a w → G a w) 2 ?_ fun J2 => ?_
    ·intro j2 v6 a w ho_ h
     rw [ho_] at G4
     have H := G4
     exact J3 j2 v6 _ _ (som H).symm (h.wk (by rfl) [0] (by decide) (by rfl))
    refine Go.seq ?_
    refine Go.reg ?_
    refine gs h (o_move rfl) rfl fun _ _ _ h => ?_
    refine gs h (o_move rfl) rfl fun _ _ _ h => ?_
    refine gs h (o_bin rfl rfl rfl) rfl fun _ _ _ h => ?_
    refine gs h (o_conv rfl t_q3 t_u64) rfl fun _ _ _ h => ?_
    obtain ⟨q1, H⟩ := ifS H
    refine gs h (o_shr rfl rfl q1) rfl fun _ _ _ h => ?_
    refine gs h (o_conv rfl t_q62 t_u5) rfl fun _ _ _ h => ?_
    obtain ⟨y1, ey1, H⟩ := ltE H
    refine gs h (o_assign' rfl (congrArg (fun z => Value.int .u8 z) ey1)) rfl fun _ _ _ h => ?_
    refine GoR.done ?_
    refine Go.seq ?_
    refine Go.reg ?_
    refine gs h (o_move rfl) rfl fun _ _ _ h => ?_
    refine GoR.done ?_
    by_cases c3 : a3 = true
    ·have H := ifT c3 H
     refine g_t h rfl c3 ?_
     refine Go.reg ?_
     refine gs h (o_move rfl) rfl fun _ _ _ h => ?_
     refine gs h (o_bs (K := (Kd.int .u8)) (vs := [.int .u8 y1]) (xs := ([y1] : List Int)) rfl rfl (pvs_cons (pv_int (ey1 ▸ (wrap_in _ _))) pvs_nil) t_a22 (by decide) (by decide)) rfl fun v2 _ _ h => ?_
     refine gs h (o_move rfl) rfl fun _ _ _ h => ?_
     obtain ⟨x1, ex1, H⟩ := bindE H
     refine gs h (o_app (K := (Kd.int .u8)) 0 rfl rfl rfl (rd_own 1 rfl) ex1 t_a22 t_n22) rfl fun v3 _ _ h => ?_
     refine gs h (o_assign rfl) rfl fun _ _ _ h => ?_
     refine GoR.done ?_
     refine Go.inBlock ?_
     exact J2 x1 v3 _ _ (som H).symm (h.wk (by rfl) [0] (by decide) (by rfl))
    ·have H := ifF c3 H
     refine g_f h rfl c3 ?_
     refine Go.reg ?_
     refine gs h (o_move rfl) rfl fun _ _ _ h => ?_
     refine gs h (o_move rfl) rfl fun _ _ _ h => ?_
     refine gs h (o_bs (K := (Kd.int .u8)) (vs := [.int .u8 y1]) (xs := ([y1] : List Int)) rfl rfl (pvs_cons (pv_int (ey1 ▸ (wrap_in _ _))) pvs_nil) t_a22 (by decide) (by decide)) rfl fun v4 _ _ h => ?_
     obtain ⟨x2, ex2, H⟩ := bindE H
     refine gs h (o_app (K := (Kd.int .u8)) 1 rfl rfl rfl (rd_own 0 rfl) ex2 t_a22 t_n22) rfl fun v5 _ _ h => ?_
     refine gs h (o_assign rfl) rfl fun _ _ _ h => ?_
     refine GoR.done ?_
     refine Go.inBlock ?_
     exact J2 x2 v5 _ _ (som H).symm (h.wk (by rfl) [1] (by decide) (by rfl))
   ·have H := ifF c2 H
    refine g_f h rfl c2 ?_
    refine Go.exit rfl ?_
    have e_ := som H; subst e_
    exact J4 s1.1 v1 _ _ (nx_out i1).symm (h.wk (by rfl) [0] (by decide) (by rfl))
  refine Go.reg ?_
  refine gs h (o_move rfl) rfl fun _ _ _ h => ?_
  refine gs h (o_move rfl) rfl fun _ _ _ h => ?_
  refine gs h (o_bin rfl rfl rfl) rfl fun _ _ _ h => ?_
  refine gs h (o_move rfl) rfl fun _ _ _ h => ?_
  by_cases c1 : decide (s1.2 < a2) = true
  ·have H := ifT c1 H
   refine gg h rfl rfl c1 (o_move rfl) rfl fun _ _ _ h => ?_
   refine gg h rfl rfl c1 (o_bin rfl rfl rfl) rfl fun _ _ _ h => ?_
   refine gs h (o_pickT rfl rfl c1) rfl fun _ _ _ h => ?_
   refine GoR.done ?_
   exact J1 (decide (s1.2 < 8)) _ _ (som H).symm (h.wk (by rfl) [0] (by decide) (by rfl))
  ·have H := ifF c1 H
   refine gk h rfl rfl (nb_f c1) rfl fun _ h => ?_
   refine gk h rfl rfl (nb_f c1) rfl fun _ h => ?_
   refine gs h (o_pickF rfl rfl c1) rfl fun _ _ _ h => ?_
   refine GoR.done ?_
   exact J1 false _ _ (som H).symm (h.wk (by rfl) [0] (by decide) (by rfl))
 ·replace h := h.mm fun m => m.nilo (Kd.int .u8)
  exact I_ (.slice none 0 0) _ _ (show InR .i64 0 by decide) (h.wk (by rfl) [0] (by decide) (by rfl))
def ref01_Put.g (k_ : Nat) (a1 : Int) (a2 : Int) (a3 : Bool) : Option ((List Int)) :=
  (loopK k_ (fun s1 => ((if decide (s1.2 < a2) = true then some (decide (s1.2 < 8)) else some (false))).bind (fun j1 => (if j1 = true then ((if 0 ≤ (IntKind.u64.wrap (IntKind.i64.wrap (8 * s1.2))) then (lt (IntKind.u8.wrap (ishr .u64 a1 (IntKind.u64.wrap (IntKind.i64.wrap (8 * s1.2))))) fun y1 => (if a3 = true then (app ([y1] : List Int) s1.1).bind fun x1 => some (x1) else (app s1.1 ([y1] : List Int)).bind fun x2 => some (x2))) else none).bind (fun j2 => some (j2))).bind (fun j3 => lt (IntKind.i64.wrap (s1.2 + 1)) fun y2 => some (.inl (j3, y2))) else some (.inr (s1.1))))) (([] : List Int), 0)).bind (fun j4 => some (j4))
theorem ref01_Put.le (k_ : Nat) (a1 : Int) (a2 : Int) (a3 : Bool) : Le (ref01_Put.g k_ a1 a2 a3) (ref01_Put.f a1 a2 a3) := by
 unfold ref01_Put.g ref01_Put.f
 repeat' (first | with_reducible refine le_loop fun _ => ?_ | with_reducible refine le_bind ?_ fun _ => ?_ | with_reducible refine le_ite ?_ ?_ | with_reducible refine le_lt fun _ => ?_ | with_reducible refine le_elim (fun _ => ?_) (fun _ => ?_) _ | with_reducible exact le_refl _)
/-! drawbridge/drawbridgeref16.number -/
noncomputable def ref16_number.f (a1 : Int) (a2 : Int) : Option ((List Int)) :=
  (ref01_Put.f a1 a2 true).bind fun r1 => some (r1)
set_option maxRecDepth 100000 in
set_option maxHeartbeats 4000000 in
theorem ref16_number.spc (a1 : Int) (ha1 : InR .u64 a1) (a2 : Int) (ha2 : InR .i64 a2) (r : (List Int)) (H : ref16_number.f a1 a2 = some r) : Spc Try.prog 31 [.int .u64 a1, .int .i64 a2] [] [] (fun (s : Value) => s) (fun s => [Val (Kd.osl (Kd.int .u8)) s r]) := by
 unfold ref16_number.f at H
 refine Spc.go Try.func31 rfl (by kernel_rfl) rfl rfl all_nil fun F a w h => ?_
 refine Go.seq ?_
 refine Go.reg ?_
 refine gs h (o_assign rfl) rfl fun _ _ _ h => ?_
 refine GoR.done ?_
 refine Go.seq ?_
 refine Go.reg ?_
 refine gs h (o_move rfl) rfl fun _ _ _ h => ?_
 refine gs h (o_move rfl) rfl fun _ _ _ h => ?_
 obtain ⟨r1, er1, H⟩ := bindE H
 refine gs h (o_call (ref01_Put.spc a1 ha1 a2 ha2 true r1 er1) rfl [] [] (by decide) rfl rfl) rfl fun v1 _ _ h => ?_
 refine gs h (o_assign rfl) rfl fun _ _ _ h => ?_
 refine GoR.done ?_
 rw [← som H]
 exact g_ret (vs := [v1]) h Try.func31 ⟨rfl, trivial⟩ ⟨v1, rfl, (h.mem.pick [0] (by decide) rfl)⟩
def ref16_number.g (k_ : Nat) (a1 : Int) (a2 : Int) : Option ((List Int)) :=
  (ref01_Put.g k_ a1 a2 true).bind fun r1 => some (r1)
theorem ref16_number.le (k_ : Nat) (a1 : Int) (a2 : Int) : Le (ref16_number.g k_ a1 a2) (ref16_number.f a1 a2) := by
 unfold ref16_number.g ref16_number.f
 repeat' (first | with_reducible refine le_loop fun _ => ?_ | with_reducible refine le_bind ?_ fun _ => ?_ | with_reducible refine le_ite ?_ ?_ | with_reducible refine le_lt fun _ => ?_ | with_reducible refine le_elim (fun _ => ?_) (fun _ => ?_) _ | with_reducible apply ref01_Put.le | with_reducible exact le_refl _)
end Go.Proofs.Ytplkiompmjhdlaa.S
