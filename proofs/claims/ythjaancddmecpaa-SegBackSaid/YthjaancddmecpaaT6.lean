/- Contracts, printed by a program of this session. -/
import Derived.Test.YthjaancddmecpaaT1
import Derived.Test.YthjaancddmecpaaT4
import Derived.Test.YthjaancddmecpaaT5
namespace Go.Proofs.Ythjaancddmecpaa.S
open Go Go.SL Go.RowKit
set_option linter.unusedVariables false
set_option linter.unusedSimpArgs false
/-! drawbridge/drawbridgelaw19.heads -/
noncomputable def law19_heads.f  : Option (Bool) :=
  (seg_Put.f (⟨80, 1024, 4294967295, 0, 2, 9, 1460, ([7] : List Int)⟩ : TSeg) 1 2).bind fun r1 => (seg_Get.f r1.1 1 2).bind fun r2 => (seg_Get.f r1.1 1 3).bind fun r3 => (cut r1.1 0 (IntKind.i64.wrap (Int.tdiv (r1.1.length : Int) 2))).bind fun x1 => (seg_Get.f x1 1 2).bind fun r4 => ((if decide (r1.2 = 0) = true then (if decide ((r1.1.length : Int) = 25) = true then (if decide (r2.2 = 0) = true then (ref19_Same.f ([(⟨80, 1024, 4294967295, 0, 2, 9, 1460, ([7] : List Int)⟩ : TSeg)] : List TSeg) ([r2.1] : List TSeg)).bind fun r5 => (if r5 = true then (if decide (r3.2 = 162) = true then (if decide (r4.2 = 160) = true then (seg_Less.f 4294967295 0).bind fun r6 => (if r6 = true then (seg_Less.f 0 0).bind fun r7 => (if (!r7) = true then (seg_Len.f (⟨80, 1024, 4294967295, 0, 2, 9, 1460, ([7] : List Int)⟩ : TSeg)).bind fun r8 => lt (decide (r8 = 2)) fun y1 => some (y1) else some (false)) else some (false)) else some (false)) else some (false)) else some (false)) else some (false)) else some (false)) else some (false))).bind (fun j1 => some (j1))
set_option maxRecDepth 100000 in
set_option maxHeartbeats 4000000 in
theorem law19_heads.spc  (r : Bool) (H : law19_heads.f  = some r) : Spc Try.prog 7 [] [] [] (fun (s : Unit) => .bool r) (fun s => []) := by
 unfold law19_heads.f at H
 refine Spc.go Try.func7 rfl (by kernel_rfl) rfl rfl all_nil fun F a w h => ?_
 refine Go.seq ?_
 refine Go.reg ?_
 refine gs h (o_assign rfl) rfl fun _ _ _ h => ?_
 refine GoR.done ?_
 refine Go.seq ?_
 refine Go.reg ?_
 refine gs h (o_bs (K := (Kd.int .u8)) (vs := [.int .u8 7]) (xs := ([7] : List Int)) rfl rfl (pvs_cons (pv_int (show InR .u8 7 by decide)) pvs_nil) t_a23 (by decide) (by decide)) rfl fun v1 _ _ h => ?_
 replace h := h.mm fun m => m.freeze 0 rfl
 refine gs h (o_build (K := KSeg) (x := (⟨80, 1024, 4294967295, 0, 2, 9, 1460, ([7] : List Int)⟩ : TSeg)) (ps := [(0, .int .i64 80), (1, .int .i64 1024), (2, .int .u32 4294967295), (4, .int .i64 2), (5, .int .i64 9), (6, .int .i64 1460), (7, v1)]) rfl (zs := zsSeg) rfl t_b25 rfl (show PB (Kd.pair (Kd.int .i64) (Kd.pair (Kd.int .i64) (Kd.pair (Kd.int .u32) (Kd.pair (Kd.int .u32) (Kd.pair (Kd.int .i64) (Kd.pair (Kd.int .i64) (Kd.pair (Kd.int .i64) (Kd.last (Kd.sl (Kd.int .u8)))))))))) (80, 1024, 4294967295, 0, 2, 9, 1460, ([7] : List Int)) 0 zsSeg _ _ from (pb_part (pv_int (show InR .i64 80 by decide)) rfl (pb_part (pv_int (show InR .i64 1024 by decide)) rfl (pb_part (pv_int (show InR .u32 4294967295 by decide)) rfl (pb_zero z_int (pb_part (pv_int (show InR .i64 2 by decide)) rfl (pb_part (pv_int (show InR .i64 9 by decide)) rfl (pb_part (pv_int (show InR .i64 1460 by decide)) rfl (pb_lastp (pv_at Per_sl 0 rfl) rfl)))))))))) rfl fun v2 _ _ h => ?_
 refine gs h (o_alloc (K := KSeg) (z := (.agg #[.int .i64 0, .int .i64 0, .int .u32 0, .int .u32 0, .int .i64 0, .int .i64 0, .int .i64 0, .slice none 0 0])) rfl ZSeg) rfl fun b1 _ _ h => ?_
 refine gs0 h (o_st 0 rfl rfl rfl (pv_at PSeg 1 rfl) rfl t_w25) fun _ _ _ h => ?_
 refine GoR.done ?_
 refine Go.seq ?_
 refine Go.reg ?_
 refine gs h (o_ldv 0 rfl rfl PSeg t_y25) rfl fun v3 _ _ h => ?_
 obtain ⟨r1, er1, H⟩ := bindE H
 refine gs h (o_call (seg_Put.spc v3 (⟨80, 1024, 4294967295, 0, 2, 9, 1460, ([7] : List Int)⟩ : TSeg) 1 (show InR .u32 1 by decide) 2 (show InR .u32 2 by decide) r1 er1) rfl [0] [] (by decide) rfl rfl) rfl fun v4 _ _ h => ?_
 have g1 := h.mem.pur 0 rfl
 refine gs h (o_move rfl) rfl fun _ _ _ h => ?_
 refine gs h (o_extract rfl rfl) rfl fun _ _ _ h => ?_
 refine gs h (o_extract rfl rfl) rfl fun _ _ _ h => ?_
 refine gs h (o_assign rfl) rfl fun _ _ _ h => ?_
 refine gs h (o_assign rfl) rfl fun _ _ _ h => ?_
 refine GoR.done ?_
 refine Go.seq ?_
 refine Go.reg ?_
 refine gs h (o_move rfl) rfl fun _ _ _ h => ?_
 replace h := h.mm fun m => m.freeze 1 rfl
 obtain ⟨r2, er2, H⟩ := bindE H
 refine gs h (o_call (seg_Get.spc v4 r1.1 1 (show InR .u32 1 by decide) 2 (show InR .u32 2 by decide) r2 er2) rfl [1] [] (by decide) rfl rfl) rfl fun v5 _ _ h => ?_
 have g2 := h.mem.pur 0 rfl
 refine gs h (o_move rfl) rfl fun _ _ _ h => ?_
 refine gs h (o_extract rfl rfl) rfl fun _ _ _ h => ?_
 refine gs h (o_extract rfl rfl) rfl fun _ _ _ h => ?_
 refine gs h (o_alloc (K := KSeg) (z := (.agg #[.int .i64 0, .int .i64 0, .int .u32 0, .int .u32 0, .int .i64 0, .int .i64 0, .int .i64 0, .slice none 0 0])) rfl ZSeg) rfl fun b2 _ _ h => ?_
 refine gs0 h (o_st 0 rfl rfl rfl (pv_at PSeg 2 rfl) rfl t_w25) fun _ _ _ h => ?_
 refine gs h (o_assign rfl) rfl fun _ _ _ h => ?_
 refine GoR.done ?_
 refine Go.seq ?_
 refine Go.reg ?_
 refine gs h (o_move rfl) rfl fun _ _ _ h => ?_
 obtain ⟨r3, er3, H⟩ := bindE H
 refine gs h (o_call (seg_Get.spc v4 r1.1 1 (show InR .u32 1 by decide) 3 (show InR .u32 3 by decide) r3 er3) rfl [4] [] (by decide) rfl rfl) rfl fun v6 _ _ h => ?_
 have g3 := h.mem.pur 0 rfl
 refine gs h (o_move rfl) rfl fun _ _ _ h => ?_
 refine gs h (o_extract rfl rfl) rfl fun _ _ _ h => ?_
 refine gs h (o_extract rfl rfl) rfl fun _ _ _ h => ?_
 refine gs h (o_alloc (K := KSeg) (z := (.agg #[.int .i64 0, .int .i64 0, .int .u32 0, .int .u32 0, .int .i64 0, .int .i64 0, .int .i64 0, .slice none 0 0])) rfl ZSeg) rfl fun b3 _ _ h => ?_
 refine gs0 h (o_st 0 rfl rfl rfl (pv_at PSeg 2 rfl) rfl t_w25) fun _ _ _ h => ?_
 refine gs h (o_assign rfl) rfl fun _ _ _ h => ?_
 refine GoR.done ?_
 refine Go.seq ?_
 refine Go.reg ?_
 refine gs h (o_move rfl) rfl fun _ _ _ h => ?_
 refine gs h (o_move rfl) rfl fun _ _ _ h => ?_
 have g4 := (len_at 7 rfl h.mem)
 refine gs h (o_ln rfl (rd_at 7 rfl) t_v23) rfl fun _ _ _ h => ?_
 refine gs h (o_quo rfl rfl (show (2 : Int) ≠ 0 by decide)) rfl fun _ _ _ h => ?_
 obtain ⟨x1, ex1, H⟩ := bindE H
 refine gs h (o_cuth rfl (pv_at Per_sl 7 rfl) rfl ex1 t_v23) rfl fun v7 _ _ h => ?_
 obtain ⟨r4, er4, H⟩ := bindE H
 refine gs h (o_call (seg_Get.spc v7 x1 1 (show InR .u32 1 by decide) 2 (show InR .u32 2 by decide) r4 er4) rfl [0] [] (by decide) rfl rfl) rfl fun v8 _ _ h => ?_
 have g5 := h.mem.pur 0 rfl
 refine gs h (o_move rfl) rfl fun _ _ _ h => ?_
 refine gs h (o_extract rfl rfl) rfl fun _ _ _ h => ?_
 refine gs h (o_extract rfl rfl) rfl fun _ _ _ h => ?_
 refine gs h (o_alloc (K := KSeg) (z := (.agg #[.int .i64 0, .int .i64 0, .int .u32 0, .int .u32 0, .int .i64 0, .int .i64 0, .int .i64 0, .slice none 0 0])) rfl ZSeg) rfl fun b4 _ _ h => ?_
 refine gs0 h (o_st 0 rfl rfl rfl (pv_at PSeg 2 rfl) rfl t_w25) fun _ _ _ h => ?_
 refine gs h (o_assign rfl) rfl fun _ _ _ h => ?_
 refine GoR.done ?_
 refine Go.seq ?_
 obtain ⟨o1, H, G1⟩ := bindE H
 refine g_cut (fun G => ∀ j1 (a : Act) (w : World), o1 = j1 → St Try.f7.ntmps F [(0, .bool j1)] [Fld KSeg b4 0 r4.1, Fld KSeg b3 0 r3.1, Fld KSeg b2 0 r2.1, Fld KSeg b1 0 (⟨80, 1024, 4294967295, 0, 2, 9, 1460, ([7] : List Int)⟩ : TSeg)] a w → G a w) 1 ?_ fun J1 => ?_
 ·intro j1 a w ho_ h
  rw [ho_] at G1
  have H := G1
  rw [← som H]
  exact g_ret (vs := [.bool j1]) h Try.func7 ⟨rfl, trivial⟩ ⟨(), rfl, (h.mem.pick [] (by decide) rfl)⟩
 refine Go.reg ?_
 refine gs h (o_move rfl) rfl fun _ _ _ h => ?_
 refine gs h (o_bin rfl rfl rfl) rfl fun _ _ _ h => ?_
 refine gs h (o_move rfl) rfl fun _ _ _ h => ?_
 by_cases c1 : decide (r1.2 = 0) = true
 ·have H := ifT c1 H
  refine gg h rfl rfl c1 (o_move rfl) rfl fun _ _ _ h => ?_
  have g6 := (len_at 11 rfl h.mem)
  refine gg h rfl rfl c1 (o_ln rfl (rd_at 11 rfl) t_v23) rfl fun _ _ _ h => ?_
  refine gg h rfl rfl c1 (o_bin rfl rfl rfl) rfl fun _ _ _ h => ?_
  refine gs h (o_pickT rfl rfl c1) rfl fun _ _ _ h => ?_
  refine gs h (o_move rfl) rfl fun _ _ _ h => ?_
  by_cases c2 : decide ((r1.1.length : Int) = 25) = true
  ·have H := ifT c2 H
   refine gg h rfl rfl c2 (o_move rfl) rfl fun _ _ _ h => ?_
   refine gg h rfl rfl c2 (o_bin rfl rfl rfl) rfl fun _ _ _ h => ?_
   refine gs h (o_pickT rfl rfl c2) rfl fun _ _ _ h => ?_
   refine gs h (o_move rfl) rfl fun _ _ _ h => ?_
   by_cases c3 : decide (r2.2 = 0) = true
   ·have H := ifT c3 H
    refine gg h rfl rfl c3 (o_ldv 13 rfl rfl PSeg t_y25) rfl fun v9 _ _ h => ?_
    refine gg h rfl rfl c3 (o_bs (K := KSeg) (vs := [v9]) (xs := ([(⟨80, 1024, 4294967295, 0, 2, 9, 1460, ([7] : List Int)⟩ : TSeg)] : List TSeg)) rfl rfl (pvs_cons (pv_at PSeg 0 rfl) pvs_nil) t_a38 (by decide) (by decide)) rfl fun v10 _ _ h => ?_
    refine gg h rfl rfl c3 (o_ldv 9 rfl rfl PSeg t_y25) rfl fun v11 _ _ h => ?_
    refine gg h rfl rfl c3 (o_bs (K := KSeg) (vs := [v11]) (xs := ([r2.1] : List TSeg)) rfl rfl (pvs_cons (pv_at PSeg 0 rfl) pvs_nil) t_a38 (by decide) (by decide)) rfl fun v12 _ _ h => ?_
    replace h := h.mm fun m => m.freeze 2 rfl
    replace h := h.mm fun m => m.freeze 0 rfl
    obtain ⟨r5, er5, H⟩ := bindE H
    refine gg h rfl rfl c3 (o_call (ref19_Same.spc v10 ([(⟨80, 1024, 4294967295, 0, 2, 9, 1460, ([7] : List Int)⟩ : TSeg)] : List TSeg) v12 ([r2.1] : List TSeg) r5 er5) rfl [2, 0] [] (by decide) rfl rfl) rfl fun _ _ _ h => ?_
    refine gs h (o_pickT rfl rfl c3) rfl fun _ _ _ h => ?_
    refine gs h (o_move rfl) rfl fun _ _ _ h => ?_
    by_cases c4 : r5 = true
    ·have H := ifT c4 H
     refine gg h rfl rfl c4 (o_move rfl) rfl fun _ _ _ h => ?_
     refine gg h rfl rfl c4 (o_bin rfl rfl rfl) rfl fun _ _ _ h => ?_
     refine gs h (o_pickT rfl rfl c4) rfl fun _ _ _ h => ?_
     refine gs h (o_move rfl) rfl fun _ _ _ h => ?_
     by_cases c5 : decide (r3.2 = 162) = true
     ·have H := ifT c5 H
      refine gg h rfl rfl c5 (o_move rfl) rfl fun _ _ _ h => ?_
      refine gg h rfl rfl c5 (o_bin rfl rfl rfl) rfl fun _ _ _ h => ?_
      refine gs h (o_pickT rfl rfl c5) rfl fun _ _ _ h => ?_
      refine gs h (o_move rfl) rfl fun _ _ _ h => ?_
      by_cases c6 : decide (r4.2 = 160) = true
      ·have H := ifT c6 H
       obtain ⟨r6, er6, H⟩ := bindE H
       refine gg h rfl rfl c6 (o_call (seg_Less.spc 4294967295 (show InR .u32 4294967295 by decide) 0 (show InR .u32 0 by decide) r6 er6) rfl [] [] (by decide) rfl rfl) rfl fun _ _ _ h => ?_
       refine gs h (o_pickT rfl rfl c6) rfl fun _ _ _ h => ?_
       refine gs h (o_move rfl) rfl fun _ _ _ h => ?_
       by_cases c7 : r6 = true
       ·have H := ifT c7 H
        obtain ⟨r7, er7, H⟩ := bindE H
        refine gg h rfl rfl c7 (o_call (seg_Less.spc 0 (show InR .u32 0 by decide) 0 (show InR .u32 0 by decide) r7 er7) rfl [] [] (by decide) rfl rfl) rfl fun _ _ _ h => ?_
        refine gg h rfl rfl c7 (o_not rfl) rfl fun _ _ _ h => ?_
        refine gs h (o_pickT rfl rfl c7) rfl fun _ _ _ h => ?_
        refine gs h (o_move rfl) rfl fun _ _ _ h => ?_
        by_cases c8 : (!r7) = true
        ·have H := ifT c8 H
         refine gg h rfl rfl c8 (o_ldv 17 rfl rfl PSeg t_y25) rfl fun v13 _ _ h => ?_
         obtain ⟨r8, er8, H⟩ := bindE H
         refine gg h rfl rfl c8 (o_call (seg_Len.spc v13 (⟨80, 1024, 4294967295, 0, 2, 9, 1460, ([7] : List Int)⟩ : TSeg) r8 er8) rfl [0] [] (by decide) rfl rfl) rfl fun _ _ _ h => ?_
         have g7 := h.mem.pur 0 rfl
         refine gg h rfl rfl c8 (o_bin rfl rfl rfl) rfl fun _ _ _ h => ?_
         refine gs h (o_pickT rfl rfl c8) rfl fun _ _ _ h => ?_
         obtain ⟨y1, ey1, H⟩ := ltE H
         refine gs h (o_assign' rfl (congrArg Value.bool ey1)) rfl fun _ _ _ h => ?_
         refine GoR.done ?_
         exact J1 y1 _ _ (som H).symm (h.wk (by rfl) [6, 10, 13, 19] (by decide) (by rfl))
        ·have H := ifF c8 H
         refine gk h rfl rfl (nb_f c8) rfl fun _ h => ?_
         refine gk h rfl rfl (nb_f c8) rfl fun _ h => ?_
         refine gk h rfl rfl (nb_f c8) rfl fun _ h => ?_
         refine gs h (o_pickF rfl rfl c8) rfl fun _ _ _ h => ?_
         refine gs h (o_assign rfl) rfl fun _ _ _ h => ?_
         refine GoR.done ?_
         exact J1 false _ _ (som H).symm (h.wk (by rfl) [4, 8, 11, 17] (by decide) (by rfl))
       ·have H := ifF c7 H
        refine gk h rfl rfl (nb_f c7) rfl fun _ h => ?_
        refine gk h rfl rfl (nb_f c7) rfl fun _ h => ?_
        refine gs h (o_pickF rfl rfl c7) rfl fun _ _ _ h => ?_
        refine gs h (o_move rfl) rfl fun _ _ _ h => ?_
        refine gk h rfl rfl (nb_f Bool.false_ne_true) rfl fun _ h => ?_
        refine gk h rfl rfl (nb_f Bool.false_ne_true) rfl fun _ h => ?_
        refine gk h rfl rfl (nb_f Bool.false_ne_true) rfl fun _ h => ?_
        refine gs h (o_pickF rfl rfl Bool.false_ne_true) rfl fun _ _ _ h => ?_
        refine gs h (o_assign rfl) rfl fun _ _ _ h => ?_
        refine GoR.done ?_
        exact J1 false _ _ (som H).symm (h.wk (by rfl) [4, 8, 11, 17] (by decide) (by rfl))
      ·have H := ifF c6 H
       refine gk h rfl rfl (nb_f c6) rfl fun _ h => ?_
       refine gs h (o_pickF rfl rfl c6) rfl fun _ _ _ h => ?_
       refine gs h (o_move rfl) rfl fun _ _ _ h => ?_
       refine gk h rfl rfl (nb_f Bool.false_ne_true) rfl fun _ h => ?_
       refine gk h rfl rfl (nb_f Bool.false_ne_true) rfl fun _ h => ?_
       refine gs h (o_pickF rfl rfl Bool.false_ne_true) rfl fun _ _ _ h => ?_
       refine gs h (o_move rfl) rfl fun _ _ _ h => ?_
       refine gk h rfl rfl (nb_f Bool.false_ne_true) rfl fun _ h => ?_
       refine gk h rfl rfl (nb_f Bool.false_ne_true) rfl fun _ h => ?_
       refine gk h rfl rfl (nb_f Bool.false_ne_true) rfl fun _ h => ?_
       refine gs h (o_pickF rfl rfl Bool.false_ne_true) rfl fun _ _ _ h => ?_
       refine gs h (o_assign rfl) rfl fun _ _ _ h => ?_
       refine GoR.done ?_
       exact J1 false _ _ (som H).symm (h.wk (by rfl) [4, 8, 11, 17] (by decide) (by rfl))
     ·have H := ifF c5 H
      refine gk h rfl rfl (nb_f c5) rfl fun _ h => ?_
      refine gk h rfl rfl (nb_f c5) rfl fun _ h => ?_
      refine gs h (o_pickF rfl rfl c5) rfl fun _ _ _ h => ?_
      refine gs h (o_move rfl) rfl fun _ _ _ h => ?_
      refine gk h rfl rfl (nb_f Bool.false_ne_true) rfl fun _ h => ?_
      refine gs h (o_pickF rfl rfl Bool.false_ne_true) rfl fun _ _ _ h => ?_
      refine gs h (o_move rfl) rfl fun _ _ _ h => ?_
      refine gk h rfl rfl (nb_f Bool.false_ne_true) rfl fun _ h => ?_
      refine gk h rfl rfl (nb_f Bool.false_ne_true) rfl fun _ h => ?_
      refine gs h (o_pickF rfl rfl Bool.false_ne_true) rfl fun _ _ _ h => ?_
      refine gs h (o_move rfl) rfl fun _ _ _ h => ?_
      refine gk h rfl rfl (nb_f Bool.false_ne_true) rfl fun _ h => ?_
      refine gk h rfl rfl (nb_f Bool.false_ne_true) rfl fun _ h => ?_
      refine gk h rfl rfl (nb_f Bool.false_ne_true) rfl fun _ h => ?_
      refine gs h (o_pickF rfl rfl Bool.false_ne_true) rfl fun _ _ _ h => ?_
      refine gs h (o_assign rfl) rfl fun _ _ _ h => ?_
      refine GoR.done ?_
      exact J1 false _ _ (som H).symm (h.wk (by rfl) [4, 8, 11, 17] (by decide) (by rfl))
    ·have H := ifF c4 H
     refine gk h rfl rfl (nb_f c4) rfl fun _ h => ?_
     refine gk h rfl rfl (nb_f c4) rfl fun _ h => ?_
     refine gs h (o_pickF rfl rfl c4) rfl fun _ _ _ h => ?_
     refine gs h (o_move rfl) rfl fun _ _ _ h => ?_
     refine gk h rfl rfl (nb_f Bool.false_ne_true) rfl fun _ h => ?_
     refine gk h rfl rfl (nb_f Bool.false_ne_true) rfl fun _ h => ?_
     refine gs h (o_pickF rfl rfl Bool.false_ne_true) rfl fun _ _ _ h => ?_
     refine gs h (o_move rfl) rfl fun _ _ _ h => ?_
     refine gk h rfl rfl (nb_f Bool.false_ne_true) rfl fun _ h => ?_
     refine gs h (o_pickF rfl rfl Bool.false_ne_true) rfl fun _ _ _ h => ?_
     refine gs h (o_move rfl) rfl fun _ _ _ h => ?_
     refine gk h rfl rfl (nb_f Bool.false_ne_true) rfl fun _ h => ?_
     refine gk h rfl rfl (nb_f Bool.false_ne_true) rfl fun _ h => ?_
     refine gs h (o_pickF rfl rfl Bool.false_ne_true) rfl fun _ _ _ h => ?_
     refine gs h (o_move rfl) rfl fun _ _ _ h => ?_
     refine gk h rfl rfl (nb_f Bool.false_ne_true) rfl fun _ h => ?_
     refine gk h rfl rfl (nb_f Bool.false_ne_true) rfl fun _ h => ?_
     refine gk h rfl rfl (nb_f Bool.false_ne_true) rfl fun _ h => ?_
     refine gs h (o_pickF rfl rfl Bool.false_ne_true) rfl fun _ _ _ h => ?_
     refine gs h (o_assign rfl) rfl fun _ _ _ h => ?_
     refine GoR.done ?_
     exact J1 false _ _ (som H).symm (h.wk (by rfl) [4, 8, 11, 17] (by decide) (by rfl))
   ·have H := ifF c3 H
    refine gk h rfl rfl (nb_f c3) rfl fun _ h => ?_
    refine gk h rfl rfl (nb_f c3) rfl fun _ h => ?_
    refine gk h rfl rfl (nb_f c3) rfl fun _ h => ?_
    refine gk h rfl rfl (nb_f c3) rfl fun _ h => ?_
    refine gk h rfl rfl (nb_f c3) rfl fun _ h => ?_
    refine gs h (o_pickF rfl rfl c3) rfl fun _ _ _ h => ?_
    refine gs h (o_move rfl) rfl fun _ _ _ h => ?_
    refine gk h rfl rfl (nb_f Bool.false_ne_true) rfl fun _ h => ?_
    refine gk h rfl rfl (nb_f Bool.false_ne_true) rfl fun _ h => ?_
    refine gs h (o_pickF rfl rfl Bool.false_ne_true) rfl fun _ _ _ h => ?_
    refine gs h (o_move rfl) rfl fun _ _ _ h => ?_
    refine gk h rfl rfl (nb_f Bool.false_ne_true) rfl fun _ h => ?_
    refine gk h rfl rfl (nb_f Bool.false_ne_true) rfl fun _ h => ?_
    refine gs h (o_pickF rfl rfl Bool.false_ne_true) rfl fun _ _ _ h => ?_
    refine gs h (o_move rfl) rfl fun _ _ _ h => ?_
    refine gk h rfl rfl (nb_f Bool.false_ne_true) rfl fun _ h => ?_
    refine gs h (o_pickF rfl rfl Bool.false_ne_true) rfl fun _ _ _ h => ?_
    refine gs h (o_move rfl) rfl fun _ _ _ h => ?_
    refine gk h rfl rfl (nb_f Bool.false_ne_true) rfl fun _ h => ?_
    refine gk h rfl rfl (nb_f Bool.false_ne_true) rfl fun _ h => ?_
    refine gs h (o_pickF rfl rfl Bool.false_ne_true) rfl fun _ _ _ h => ?_
    refine gs h (o_move rfl) rfl fun _ _ _ h => ?_
    refine gk h rfl rfl (nb_f Bool.false_ne_true) rfl fun _ h => ?_
    refine gk h rfl rfl (nb_f Bool.false_ne_true) rfl fun _ h => ?_
    refine gk h rfl rfl (nb_f Bool.false_ne_true) rfl fun _ h => ?_
    refine gs h (o_pickF rfl rfl Bool.false_ne_true) rfl fun _ _ _ h => ?_
    refine gs h (o_assign rfl) rfl fun _ _ _ h => ?_
    refine GoR.done ?_
    exact J1 false _ _ (som H).symm (h.wk (by rfl) [0, 4, 7, 13] (by decide) (by rfl))
  ·have H := ifF c2 H
   refine gk h rfl rfl (nb_f c2) rfl fun _ h => ?_
   refine gk h rfl rfl (nb_f c2) rfl fun _ h => ?_
   refine gs h (o_pickF rfl rfl c2) rfl fun _ _ _ h => ?_
   refine gs h (o_move rfl) rfl fun _ _ _ h => ?_
   refine gk h rfl rfl (nb_f Bool.false_ne_true) rfl fun _ h => ?_
   refine gk h rfl rfl (nb_f Bool.false_ne_true) rfl fun _ h => ?_
   refine gk h rfl rfl (nb_f Bool.false_ne_true) rfl fun _ h => ?_
   refine gk h rfl rfl (nb_f Bool.false_ne_true) rfl fun _ h => ?_
   refine gk h rfl rfl (nb_f Bool.false_ne_true) rfl fun _ h => ?_
   refine gs h (o_pickF rfl rfl Bool.false_ne_true) rfl fun _ _ _ h => ?_
   refine gs h (o_move rfl) rfl fun _ _ _ h => ?_
   refine gk h rfl rfl (nb_f Bool.false_ne_true) rfl fun _ h => ?_
   refine gk h rfl rfl (nb_f Bool.false_ne_true) rfl fun _ h => ?_
   refine gs h (o_pickF rfl rfl Bool.false_ne_true) rfl fun _ _ _ h => ?_
   refine gs h (o_move rfl) rfl fun _ _ _ h => ?_
   refine gk h rfl rfl (nb_f Bool.false_ne_true) rfl fun _ h => ?_
   refine gk h rfl rfl (nb_f Bool.false_ne_true) rfl fun _ h => ?_
   refine gs h (o_pickF rfl rfl Bool.false_ne_true) rfl fun _ _ _ h => ?_
   refine gs h (o_move rfl) rfl fun _ _ _ h => ?_
   refine gk h rfl rfl (nb_f Bool.false_ne_true) rfl fun _ h => ?_
   refine gs h (o_pickF rfl rfl Bool.false_ne_true) rfl fun _ _ _ h => ?_
   refine gs h (o_move rfl) rfl fun _ _ _ h => ?_
   refine gk h rfl rfl (nb_f Bool.false_ne_true) rfl fun _ h => ?_
   refine gk h rfl rfl (nb_f Bool.false_ne_true) rfl fun _ h => ?_
   refine gs h (o_pickF rfl rfl Bool.false_ne_true) rfl fun _ _ _ h => ?_
   refine gs h (o_move rfl) rfl fun _ _ _ h => ?_
   refine gk h rfl rfl (nb_f Bool.false_ne_true) rfl fun _ h => ?_
   refine gk h rfl rfl (nb_f Bool.false_ne_true) rfl fun _ h => ?_
   refine gk h rfl rfl (nb_f Bool.false_ne_true) rfl fun _ h => ?_
   refine gs h (o_pickF rfl rfl Bool.false_ne_true) rfl fun _ _ _ h => ?_
   refine gs h (o_assign rfl) rfl fun _ _ _ h => ?_
   refine GoR.done ?_
   exact J1 false _ _ (som H).symm (h.wk (by rfl) [0, 4, 7, 13] (by decide) (by rfl))
 ·have H := ifF c1 H
  refine gk h rfl rfl (nb_f c1) rfl fun _ h => ?_
  refine gk h rfl rfl (nb_f c1) rfl fun _ h => ?_
  refine gk h rfl rfl (nb_f c1) rfl fun _ h => ?_
  refine gs h (o_pickF rfl rfl c1) rfl fun _ _ _ h => ?_
  refine gs h (o_move rfl) rfl fun _ _ _ h => ?_
  refine gk h rfl rfl (nb_f Bool.false_ne_true) rfl fun _ h => ?_
  refine gk h rfl rfl (nb_f Bool.false_ne_true) rfl fun _ h => ?_
  refine gs h (o_pickF rfl rfl Bool.false_ne_true) rfl fun _ _ _ h => ?_
  refine gs h (o_move rfl) rfl fun _ _ _ h => ?_
  refine gk h rfl rfl (nb_f Bool.false_ne_true) rfl fun _ h => ?_
  refine gk h rfl rfl (nb_f Bool.false_ne_true) rfl fun _ h => ?_
  refine gk h rfl rfl (nb_f Bool.false_ne_true) rfl fun _ h => ?_
  refine gk h rfl rfl (nb_f Bool.false_ne_true) rfl fun _ h => ?_
  refine gk h rfl rfl (nb_f Bool.false_ne_true) rfl fun _ h => ?_
  refine gs h (o_pickF rfl rfl Bool.false_ne_true) rfl fun _ _ _ h => ?_
  refine gs h (o_move rfl) rfl fun _ _ _ h => ?_
  refine gk h rfl rfl (nb_f Bool.false_ne_true) rfl fun _ h => ?_
  refine gk h rfl rfl (nb_f Bool.false_ne_true) rfl fun _ h => ?_
  refine gs h (o_pickF rfl rfl Bool.false_ne_true) rfl fun _ _ _ h => ?_
  refine gs h (o_move rfl) rfl fun _ _ _ h => ?_
  refine gk h rfl rfl (nb_f Bool.false_ne_true) rfl fun _ h => ?_
  refine gk h rfl rfl (nb_f Bool.false_ne_true) rfl fun _ h => ?_
  refine gs h (o_pickF rfl rfl Bool.false_ne_true) rfl fun _ _ _ h => ?_
  refine gs h (o_move rfl) rfl fun _ _ _ h => ?_
  refine gk h rfl rfl (nb_f Bool.false_ne_true) rfl fun _ h => ?_
  refine gs h (o_pickF rfl rfl Bool.false_ne_true) rfl fun _ _ _ h => ?_
  refine gs h (o_move rfl) rfl fun _ _ _ h => ?_
  refine gk h rfl rfl (nb_f Bool.false_ne_true) rfl fun _ h => ?_
  refine gk h rfl rfl (nb_f Bool.false_ne_true) rfl fun _ h => ?_
  refine gs h (o_pickF rfl rfl Bool.false_ne_true) rfl fun _ _ _ h => ?_
  refine gs h (o_move rfl) rfl fun _ _ _ h => ?_
  refine gk h rfl rfl (nb_f Bool.false_ne_true) rfl fun _ h => ?_
  refine gk h rfl rfl (nb_f Bool.false_ne_true) rfl fun _ h => ?_
  refine gk h rfl rfl (nb_f Bool.false_ne_true) rfl fun _ h => ?_
  refine gs h (o_pickF rfl rfl Bool.false_ne_true) rfl fun _ _ _ h => ?_
  refine gs h (o_assign rfl) rfl fun _ _ _ h => ?_
  refine GoR.done ?_
  exact J1 false _ _ (som H).symm (h.wk (by rfl) [0, 4, 7, 13] (by decide) (by rfl))
def law19_heads.g (k_ : Nat)  : Option (Bool) :=
  (seg_Put.g k_ (⟨80, 1024, 4294967295, 0, 2, 9, 1460, ([7] : List Int)⟩ : TSeg) 1 2).bind fun r1 => (seg_Get.g k_ r1.1 1 2).bind fun r2 => (seg_Get.g k_ r1.1 1 3).bind fun r3 => (cut r1.1 0 (IntKind.i64.wrap (Int.tdiv (r1.1.length : Int) 2))).bind fun x1 => (seg_Get.g k_ x1 1 2).bind fun r4 => ((if decide (r1.2 = 0) = true then (if decide ((r1.1.length : Int) = 25) = true then (if decide (r2.2 = 0) = true then (ref19_Same.g k_ ([(⟨80, 1024, 4294967295, 0, 2, 9, 1460, ([7] : List Int)⟩ : TSeg)] : List TSeg) ([r2.1] : List TSeg)).bind fun r5 => (if r5 = true then (if decide (r3.2 = 162) = true then (if decide (r4.2 = 160) = true then (seg_Less.g k_ 4294967295 0).bind fun r6 => (if r6 = true then (seg_Less.g k_ 0 0).bind fun r7 => (if (!r7) = true then (seg_Len.g k_ (⟨80, 1024, 4294967295, 0, 2, 9, 1460, ([7] : List Int)⟩ : TSeg)).bind fun r8 => lt (decide (r8 = 2)) fun y1 => some (y1) else some (false)) else some (false)) else some (false)) else some (false)) else some (false)) else some (false)) else some (false)) else some (false))).bind (fun j1 => some (j1))
theorem law19_heads.le (k_ : Nat)  : Le (law19_heads.g k_ ) (law19_heads.f ) := by
 unfold law19_heads.g law19_heads.f
 repeat' (first | with_reducible refine le_loop fun _ => ?_ | with_reducible refine le_bind ?_ fun _ => ?_ | with_reducible refine le_ite ?_ ?_ | with_reducible refine le_lt fun _ => ?_ | with_reducible refine le_elim (fun _ => ?_) (fun _ => ?_) _ | with_reducible apply ref19_Same.le | with_reducible apply seg_Get.le | with_reducible apply seg_Len.le | with_reducible apply seg_Less.le | with_reducible apply seg_Put.le | with_reducible exact le_refl _)
/-! drawbridge/drawbridgelaw19.SegOrder -/
noncomputable def law19_SegOrder.f (a1 : Int) (a2 : Int) (a3 : Int) : Option (Bool) :=
  (seg_Less.f a1 a2).bind fun r1 => (seg_Less.f a2 a1).bind fun r2 => ((if r1 = true then (if r2 = true then some (true) else (if (!r1) = true then (if (!r2) = true then (if (!decide (a1 = a2)) = true then (if (!decide ((IntKind.u32.wrap (a2 - a1)) = 2147483648)) = true then some (true) else some (false)) else some (r1)) else some (true)) else (if decide (a1 = a2) = true then some (r1) else some (false)))) else (if (!r1) = true then (if (!r2) = true then (if (!decide (a1 = a2)) = true then (if (!decide ((IntKind.u32.wrap (a2 - a1)) = 2147483648)) = true then some (true) else some (false)) else some (r1)) else (if decide (a1 = a2) = true then some (r1) else some (false))) else (if decide (a1 = a2) = true then some (r1) else some (false))))).bind (fun j1 => (if j1 = true then some (false) else ((seg_Less.f a1 (IntKind.u32.wrap (a1 + a3))).bind fun r3 => (if decide (1 ≤ a3) = true then (if (r3 == (decide (a3 < 2147483648))) = true then (seg_Less.f (IntKind.u32.wrap (a1 + a3)) (IntKind.u32.wrap (a2 + a3))).bind fun r4 => (if (r4 == r1) = true then (law19_heads.f).bind fun r5 => some (r5) else some (false)) else some (false)) else (if (r3 == false) = true then (seg_Less.f (IntKind.u32.wrap (a1 + a3)) (IntKind.u32.wrap (a2 + a3))).bind fun r6 => (if (r6 == r1) = true then (law19_heads.f).bind fun r7 => some (r7) else some (false)) else some (false)))).bind (fun j2 => some (j2))))
set_option maxRecDepth 100000 in
set_option maxHeartbeats 4000000 in
theorem law19_SegOrder.spc (a1 : Int) (ha1 : InR .u32 a1) (a2 : Int) (ha2 : InR .u32 a2) (a3 : Int) (ha3 : InR .u32 a3) (r : Bool) (H : law19_SegOrder.f a1 a2 a3 = some r) : Spc Try.prog 5 [.int .u32 a1, .int .u32 a2, .int .u32 a3] [] [] (fun (s : Unit) => .bool r) (fun s => []) := by
 unfold law19_SegOrder.f at H
 refine Spc.go Try.func5 rfl (by kernel_rfl) rfl rfl all_nil fun F a w h => ?_
 refine Go.seq ?_
 refine Go.reg ?_
 refine gs h (o_assign rfl) rfl fun _ _ _ h => ?_
 refine GoR.done ?_
 refine Go.seq ?_
 refine Go.reg ?_
 refine gs h (o_move rfl) rfl fun _ _ _ h => ?_
 refine gs h (o_move rfl) rfl fun _ _ _ h => ?_
 obtain ⟨r1, er1, H⟩ := bindE H
 refine gs h (o_call (seg_Less.spc a1 ha1 a2 ha2 r1 er1) rfl [] [] (by decide) rfl rfl) rfl fun _ _ _ h => ?_
 refine gs h (o_move rfl) rfl fun _ _ _ h => ?_
 refine gs h (o_move rfl) rfl fun _ _ _ h => ?_
 obtain ⟨r2, er2, H⟩ := bindE H
 refine gs h (o_call (seg_Less.spc a2 ha2 a1 ha1 r2 er2) rfl [] [] (by decide) rfl rfl) rfl fun _ _ _ h => ?_
 refine gs h (o_assign rfl) rfl fun _ _ _ h => ?_
 refine gs h (o_assign rfl) rfl fun _ _ _ h => ?_
 refine GoR.done ?_
 refine Go.seq ?_
 refine Go.seq ?_
 obtain ⟨o1, H, G1⟩ := bindE H
 refine g_cut (fun G => ∀ j1 (a : Act) (w : World), o1 = j1 → St Try.f5.ntmps F [(0, .int .u32 a1), (1, .int .u32 a2), (2, .int .u32 a3), (7, .bool r1), (45, .bool j1)] [] a w → G a w) 1 ?_ fun J1 => ?_
 ·intro j1 a w ho_ h
  rw [ho_] at G1
  have H := G1
  by_cases c14 : j1 = true
  ·have H := ifT c14 H
   refine g_t h rfl c14 ?_
   refine Go.seq ?_
   refine Go.reg ?_
   refine gs h (o_assign rfl) rfl fun _ _ _ h => ?_
   refine GoR.done ?_
   rw [← som H]
   exact g_ret (vs := [.bool false]) h Try.func5 ⟨rfl, trivial⟩ ⟨(), rfl, (h.mem.pick [] (by decide) rfl)⟩
  ·have H := ifF c14 H
   refine g_f h rfl c14 ?_
   refine Go.skip ?_
   refine Go.seq ?_
   obtain ⟨o2, H, G2⟩ := bindE H
   refine g_cut (fun G => ∀ j2 (a : Act) (w : World), o2 = j2 → St Try.f5.ntmps F [(6, .bool j2)] [] a w → G a w) 1 ?_ fun J2 => ?_
   ·intro j2 a w ho_ h
    rw [ho_] at G2
    have H := G2
    rw [← som H]
    exact g_ret (vs := [.bool j2]) h Try.func5 ⟨rfl, trivial⟩ ⟨(), rfl, (h.mem.pick [] (by decide) rfl)⟩
   refine Go.reg ?_
   refine gs h (o_move rfl) rfl fun _ _ _ h => ?_
   refine gs h (o_move rfl) rfl fun _ _ _ h => ?_
   refine gs h (o_move rfl) rfl fun _ _ _ h => ?_
   refine gs h (o_bin rfl rfl rfl) rfl fun _ _ _ h => ?_
   obtain ⟨r3, er3, H⟩ := bindE H
   refine gs h (o_call (seg_Less.spc a1 ha1 (IntKind.u32.wrap (a1 + a3)) (wrap_in _ _) r3 er3) rfl [] [] (by decide) rfl rfl) rfl fun _ _ _ h => ?_
   refine gs h (o_move rfl) rfl fun _ _ _ h => ?_
   refine gs h (o_bin rfl rfl rfl) rfl fun _ _ _ h => ?_
   refine gs h (o_move rfl) rfl fun _ _ _ h => ?_
   by_cases c15 : decide (1 ≤ a3) = true
   ·have H := ifT c15 H
    refine gg h rfl rfl c15 (o_move rfl) rfl fun _ _ _ h => ?_
    refine gg h rfl rfl c15 (o_bin rfl rfl rfl) rfl fun _ _ _ h => ?_
    refine gs h (o_pickT rfl rfl c15) rfl fun _ _ _ h => ?_
    refine gs h (o_eqb rfl rfl t_u4) rfl fun _ _ _ h => ?_
    refine gs h (o_move rfl) rfl fun _ _ _ h => ?_
    by_cases c16 : (r3 == (decide (a3 < 2147483648))) = true
    ·have H := ifT c16 H
     refine gg h rfl rfl c16 (o_move rfl) rfl fun _ _ _ h => ?_
     refine gg h rfl rfl c16 (o_move rfl) rfl fun _ _ _ h => ?_
     refine gg h rfl rfl c16 (o_bin rfl rfl rfl) rfl fun _ _ _ h => ?_
     refine gg h rfl rfl c16 (o_move rfl) rfl fun _ _ _ h => ?_
     refine gg h rfl rfl c16 (o_move rfl) rfl fun _ _ _ h => ?_
     refine gg h rfl rfl c16 (o_bin rfl rfl rfl) rfl fun _ _ _ h => ?_
     obtain ⟨r4, er4, H⟩ := bindE H
     refine gg h rfl rfl c16 (o_call (seg_Less.spc (IntKind.u32.wrap (a1 + a3)) (wrap_in _ _) (IntKind.u32.wrap (a2 + a3)) (wrap_in _ _) r4 er4) rfl [] [] (by decide) rfl rfl) rfl fun _ _ _ h => ?_
     refine gg h rfl rfl c16 (o_move rfl) rfl fun _ _ _ h => ?_
     refine gg h rfl rfl c16 (o_eqb rfl rfl t_u4) rfl fun _ _ _ h => ?_
     refine gs h (o_pickT rfl rfl c16) rfl fun _ _ _ h => ?_
     refine gs h (o_move rfl) rfl fun _ _ _ h => ?_
     by_cases c17 : (r4 == r1) = true
     ·have H := ifT c17 H
      obtain ⟨r5, er5, H⟩ := bindE H
      refine gg h rfl rfl c17 (o_call (law19_heads.spc  r5 er5) rfl [] [] (by decide) rfl rfl) rfl fun _ _ _ h => ?_
      refine gs h (o_pickT rfl rfl c17) rfl fun _ _ _ h => ?_
      refine gs h (o_assign rfl) rfl fun _ _ _ h => ?_
      refine GoR.done ?_
      exact J2 r5 _ _ (som H).symm (h.wk (by rfl) [] (by decide) (by rfl))
     ·have H := ifF c17 H
      refine gk h rfl rfl (nb_f c17) rfl fun _ h => ?_
      refine gs h (o_pickF rfl rfl c17) rfl fun _ _ _ h => ?_
      refine gs h (o_assign rfl) rfl fun _ _ _ h => ?_
      refine GoR.done ?_
      exact J2 false _ _ (som H).symm (h.wk (by rfl) [] (by decide) (by rfl))
    ·have H := ifF c16 H
     refine gk h rfl rfl (nb_f c16) rfl fun _ h => ?_
     refine gk h rfl rfl (nb_f c16) rfl fun _ h => ?_
     refine gk h rfl rfl (nb_f c16) rfl fun _ h => ?_
     refine gk h rfl rfl (nb_f c16) rfl fun _ h => ?_
     refine gk h rfl rfl (nb_f c16) rfl fun _ h => ?_
     refine gk h rfl rfl (nb_f c16) rfl fun _ h => ?_
     refine gk h rfl rfl (nb_f c16) rfl fun _ h => ?_
     refine gk h rfl rfl (nb_f c16) rfl fun _ h => ?_
     refine gk h rfl rfl (nb_f c16) rfl fun _ h => ?_
     refine gs h (o_pickF rfl rfl c16) rfl fun _ _ _ h => ?_
     refine gs h (o_move rfl) rfl fun _ _ _ h => ?_
     refine gk h rfl rfl (nb_f Bool.false_ne_true) rfl fun _ h => ?_
     refine gs h (o_pickF rfl rfl Bool.false_ne_true) rfl fun _ _ _ h => ?_
     refine gs h (o_assign rfl) rfl fun _ _ _ h => ?_
     refine GoR.done ?_
     exact J2 false _ _ (som H).symm (h.wk (by rfl) [] (by decide) (by rfl))
   ·have H := ifF c15 H
    refine gk h rfl rfl (nb_f c15) rfl fun _ h => ?_
    refine gk h rfl rfl (nb_f c15) rfl fun _ h => ?_
    refine gs h (o_pickF rfl rfl c15) rfl fun _ _ _ h => ?_
    refine gs h (o_eqb rfl rfl t_u4) rfl fun _ _ _ h => ?_
    refine gs h (o_move rfl) rfl fun _ _ _ h => ?_
    by_cases c18 : (r3 == false) = true
    ·have H := ifT c18 H
     refine gg h rfl rfl c18 (o_move rfl) rfl fun _ _ _ h => ?_
     refine gg h rfl rfl c18 (o_move rfl) rfl fun _ _ _ h => ?_
     refine gg h rfl rfl c18 (o_bin rfl rfl rfl) rfl fun _ _ _ h => ?_
     refine gg h rfl rfl c18 (o_move rfl) rfl fun _ _ _ h => ?_
     refine gg h rfl rfl c18 (o_move rfl) rfl fun _ _ _ h => ?_
     refine gg h rfl rfl c18 (o_bin rfl rfl rfl) rfl fun _ _ _ h => ?_
     obtain ⟨r6, er6, H⟩ := bindE H
     refine gg h rfl rfl c18 (o_call (seg_Less.spc (IntKind.u32.wrap (a1 + a3)) (wrap_in _ _) (IntKind.u32.wrap (a2 + a3)) (wrap_in _ _) r6 er6) rfl [] [] (by decide) rfl rfl) rfl fun _ _ _ h => ?_
     refine gg h rfl rfl c18 (o_move rfl) rfl fun _ _ _ h => ?_
     refine gg h rfl rfl c18 (o_eqb rfl rfl t_u4) rfl fun _ _ _ h => ?_
     refine gs h (o_pickT rfl rfl c18) rfl fun _ _ _ h => ?_
     refine gs h (o_move rfl) rfl fun _ _ _ h => ?_
     by_cases c19 : (r6 == r1) = true
     ·have H := ifT c19 H
      obtain ⟨r7, er7, H⟩ := bindE H
      refine gg h rfl rfl c19 (o_call (law19_heads.spc  r7 er7) rfl [] [] (by decide) rfl rfl) rfl fun _ _ _ h => ?_
      refine gs h (o_pickT rfl rfl c19) rfl fun _ _ _ h => ?_
      refine gs h (o_assign rfl) rfl fun _ _ _ h => ?_
      refine GoR.done ?_
      exact J2 r7 _ _ (som H).symm (h.wk (by rfl) [] (by decide) (by rfl))
     ·have H := ifF c19 H
      refine gk h rfl rfl (nb_f c19) rfl fun _ h => ?_
      refine gs h (o_pickF rfl rfl c19) rfl fun _ _ _ h => ?_
      refine gs h (o_assign rfl) rfl fun _ _ _ h => ?_
      refine GoR.done ?_
      exact J2 false _ _ (som H).symm (h.wk (by rfl) [] (by decide) (by rfl))
    ·have H := ifF c18 H
     refine gk h rfl rfl (nb_f c18) rfl fun _ h => ?_
     refine gk h rfl rfl (nb_f c18) rfl fun _ h => ?_
     refine gk h rfl rfl (nb_f c18) rfl fun _ h => ?_
     refine gk h rfl rfl (nb_f c18) rfl fun _ h => ?_
     refine gk h rfl rfl (nb_f c18) rfl fun _ h => ?_
     refine gk h rfl rfl (nb_f c18) rfl fun _ h => ?_
     refine gk h rfl rfl (nb_f c18) rfl fun _ h => ?_
     refine gk h rfl rfl (nb_f c18) rfl fun _ h => ?_
     refine gk h rfl rfl (nb_f c18) rfl fun _ h => ?_
     refine gs h (o_pickF rfl rfl c18) rfl fun _ _ _ h => ?_
     refine gs h (o_move rfl) rfl fun _ _ _ h => ?_
     refine gk h rfl rfl (nb_f Bool.false_ne_true) rfl fun _ h => ?_
     refine gs h (o_pickF rfl rfl Bool.false_ne_true) rfl fun _ _ _ h => ?_
     refine gs h (o_assign rfl) rfl fun _ _ _ h => ?_
     refine GoR.done ?_
     exact J2 false _ _ (som H).symm (h.wk (by rfl) [] (by decide) (by rfl))
 refine Go.reg ?_
 refine gs h (o_move rfl) rfl fun _ _ _ h => ?_
 refine gs h (o_move rfl) rfl fun _ _ _ h => ?_
 by_cases c1 : r1 = true
 ·have H := ifT c1 H
  refine gg h rfl rfl c1 (o_move rfl) rfl fun _ _ _ h => ?_
  refine gs h (o_pickT rfl rfl c1) rfl fun _ _ _ h => ?_
  refine gs h (o_move rfl) rfl fun _ _ _ h => ?_
  by_cases c2 : r2 = true
  ·have H := ifT c2 H
   refine gk h rfl rfl (nb_t c2) rfl fun _ h => ?_
   refine gk h rfl rfl (nb_t c2) rfl fun _ h => ?_
   refine gk h rfl rfl (nb_t c2) rfl fun _ h => ?_
   refine gk h rfl rfl rfl rfl fun _ h => ?_
   refine gk h rfl rfl rfl rfl fun _ h => ?_
   refine gk h rfl rfl (nb_t c2) rfl fun _ h => ?_
   refine gk h rfl rfl (nb_t c2) rfl fun _ h => ?_
   refine gk h rfl rfl rfl rfl fun _ h => ?_
   refine gk h rfl rfl rfl rfl fun _ h => ?_
   refine gk h rfl rfl rfl rfl fun _ h => ?_
   refine gk h rfl rfl (nb_t c2) rfl fun _ h => ?_
   refine gk h rfl rfl (nb_t c2) rfl fun _ h => ?_
   refine gk h rfl rfl rfl rfl fun _ h => ?_
   refine gk h rfl rfl rfl rfl fun _ h => ?_
   refine gk h rfl rfl rfl rfl fun _ h => ?_
   refine gk h rfl rfl rfl rfl fun _ h => ?_
   refine gk h rfl rfl (nb_t c2) rfl fun _ h => ?_
   refine gs h (o_pickT rfl rfl c2) rfl fun _ _ _ h => ?_
   refine gs h (o_move rfl) rfl fun _ _ _ h => ?_
   refine gk h rfl rfl (nb_t rfl) rfl fun _ h => ?_
   refine gk h rfl rfl (nb_t rfl) rfl fun _ h => ?_
   refine gk h rfl rfl (nb_t rfl) rfl fun _ h => ?_
   refine gk h rfl rfl (nb_t rfl) rfl fun _ h => ?_
   refine gk h rfl rfl rfl rfl fun _ h => ?_
   refine gk h rfl rfl (nb_t rfl) rfl fun _ h => ?_
   refine gs h (o_pickT rfl rfl rfl) rfl fun _ _ _ h => ?_
   refine GoR.done ?_
   exact J1 true _ _ (som H).symm (h.wk (by rfl) [] (by decide) (by rfl))
  ·have H := ifF c2 H
   refine gg h rfl rfl (nbF c2) (o_move rfl) rfl fun _ _ _ h => ?_
   refine gg h rfl rfl (nbF c2) (o_not rfl) rfl fun _ _ _ h => ?_
   refine gg h rfl rfl (nbF c2) (o_move rfl) rfl fun _ _ _ h => ?_
   by_cases c3 : (!r1) = true
   ·have H := ifT c3 H
    refine gg h rfl rfl c3 (o_move rfl) rfl fun _ _ _ h => ?_
    refine gg h rfl rfl c3 (o_not rfl) rfl fun _ _ _ h => ?_
    refine gg h rfl rfl (nbF c2) (o_pickT rfl rfl c3) rfl fun _ _ _ h => ?_
    refine gg h rfl rfl (nbF c2) (o_move rfl) rfl fun _ _ _ h => ?_
    by_cases c4 : (!r2) = true
    ·have H := ifT c4 H
     refine gg h rfl rfl c4 (o_move rfl) rfl fun _ _ _ h => ?_
     refine gg h rfl rfl c4 (o_move rfl) rfl fun _ _ _ h => ?_
     refine gg h rfl rfl c4 (o_bin rfl rfl rfl) rfl fun _ _ _ h => ?_
     refine gg h rfl rfl (nbF (bnT c4)) (o_pickT rfl rfl c4) rfl fun _ _ _ h => ?_
     refine gg h rfl rfl (nbF (bnT c4)) (o_move rfl) rfl fun _ _ _ h => ?_
     by_cases c5 : (!decide (a1 = a2)) = true
     ·have H := ifT c5 H
      refine gg h rfl rfl c5 (o_move rfl) rfl fun _ _ _ h => ?_
      refine gg h rfl rfl c5 (o_move rfl) rfl fun _ _ _ h => ?_
      refine gg h rfl rfl c5 (o_bin rfl rfl rfl) rfl fun _ _ _ h => ?_
      refine gg h rfl rfl c5 (o_bin rfl rfl rfl) rfl fun _ _ _ h => ?_
      refine gg h rfl rfl (nbF (bnT c4)) (o_pickT rfl rfl c5) rfl fun _ _ _ h => ?_
      refine gs h (o_pickF rfl rfl (bnT c4)) rfl fun _ _ _ h => ?_
      refine gs h (o_move rfl) rfl fun _ _ _ h => ?_
      by_cases c6 : (!decide ((IntKind.u32.wrap (a2 - a1)) = 2147483648)) = true
      ·have H := ifT c6 H
       refine gk h rfl rfl (nb_t c6) rfl fun _ h => ?_
       refine gk h rfl rfl (nb_t c6) rfl fun _ h => ?_
       refine gk h rfl rfl (nb_t c6) rfl fun _ h => ?_
       refine gk h rfl rfl (nb_t c6) rfl fun _ h => ?_
       refine gk h rfl rfl rfl rfl fun _ h => ?_
       refine gk h rfl rfl (nb_t c6) rfl fun _ h => ?_
       refine gs h (o_pickT rfl rfl c6) rfl fun _ _ _ h => ?_
       refine GoR.done ?_
       exact J1 true _ _ (som H).symm (h.wk (by rfl) [] (by decide) (by rfl))
      ·have H := ifF c6 H
       refine gg h rfl rfl (nbF c6) (o_move rfl) rfl fun _ _ _ h => ?_
       refine gg h rfl rfl (nbF c6) (o_move rfl) rfl fun _ _ _ h => ?_
       refine gg h rfl rfl (nbF c6) (o_bin rfl rfl rfl) rfl fun _ _ _ h => ?_
       refine gg h rfl rfl (nbF c6) (o_move rfl) rfl fun _ _ _ h => ?_
       refine gk h rfl rfl (nb_f (bnT c5)) rfl fun _ h => ?_
       refine gg h rfl rfl (nbF c6) (o_pickF rfl rfl (bnT c5)) rfl fun _ _ _ h => ?_
       refine gs h (o_pickF rfl rfl c6) rfl fun _ _ _ h => ?_
       refine GoR.done ?_
       exact J1 false _ _ (som H).symm (h.wk (by rfl) [] (by decide) (by rfl))
     ·have H := ifF c5 H
      refine gk h rfl rfl (nb_f c5) rfl fun _ h => ?_
      refine gk h rfl rfl (nb_f c5) rfl fun _ h => ?_
      refine gk h rfl rfl (nb_f c5) rfl fun _ h => ?_
      refine gk h rfl rfl (nb_f c5) rfl fun _ h => ?_
      refine gg h rfl rfl (nbF (bnT c4)) (o_pickF rfl rfl c5) rfl fun _ _ _ h => ?_
      refine gs h (o_pickF rfl rfl (bnT c4)) rfl fun _ _ _ h => ?_
      refine gs h (o_move rfl) rfl fun _ _ _ h => ?_
      refine gg h rfl rfl (nbF Bool.false_ne_true) (o_move rfl) rfl fun _ _ _ h => ?_
      refine gg h rfl rfl (nbF Bool.false_ne_true) (o_move rfl) rfl fun _ _ _ h => ?_
      refine gg h rfl rfl (nbF Bool.false_ne_true) (o_bin rfl rfl rfl) rfl fun _ _ _ h => ?_
      refine gg h rfl rfl (nbF Bool.false_ne_true) (o_move rfl) rfl fun _ _ _ h => ?_
      refine gg h rfl rfl (bnF c5) (o_move rfl) rfl fun _ _ _ h => ?_
      refine gg h rfl rfl (nbF Bool.false_ne_true) (o_pickT rfl rfl (bnF c5)) rfl fun _ _ _ h => ?_
      refine gs h (o_pickF rfl rfl Bool.false_ne_true) rfl fun _ _ _ h => ?_
      refine GoR.done ?_
      exact J1 r1 _ _ (som H).symm (h.wk (by rfl) [] (by decide) (by rfl))
    ·have H := ifF c4 H
     refine gk h rfl rfl (nb_f c4) rfl fun _ h => ?_
     refine gk h rfl rfl (nb_f c4) rfl fun _ h => ?_
     refine gk h rfl rfl (nb_f c4) rfl fun _ h => ?_
     refine gk h rfl rfl (nb_t (bnF c4)) rfl fun _ h => ?_
     refine gk h rfl rfl (nb_t (bnF c4)) rfl fun _ h => ?_
     refine gk h rfl rfl rfl rfl fun _ h => ?_
     refine gk h rfl rfl rfl rfl fun _ h => ?_
     refine gk h rfl rfl rfl rfl fun _ h => ?_
     refine gk h rfl rfl rfl rfl fun _ h => ?_
     refine gk h rfl rfl (nb_t (bnF c4)) rfl fun _ h => ?_
     refine gs h (o_pickT rfl rfl (bnF c4)) rfl fun _ _ _ h => ?_
     refine gs h (o_move rfl) rfl fun _ _ _ h => ?_
     refine gk h rfl rfl (nb_t rfl) rfl fun _ h => ?_
     refine gk h rfl rfl (nb_t rfl) rfl fun _ h => ?_
     refine gk h rfl rfl (nb_t rfl) rfl fun _ h => ?_
     refine gk h rfl rfl (nb_t rfl) rfl fun _ h => ?_
     refine gk h rfl rfl rfl rfl fun _ h => ?_
     refine gk h rfl rfl (nb_t rfl) rfl fun _ h => ?_
     refine gs h (o_pickT rfl rfl rfl) rfl fun _ _ _ h => ?_
     refine GoR.done ?_
     exact J1 true _ _ (som H).symm (h.wk (by rfl) [] (by decide) (by rfl))
   ·have H := ifF c3 H
    refine gk h rfl rfl (nb_f c3) rfl fun _ h => ?_
    refine gk h rfl rfl (nb_f c3) rfl fun _ h => ?_
    refine gg h rfl rfl (nbF c2) (o_pickF rfl rfl c3) rfl fun _ _ _ h => ?_
    refine gg h rfl rfl (nbF c2) (o_move rfl) rfl fun _ _ _ h => ?_
    refine gk h rfl rfl (nb_f Bool.false_ne_true) rfl fun _ h => ?_
    refine gk h rfl rfl (nb_f Bool.false_ne_true) rfl fun _ h => ?_
    refine gk h rfl rfl (nb_f Bool.false_ne_true) rfl fun _ h => ?_
    refine gg h rfl rfl (nbF c2) (o_pickF rfl rfl Bool.false_ne_true) rfl fun _ _ _ h => ?_
    refine gg h rfl rfl (nbF c2) (o_move rfl) rfl fun _ _ _ h => ?_
    refine gk h rfl rfl (nb_f Bool.false_ne_true) rfl fun _ h => ?_
    refine gk h rfl rfl (nb_f Bool.false_ne_true) rfl fun _ h => ?_
    refine gk h rfl rfl (nb_f Bool.false_ne_true) rfl fun _ h => ?_
    refine gk h rfl rfl (nb_f Bool.false_ne_true) rfl fun _ h => ?_
    refine gg h rfl rfl (nbF c2) (o_pickF rfl rfl Bool.false_ne_true) rfl fun _ _ _ h => ?_
    refine gs h (o_pickF rfl rfl c2) rfl fun _ _ _ h => ?_
    refine gs h (o_move rfl) rfl fun _ _ _ h => ?_
    refine gg h rfl rfl (nbF Bool.false_ne_true) (o_move rfl) rfl fun _ _ _ h => ?_
    refine gg h rfl rfl (nbF Bool.false_ne_true) (o_move rfl) rfl fun _ _ _ h => ?_
    refine gg h rfl rfl (nbF Bool.false_ne_true) (o_bin rfl rfl rfl) rfl fun _ _ _ h => ?_
    refine gg h rfl rfl (nbF Bool.false_ne_true) (o_move rfl) rfl fun _ _ _ h => ?_
    by_cases c7 : decide (a1 = a2) = true
    ·have H := ifT c7 H
     refine gg h rfl rfl c7 (o_move rfl) rfl fun _ _ _ h => ?_
     refine gg h rfl rfl (nbF Bool.false_ne_true) (o_pickT rfl rfl c7) rfl fun _ _ _ h => ?_
     refine gs h (o_pickF rfl rfl Bool.false_ne_true) rfl fun _ _ _ h => ?_
     refine GoR.done ?_
     exact J1 r1 _ _ (som H).symm (h.wk (by rfl) [] (by decide) (by rfl))
    ·have H := ifF c7 H
     refine gk h rfl rfl (nb_f c7) rfl fun _ h => ?_
     refine gg h rfl rfl (nbF Bool.false_ne_true) (o_pickF rfl rfl c7) rfl fun _ _ _ h => ?_
     refine gs h (o_pickF rfl rfl Bool.false_ne_true) rfl fun _ _ _ h => ?_
     refine GoR.done ?_
     exact J1 false _ _ (som H).symm (h.wk (by rfl) [] (by decide) (by rfl))
 ·have H := ifF c1 H
  refine gk h rfl rfl (nb_f c1) rfl fun _ h => ?_
  refine gs h (o_pickF rfl rfl c1) rfl fun _ _ _ h => ?_
  refine gs h (o_move rfl) rfl fun _ _ _ h => ?_
  refine gg h rfl rfl (nbF Bool.false_ne_true) (o_move rfl) rfl fun _ _ _ h => ?_
  refine gg h rfl rfl (nbF Bool.false_ne_true) (o_not rfl) rfl fun _ _ _ h => ?_
  refine gg h rfl rfl (nbF Bool.false_ne_true) (o_move rfl) rfl fun _ _ _ h => ?_
  by_cases c8 : (!r1) = true
  ·have H := ifT c8 H
   refine gg h rfl rfl c8 (o_move rfl) rfl fun _ _ _ h => ?_
   refine gg h rfl rfl c8 (o_not rfl) rfl fun _ _ _ h => ?_
   refine gg h rfl rfl (nbF Bool.false_ne_true) (o_pickT rfl rfl c8) rfl fun _ _ _ h => ?_
   refine gg h rfl rfl (nbF Bool.false_ne_true) (o_move rfl) rfl fun _ _ _ h => ?_
   by_cases c9 : (!r2) = true
   ·have H := ifT c9 H
    refine gg h rfl rfl c9 (o_move rfl) rfl fun _ _ _ h => ?_
    refine gg h rfl rfl c9 (o_move rfl) rfl fun _ _ _ h => ?_
    refine gg h rfl rfl c9 (o_bin rfl rfl rfl) rfl fun _ _ _ h => ?_
    refine gg h rfl rfl (nbF Bool.false_ne_true) (o_pickT rfl rfl c9) rfl fun _ _ _ h => ?_
    refine gg h rfl rfl (nbF Bool.false_ne_true) (o_move rfl) rfl fun _ _ _ h => ?_
    by_cases c10 : (!decide (a1 = a2)) = true
    ·have H := ifT c10 H
     refine gg h rfl rfl c10 (o_move rfl) rfl fun _ _ _ h => ?_
     refine gg h rfl rfl c10 (o_move rfl) rfl fun _ _ _ h => ?_
     refine gg h rfl rfl c10 (o_bin rfl rfl rfl) rfl fun _ _ _ h => ?_
     refine gg h rfl rfl c10 (o_bin rfl rfl rfl) rfl fun _ _ _ h => ?_
     refine gg h rfl rfl (nbF Bool.false_ne_true) (o_pickT rfl rfl c10) rfl fun _ _ _ h => ?_
     refine gs h (o_pickF rfl rfl Bool.false_ne_true) rfl fun _ _ _ h => ?_
     refine gs h (o_move rfl) rfl fun _ _ _ h => ?_
     by_cases c11 : (!decide ((IntKind.u32.wrap (a2 - a1)) = 2147483648)) = true
     ·have H := ifT c11 H
      refine gk h rfl rfl (nb_t c11) rfl fun _ h => ?_
      refine gk h rfl rfl (nb_t c11) rfl fun _ h => ?_
      refine gk h rfl rfl (nb_t c11) rfl fun _ h => ?_
      refine gk h rfl rfl (nb_t c11) rfl fun _ h => ?_
      refine gk h rfl rfl rfl rfl fun _ h => ?_
      refine gk h rfl rfl (nb_t c11) rfl fun _ h => ?_
      refine gs h (o_pickT rfl rfl c11) rfl fun _ _ _ h => ?_
      refine GoR.done ?_
      exact J1 true _ _ (som H).symm (h.wk (by rfl) [] (by decide) (by rfl))
     ·have H := ifF c11 H
      refine gg h rfl rfl (nbF c11) (o_move rfl) rfl fun _ _ _ h => ?_
      refine gg h rfl rfl (nbF c11) (o_move rfl) rfl fun _ _ _ h => ?_
      refine gg h rfl rfl (nbF c11) (o_bin rfl rfl rfl) rfl fun _ _ _ h => ?_
      refine gg h rfl rfl (nbF c11) (o_move rfl) rfl fun _ _ _ h => ?_
      refine gk h rfl rfl (nb_f (bnT c10)) rfl fun _ h => ?_
      refine gg h rfl rfl (nbF c11) (o_pickF rfl rfl (bnT c10)) rfl fun _ _ _ h => ?_
      refine gs h (o_pickF rfl rfl c11) rfl fun _ _ _ h => ?_
      refine GoR.done ?_
      exact J1 false _ _ (som H).symm (h.wk (by rfl) [] (by decide) (by rfl))
    ·have H := ifF c10 H
     refine gk h rfl rfl (nb_f c10) rfl fun _ h => ?_
     refine gk h rfl rfl (nb_f c10) rfl fun _ h => ?_
     refine gk h rfl rfl (nb_f c10) rfl fun _ h => ?_
     refine gk h rfl rfl (nb_f c10) rfl fun _ h => ?_
     refine gg h rfl rfl (nbF Bool.false_ne_true) (o_pickF rfl rfl c10) rfl fun _ _ _ h => ?_
     refine gs h (o_pickF rfl rfl Bool.false_ne_true) rfl fun _ _ _ h => ?_
     refine gs h (o_move rfl) rfl fun _ _ _ h => ?_
     refine gg h rfl rfl (nbF Bool.false_ne_true) (o_move rfl) rfl fun _ _ _ h => ?_
     refine gg h rfl rfl (nbF Bool.false_ne_true) (o_move rfl) rfl fun _ _ _ h => ?_
     refine gg h rfl rfl (nbF Bool.false_ne_true) (o_bin rfl rfl rfl) rfl fun _ _ _ h => ?_
     refine gg h rfl rfl (nbF Bool.false_ne_true) (o_move rfl) rfl fun _ _ _ h => ?_
     refine gg h rfl rfl (bnF c10) (o_move rfl) rfl fun _ _ _ h => ?_
     refine gg h rfl rfl (nbF Bool.false_ne_true) (o_pickT rfl rfl (bnF c10)) rfl fun _ _ _ h => ?_
     refine gs h (o_pickF rfl rfl Bool.false_ne_true) rfl fun _ _ _ h => ?_
     refine GoR.done ?_
     exact J1 r1 _ _ (som H).symm (h.wk (by rfl) [] (by decide) (by rfl))
   ·have H := ifF c9 H
    refine gk h rfl rfl (nb_f c9) rfl fun _ h => ?_
    refine gk h rfl rfl (nb_f c9) rfl fun _ h => ?_
    refine gk h rfl rfl (nb_f c9) rfl fun _ h => ?_
    refine gg h rfl rfl (nbF Bool.false_ne_true) (o_pickF rfl rfl c9) rfl fun _ _ _ h => ?_
    refine gg h rfl rfl (nbF Bool.false_ne_true) (o_move rfl) rfl fun _ _ _ h => ?_
    refine gk h rfl rfl (nb_f Bool.false_ne_true) rfl fun _ h => ?_
    refine gk h rfl rfl (nb_f Bool.false_ne_true) rfl fun _ h => ?_
    refine gk h rfl rfl (nb_f Bool.false_ne_true) rfl fun _ h => ?_
    refine gk h rfl rfl (nb_f Bool.false_ne_true) rfl fun _ h => ?_
    refine gg h rfl rfl (nbF Bool.false_ne_true) (o_pickF rfl rfl Bool.false_ne_true) rfl fun _ _ _ h => ?_
    refine gs h (o_pickF rfl rfl Bool.false_ne_true) rfl fun _ _ _ h => ?_
    refine gs h (o_move rfl) rfl fun _ _ _ h => ?_
    refine gg h rfl rfl (nbF Bool.false_ne_true) (o_move rfl) rfl fun _ _ _ h => ?_
    refine gg h rfl rfl (nbF Bool.false_ne_true) (o_move rfl) rfl fun _ _ _ h => ?_
    refine gg h rfl rfl (nbF Bool.false_ne_true) (o_bin rfl rfl rfl) rfl fun _ _ _ h => ?_
    refine gg h rfl rfl (nbF Bool.false_ne_true) (o_move rfl) rfl fun _ _ _ h => ?_
    by_cases c12 : decide (a1 = a2) = true
    ·have H := ifT c12 H
     refine gg h rfl rfl c12 (o_move rfl) rfl fun _ _ _ h => ?_
     refine gg h rfl rfl (nbF Bool.false_ne_true) (o_pickT rfl rfl c12) rfl fun _ _ _ h => ?_
     refine gs h (o_pickF rfl rfl Bool.false_ne_true) rfl fun _ _ _ h => ?_
     refine GoR.done ?_
     exact J1 r1 _ _ (som H).symm (h.wk (by rfl) [] (by decide) (by rfl))
    ·have H := ifF c12 H
     refine gk h rfl rfl (nb_f c12) rfl fun _ h => ?_
     refine gg h rfl rfl (nbF Bool.false_ne_true) (o_pickF rfl rfl c12) rfl fun _ _ _ h => ?_
     refine gs h (o_pickF rfl rfl Bool.false_ne_true) rfl fun _ _ _ h => ?_
     refine GoR.done ?_
     exact J1 false _ _ (som H).symm (h.wk (by rfl) [] (by decide) (by rfl))
  ·have H := ifF c8 H
   refine gk h rfl rfl (nb_f c8) rfl fun _ h => ?_
   refine gk h rfl rfl (nb_f c8) rfl fun _ h => ?_
   refine gg h rfl rfl (nbF Bool.false_ne_true) (o_pickF rfl rfl c8) rfl fun _ _ _ h => ?_
   refine gg h rfl rfl (nbF Bool.false_ne_true) (o_move rfl) rfl fun _ _ _ h => ?_
   refine gk h rfl rfl (nb_f Bool.false_ne_true) rfl fun _ h => ?_
   refine gk h rfl rfl (nb_f Bool.false_ne_true) rfl fun _ h => ?_
   refine gk h rfl rfl (nb_f Bool.false_ne_true) rfl fun _ h => ?_
   refine gg h rfl rfl (nbF Bool.false_ne_true) (o_pickF rfl rfl Bool.false_ne_true) rfl fun _ _ _ h => ?_
   refine gg h rfl rfl (nbF Bool.false_ne_true) (o_move rfl) rfl fun _ _ _ h => ?_
   refine gk h rfl rfl (nb_f Bool.false_ne_true) rfl fun _ h => ?_
   refine gk h rfl rfl (nb_f Bool.false_ne_true) rfl fun _ h => ?_
   refine gk h rfl rfl (nb_f Bool.false_ne_true) rfl fun _ h => ?_
   refine gk h rfl rfl (nb_f Bool.false_ne_true) rfl fun _ h => ?_
   refine gg h rfl rfl (nbF Bool.false_ne_true) (o_pickF rfl rfl Bool.false_ne_true) rfl fun _ _ _ h => ?_
   refine gs h (o_pickF rfl rfl Bool.false_ne_true) rfl fun _ _ _ h => ?_
   refine gs h (o_move rfl) rfl fun _ _ _ h => ?_
   refine gg h rfl rfl (nbF Bool.false_ne_true) (o_move rfl) rfl fun _ _ _ h => ?_
   refine gg h rfl rfl (nbF Bool.false_ne_true) (o_move rfl) rfl fun _ _ _ h => ?_
   refine gg h rfl rfl (nbF Bool.false_ne_true) (o_bin rfl rfl rfl) rfl fun _ _ _ h => ?_
   refine gg h rfl rfl (nbF Bool.false_ne_true) (o_move rfl) rfl fun _ _ _ h => ?_
   by_cases c13 : decide (a1 = a2) = true
   ·have H := ifT c13 H
    refine gg h rfl rfl c13 (o_move rfl) rfl fun _ _ _ h => ?_
    refine gg h rfl rfl (nbF Bool.false_ne_true) (o_pickT rfl rfl c13) rfl fun _ _ _ h => ?_
    refine gs h (o_pickF rfl rfl Bool.false_ne_true) rfl fun _ _ _ h => ?_
    refine GoR.done ?_
    exact J1 r1 _ _ (som H).symm (h.wk (by rfl) [] (by decide) (by rfl))
   ·have H := ifF c13 H
    refine gk h rfl rfl (nb_f c13) rfl fun _ h => ?_
    refine gg h rfl rfl (nbF Bool.false_ne_true) (o_pickF rfl rfl c13) rfl fun _ _ _ h => ?_
    refine gs h (o_pickF rfl rfl Bool.false_ne_true) rfl fun _ _ _ h => ?_
    refine GoR.done ?_
    exact J1 false _ _ (som H).symm (h.wk (by rfl) [] (by decide) (by rfl))
def law19_SegOrder.g (k_ : Nat) (a1 : Int) (a2 : Int) (a3 : Int) : Option (Bool) :=
  (seg_Less.g k_ a1 a2).bind fun r1 => (seg_Less.g k_ a2 a1).bind fun r2 => ((if r1 = true then (if r2 = true then some (true) else (if (!r1) = true then (if (!r2) = true then (if (!decide (a1 = a2)) = true then (if (!decide ((IntKind.u32.wrap (a2 - a1)) = 2147483648)) = true then some (true) else some (false)) else some (r1)) else some (true)) else (if decide (a1 = a2) = true then some (r1) else some (false)))) else (if (!r1) = true then (if (!r2) = true then (if (!decide (a1 = a2)) = true then (if (!decide ((IntKind.u32.wrap (a2 - a1)) = 2147483648)) = true then some (true) else some (false)) else some (r1)) else (if decide (a1 = a2) = true then some (r1) else some (false))) else (if decide (a1 = a2) = true then some (r1) else some (false))))).bind (fun j1 => (if j1 = true then some (false) else ((seg_Less.g k_ a1 (IntKind.u32.wrap (a1 + a3))).bind fun r3 => (if decide (1 ≤ a3) = true then (if (r3 == (decide (a3 < 2147483648))) = true then (seg_Less.g k_ (IntKind.u32.wrap (a1 + a3)) (IntKind.u32.wrap (a2 + a3))).bind fun r4 => (if (r4 == r1) = true then (law19_heads.g k_).bind fun r5 => some (r5) else some (false)) else some (false)) else (if (r3 == false) = true then (seg_Less.g k_ (IntKind.u32.wrap (a1 + a3)) (IntKind.u32.wrap (a2 + a3))).bind fun r6 => (if (r6 == r1) = true then (law19_heads.g k_).bind fun r7 => some (r7) else some (false)) else some (false)))).bind (fun j2 => some (j2))))
theorem law19_SegOrder.le (k_ : Nat) (a1 : Int) (a2 : Int) (a3 : Int) : Le (law19_SegOrder.g k_ a1 a2 a3) (law19_SegOrder.f a1 a2 a3) := by
 unfold law19_SegOrder.g law19_SegOrder.f
 repeat' (first | with_reducible refine le_loop fun _ => ?_ | with_reducible refine le_bind ?_ fun _ => ?_ | with_reducible refine le_ite ?_ ?_ | with_reducible refine le_lt fun _ => ?_ | with_reducible refine le_elim (fun _ => ?_) (fun _ => ?_) _ | with_reducible apply law19_heads.le | with_reducible apply seg_Less.le | with_reducible exact le_refl _)
/-! drawbridge/drawbridgelaw19.one -/
noncomputable def law19_one.f (a1 : TSeg) : Option ((List TSeg)) :=
  some (([a1] : List TSeg))
set_option maxRecDepth 100000 in
set_option maxHeartbeats 4000000 in
theorem law19_one.spc (v1 : Value) (a1 : TSeg) (r : (List TSeg)) (H : law19_one.f a1 = some r) : Spc Try.prog 14 [v1] [Val KSeg v1 a1] [] (fun (s : Value) => s) (fun s => [Val (Kd.osl KSeg) s r]) := by
 unfold law19_one.f at H
 refine Spc.go Try.func14 rfl (by kernel_rfl) rfl rfl (all_cons (Val.per PSeg) all_nil) fun F a w h => ?_
 refine Go.seq ?_
 refine Go.reg ?_
 refine gs h (o_box (K := KSeg) rfl (pv_at PSeg 0 rfl)) rfl fun b1 _ _ h => ?_
 refine gs h (o_assign rfl) rfl fun _ _ _ h => ?_
 refine GoR.done ?_
 refine Go.seq ?_
 refine Go.reg ?_
 refine gs h (o_ldv 0 rfl rfl PSeg t_y25) rfl fun v2 _ _ h => ?_
 refine gs h (o_bs (K := KSeg) (vs := [v2]) (xs := ([a1] : List TSeg)) rfl rfl (pvs_cons (pv_at PSeg 0 rfl) pvs_nil) t_a38 (by decide) (by decide)) rfl fun v3 _ _ h => ?_
 refine gs h (o_assign rfl) rfl fun _ _ _ h => ?_
 refine GoR.done ?_
 rw [← som H]
 exact g_ret (vs := [v3]) h Try.func14 ⟨rfl, trivial⟩ ⟨v3, rfl, (h.mem.pick [0] (by decide) rfl)⟩
def law19_one.g (k_ : Nat) (a1 : TSeg) : Option ((List TSeg)) :=
  some (([a1] : List TSeg))
theorem law19_one.le (k_ : Nat) (a1 : TSeg) : Le (law19_one.g k_ a1) (law19_one.f a1) := by
 unfold law19_one.g law19_one.f
 repeat' (first | with_reducible refine le_loop fun _ => ?_ | with_reducible refine le_bind ?_ fun _ => ?_ | with_reducible refine le_ite ?_ ?_ | with_reducible refine le_lt fun _ => ?_ | with_reducible refine le_elim (fun _ => ?_) (fun _ => ?_) _ | with_reducible exact le_refl _)
end Go.Proofs.Ythjaancddmecpaa.S
