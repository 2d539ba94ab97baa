/- Contracts, printed by a program of this session. -/
import Derived.Test.YtplkiompmjhdlaaT3
import Derived.Test.YtplkiompmjhdlaaT4
import Derived.Test.YtplkiompmjhdlaaT5
import Derived.Test.YtplkiompmjhdlaaT6
namespace Go.Proofs.Ytplkiompmjhdlaa.S
open Go Go.SL Go.RowKit
set_option linter.unusedVariables false
set_option linter.unusedSimpArgs false
/-! drawbridge/drawbridgelaw16.EtherArps -/
noncomputable def law16_EtherArps.f (a1 : TArp) (a2 : List Int) (a3 : List Int) (a4 : Int) : Option (Bool) :=
  (if decide (3000 < (a2.length : Int)) = true then (law16_heads.f).bind fun r1 => some (r1) else (ether_PutArp.f a1).bind fun r2 => (ref16_PutArp.f a1).bind fun r3 => (ether_GetArp.f a2).bind fun r4 => (ref16_GetArp.f a2).bind fun r5 => (ether_Answer.f a1 a3 a4).bind fun r6 => (ref16_Answer.f a1 a3 a4).bind fun r7 => ((ref01_Same.f r2.1 r3.1).bind fun r8 => (if r8 = true then (if decide (r2.2 = r3.2) = true then (ref16_Arps.f r4.1 r5.1).bind fun r9 => (if r9 = true then (if decide (r4.2 = r5.2) = true then (ref16_Arps.f r6.1 r7.1).bind fun r10 => (if r10 = true then (if (r6.2 == r7.2) = true then (law16_heads.f).bind fun r11 => some (r11) else some (false)) else some (false)) else some (false)) else some (false)) else some (false)) else some (false))).bind (fun j1 => some (j1)))
set_option maxRecDepth 100000 in
set_option maxHeartbeats 4000000 in
theorem law16_EtherArps.spc (v1 : Value) (a1 : TArp) (v2 : Value) (a2 : List Int) (v3 : Value) (a3 : List Int) (a4 : Int) (ha4 : InR .u32 a4) (r : Bool) (H : law16_EtherArps.f a1 a2 a3 a4 = some r) : Spc Try.prog 5 [v1, v2, v3, .int .u32 a4] [Val KArp v1 a1, Val (Kd.sl (Kd.int .u8)) v2 a2, Val (Kd.sl (Kd.int .u8)) v3 a3] [] (fun (s : Unit) => .bool r) (fun s => []) := by
 unfold law16_EtherArps.f at H
 refine Spc.go Try.func5 rfl (by kernel_rfl) rfl rfl (all_cons (Val.per PArp) (all_cons (Val.per Per_sl) (all_cons (Val.per Per_sl) all_nil))) fun F a w h => ?_
 refine Go.seq ?_
 refine Go.reg ?_
 refine gs h (o_box (K := KArp) rfl (pv_at PArp 0 rfl)) rfl fun b1 _ _ h => ?_
 refine gs h (o_assign rfl) rfl fun _ _ _ h => ?_
 refine GoR.done ?_
 refine Go.seq ?_
 refine Go.seq ?_
 refine Go.reg ?_
 refine gs h (o_move rfl) rfl fun _ _ _ h => ?_
 have g1 := (len_at 2 rfl h.mem)
 refine gs h (o_ln rfl (rd_at 2 rfl) t_v22) rfl fun _ _ _ h => ?_
 refine gs h (o_bin rfl rfl rfl) rfl fun _ _ _ h => ?_
 refine GoR.done ?_
 by_cases c1 : decide (3000 < (a2.length : Int)) = true
 ·have H := ifT c1 H
  refine g_t h rfl c1 ?_
  refine Go.seq ?_
  refine Go.reg ?_
  obtain ⟨r1, er1, H⟩ := bindE H
  refine gs h (o_call (law16_heads.spc  r1 er1) rfl [] [] (by decide) rfl rfl) rfl fun _ _ _ h => ?_
  refine gs h (o_assign rfl) rfl fun _ _ _ h => ?_
  refine GoR.done ?_
  rw [← som H]
  exact g_ret (vs := [.bool r1]) h Try.func5 ⟨rfl, trivial⟩ ⟨(), rfl, (h.mem.pick [] (by decide) rfl)⟩
 ·have H := ifF c1 H
  refine g_f h rfl c1 ?_
  refine Go.skip ?_
  refine Go.seq ?_
  refine Go.reg ?_
  refine gs h (o_ldv 0 rfl rfl PArp t_y34) rfl fun v4 _ _ h => ?_
  obtain ⟨r2, er2, H⟩ := bindE H
  refine gs h (o_call (ether_PutArp.spc v4 a1 r2 er2) rfl [0] [] (by decide) rfl rfl) rfl fun v5 _ _ h => ?_
  have g2 := h.mem.pur 0 rfl
  refine gs h (o_move rfl) rfl fun _ _ _ h => ?_
  refine gs h (o_extract rfl rfl) rfl fun _ _ _ h => ?_
  refine gs h (o_extract rfl rfl) rfl fun _ _ _ h => ?_
  refine gs h (o_assign rfl) rfl fun _ _ _ h => ?_
  refine gs h (o_assign rfl) rfl fun _ _ _ h => ?_
  refine GoR.done ?_
  refine Go.seq ?_
  refine Go.reg ?_
  refine gs h (o_ldv 3 rfl rfl PArp t_y34) rfl fun v6 _ _ h => ?_
  obtain ⟨r3, er3, H⟩ := bindE H
  refine gs h (o_call (ref16_PutArp.spc v6 a1 r3 er3) rfl [0] [] (by decide) rfl rfl) rfl fun v7 _ _ h => ?_
  have g3 := h.mem.pur 0 rfl
  refine gs h (o_move rfl) rfl fun _ _ _ h => ?_
  refine gs h (o_extract rfl rfl) rfl fun _ _ _ h => ?_
  refine gs h (o_extract rfl rfl) rfl fun _ _ _ h => ?_
  refine gs h (o_assign rfl) rfl fun _ _ _ h => ?_
  refine gs h (o_assign rfl) rfl fun _ _ _ h => ?_
  refine GoR.done ?_
  refine Go.seq ?_
  refine Go.reg ?_
  refine gs h (o_move rfl) rfl fun _ _ _ h => ?_
  obtain ⟨r4, er4, H⟩ := bindE H
  refine gs h (o_call (ether_GetArp.spc v2 a2 r4 er4) rfl [8] [] (by decide) rfl rfl) rfl fun v8 _ _ h => ?_
  have g4 := h.mem.pur 0 rfl
  refine gs h (o_move rfl) rfl fun _ _ _ h => ?_
  refine gs h (o_extract rfl rfl) rfl fun _ _ _ h => ?_
  refine gs h (o_extract rfl rfl) rfl fun _ _ _ h => ?_
  refine gs h (o_alloc (K := KArp) (z := (.agg #[.int .i64 0, .slice none 0 0, .int .u32 0, .slice none 0 0, .int .u32 0])) rfl ZArp) rfl fun b2 _ _ h => ?_
  refine gs0 h (o_st 0 rfl rfl rfl (pv_at PArp 2 rfl) rfl t_w34) fun _ _ _ h => ?_
  refine gs h (o_assign rfl) rfl fun _ _ _ h => ?_
  refine GoR.done ?_
  refine Go.seq ?_
  refine Go.reg ?_
  refine gs h (o_move rfl) rfl fun _ _ _ h => ?_
  obtain ⟨r5, er5, H⟩ := bindE H
  refine gs h (o_call (ref16_GetArp.spc v2 a2 r5 er5) rfl [11] [] (by decide) rfl rfl) rfl fun v9 _ _ h => ?_
  have g5 := h.mem.pur 0 rfl
  refine gs h (o_move rfl) rfl fun _ _ _ h => ?_
  refine gs h (o_extract rfl rfl) rfl fun _ _ _ h => ?_
  refine gs h (o_extract rfl rfl) rfl fun _ _ _ h => ?_
  refine gs h (o_alloc (K := KArp) (z := (.agg #[.int .i64 0, .slice none 0 0, .int .u32 0, .slice none 0 0, .int .u32 0])) rfl ZArp) rfl fun b3 _ _ h => ?_
  refine gs0 h (o_st 0 rfl rfl rfl (pv_at PArp 2 rfl) rfl t_w34) fun _ _ _ h => ?_
  refine gs h (o_assign rfl) rfl fun _ _ _ h => ?_
  refine GoR.done ?_
  refine Go.seq ?_
  refine Go.reg ?_
  refine gs h (o_ldv 12 rfl rfl PArp t_y34) rfl fun v10 _ _ h => ?_
  refine gs h (o_move rfl) rfl fun _ _ _ h => ?_
  refine gs h (o_move rfl) rfl fun _ _ _ h => ?_
  obtain ⟨r6, er6, H⟩ := bindE H
  refine gs h (o_call (ether_Answer.spc v10 a1 v3 a3 a4 ha4 r6 er6) rfl [0, 16] [] (by decide) rfl rfl) rfl fun v11 _ _ h => ?_
  refine gs h (o_move rfl) rfl fun _ _ _ h => ?_
  refine gs h (o_extract rfl rfl) rfl fun _ _ _ h => ?_
  refine gs h (o_extract rfl rfl) rfl fun _ _ _ h => ?_
  refine gs h (o_alloc (K := KArp) (z := (.agg #[.int .i64 0, .slice none 0 0, .int .u32 0, .slice none 0 0, .int .u32 0])) rfl ZArp) rfl fun b4 _ _ h => ?_
  refine gs0 h (o_st 0 rfl rfl rfl (pv_at PArp 1 rfl) rfl t_w34) fun _ _ _ h => ?_
  refine gs h (o_assign rfl) rfl fun _ _ _ h => ?_
  refine GoR.done ?_
  refine Go.seq ?_
  refine Go.reg ?_
  refine gs h (o_ldv 15 rfl rfl PArp t_y34) rfl fun v12 _ _ h => ?_
  refine gs h (o_move rfl) rfl fun _ _ _ h => ?_
  refine gs h (o_move rfl) rfl fun _ _ _ h => ?_
  obtain ⟨r7, er7, H⟩ := bindE H
  refine gs h (o_call (ref16_Answer.spc v12 a1 v3 a3 a4 ha4 r7 er7) rfl [0, 19] [] (by decide) rfl rfl) rfl fun v13 _ _ h => ?_
  refine gs h (o_move rfl) rfl fun _ _ _ h => ?_
  refine gs h (o_extract rfl rfl) rfl fun _ _ _ h => ?_
  refine gs h (o_extract rfl rfl) rfl fun _ _ _ h => ?_
  refine gs h (o_alloc (K := KArp) (z := (.agg #[.int .i64 0, .slice none 0 0, .int .u32 0, .slice none 0 0, .int .u32 0])) rfl ZArp) rfl fun b5 _ _ h => ?_
  refine gs0 h (o_st 0 rfl rfl rfl (pv_at PArp 1 rfl) rfl t_w34) fun _ _ _ h => ?_
  refine gs h (o_assign rfl) rfl fun _ _ _ h => ?_
  refine GoR.done ?_
  refine Go.seq ?_
  obtain ⟨o1, H, G1⟩ := bindE H
  refine g_cut (fun G => ∀ j1 (a : Act) (w : World), o1 = j1 → St Try.f5.ntmps F [(8, .bool j1)] [Fld KArp b5 0 r7.1, Fld KArp b4 0 r6.1, Fld KArp b3 0 r5.1, Fld KArp b2 0 r4.1, Fld KArp b1 0 a1] a w → G a w) 1 ?_ fun J1 => ?_
  ·intro j1 a w ho_ h
   rw [ho_] at G1
   have H := G1
   rw [← som H]
   exact g_ret (vs := [.bool j1]) h Try.func5 ⟨rfl, trivial⟩ ⟨(), rfl, (h.mem.pick [] (by decide) rfl)⟩
  refine Go.reg ?_
  refine gs h (o_move rfl) rfl fun _ _ _ h => ?_
  refine gs h (o_move rfl) rfl fun _ _ _ h => ?_
  replace h := h.mm fun m => m.freeze 16 rfl
  replace h := h.mm fun m => m.freeze 13 rfl
  obtain ⟨r8, er8, H⟩ := bindE H
  refine gs h (o_call (ref01_Same.spc v5 r2.1 v7 r3.1 r8 er8) rfl [16, 13] [] (by decide) rfl rfl) rfl fun _ _ _ h => ?_
  refine gs h (o_move rfl) rfl fun _ _ _ h => ?_
  by_cases c2 : r8 = true
  ·have H := ifT c2 H
   refine gg h rfl rfl c2 (o_move rfl) rfl fun _ _ _ h => ?_
   refine gg h rfl rfl c2 (o_move rfl) rfl fun _ _ _ h => ?_
   refine gg h rfl rfl c2 (o_bin rfl rfl rfl) rfl fun _ _ _ h => ?_
   refine gs h (o_pickT rfl rfl c2) rfl fun _ _ _ h => ?_
   refine gs h (o_move rfl) rfl fun _ _ _ h => ?_
   by_cases c3 : decide (r2.2 = r3.2) = true
   ·have H := ifT c3 H
    refine gg h rfl rfl c3 (o_ldv 9 rfl rfl PArp t_y34) rfl fun v14 _ _ h => ?_
    refine gg h rfl rfl c3 (o_ldv 7 rfl rfl PArp t_y34) rfl fun v15 _ _ h => ?_
    obtain ⟨r9, er9, H⟩ := bindE H
    refine gg h rfl rfl c3 (o_call (ref16_Arps.spc v14 r4.1 v15 r5.1 r9 er9) rfl [1, 0] [] (by decide) rfl rfl) rfl fun _ _ _ h => ?_
    refine gs h (o_pickT rfl rfl c3) rfl fun _ _ _ h => ?_
    refine gs h (o_move rfl) rfl fun _ _ _ h => ?_
    by_cases c4 : r9 = true
    ·have H := ifT c4 H
     refine gg h rfl rfl c4 (o_move rfl) rfl fun _ _ _ h => ?_
     refine gg h rfl rfl c4 (o_move rfl) rfl fun _ _ _ h => ?_
     refine gg h rfl rfl c4 (o_bin rfl rfl rfl) rfl fun _ _ _ h => ?_
     refine gs h (o_pickT rfl rfl c4) rfl fun _ _ _ h => ?_
     refine gs h (o_move rfl) rfl fun _ _ _ h => ?_
     by_cases c5 : decide (r4.2 = r5.2) = true
     ·have H := ifT c5 H
      refine gg h rfl rfl c5 (o_ldv 5 rfl rfl PArp t_y34) rfl fun v16 _ _ h => ?_
      refine gg h rfl rfl c5 (o_ldv 3 rfl rfl PArp t_y34) rfl fun v17 _ _ h => ?_
      obtain ⟨r10, er10, H⟩ := bindE H
      refine gg h rfl rfl c5 (o_call (ref16_Arps.spc v16 r6.1 v17 r7.1 r10 er10) rfl [1, 0] [] (by decide) rfl rfl) rfl fun _ _ _ h => ?_
      refine gs h (o_pickT rfl rfl c5) rfl fun _ _ _ h => ?_
      refine gs h (o_move rfl) rfl fun _ _ _ h => ?_
      by_cases c6 : r10 = true
      ·have H := ifT c6 H
       refine gg h rfl rfl c6 (o_move rfl) rfl fun _ _ _ h => ?_
       refine gg h rfl rfl c6 (o_move rfl) rfl fun _ _ _ h => ?_
       refine gg h rfl rfl c6 (o_eqb rfl rfl t_u4) rfl fun _ _ _ h => ?_
       refine gs h (o_pickT rfl rfl c6) rfl fun _ _ _ h => ?_
       refine gs h (o_move rfl) rfl fun _ _ _ h => ?_
       by_cases c7 : (r6.2 == r7.2) = true
       ·have H := ifT c7 H
        obtain ⟨r11, er11, H⟩ := bindE H
        refine gg h rfl rfl c7 (o_call (law16_heads.spc  r11 er11) rfl [] [] (by decide) rfl rfl) rfl fun _ _ _ h => ?_
        refine gs h (o_pickT rfl rfl c7) rfl fun _ _ _ h => ?_
        refine gs h (o_assign rfl) rfl fun _ _ _ h => ?_
        refine GoR.done ?_
        exact J1 r11 _ _ (som H).symm (h.wk (by rfl) [4, 7, 10, 13, 22] (by decide) (by rfl))
       ·have H := ifF c7 H
        refine gk h rfl rfl (nb_f c7) rfl fun _ h => ?_
        refine gs h (o_pickF rfl rfl c7) rfl fun _ _ _ h => ?_
        refine gs h (o_assign rfl) rfl fun _ _ _ h => ?_
        refine GoR.done ?_
        exact J1 false _ _ (som H).symm (h.wk (by rfl) [4, 7, 10, 13, 22] (by decide) (by rfl))
      ·have H := ifF c6 H
       refine gk h rfl rfl (nb_f c6) rfl fun _ h => ?_
       refine gk h rfl rfl (nb_f c6) rfl fun _ h => ?_
       refine gk h rfl rfl (nb_f c6) rfl fun _ h => ?_
       refine gs h (o_pickF rfl rfl c6) rfl fun _ _ _ h => ?_
       refine gs h (o_move rfl) rfl fun _ _ _ h => ?_
       refine gk h rfl rfl (nb_f Bool.false_ne_true) rfl fun _ h => ?_
       refine gs h (o_pickF rfl rfl Bool.false_ne_true) rfl fun _ _ _ h => ?_
       refine gs h (o_assign rfl) rfl fun _ _ _ h => ?_
       refine GoR.done ?_
       exact J1 false _ _ (som H).symm (h.wk (by rfl) [4, 7, 10, 13, 22] (by decide) (by rfl))
     ·have H := ifF c5 H
      refine gk h rfl rfl (nb_f c5) rfl fun _ h => ?_
      refine gk h rfl rfl (nb_f c5) rfl fun _ h => ?_
      refine gk h rfl rfl (nb_f c5) rfl fun _ h => ?_
      refine gs h (o_pickF rfl rfl c5) rfl fun _ _ _ h => ?_
      refine gs h (o_move rfl) rfl fun _ _ _ h => ?_
      refine gk h rfl rfl (nb_f Bool.false_ne_true) rfl fun _ h => ?_
      refine gk h rfl rfl (nb_f Bool.false_ne_true) rfl fun _ h => ?_
      refine gk h rfl rfl (nb_f Bool.false_ne_true) rfl fun _ h => ?_
      refine gs h (o_pickF rfl rfl Bool.false_ne_true) rfl fun _ _ _ h => ?_
      refine gs h (o_move rfl) rfl fun _ _ _ h => ?_
      refine gk h rfl rfl (nb_f Bool.false_ne_true) rfl fun _ h => ?_
      refine gs h (o_pickF rfl rfl Bool.false_ne_true) rfl fun _ _ _ h => ?_
      refine gs h (o_assign rfl) rfl fun _ _ _ h => ?_
      refine GoR.done ?_
      exact J1 false _ _ (som H).symm (h.wk (by rfl) [2, 5, 8, 11, 20] (by decide) (by rfl))
    ·have H := ifF c4 H
     refine gk h rfl rfl (nb_f c4) rfl fun _ h => ?_
     refine gk h rfl rfl (nb_f c4) rfl fun _ h => ?_
     refine gk h rfl rfl (nb_f c4) rfl fun _ h => ?_
     refine gs h (o_pickF rfl rfl c4) rfl fun _ _ _ h => ?_
     refine gs h (o_move rfl) rfl fun _ _ _ h => ?_
     refine gk h rfl rfl (nb_f Bool.false_ne_true) rfl fun _ h => ?_
     refine gk h rfl rfl (nb_f Bool.false_ne_true) rfl fun _ h => ?_
     refine gk h rfl rfl (nb_f Bool.false_ne_true) rfl fun _ h => ?_
     refine gs h (o_pickF rfl rfl Bool.false_ne_true) rfl fun _ _ _ h => ?_
     refine gs h (o_move rfl) rfl fun _ _ _ h => ?_
     refine gk h rfl rfl (nb_f Bool.false_ne_true) rfl fun _ h => ?_
     refine gk h rfl rfl (nb_f Bool.false_ne_true) rfl fun _ h => ?_
     refine gk h rfl rfl (nb_f Bool.false_ne_true) rfl fun _ h => ?_
     refine gs h (o_pickF rfl rfl Bool.false_ne_true) rfl fun _ _ _ h => ?_
     refine gs h (o_move rfl) rfl fun _ _ _ h => ?_
     refine gk h rfl rfl (nb_f Bool.false_ne_true) rfl fun _ h => ?_
     refine gs h (o_pickF rfl rfl Bool.false_ne_true) rfl fun _ _ _ h => ?_
     refine gs h (o_assign rfl) rfl fun _ _ _ h => ?_
     refine GoR.done ?_
     exact J1 false _ _ (som H).symm (h.wk (by rfl) [2, 5, 8, 11, 20] (by decide) (by rfl))
   ·have H := ifF c3 H
    refine gk h rfl rfl (nb_f c3) rfl fun _ h => ?_
    refine gk h rfl rfl (nb_f c3) rfl fun _ h => ?_
    refine gk h rfl rfl (nb_f c3) rfl fun _ h => ?_
    refine gs h (o_pickF rfl rfl c3) rfl fun _ _ _ h => ?_
    refine gs h (o_move rfl) rfl fun _ _ _ h => ?_
    refine gk h rfl rfl (nb_f Bool.false_ne_true) rfl fun _ h => ?_
    refine gk h rfl rfl (nb_f Bool.false_ne_true) rfl fun _ h => ?_
    refine gk h rfl rfl (nb_f Bool.false_ne_true) rfl fun _ h => ?_
    refine gs h (o_pickF rfl rfl Bool.false_ne_true) rfl fun _ _ _ h => ?_
    refine gs h (o_move rfl) rfl fun _ _ _ h => ?_
    refine gk h rfl rfl (nb_f Bool.false_ne_true) rfl fun _ h => ?_
    refine gk h rfl rfl (nb_f Bool.false_ne_true) rfl fun _ h => ?_
    refine gk h rfl rfl (nb_f Bool.false_ne_true) rfl fun _ h => ?_
    refine gs h (o_pickF rfl rfl Bool.false_ne_true) rfl fun _ _ _ h => ?_
    refine gs h (o_move rfl) rfl fun _ _ _ h => ?_
    refine gk h rfl rfl (nb_f Bool.false_ne_true) rfl fun _ h => ?_
    refine gk h rfl rfl (nb_f Bool.false_ne_true) rfl fun _ h => ?_
    refine gk h rfl rfl (nb_f Bool.false_ne_true) rfl fun _ h => ?_
    refine gs h (o_pickF rfl rfl Bool.false_ne_true) rfl fun _ _ _ h => ?_
    refine gs h (o_move rfl) rfl fun _ _ _ h => ?_
    refine gk h rfl rfl (nb_f Bool.false_ne_true) rfl fun _ h => ?_
    refine gs h (o_pickF rfl rfl Bool.false_ne_true) rfl fun _ _ _ h => ?_
    refine gs h (o_assign rfl) rfl fun _ _ _ h => ?_
    refine GoR.done ?_
    exact J1 false _ _ (som H).symm (h.wk (by rfl) [0, 3, 6, 9, 18] (by decide) (by rfl))
  ·have H := ifF c2 H
   refine gk h rfl rfl (nb_f c2) rfl fun _ h => ?_
   refine gk h rfl rfl (nb_f c2) rfl fun _ h => ?_
   refine gk h rfl rfl (nb_f c2) rfl fun _ h => ?_
   refine gs h (o_pickF rfl rfl c2) rfl fun _ _ _ h => ?_
   refine gs h (o_move rfl) rfl fun _ _ _ h => ?_
   refine gk h rfl rfl (nb_f Bool.false_ne_true) rfl fun _ h => ?_
   refine gk h rfl rfl (nb_f Bool.false_ne_true) rfl fun _ h => ?_
   refine gk h rfl rfl (nb_f Bool.false_ne_true) rfl fun _ h => ?_
   refine gs h (o_pickF rfl rfl Bool.false_ne_true) rfl fun _ _ _ h => ?_
   refine gs h (o_move rfl) rfl fun _ _ _ h => ?_
   refine gk h rfl rfl (nb_f Bool.false_ne_true) rfl fun _ h => ?_
   refine gk h rfl rfl (nb_f Bool.false_ne_true) rfl fun _ h => ?_
   refine gk h rfl rfl (nb_f Bool.false_ne_true) rfl fun _ h => ?_
   refine gs h (o_pickF rfl rfl Bool.false_ne_true) rfl fun _ _ _ h => ?_
   refine gs h (o_move rfl) rfl fun _ _ _ h => ?_
   refine gk h rfl rfl (nb_f Bool.false_ne_true) rfl fun _ h => ?_
   refine gk h rfl rfl (nb_f Bool.false_ne_true) rfl fun _ h => ?_
   refine gk h rfl rfl (nb_f Bool.false_ne_true) rfl fun _ h => ?_
   refine gs h (o_pickF rfl rfl Bool.false_ne_true) rfl fun _ _ _ h => ?_
   refine gs h (o_move rfl) rfl fun _ _ _ h => ?_
   refine gk h rfl rfl (nb_f Bool.false_ne_true) rfl fun _ h => ?_
   refine gk h rfl rfl (nb_f Bool.false_ne_true) rfl fun _ h => ?_
   refine gk h rfl rfl (nb_f Bool.false_ne_true) rfl fun _ h => ?_
   refine gs h (o_pickF rfl rfl Bool.false_ne_true) rfl fun _ _ _ h => ?_
   refine gs h (o_move rfl) rfl fun _ _ _ h => ?_
   refine gk h rfl rfl (nb_f Bool.false_ne_true) rfl fun _ h => ?_
   refine gs h (o_pickF rfl rfl Bool.false_ne_true) rfl fun _ _ _ h => ?_
   refine gs h (o_assign rfl) rfl fun _ _ _ h => ?_
   refine GoR.done ?_
   exact J1 false _ _ (som H).symm (h.wk (by rfl) [0, 3, 6, 9, 18] (by decide) (by rfl))
def law16_EtherArps.g (k_ : Nat) (a1 : TArp) (a2 : List Int) (a3 : List Int) (a4 : Int) : Option (Bool) :=
  (if decide (3000 < (a2.length : Int)) = true then (law16_heads.g k_).bind fun r1 => some (r1) else (ether_PutArp.g k_ a1).bind fun r2 => (ref16_PutArp.g k_ a1).bind fun r3 => (ether_GetArp.g k_ a2).bind fun r4 => (ref16_GetArp.g k_ a2).bind fun r5 => (ether_Answer.g k_ a1 a3 a4).bind fun r6 => (ref16_Answer.g k_ a1 a3 a4).bind fun r7 => ((ref01_Same.g k_ r2.1 r3.1).bind fun r8 => (if r8 = true then (if decide (r2.2 = r3.2) = true then (ref16_Arps.g k_ r4.1 r5.1).bind fun r9 => (if r9 = true then (if decide (r4.2 = r5.2) = true then (ref16_Arps.g k_ r6.1 r7.1).bind fun r10 => (if r10 = true then (if (r6.2 == r7.2) = true then (law16_heads.g k_).bind fun r11 => some (r11) else some (false)) else some (false)) else some (false)) else some (false)) else some (false)) else some (false))).bind (fun j1 => some (j1)))
theorem law16_EtherArps.le (k_ : Nat) (a1 : TArp) (a2 : List Int) (a3 : List Int) (a4 : Int) : Le (law16_EtherArps.g k_ a1 a2 a3 a4) (law16_EtherArps.f a1 a2 a3 a4) := by
 unfold law16_EtherArps.g law16_EtherArps.f
 repeat' (first | with_reducible refine le_loop fun _ => ?_ | with_reducible refine le_bind ?_ fun _ => ?_ | with_reducible refine le_ite ?_ ?_ | with_reducible refine le_lt fun _ => ?_ | with_reducible refine le_elim (fun _ => ?_) (fun _ => ?_) _ | with_reducible apply ether_Answer.le | with_reducible apply ether_GetArp.le | with_reducible apply ether_PutArp.le | with_reducible apply law16_heads.le | with_reducible apply ref01_Same.le | with_reducible apply ref16_Answer.le | with_reducible apply ref16_Arps.le | with_reducible apply ref16_GetArp.le | with_reducible apply ref16_PutArp.le | with_reducible exact le_refl _)
/-! drawbridge/drawbridgeref16.Put -/
noncomputable def ref16_Put.f (a1 : TFrm) : Option ((List Int) × Int) :=
  ((if (!decide ((a1.Dst.length : Int) = 6)) = true then some (true) else (if (!decide ((a1.Src.length : Int) = 6)) = true then some (true) else (if decide (a1.Type_ < 0) = true then some (true) else (if decide (65535 < a1.Type_) = true then some (true) else some (decide (1500 < (a1.Data.length : Int)))))))).bind (fun j1 => (if j1 = true then some (([], 2)) else (ref16_own.f a1.Dst).bind fun r1 => (app r1 a1.Src).bind fun x1 => (ref16_number.f (IntKind.u64.wrap a1.Type_) 2).bind fun r2 => (app x1 r2).bind fun x2 => (app x2 a1.Data).bind fun x3 => some ((x3, 0))))
set_option maxRecDepth 100000 in
set_option maxHeartbeats 4000000 in
theorem ref16_Put.spc (v1 : Value) (a1 : TFrm) (r : (List Int) × Int) (H : ref16_Put.f a1 = some r) : Spc Try.prog 14 [v1] [Val KFrm v1 a1] [] (fun (s : Value) => .tuple #[s, .int .i64 r.2]) (fun s => [Ent.pur (InR .i64 r.2), Val (Kd.osl (Kd.int .u8)) s r.1]) := by
 unfold ref16_Put.f at H
 refine Spc.go Try.func14 rfl (by kernel_rfl) rfl rfl (all_cons (Val.per PFrm) all_nil) fun F a w h => ?_
 refine Go.seq ?_
 refine Go.reg ?_
 refine gs h (o_box (K := KFrm) rfl (pv_at PFrm 0 rfl)) rfl fun b1 _ _ h => ?_
 refine gs h (o_assign rfl) rfl fun _ _ _ h => ?_
 refine gs h (o_assign rfl) rfl fun _ _ _ h => ?_
 refine GoR.done ?_
 refine Go.seq ?_
 refine Go.seq ?_
 obtain ⟨o1, H, G1⟩ := bindE H
 refine g_cut (fun G => ∀ j1 (a : Act) (w : World), o1 = j1 → St Try.f14.ntmps F [(1, .pointer (some ⟨b1, 0, none⟩)), (29, .bool j1)] [Fld KFrm b1 0 a1] a w → G a w) 1 ?_ fun J1 => ?_
 ·intro j1 a w ho_ h
  rw [ho_] at G1
  have H := G1
  by_cases c5 : j1 = true
  ·have H := ifT c5 H
   refine g_t h rfl c5 ?_
   refine Go.seq ?_
   refine Go.reg ?_
   refine gs h (o_assign rfl) rfl fun _ _ _ h => ?_
   refine gs h (o_assign rfl) rfl fun _ _ _ h => ?_
   refine GoR.done ?_
   replace h := h.mm fun m => m.nilo (Kd.int .u8)
   rw [← som H]
   exact g_ret (vs := [.slice none 0 0, .int .i64 2]) h Try.func14 ⟨rfl, ⟨rfl, trivial⟩⟩ ⟨.slice none 0 0, rfl, ((h.mem.pick [0] (by decide) rfl).addpur (show InR .i64 2 by decide))⟩
  ·have H := ifF c5 H
   refine g_f h rfl c5 ?_
   refine Go.skip ?_
   refine Go.seq ?_
   replace h := h.wk (E' := [(1, .pointer (some ⟨b1, 0, none⟩))]) (L' := [Fld KFrm b1 0 a1]) (by rfl) [0] (by decide) (by rfl)
   obtain ⟨r1, er1, H⟩ := bindE H
   obtain ⟨x1, ex1, H⟩ := bindE H
   obtain ⟨r2, er2, H⟩ := bindE H
   obtain ⟨x2, ex2, H⟩ := bindE H
   refine Go.draw (L := [Fld KFrm b1 0 a1]) h 13 [⟨[], [], [], false, .con (.pointer (some ⟨b1, 0, none⟩)), none, fun u => []⟩, ⟨[0], [], [], false, .own, none, fun u => [Val (Kd.sl (Kd.int .u8)) u a1.Dst]⟩, ⟨[0, 1], [1], [], false, .own, none, fun u => [Val (Kd.osl (Kd.int .u8)) u r1]⟩, ⟨[], [], [], false, .con (.pointer (some ⟨b1, 1, none⟩)), none, fun u => []⟩, ⟨[3], [], [], false, .own, none, fun u => [Val (Kd.sl (Kd.int .u8)) u a1.Src]⟩, ⟨[0, 1, 2, 3, 4], [2, 4], [2], false, .own, none, fun u => [Val (Kd.osl (Kd.int .u8)) u x1]⟩, ⟨[], [], [], false, .con (.pointer (some ⟨b1, 2, none⟩)), none, fun u => []⟩, ⟨[6], [], [], false, .con (.int .i64 a1.Type_), none, fun u => [Ent.pur (InR .i64 a1.Type_)]⟩, ⟨[6, 7], [], [], false, .con (.int .u64 (IntKind.u64.wrap a1.Type_)), none, fun u => []⟩, ⟨[6, 7, 8], [], [], false, .own, none, fun u => [Val (Kd.osl (Kd.int .u8)) u r2]⟩, ⟨[0, 1, 2, 3, 4, 5, 6, 7, 8, 9], [5, 9], [5], false, .own, none, fun u => [Val (Kd.osl (Kd.int .u8)) u x2]⟩, ⟨[], [], [], false, .con (.pointer (some ⟨b1, 3, none⟩)), none, fun u => []⟩, ⟨[11], [], [], false, .own, none, fun u => [Val (Kd.sl (Kd.int .u8)) u a1.Data]⟩] rfl t_mxo (by kernel_rfl) (by rfl) ?_ fun f1 _ _ h => ?_
   ·exact obs_cons (ob_con rfl (gok_none rfl) rfl fun f1 => (o_fa rfl t_f25_0 rfl rfl)) (obs_cons (ob_own rfl (gok_none rfl) rfl fun f1 => (o_lfv 0 rfl rfl sFrm_Dst rfl Per_sl t_y22)) (obs_cons (ob_own rfl (gok_none rfl) rfl fun f1 => (o_call (ref16_own.spc (f1 1) a1.Dst r1 er1) rfl [0] [] (by decide) rfl rfl)) (obs_cons (ob_con rfl (gok_none rfl) rfl fun f1 => (o_fa rfl t_f25_1 rfl rfl)) (obs_cons (ob_own rfl (gok_none rfl) rfl fun f1 => (o_lfv 0 rfl rfl sFrm_Src rfl Per_sl t_y22)) (obs_cons (ob_own rfl (gok_none rfl) rfl fun f1 => (o_app (K := (Kd.int .u8)) 0 rfl rfl rfl (rd_at 1 rfl) ex1 t_a22 t_n22)) (obs_cons (ob_con rfl (gok_none rfl) rfl fun f1 => (o_fa rfl t_f25_2 rfl rfl)) (obs_cons (ob_con rfl (gok_none rfl) rfl fun f1 => (OpS.pur (fun F w m_ => (in2 (fd_sub sFrm_Type_ 0 rfl m_))) (o_lfx 0 rfl rfl sFrm_Type_ rfl X_int t_y3))) (obs_cons (ob_con rfl (gok_none rfl) rfl fun f1 => (o_conv rfl t_q3 t_u62)) (obs_cons (ob_own rfl (gok_none rfl) rfl fun f1 => (o_call (ref16_number.spc (IntKind.u64.wrap a1.Type_) (wrap_in _ _) 2 (show InR .i64 2 by decide) r2 er2) rfl [] [] (by decide) rfl rfl)) (obs_cons (ob_own rfl (gok_none rfl) rfl fun f1 => (o_app (K := (Kd.int .u8)) 0 rfl rfl rfl (rd_own 1 rfl) ex2 t_a22 t_n22)) (obs_cons (ob_con rfl (gok_none rfl) rfl fun f1 => (o_fa rfl t_f25_3 rfl rfl)) (obs_cons (ob_own rfl (gok_none rfl) rfl fun f1 => (o_lfv 0 rfl rfl sFrm_Data rfl Per_sl t_y22)) (obs_nil)))))))))))))
   replace h := h.wk (E' := [(40, (f1 10)), (42, (f1 12))]) (L' := [Val (Kd.sl (Kd.int .u8)) (f1 1) a1.Dst, Val (Kd.sl (Kd.int .u8)) (f1 4) a1.Src, Ent.pur (InR .i64 a1.Type_), Val (Kd.osl (Kd.int .u8)) (f1 9) r2, Val (Kd.osl (Kd.int .u8)) (f1 10) x2, Val (Kd.sl (Kd.int .u8)) (f1 12) a1.Data, Fld KFrm b1 0 a1]) (by kernel_rfl) [0, 1, 2, 3, 4, 5, 6] (by decide) (by kernel_rfl)
   obtain ⟨x3, ex3, H⟩ := bindE H
   refine gs h (o_app (K := (Kd.int .u8)) 4 rfl rfl rfl (rd_at 5 rfl) ex3 t_a22 t_n22) rfl fun v12 _ _ h => ?_
   refine gs h (o_assign rfl) rfl fun _ _ _ h => ?_
   refine gs h (o_assign rfl) rfl fun _ _ _ h => ?_
   refine GoR.done ?_
   rw [← som H]
   exact g_ret (vs := [v12, .int .i64 0]) h Try.func14 ⟨rfl, ⟨rfl, trivial⟩⟩ ⟨v12, rfl, ((h.mem.pick [4] (by decide) rfl).addpur (show InR .i64 0 by decide))⟩
 refine Go.reg ?_
 refine gs h (o_fa rfl t_f25_0 rfl rfl) rfl fun _ _ _ h => ?_
 refine gs h (o_lfv 0 rfl rfl sFrm_Dst rfl Per_sl t_y22) rfl fun v2 _ _ h => ?_
 have g1 := (len_at 0 rfl h.mem)
 refine gs h (o_ln rfl (rd_at 0 rfl) t_v22) rfl fun _ _ _ h => ?_
 refine gs h (o_bin rfl rfl rfl) rfl fun _ _ _ h => ?_
 refine gs h (o_move rfl) rfl fun _ _ _ h => ?_
 by_cases c1 : (!decide ((a1.Dst.length : Int) = 6)) = true
 ·have H := ifT c1 H
  refine gk h rfl rfl (nb_t c1) rfl fun _ h => ?_
  refine gk h rfl rfl (nb_t c1) rfl fun _ h => ?_
  refine gk h rfl rfl (nb_t c1) rfl fun _ h => ?_
  refine gk h rfl rfl (nb_t c1) rfl fun _ h => ?_
  refine gs h (o_pickT rfl rfl c1) rfl fun _ _ _ h => ?_
  refine gs h (o_move rfl) rfl fun _ _ _ h => ?_
  refine gk h rfl rfl (nb_t rfl) rfl fun _ h => ?_
  refine gk h rfl rfl (nb_t rfl) rfl fun _ h => ?_
  refine gk h rfl rfl (nb_t rfl) rfl fun _ h => ?_
  refine gs h (o_pickT rfl rfl rfl) rfl fun _ _ _ h => ?_
  refine gs h (o_move rfl) rfl fun _ _ _ h => ?_
  refine gk h rfl rfl (nb_t rfl) rfl fun _ h => ?_
  refine gk h rfl rfl (nb_t rfl) rfl fun _ h => ?_
  refine gk h rfl rfl (nb_t rfl) rfl fun _ h => ?_
  refine gs h (o_pickT rfl rfl rfl) rfl fun _ _ _ h => ?_
  refine gs h (o_move rfl) rfl fun _ _ _ h => ?_
  refine gk h rfl rfl (nb_t rfl) rfl fun _ h => ?_
  refine gk h rfl rfl (nb_t rfl) rfl fun _ h => ?_
  refine gk h rfl rfl (nb_t rfl) rfl fun _ h => ?_
  refine gk h rfl rfl (nb_t rfl) rfl fun _ h => ?_
  refine gs h (o_pickT rfl rfl rfl) rfl fun _ _ _ h => ?_
  refine GoR.done ?_
  exact J1 true _ _ (som H).symm (h.wk (by rfl) [1] (by decide) (by rfl))
 ·have H := ifF c1 H
  refine gg h rfl rfl (nbF c1) (o_fa rfl t_f25_1 rfl rfl) rfl fun _ _ _ h => ?_
  refine gg h rfl rfl (nbF c1) (o_lfv 1 rfl rfl sFrm_Src rfl Per_sl t_y22) rfl fun v3 _ _ h => ?_
  have g2 := (len_at 0 rfl h.mem)
  refine gg h rfl rfl (nbF c1) (o_ln rfl (rd_at 0 rfl) t_v22) rfl fun _ _ _ h => ?_
  refine gg h rfl rfl (nbF c1) (o_bin rfl rfl rfl) rfl fun _ _ _ h => ?_
  refine gs h (o_pickF rfl rfl c1) rfl fun _ _ _ h => ?_
  refine gs h (o_move rfl) rfl fun _ _ _ h => ?_
  by_cases c2 : (!decide ((a1.Src.length : Int) = 6)) = true
  ·have H := ifT c2 H
   refine gk h rfl rfl (nb_t c2) rfl fun _ h => ?_
   refine gk h rfl rfl (nb_t c2) rfl fun _ h => ?_
   refine gk h rfl rfl (nb_t c2) rfl fun _ h => ?_
   refine gs h (o_pickT rfl rfl c2) rfl fun _ _ _ h => ?_
   refine gs h (o_move rfl) rfl fun _ _ _ h => ?_
   refine gk h rfl rfl (nb_t rfl) rfl fun _ h => ?_
   refine gk h rfl rfl (nb_t rfl) rfl fun _ h => ?_
   refine gk h rfl rfl (nb_t rfl) rfl fun _ h => ?_
   refine gs h (o_pickT rfl rfl rfl) rfl fun _ _ _ h => ?_
   refine gs h (o_move rfl) rfl fun _ _ _ h => ?_
   refine gk h rfl rfl (nb_t rfl) rfl fun _ h => ?_
   refine gk h rfl rfl (nb_t rfl) rfl fun _ h => ?_
   refine gk h rfl rfl (nb_t rfl) rfl fun _ h => ?_
   refine gk h rfl rfl (nb_t rfl) rfl fun _ h => ?_
   refine gs h (o_pickT rfl rfl rfl) rfl fun _ _ _ h => ?_
   refine GoR.done ?_
   exact J1 true _ _ (som H).symm (h.wk (by rfl) [2] (by decide) (by rfl))
  ·have H := ifF c2 H
   refine gg h rfl rfl (nbF c2) (o_fa rfl t_f25_2 rfl rfl) rfl fun _ _ _ h => ?_
   have g3 := (in2 (fd_sub sFrm_Type_ 2 rfl h.mem))
   refine gg h rfl rfl (nbF c2) (o_lfx 2 rfl rfl sFrm_Type_ rfl X_int t_y3) rfl fun _ _ _ h => ?_
   refine gg h rfl rfl (nbF c2) (o_bin rfl rfl rfl) rfl fun _ _ _ h => ?_
   refine gs h (o_pickF rfl rfl c2) rfl fun _ _ _ h => ?_
   refine gs h (o_move rfl) rfl fun _ _ _ h => ?_
   by_cases c3 : decide (a1.Type_ < 0) = true
   ·have H := ifT c3 H
    refine gk h rfl rfl (nb_t c3) rfl fun _ h => ?_
    refine gk h rfl rfl (nb_t c3) rfl fun _ h => ?_
    refine gk h rfl rfl (nb_t c3) rfl fun _ h => ?_
    refine gs h (o_pickT rfl rfl c3) rfl fun _ _ _ h => ?_
    refine gs h (o_move rfl) rfl fun _ _ _ h => ?_
    refine gk h rfl rfl (nb_t rfl) rfl fun _ h => ?_
    refine gk h rfl rfl (nb_t rfl) rfl fun _ h => ?_
    refine gk h rfl rfl (nb_t rfl) rfl fun _ h => ?_
    refine gk h rfl rfl (nb_t rfl) rfl fun _ h => ?_
    refine gs h (o_pickT rfl rfl rfl) rfl fun _ _ _ h => ?_
    refine GoR.done ?_
    exact J1 true _ _ (som H).symm (h.wk (by rfl) [2] (by decide) (by rfl))
   ·have H := ifF c3 H
    refine gg h rfl rfl (nbF c3) (o_fa rfl t_f25_2 rfl rfl) rfl fun _ _ _ h => ?_
    have g4 := (in2 (fd_sub sFrm_Type_ 2 rfl h.mem))
    refine gg h rfl rfl (nbF c3) (o_lfx 2 rfl rfl sFrm_Type_ rfl X_int t_y3) rfl fun _ _ _ h => ?_
    refine gg h rfl rfl (nbF c3) (o_bin rfl rfl rfl) rfl fun _ _ _ h => ?_
    refine gs h (o_pickF rfl rfl c3) rfl fun _ _ _ h => ?_
    refine gs h (o_move rfl) rfl fun _ _ _ h => ?_
    by_cases c4 : decide (65535 < a1.Type_) = true
    ·have H := ifT c4 H
     refine gk h rfl rfl (nb_t c4) rfl fun _ h => ?_
     refine gk h rfl rfl (nb_t c4) rfl fun _ h => ?_
     refine gk h rfl rfl (nb_t c4) rfl fun _ h => ?_
     refine gk h rfl rfl (nb_t c4) rfl fun _ h => ?_
     refine gs h (o_pickT rfl rfl c4) rfl fun _ _ _ h => ?_
     refine GoR.done ?_
     exact J1 true _ _ (som H).symm (h.wk (by rfl) [2] (by decide) (by rfl))
    ·have H := ifF c4 H
     refine gg h rfl rfl (nbF c4) (o_fa rfl t_f25_3 rfl rfl) rfl fun _ _ _ h => ?_
     refine gg h rfl rfl (nbF c4) (o_lfv 2 rfl rfl sFrm_Data rfl Per_sl t_y22) rfl fun v4 _ _ h => ?_
     have g5 := (len_at 0 rfl h.mem)
     refine gg h rfl rfl (nbF c4) (o_ln rfl (rd_at 0 rfl) t_v22) rfl fun _ _ _ h => ?_
     refine gg h rfl rfl (nbF c4) (o_bin rfl rfl rfl) rfl fun _ _ _ h => ?_
     refine gs h (o_pickF rfl rfl c4) rfl fun _ _ _ h => ?_
     refine GoR.done ?_
     exact J1 (decide (1500 < (a1.Data.length : Int))) _ _ (som H).symm (h.wk (by rfl) [3] (by decide) (by rfl))
def ref16_Put.g (k_ : Nat) (a1 : TFrm) : Option ((List Int) × Int) :=
  ((if (!decide ((a1.Dst.length : Int) = 6)) = true then some (true) else (if (!decide ((a1.Src.length : Int) = 6)) = true then some (true) else (if decide (a1.Type_ < 0) = true then some (true) else (if decide (65535 < a1.Type_) = true then some (true) else some (decide (1500 < (a1.Data.length : Int)))))))).bind (fun j1 => (if j1 = true then some (([], 2)) else (ref16_own.g k_ a1.Dst).bind fun r1 => (app r1 a1.Src).bind fun x1 => (ref16_number.g k_ (IntKind.u64.wrap a1.Type_) 2).bind fun r2 => (app x1 r2).bind fun x2 => (app x2 a1.Data).bind fun x3 => some ((x3, 0))))
theorem ref16_Put.le (k_ : Nat) (a1 : TFrm) : Le (ref16_Put.g k_ a1) (ref16_Put.f a1) := by
 unfold ref16_Put.g ref16_Put.f
 repeat' (first | with_reducible refine le_loop fun _ => ?_ | with_reducible refine le_bind ?_ fun _ => ?_ | with_reducible refine le_ite ?_ ?_ | with_reducible refine le_lt fun _ => ?_ | with_reducible refine le_elim (fun _ => ?_) (fun _ => ?_) _ | with_reducible apply ref16_number.le | with_reducible apply ref16_own.le | with_reducible exact le_refl _)
/-! drawbridge/drawbridgeref16.Get -/
noncomputable def ref16_Get.f (a1 : List Int) : Option (TFrm × Int) :=
  (if decide ((a1.length : Int) < 14) = true then some (((⟨[], [], 0, []⟩ : TFrm), 160)) else (if decide (1514 < (a1.length : Int)) = true then some (((⟨[], [], 0, []⟩ : TFrm), 161)) else (cut a1 0 6).bind fun x1 => (ref16_own.f x1).bind fun r1 => (cut a1 6 12).bind fun x2 => (ref16_own.f x2).bind fun r2 => (cut a1 12 14).bind fun x3 => (ref01_Get.f x3 true).bind fun r3 => (cut a1 14 (a1.length : Int)).bind fun x4 => (ref16_own.f x4).bind fun r4 => some (((⟨r1, r2, IntKind.i64.wrap r3, r4⟩ : TFrm), 0))))
set_option maxRecDepth 100000 in
set_option maxHeartbeats 4000000 in
theorem ref16_Get.spc (v1 : Value) (a1 : List Int) (r : TFrm × Int) (H : ref16_Get.f a1 = some r) : Spc Try.prog 15 [v1] [Val (Kd.sl (Kd.int .u8)) v1 a1] [] (fun (s : Value) => .tuple #[s, .int .i64 r.2]) (fun s => [Ent.pur (InR .i64 r.2), Val KFrm s r.1]) := by
 unfold ref16_Get.f at H
 refine Spc.go Try.func15 rfl (by kernel_rfl) rfl rfl (all_cons (Val.per Per_sl) all_nil) fun F a w h => ?_
 refine Go.seq ?_
 refine Go.reg ?_
 refine gs h (o_alloc (K := KFrm) (z := (.agg #[.slice none 0 0, .slice none 0 0, .int .i64 0, .slice none 0 0])) rfl ZFrm) rfl fun b1 _ _ h => ?_
 refine gs h (o_assign rfl) rfl fun _ _ _ h => ?_
 refine GoR.done ?_
 refine Go.seq ?_
 refine Go.seq ?_
 refine Go.reg ?_
 refine gs h (o_move rfl) rfl fun _ _ _ h => ?_
 have g1 := (len_at 1 rfl h.mem)
 refine gs h (o_ln rfl (rd_at 1 rfl) t_v22) rfl fun _ _ _ h => ?_
 refine gs h (o_bin rfl rfl rfl) rfl fun _ _ _ h => ?_
 refine GoR.done ?_
 by_cases c1 : decide ((a1.length : Int) < 14) = true
 ·have H := ifT c1 H
  refine g_t h rfl c1 ?_
  refine Go.seq ?_
  refine Go.reg ?_
  refine gs h (o_build (K := KFrm) (x := (⟨[], [], 0, []⟩ : TFrm)) (ps := []) rfl (zs := zsFrm) rfl t_b25 rfl (show PB (Kd.pair (Kd.sl (Kd.int .u8)) (Kd.pair (Kd.sl (Kd.int .u8)) (Kd.pair (Kd.int .i64) (Kd.last (Kd.sl (Kd.int .u8)))))) ([], [], 0, []) 0 zsFrm _ _ from (pb_zero z_sl (pb_zero z_sl (pb_zero z_int (pb_lastz z_sl)))))) rfl fun v2 _ _ h => ?_
  refine gs0 h (o_st 1 rfl rfl rfl (pv_at PFrm 0 rfl) rfl t_w25) fun _ _ _ h => ?_
  refine gs h (o_assign rfl) rfl fun _ _ _ h => ?_
  refine GoR.done ?_
  obtain ⟨v3, h, u1⟩ := h.peek 1 rfl PFrm t_y25
  rw [← som H]
  exact g_ret (vs := [v3, .int .i64 160]) h Try.func15 ⟨⟨_, rfl, u1⟩, ⟨rfl, trivial⟩⟩ ⟨v3, rfl, ((h.mem.pick [0] (by decide) rfl).addpur (show InR .i64 160 by decide))⟩
 ·have H := ifF c1 H
  refine g_f h rfl c1 ?_
  refine Go.skip ?_
  refine Go.seq ?_
  refine Go.seq ?_
  refine Go.reg ?_
  refine gs h (o_move rfl) rfl fun _ _ _ h => ?_
  have g2 := (len_at 1 rfl h.mem)
  refine gs h (o_ln rfl (rd_at 1 rfl) t_v22) rfl fun _ _ _ h => ?_
  refine gs h (o_bin rfl rfl rfl) rfl fun _ _ _ h => ?_
  refine GoR.done ?_
  by_cases c2 : decide (1514 < (a1.length : Int)) = true
  ·have H := ifT c2 H
   refine g_t h rfl c2 ?_
   refine Go.seq ?_
   refine Go.reg ?_
   refine gs h (o_build (K := KFrm) (x := (⟨[], [], 0, []⟩ : TFrm)) (ps := []) rfl (zs := zsFrm) rfl t_b25 rfl (show PB (Kd.pair (Kd.sl (Kd.int .u8)) (Kd.pair (Kd.sl (Kd.int .u8)) (Kd.pair (Kd.int .i64) (Kd.last (Kd.sl (Kd.int .u8)))))) ([], [], 0, []) 0 zsFrm _ _ from (pb_zero z_sl (pb_zero z_sl (pb_zero z_int (pb_lastz z_sl)))))) rfl fun v4 _ _ h => ?_
   refine gs0 h (o_st 1 rfl rfl rfl (pv_at PFrm 0 rfl) rfl t_w25) fun _ _ _ h => ?_
   refine gs h (o_assign rfl) rfl fun _ _ _ h => ?_
   refine GoR.done ?_
   obtain ⟨v5, h, u2⟩ := h.peek 1 rfl PFrm t_y25
   rw [← som H]
   exact g_ret (vs := [v5, .int .i64 161]) h Try.func15 ⟨⟨_, rfl, u2⟩, ⟨rfl, trivial⟩⟩ ⟨v5, rfl, ((h.mem.pick [0] (by decide) rfl).addpur (show InR .i64 161 by decide))⟩
  ·have H := ifF c2 H
   refine g_f h rfl c2 ?_
   refine Go.skip ?_
   refine Go.seq ?_
   replace h := h.wk (E' := [(0, v1), (2, .pointer (some ⟨b1, 0, none⟩)), (3, .int .i64 0)]) (L' := [Fld KFrm b1 0 zFrm, Val (Kd.sl (Kd.int .u8)) v1 a1]) (by rfl) [0, 1] (by decide) (by rfl)
   obtain ⟨x1, ex1, H⟩ := bindE H
   obtain ⟨r1, er1, H⟩ := bindE H
   obtain ⟨x2, ex2, H⟩ := bindE H
   obtain ⟨r2, er2, H⟩ := bindE H
   obtain ⟨x3, ex3, H⟩ := bindE H
   obtain ⟨r3, er3, H⟩ := bindE H
   obtain ⟨x4, ex4, H⟩ := bindE H
   obtain ⟨r4, er4, H⟩ := bindE H
   refine Go.draw (L := [Fld KFrm b1 0 zFrm, Val (Kd.sl (Kd.int .u8)) v1 a1]) h 13 [⟨[], [], [], false, .con (v1), none, fun u => []⟩, ⟨[0], [], [], false, .own, none, fun u => [Val (Kd.sl (Kd.int .u8)) u x1]⟩, ⟨[0, 1], [1], [], false, .own, none, fun u => [Val (Kd.osl (Kd.int .u8)) u r1]⟩, ⟨[], [], [], false, .con (v1), none, fun u => []⟩, ⟨[3], [], [], false, .own, none, fun u => [Val (Kd.sl (Kd.int .u8)) u x2]⟩, ⟨[3, 4], [4], [], false, .own, none, fun u => [Val (Kd.osl (Kd.int .u8)) u r2]⟩, ⟨[], [], [], false, .con (v1), none, fun u => []⟩, ⟨[6], [], [], false, .own, none, fun u => [Val (Kd.sl (Kd.int .u8)) u x3]⟩, ⟨[6, 7], [7], [], false, .con (.int .u64 r3), none, fun u => [Ent.pur (InR .u64 r3)]⟩, ⟨[6, 7, 8], [], [], false, .con (.int .i64 (IntKind.i64.wrap r3)), none, fun u => []⟩, ⟨[], [], [], false, .con (v1), none, fun u => []⟩, ⟨[10], [], [], false, .own, none, fun u => [Val (Kd.sl (Kd.int .u8)) u x4]⟩, ⟨[10, 11], [11], [], false, .own, none, fun u => [Val (Kd.osl (Kd.int .u8)) u r4]⟩] rfl t_mxo (by kernel_rfl) (by rfl) ?_ fun f1 _ _ h => ?_
   ·exact obs_cons (ob_con rfl (gok_none rfl) rfl fun f1 => (o_move rfl)) (obs_cons (ob_own rfl (gok_none rfl) rfl fun f1 => (o_cuth rfl (pv_at Per_sl 1 rfl) rfl ex1 t_v22)) (obs_cons (ob_own rfl (gok_none rfl) rfl fun f1 => (o_call (ref16_own.spc (f1 1) x1 r1 er1) rfl [0] [] (by decide) rfl rfl)) (obs_cons (ob_con rfl (gok_none rfl) rfl fun f1 => (o_move rfl)) (obs_cons (ob_own rfl (gok_none rfl) rfl fun f1 => (o_cut rfl (pv_at Per_sl 1 rfl) rfl rfl ex2 t_v22)) (obs_cons (ob_own rfl (gok_none rfl) rfl fun f1 => (o_call (ref16_own.spc (f1 4) x2 r2 er2) rfl [0] [] (by decide) rfl rfl)) (obs_cons (ob_con rfl (gok_none rfl) rfl fun f1 => (o_move rfl)) (obs_cons (ob_own rfl (gok_none rfl) rfl fun f1 => (o_cut rfl (pv_at Per_sl 1 rfl) rfl rfl ex3 t_v22)) (obs_cons (ob_con rfl (gok_none rfl) rfl fun f1 => (o_call (ref01_Get.spc (f1 7) x3 true r3 er3) rfl [0] [] (by decide) rfl rfl)) (obs_cons (ob_con rfl (gok_none rfl) rfl fun f1 => (o_conv rfl t_q62 t_u3)) (obs_cons (ob_con rfl (gok_none rfl) rfl fun f1 => (o_move rfl)) (obs_cons (ob_own rfl (gok_none rfl) rfl fun f1 => (o_cutl rfl (pv_at Per_sl 1 rfl) rfl ex4 t_v22)) (obs_cons (ob_own rfl (gok_none rfl) rfl fun f1 => (o_call (ref16_own.spc (f1 11) x4 r4 er4) rfl [0] [] (by decide) rfl rfl)) (obs_nil)))))))))))))
   replace h := h.wk (E' := [(2, .pointer (some ⟨b1, 0, none⟩)), (3, .int .i64 0), (14, (f1 2)), (17, (f1 5)), (21, .int .i64 (IntKind.i64.wrap r3)), (24, (f1 12))]) (L' := [Val (Kd.sl (Kd.int .u8)) (f1 1) x1, Val (Kd.osl (Kd.int .u8)) (f1 2) r1, Val (Kd.sl (Kd.int .u8)) (f1 4) x2, Val (Kd.osl (Kd.int .u8)) (f1 5) r2, Val (Kd.sl (Kd.int .u8)) (f1 7) x3, Ent.pur (InR .u64 r3), Val (Kd.sl (Kd.int .u8)) (f1 11) x4, Val (Kd.osl (Kd.int .u8)) (f1 12) r4, Fld KFrm b1 0 zFrm, Val (Kd.sl (Kd.int .u8)) v1 a1]) (by kernel_rfl) [0, 1, 2, 3, 4, 5, 6, 7, 8, 9] (by decide) (by kernel_rfl)
   replace h := h.mm fun m => m.freeze 1 rfl
   replace h := h.mm fun m => m.freeze 3 rfl
   replace h := h.mm fun m => m.freeze 7 rfl
   refine gs h (o_build (K := KFrm) (x := (⟨r1, r2, IntKind.i64.wrap r3, r4⟩ : TFrm)) (ps := [(0, (f1 2)), (1, (f1 5)), (2, .int .i64 (IntKind.i64.wrap r3)), (3, (f1 12))]) rfl (zs := zsFrm) rfl t_b25 rfl (show PB (Kd.pair (Kd.sl (Kd.int .u8)) (Kd.pair (Kd.sl (Kd.int .u8)) (Kd.pair (Kd.int .i64) (Kd.last (Kd.sl (Kd.int .u8)))))) (r1, r2, IntKind.i64.wrap r3, r4) 0 zsFrm _ _ from (pb_part (pv_at Per_sl 1 rfl) rfl (pb_part (pv_at Per_sl 3 rfl) rfl (pb_part (pv_int (wrap_in _ _)) rfl (pb_lastp (pv_at Per_sl 7 rfl) rfl)))))) rfl fun v13 _ _ h => ?_
   refine gs0 h (o_st 9 rfl rfl rfl (pv_at PFrm 0 rfl) rfl t_w25) fun _ _ _ h => ?_
   refine gs h (o_assign rfl) rfl fun _ _ _ h => ?_
   refine GoR.done ?_
   obtain ⟨v14, h, u3⟩ := h.peek 9 rfl PFrm t_y25
   rw [← som H]
   exact g_ret (vs := [v14, .int .i64 0]) h Try.func15 ⟨⟨_, rfl, u3⟩, ⟨rfl, trivial⟩⟩ ⟨v14, rfl, ((h.mem.pick [0] (by decide) rfl).addpur (show InR .i64 0 by decide))⟩
def ref16_Get.g (k_ : Nat) (a1 : List Int) : Option (TFrm × Int) :=
  (if decide ((a1.length : Int) < 14) = true then some (((⟨[], [], 0, []⟩ : TFrm), 160)) else (if decide (1514 < (a1.length : Int)) = true then some (((⟨[], [], 0, []⟩ : TFrm), 161)) else (cut a1 0 6).bind fun x1 => (ref16_own.g k_ x1).bind fun r1 => (cut a1 6 12).bind fun x2 => (ref16_own.g k_ x2).bind fun r2 => (cut a1 12 14).bind fun x3 => (ref01_Get.g k_ x3 true).bind fun r3 => (cut a1 14 (a1.length : Int)).bind fun x4 => (ref16_own.g k_ x4).bind fun r4 => some (((⟨r1, r2, IntKind.i64.wrap r3, r4⟩ : TFrm), 0))))
theorem ref16_Get.le (k_ : Nat) (a1 : List Int) : Le (ref16_Get.g k_ a1) (ref16_Get.f a1) := by
 unfold ref16_Get.g ref16_Get.f
 repeat' (first | with_reducible refine le_loop fun _ => ?_ | with_reducible refine le_bind ?_ fun _ => ?_ | with_reducible refine le_ite ?_ ?_ | with_reducible refine le_lt fun _ => ?_ | with_reducible refine le_elim (fun _ => ?_) (fun _ => ?_) _ | with_reducible apply ref01_Get.le | with_reducible apply ref16_own.le | with_reducible exact le_refl _)
/-! drawbridge/drawbridgeref16.Same -/
noncomputable def ref16_Same.f (a1 : TFrm) (a2 : TFrm) : Option (Bool) :=
  ((if decide (a1.Dst = a2.Dst) = true then (if decide (a1.Src = a2.Src) = true then (if decide (a1.Type_ = a2.Type_) = true then lt (decide (a1.Data = a2.Data)) fun y1 => some (y1) else some (false)) else some (false)) else some (false))).bind (fun j1 => some (j1))
set_option maxRecDepth 100000 in
set_option maxHeartbeats 4000000 in
theorem ref16_Same.spc (v1 : Value) (a1 : TFrm) (v2 : Value) (a2 : TFrm) (r : Bool) (H : ref16_Same.f a1 a2 = some r) : Spc Try.prog 16 [v1, v2] [Val KFrm v1 a1, Val KFrm v2 a2] [] (fun (s : Unit) => .bool r) (fun s => []) := by
 unfold ref16_Same.f at H
 refine Spc.go Try.func16 rfl (by kernel_rfl) rfl rfl (all_cons (Val.per PFrm) (all_cons (Val.per PFrm) all_nil)) fun F a w h => ?_
 refine Go.seq ?_
 refine Go.reg ?_
 refine gs h (o_box (K := KFrm) rfl (pv_at PFrm 0 rfl)) rfl fun b1 _ _ h => ?_
 refine gs h (o_box (K := KFrm) rfl (pv_at PFrm 2 rfl)) rfl fun b2 _ _ h => ?_
 refine gs h (o_assign rfl) rfl fun _ _ _ h => ?_
 refine GoR.done ?_
 refine Go.seq ?_
 obtain ⟨o1, H, G1⟩ := bindE H
 refine g_cut (fun G => ∀ j1 (a : Act) (w : World), o1 = j1 → St Try.f16.ntmps F [(4, .bool j1)] [Fld KFrm b2 0 a2, Fld KFrm b1 0 a1] a w → G a w) 1 ?_ fun J1 => ?_
 ·intro j1 a w ho_ h
  rw [ho_] at G1
  have H := G1
  rw [← som H]
  exact g_ret (vs := [.bool j1]) h Try.func16 ⟨rfl, trivial⟩ ⟨(), rfl, (h.mem.pick [] (by decide) rfl)⟩
 refine Go.reg ?_
 refine gs h (o_fa rfl t_f25_0 rfl rfl) rfl fun _ _ _ h => ?_
 refine gs h (o_lfv 1 rfl rfl sFrm_Dst rfl Per_sl t_y22) rfl fun v3 _ _ h => ?_
 have g1 := (rd_bs (rd_at 0 rfl) h.mem)
 refine gs h (o_b2s rfl (rd_at 0 rfl) t_u22 t_u5 t_u9) rfl fun _ _ _ h => ?_
 refine gs h (o_fa rfl t_f25_0 rfl rfl) rfl fun _ _ _ h => ?_
 refine gs h (o_lfv 1 rfl rfl sFrm_Dst rfl Per_sl t_y22) rfl fun v4 _ _ h => ?_
 have g2 := (rd_bs (rd_at 0 rfl) h.mem)
 refine gs h (o_b2s rfl (rd_at 0 rfl) t_u22 t_u5 t_u9) rfl fun _ _ _ h => ?_
 refine gs h (o_eqs rfl rfl g1 g2) rfl fun _ _ _ h => ?_
 refine gs h (o_move rfl) rfl fun _ _ _ h => ?_
 by_cases c1 : decide (a1.Dst = a2.Dst) = true
 ·have H := ifT c1 H
  refine gg h rfl rfl c1 (o_fa rfl t_f25_1 rfl rfl) rfl fun _ _ _ h => ?_
  refine gg h rfl rfl c1 (o_lfv 3 rfl rfl sFrm_Src rfl Per_sl t_y22) rfl fun v5 _ _ h => ?_
  have g3 := (rd_bs (rd_at 0 rfl) h.mem)
  refine gg h rfl rfl c1 (o_b2s rfl (rd_at 0 rfl) t_u22 t_u5 t_u9) rfl fun _ _ _ h => ?_
  refine gg h rfl rfl c1 (o_fa rfl t_f25_1 rfl rfl) rfl fun _ _ _ h => ?_
  refine gg h rfl rfl c1 (o_lfv 3 rfl rfl sFrm_Src rfl Per_sl t_y22) rfl fun v6 _ _ h => ?_
  have g4 := (rd_bs (rd_at 0 rfl) h.mem)
  refine gg h rfl rfl c1 (o_b2s rfl (rd_at 0 rfl) t_u22 t_u5 t_u9) rfl fun _ _ _ h => ?_
  refine gg h rfl rfl c1 (o_eqs rfl rfl g3 g4) rfl fun _ _ _ h => ?_
  refine gs h (o_pickT rfl rfl c1) rfl fun _ _ _ h => ?_
  refine gs h (o_move rfl) rfl fun _ _ _ h => ?_
  by_cases c2 : decide (a1.Src = a2.Src) = true
  ·have H := ifT c2 H
   refine gg h rfl rfl c2 (o_fa rfl t_f25_2 rfl rfl) rfl fun _ _ _ h => ?_
   have g5 := (in2 (fd_sub sFrm_Type_ 5 rfl h.mem))
   refine gg h rfl rfl c2 (o_lfx 5 rfl rfl sFrm_Type_ rfl X_int t_y3) rfl fun _ _ _ h => ?_
   refine gg h rfl rfl c2 (o_fa rfl t_f25_2 rfl rfl) rfl fun _ _ _ h => ?_
   have g6 := (in2 (fd_sub sFrm_Type_ 4 rfl h.mem))
   refine gg h rfl rfl c2 (o_lfx 4 rfl rfl sFrm_Type_ rfl X_int t_y3) rfl fun _ _ _ h => ?_
   refine gg h rfl rfl c2 (o_bin rfl rfl rfl) rfl fun _ _ _ h => ?_
   refine gs h (o_pickT rfl rfl c2) rfl fun _ _ _ h => ?_
   refine gs h (o_move rfl) rfl fun _ _ _ h => ?_
   by_cases c3 : decide (a1.Type_ = a2.Type_) = true
   ·have H := ifT c3 H
    refine gg h rfl rfl c3 (o_fa rfl t_f25_3 rfl rfl) rfl fun _ _ _ h => ?_
    refine gg h rfl rfl c3 (o_lfv 5 rfl rfl sFrm_Data rfl Per_sl t_y22) rfl fun v7 _ _ h => ?_
    have g7 := (rd_bs (rd_at 0 rfl) h.mem)
    refine gg h rfl rfl c3 (o_b2s rfl (rd_at 0 rfl) t_u22 t_u5 t_u9) rfl fun _ _ _ h => ?_
    refine gg h rfl rfl c3 (o_fa rfl t_f25_3 rfl rfl) rfl fun _ _ _ h => ?_
    refine gg h rfl rfl c3 (o_lfv 5 rfl rfl sFrm_Data rfl Per_sl t_y22) rfl fun v8 _ _ h => ?_
    have g8 := (rd_bs (rd_at 0 rfl) h.mem)
    refine gg h rfl rfl c3 (o_b2s rfl (rd_at 0 rfl) t_u22 t_u5 t_u9) rfl fun _ _ _ h => ?_
    refine gg h rfl rfl c3 (o_eqs rfl rfl g7 g8) rfl fun _ _ _ h => ?_
    refine gs h (o_pickT rfl rfl c3) rfl fun _ _ _ h => ?_
    obtain ⟨y1, ey1, H⟩ := ltE H
    refine gs h (o_assign' rfl (congrArg Value.bool ey1)) rfl fun _ _ _ h => ?_
    refine GoR.done ?_
    exact J1 y1 _ _ (som H).symm (h.wk (by rfl) [6, 7] (by decide) (by rfl))
   ·have H := ifF c3 H
    refine gk h rfl rfl (nb_f c3) rfl fun _ h => ?_
    refine gk h rfl rfl (nb_f c3) rfl fun _ h => ?_
    refine gk h rfl rfl (nb_f c3) rfl fun _ h => ?_
    refine gk h rfl rfl (nb_f c3) rfl fun _ h => ?_
    refine gk h rfl rfl (nb_f c3) rfl fun _ h => ?_
    refine gk h rfl rfl (nb_f c3) rfl fun _ h => ?_
    refine gk h rfl rfl (nb_f c3) rfl fun _ h => ?_
    refine gs h (o_pickF rfl rfl c3) rfl fun _ _ _ h => ?_
    refine gs h (o_assign rfl) rfl fun _ _ _ h => ?_
    refine GoR.done ?_
    exact J1 false _ _ (som H).symm (h.wk (by rfl) [4, 5] (by decide) (by rfl))
  ·have H := ifF c2 H
   refine gk h rfl rfl (nb_f c2) rfl fun _ h => ?_
   refine gk h rfl rfl (nb_f c2) rfl fun _ h => ?_
   refine gk h rfl rfl (nb_f c2) rfl fun _ h => ?_
   refine gk h rfl rfl (nb_f c2) rfl fun _ h => ?_
   refine gk h rfl rfl (nb_f c2) rfl fun _ h => ?_
   refine gs h (o_pickF rfl rfl c2) rfl fun _ _ _ h => ?_
   refine gs h (o_move rfl) rfl fun _ _ _ h => ?_
   refine gk h rfl rfl (nb_f Bool.false_ne_true) rfl fun _ h => ?_
   refine gk h rfl rfl (nb_f Bool.false_ne_true) rfl fun _ h => ?_
   refine gk h rfl rfl (nb_f Bool.false_ne_true) rfl fun _ h => ?_
   refine gk h rfl rfl (nb_f Bool.false_ne_true) rfl fun _ h => ?_
   refine gk h rfl rfl (nb_f Bool.false_ne_true) rfl fun _ h => ?_
   refine gk h rfl rfl (nb_f Bool.false_ne_true) rfl fun _ h => ?_
   refine gk h rfl rfl (nb_f Bool.false_ne_true) rfl fun _ h => ?_
   refine gs h (o_pickF rfl rfl Bool.false_ne_true) rfl fun _ _ _ h => ?_
   refine gs h (o_assign rfl) rfl fun _ _ _ h => ?_
   refine GoR.done ?_
   exact J1 false _ _ (som H).symm (h.wk (by rfl) [4, 5] (by decide) (by rfl))
 ·have H := ifF c1 H
  refine gk h rfl rfl (nb_f c1) rfl fun _ h => ?_
  refine gk h rfl rfl (nb_f c1) rfl fun _ h => ?_
  refine gk h rfl rfl (nb_f c1) rfl fun _ h => ?_
  refine gk h rfl rfl (nb_f c1) rfl fun _ h => ?_
  refine gk h rfl rfl (nb_f c1) rfl fun _ h => ?_
  refine gk h rfl rfl (nb_f c1) rfl fun _ h => ?_
  refine gk h rfl rfl (nb_f c1) rfl fun _ h => ?_
  refine gs h (o_pickF rfl rfl c1) rfl fun _ _ _ h => ?_
  refine gs h (o_move rfl) rfl fun _ _ _ h => ?_
  refine gk h rfl rfl (nb_f Bool.false_ne_true) rfl fun _ h => ?_
  refine gk h rfl rfl (nb_f Bool.false_ne_true) rfl fun _ h => ?_
  refine gk h rfl rfl (nb_f Bool.false_ne_true) rfl fun _ h => ?_
  refine gk h rfl rfl (nb_f Bool.false_ne_true) rfl fun _ h => ?_
  refine gk h rfl rfl (nb_f Bool.false_ne_true) rfl fun _ h => ?_
  refine gs h (o_pickF rfl rfl Bool.false_ne_true) rfl fun _ _ _ h => ?_
  refine gs h (o_move rfl) rfl fun _ _ _ h => ?_
  refine gk h rfl rfl (nb_f Bool.false_ne_true) rfl fun _ h => ?_
  refine gk h rfl rfl (nb_f Bool.false_ne_true) rfl fun _ h => ?_
  refine gk h rfl rfl (nb_f Bool.false_ne_true) rfl fun _ h => ?_
  refine gk h rfl rfl (nb_f Bool.false_ne_true) rfl fun _ h => ?_
  refine gk h rfl rfl (nb_f Bool.false_ne_true) rfl fun _ h => ?_
  refine gk h rfl rfl (nb_f Bool.false_ne_true) rfl fun _ h => ?_
  refine gk h rfl rfl (nb_f Bool.false_ne_true) rfl fun _ h => ?_
  refine gs h (o_pickF rfl rfl Bool.false_ne_true) rfl fun _ _ _ h => ?_
  refine gs h (o_assign rfl) rfl fun _ _ _ h => ?_
  refine GoR.done ?_
  exact J1 false _ _ (som H).symm (h.wk (by rfl) [2, 3] (by decide) (by rfl))
def ref16_Same.g (k_ : Nat) (a1 : TFrm) (a2 : TFrm) : Option (Bool) :=
  ((if decide (a1.Dst = a2.Dst) = true then (if decide (a1.Src = a2.Src) = true then (if decide (a1.Type_ = a2.Type_) = true then lt (decide (a1.Data = a2.Data)) fun y1 => some (y1) else some (false)) else some (false)) else some (false))).bind (fun j1 => some (j1))
theorem ref16_Same.le (k_ : Nat) (a1 : TFrm) (a2 : TFrm) : Le (ref16_Same.g k_ a1 a2) (ref16_Same.f a1 a2) := by
 unfold ref16_Same.g ref16_Same.f
 repeat' (first | with_reducible refine le_loop fun _ => ?_ | with_reducible refine le_bind ?_ fun _ => ?_ | with_reducible refine le_ite ?_ ?_ | with_reducible refine le_lt fun _ => ?_ | with_reducible refine le_elim (fun _ => ?_) (fun _ => ?_) _ | with_reducible exact le_refl _)
end Go.Proofs.Ytplkiompmjhdlaa.S
