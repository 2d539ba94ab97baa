/- Contracts, printed by a program of this session. -/
import Derived.Test.YtmmaojclfggioaaT2
import Derived.Test.YtmmaojclfggioaaT3
import Derived.Test.YtmmaojclfggioaaT7
import Derived.Test.YtmmaojclfggioaaT8
import Derived.Test.YtmmaojclfggioaaT10
import Derived.Test.YtmmaojclfggioaaT11
import Derived.Test.YtmmaojclfggioaaT12
import Derived.Test.YtmmaojclfggioaaT13
namespace Go.Proofs.Ytmmaojclfggioaa.S
open Go Go.SL Go.RowKit
set_option linter.unusedVariables false
set_option linter.unusedSimpArgs false
/-! drawbridge/drawbridgelaw25.LeaseServes -/
noncomputable def law25_LeaseServes.f (a1 : List TLease) (a2 : Int) (a3 : TDhcp) (a4 : Int) : Option (Bool) :=
  (if decide (40 < (a1.length : Int)) = true then (law25_heads.f).bind fun r1 => some (r1) else (lease_Serve.f a1 a2 a3).bind fun r2 => (ref25_Serve.f a1 a2 a3).bind fun r3 => (lease_Find.f a1 a2 a3.Mac).bind fun r4 => (ref25_Find.f a1 a2 a3.Mac).bind fun r5 => (lease_Owner.f a1 a2 a4).bind fun r6 => (ref25_Owner.f a1 a2 a4).bind fun r7 => ((ref25_Same.f r2.1 r3.1).bind fun r8 => (if r8 = true then (ref20_Same.f r2.2.1 r3.2.1).bind fun r9 => (if r9 = true then (if (r2.2.2 == r3.2.2) = true then (if decide (r4.1 = r5.1) = true then (if (r4.2 == r5.2) = true then (ref01_Same.f r6.1 r7.1).bind fun r10 => (if r10 = true then (if (r6.2 == r7.2) = true then (lease_Check.f a1).bind fun r11 => (ref25_Check.f a1).bind fun r12 => (if (r11 == r12) = true then (law25_heads.f).bind fun r13 => some (r13) else some (false)) else some (false)) else some (false)) else some (false)) else some (false)) else some (false)) else some (false)) else some (false))).bind (fun j1 => some (j1)))
set_option maxRecDepth 100000 in
set_option maxHeartbeats 4000000 in
theorem law25_LeaseServes.spc (v1 : Value) (a1 : List TLease) (a2 : Int) (ha2 : InR .i64 a2) (v2 : Value) (a3 : TDhcp) (a4 : Int) (ha4 : InR .u32 a4) (r : Bool) (H : law25_LeaseServes.f a1 a2 a3 a4 = some r) : Spc Try.prog 4 [v1, .int .i64 a2, v2, .int .u32 a4] [Val (Kd.sl KLease) v1 a1, Val KDhcp v2 a3] [] (fun (s : Unit) => .bool r) (fun s => []) := by
 unfold law25_LeaseServes.f at H
 refine Spc.go Try.func4 rfl (by kernel_rfl) rfl rfl (all_cons (Val.per Per_sl) (all_cons (Val.per PDhcp) all_nil)) fun F a w h => ?_
 refine Go.seq ?_
 refine Go.reg ?_
 refine gs h (o_box (K := KDhcp) rfl (pv_at PDhcp 1 rfl)) rfl fun b1 _ _ h => ?_
 refine ga h (o_assign rfl) rfl fun h => ?_
 refine GoR.done ?_
 refine Go.seq ?_
 refine Go.seq ?_
 refine Go.reg ?_
 refine mv h rfl rfl fun h => ?_
 have g1 := (len_at 1 rfl h.mem)
 refine ga h (o_ln rfl (rd_at 1 rfl) t_v26) rfl fun h => ?_
 refine ga h (o_bin rfl rfl rfl) rfl fun h => ?_
 refine GoR.done ?_
 by_cases c1 : decide (40 < (a1.length : Int)) = true
 ·have H := ifT c1 H
  refine g_t h rfl c1 ?_
  refine Go.seq ?_
  refine Go.reg ?_
  obtain ⟨r1, er1, H⟩ := bindE H
  refine ga h (o_call (law25_heads.spc  r1 er1) rfl [] [] (by decide) rfl rfl) rfl fun h => ?_
  refine ga h (o_assign rfl) rfl fun h => ?_
  refine GoR.done ?_
  rw [← som H]
  exact g_ret (vs := [.bool r1]) h Try.func4 ⟨rfl, trivial⟩ ⟨(), rfl, (h.mem.pick [] (by decide) rfl)⟩
 ·have H := ifF c1 H
  refine g_f h rfl c1 ?_
  refine Go.skip ?_
  refine Go.seq ?_
  refine Go.reg ?_
  refine mv h rfl rfl fun h => ?_
  refine mv h rfl rfl fun h => ?_
  refine gs h (o_ldv 0 rfl rfl PDhcp t_y28) rfl fun v3 _ _ h => ?_
  obtain ⟨r2, er2, H⟩ := bindE H
  refine gs h (o_call (lease_Serve.spc v1 a1 a2 ha2 v3 a3 r2 er2) rfl [2, 0] [] (by decide) rfl rfl) rfl fun s_ _ _ h => ?_
  obtain ⟨v4, v5⟩ := s_
  refine mv h rfl rfl fun h => ?_
  iterate 3 (refine ga h (o_extract rfl rfl) rfl fun h => ?_)
  refine gs h (o_alloc (K := KDhcp) (z := (.agg #[.int .i64 0, .int .u32 0, .int .u32 0, .int .u32 0, .slice none 0 0, .int .i64 0, .int .u32 0, .int .u32 0, .int .u32 0, .int .u32 0, .int .u32 0, .int .u32 0])) rfl ZDhcp) rfl fun b2 _ _ h => ?_
  refine ga h (o_assign rfl) rfl fun h => ?_
  refine gs0 h (o_st 0 rfl rfl rfl (pv_at PDhcp 2 rfl) rfl t_w28) fun _ _ _ h => ?_
  refine ga h (o_assign rfl) rfl fun h => ?_
  refine GoR.done ?_
  refine Go.seq ?_
  refine Go.reg ?_
  refine mv h rfl rfl fun h => ?_
  refine mv h rfl rfl fun h => ?_
  refine gs h (o_ldv 4 rfl rfl PDhcp t_y28) rfl fun v6 _ _ h => ?_
  obtain ⟨r3, er3, H⟩ := bindE H
  refine gs h (o_call (ref25_Serve.spc v1 a1 a2 ha2 v6 a3 r3 er3) rfl [6, 0] [] (by decide) rfl rfl) rfl fun s_ _ _ h => ?_
  obtain ⟨v7, v8⟩ := s_
  refine mv h rfl rfl fun h => ?_
  iterate 3 (refine ga h (o_extract rfl rfl) rfl fun h => ?_)
  refine gs h (o_alloc (K := KDhcp) (z := (.agg #[.int .i64 0, .int .u32 0, .int .u32 0, .int .u32 0, .slice none 0 0, .int .i64 0, .int .u32 0, .int .u32 0, .int .u32 0, .int .u32 0, .int .u32 0, .int .u32 0])) rfl ZDhcp) rfl fun b3 _ _ h => ?_
  refine ga h (o_assign rfl) rfl fun h => ?_
  refine gs0 h (o_st 0 rfl rfl rfl (pv_at PDhcp 2 rfl) rfl t_w28) fun _ _ _ h => ?_
  refine ga h (o_assign rfl) rfl fun h => ?_
  refine GoR.done ?_
  refine Go.seq ?_
  refine Go.reg ?_
  refine mv h rfl rfl fun h => ?_
  refine mv h rfl rfl fun h => ?_
  refine ga h (o_fa rfl t_f28_4 rfl rfl) rfl fun h => ?_
  refine gs h (o_lfv 8 rfl rfl sDhcp_Mac rfl Per_sl t_y22) rfl fun v9 _ _ h => ?_
  obtain ⟨r4, er4, H⟩ := bindE H
  refine ga h (o_call (lease_Find.spc v1 a1 a2 ha2 v9 a3.Mac r4 er4) rfl [10, 0] [] (by decide) rfl rfl) rfl fun h => ?_
  have g2 := h.mem.pur 0 rfl
  refine mv h rfl rfl fun h => ?_
  refine ga h (o_extract rfl rfl) rfl fun h => ?_
  refine ga h (o_extract rfl rfl) rfl fun h => ?_
  refine ga h (o_assign rfl) rfl fun h => ?_
  refine ga h (o_assign rfl) rfl fun h => ?_
  refine GoR.done ?_
  refine Go.seq ?_
  refine Go.reg ?_
  refine mv h rfl rfl fun h => ?_
  refine mv h rfl rfl fun h => ?_
  refine ga h (o_fa rfl t_f28_4 rfl rfl) rfl fun h => ?_
  refine gs h (o_lfv 10 rfl rfl sDhcp_Mac rfl Per_sl t_y22) rfl fun v10 _ _ h => ?_
  obtain ⟨r5, er5, H⟩ := bindE H
  refine ga h (o_call (ref25_Find.spc v1 a1 a2 ha2 v10 a3.Mac r5 er5) rfl [12, 0] [] (by decide) rfl rfl) rfl fun h => ?_
  have g3 := h.mem.pur 0 rfl
  refine mv h rfl rfl fun h => ?_
  refine ga h (o_extract rfl rfl) rfl fun h => ?_
  refine ga h (o_extract rfl rfl) rfl fun h => ?_
  refine ga h (o_assign rfl) rfl fun h => ?_
  refine ga h (o_assign rfl) rfl fun h => ?_
  refine GoR.done ?_
  refine Go.seq ?_
  refine Go.reg ?_
  iterate 3 (refine ga h (o_move rfl) rfl fun h => ?_)
  obtain ⟨r6, er6, H⟩ := bindE H
  refine gs h (o_call (lease_Owner.spc v1 a1 a2 ha2 a4 ha4 r6 er6) rfl [13] [] (by decide) rfl rfl) rfl fun v11 _ _ h => ?_
  refine mv h rfl rfl fun h => ?_
  refine ga h (o_extract rfl rfl) rfl fun h => ?_
  refine ga h (o_extract rfl rfl) rfl fun h => ?_
  refine ga h (o_assign rfl) rfl fun h => ?_
  refine ga h (o_assign rfl) rfl fun h => ?_
  refine GoR.done ?_
  refine Go.seq ?_
  refine Go.reg ?_
  iterate 3 (refine ga h (o_move rfl) rfl fun h => ?_)
  obtain ⟨r7, er7, H⟩ := bindE H
  refine gs h (o_call (ref25_Owner.spc v1 a1 a2 ha2 a4 ha4 r7 er7) rfl [14] [] (by decide) rfl rfl) rfl fun v12 _ _ h => ?_
  refine mv h rfl rfl fun h => ?_
  refine ga h (o_extract rfl rfl) rfl fun h => ?_
  refine ga h (o_extract rfl rfl) rfl fun h => ?_
  refine ga h (o_assign rfl) rfl fun h => ?_
  refine ga h (o_assign rfl) rfl fun h => ?_
  refine GoR.done ?_
  refine Go.seq ?_
  obtain ⟨o1, H, G1⟩ := bindE H
  refine g_cut (fun G => ∀ j1 (a : Act) (w : World), o1 = j1 → St Try.f4.ntmps F [(8, .bool j1)] [Fld KDhcp b3 0 r3.2.1, Fld KDhcp b2 0 r2.2.1, Fld KDhcp b1 0 a3] a w → G a w) 1 ?_ fun J1 => ?_
  ·intro j1 a w ho_ h
   rw [ho_] at G1
   have H := G1
   rw [← som H]
   exact g_ret (vs := [.bool j1]) h Try.func4 ⟨rfl, trivial⟩ ⟨(), rfl, (h.mem.pick [] (by decide) rfl)⟩
  refine Go.reg ?_
  refine mv h rfl rfl fun h => ?_
  refine mv h rfl rfl fun h => ?_
  obtain ⟨r8, er8, H⟩ := bindE H
  refine ga h (o_call (ref25_Same.spc v4 r2.1 v7 r3.1 r8 er8) rfl [11, 7] [] (by decide) rfl rfl) rfl fun h => ?_
  refine mv h rfl rfl fun h => ?_
  by_cases c2 : r8 = true
  ·have H := ifT c2 H
   refine gg h rfl rfl c2 (o_ldv 10 rfl rfl PDhcp t_y28) rfl fun v13 _ _ h => ?_
   refine gg h rfl rfl c2 (o_ldv 7 rfl rfl PDhcp t_y28) rfl fun v14 _ _ h => ?_
   obtain ⟨r9, er9, H⟩ := bindE H
   refine gg h rfl rfl c2 (o_call (ref20_Same.spc v13 r2.2.1 v14 r3.2.1 r9 er9) rfl [1, 0] [] (by decide) rfl rfl) rfl fun _ _ _ h => ?_
   refine ga h (o_pickT rfl rfl c2) rfl fun h => ?_
   refine mv h rfl rfl fun h => ?_
   by_cases c3 : r9 = true
   ·have H := ifT c3 H
    refine gg h rfl rfl c3 (o_move rfl) rfl fun _ _ _ h => ?_
    refine gg h rfl rfl c3 (o_move rfl) rfl fun _ _ _ h => ?_
    refine gg h rfl rfl c3 (o_eqb rfl rfl t_u4) rfl fun _ _ _ h => ?_
    refine ga h (o_pickT rfl rfl c3) rfl fun h => ?_
    refine mv h rfl rfl fun h => ?_
    by_cases c4 : (r2.2.2 == r3.2.2) = true
    ·have H := ifT c4 H
     refine gg h rfl rfl c4 (o_move rfl) rfl fun _ _ _ h => ?_
     refine gg h rfl rfl c4 (o_move rfl) rfl fun _ _ _ h => ?_
     refine gg h rfl rfl c4 (o_bin rfl rfl rfl) rfl fun _ _ _ h => ?_
     refine ga h (o_pickT rfl rfl c4) rfl fun h => ?_
     refine mv h rfl rfl fun h => ?_
     by_cases c5 : decide (r4.1 = r5.1) = true
     ·have H := ifT c5 H
      refine gg h rfl rfl c5 (o_move rfl) rfl fun _ _ _ h => ?_
      refine gg h rfl rfl c5 (o_move rfl) rfl fun _ _ _ h => ?_
      refine gg h rfl rfl c5 (o_eqb rfl rfl t_u4) rfl fun _ _ _ h => ?_
      refine ga h (o_pickT rfl rfl c5) rfl fun h => ?_
      refine mv h rfl rfl fun h => ?_
      by_cases c6 : (r4.2 == r5.2) = true
      ·have H := ifT c6 H
       refine gg h rfl rfl c6 (o_move rfl) rfl fun _ _ _ h => ?_
       refine gg h rfl rfl c6 (o_move rfl) rfl fun _ _ _ h => ?_
       replace h := h.mm fun m => m.freeze 3 rfl
       replace h := h.mm fun m => m.freeze 2 rfl
       obtain ⟨r10, er10, H⟩ := bindE H
       refine gg h rfl rfl c6 (o_call (ref01_Same.spc v11 r6.1 v12 r7.1 r10 er10) rfl [3, 2] [] (by decide) rfl rfl) rfl fun _ _ _ h => ?_
       refine ga h (o_pickT rfl rfl c6) rfl fun h => ?_
       refine mv h rfl rfl fun h => ?_
       by_cases c7 : r10 = true
       ·have H := ifT c7 H
        refine gg h rfl rfl c7 (o_move rfl) rfl fun _ _ _ h => ?_
        refine gg h rfl rfl c7 (o_move rfl) rfl fun _ _ _ h => ?_
        refine gg h rfl rfl c7 (o_eqb rfl rfl t_u4) rfl fun _ _ _ h => ?_
        refine ga h (o_pickT rfl rfl c7) rfl fun h => ?_
        refine mv h rfl rfl fun h => ?_
        by_cases c8 : (r6.2 == r7.2) = true
        ·have H := ifT c8 H
         refine gg h rfl rfl c8 (o_move rfl) rfl fun _ _ _ h => ?_
         obtain ⟨r11, er11, H⟩ := bindE H
         refine gg h rfl rfl c8 (o_call (lease_Check.spc v1 a1 r11 er11) rfl [17] [] (by decide) rfl rfl) rfl fun _ _ _ h => ?_
         refine gg h rfl rfl c8 (o_move rfl) rfl fun _ _ _ h => ?_
         obtain ⟨r12, er12, H⟩ := bindE H
         refine gg h rfl rfl c8 (o_call (ref25_Check.spc v1 a1 r12 er12) rfl [17] [] (by decide) rfl rfl) rfl fun _ _ _ h => ?_
         refine gg h rfl rfl c8 (o_eqb rfl rfl t_u4) rfl fun _ _ _ h => ?_
         refine ga h (o_pickT rfl rfl c8) rfl fun h => ?_
         refine mv h rfl rfl fun h => ?_
         by_cases c9 : (r11 == r12) = true
         ·have H := ifT c9 H
          obtain ⟨r13, er13, H⟩ := bindE H
          refine gg h rfl rfl c9 (o_call (law25_heads.spc  r13 er13) rfl [] [] (by decide) rfl rfl) rfl fun _ _ _ h => ?_
          refine ga h (o_pickT rfl rfl c9) rfl fun h => ?_
          refine ga h (o_assign rfl) rfl fun h => ?_
          refine GoR.done ?_
          exact J1 r13 _ _ (som H).symm (h.wr [8, 12, 16])
         ·have H := ifF c9 H
          refine gk h rfl rfl (nb_f c9) rfl fun _ h => ?_
          refine ga h (o_pickF rfl rfl c9) rfl fun h => ?_
          refine ga h (o_assign rfl) rfl fun h => ?_
          refine GoR.done ?_
          exact J1 false _ _ (som H).symm (h.wr [8, 12, 16])
        ·have H := ifF c8 H
         iterate 5 (refine gk h rfl rfl (nb_f c8) rfl fun _ h => ?_)
         refine ga h (o_pickF rfl rfl c8) rfl fun h => ?_
         refine mv h rfl rfl fun h => ?_
         refine gk h rfl rfl (nb_f Bool.false_ne_true) rfl fun _ h => ?_
         refine ga h (o_pickF rfl rfl Bool.false_ne_true) rfl fun h => ?_
         refine ga h (o_assign rfl) rfl fun h => ?_
         refine GoR.done ?_
         exact J1 false _ _ (som H).symm (h.wr [8, 12, 16])
       ·have H := ifF c7 H
        iterate 3 (refine gk h rfl rfl (nb_f c7) rfl fun _ h => ?_)
        refine ga h (o_pickF rfl rfl c7) rfl fun h => ?_
        refine mv h rfl rfl fun h => ?_
        iterate 5 (refine gk h rfl rfl (nb_f Bool.false_ne_true) rfl fun _ h => ?_)
        refine ga h (o_pickF rfl rfl Bool.false_ne_true) rfl fun h => ?_
        refine mv h rfl rfl fun h => ?_
        refine gk h rfl rfl (nb_f Bool.false_ne_true) rfl fun _ h => ?_
        refine ga h (o_pickF rfl rfl Bool.false_ne_true) rfl fun h => ?_
        refine ga h (o_assign rfl) rfl fun h => ?_
        refine GoR.done ?_
        exact J1 false _ _ (som H).symm (h.wr [8, 12, 16])
      ·have H := ifF c6 H
       iterate 3 (refine gk h rfl rfl (nb_f c6) rfl fun _ h => ?_)
       refine ga h (o_pickF rfl rfl c6) rfl fun h => ?_
       refine mv h rfl rfl fun h => ?_
       iterate 3 (refine gk h rfl rfl (nb_f Bool.false_ne_true) rfl fun _ h => ?_)
       refine ga h (o_pickF rfl rfl Bool.false_ne_true) rfl fun h => ?_
       refine mv h rfl rfl fun h => ?_
       iterate 5 (refine gk h rfl rfl (nb_f Bool.false_ne_true) rfl fun _ h => ?_)
       refine ga h (o_pickF rfl rfl Bool.false_ne_true) rfl fun h => ?_
       refine mv h rfl rfl fun h => ?_
       refine gk h rfl rfl (nb_f Bool.false_ne_true) rfl fun _ h => ?_
       refine ga h (o_pickF rfl rfl Bool.false_ne_true) rfl fun h => ?_
       refine ga h (o_assign rfl) rfl fun h => ?_
       refine GoR.done ?_
       exact J1 false _ _ (som H).symm (h.wr [8, 12, 16])
     ·have H := ifF c5 H
      iterate 3 (refine gk h rfl rfl (nb_f c5) rfl fun _ h => ?_)
      refine ga h (o_pickF rfl rfl c5) rfl fun h => ?_
      refine mv h rfl rfl fun h => ?_
      iterate 3 (refine gk h rfl rfl (nb_f Bool.false_ne_true) rfl fun _ h => ?_)
      refine ga h (o_pickF rfl rfl Bool.false_ne_true) rfl fun h => ?_
      refine mv h rfl rfl fun h => ?_
      iterate 3 (refine gk h rfl rfl (nb_f Bool.false_ne_true) rfl fun _ h => ?_)
      refine ga h (o_pickF rfl rfl Bool.false_ne_true) rfl fun h => ?_
      refine mv h rfl rfl fun h => ?_
      iterate 5 (refine gk h rfl rfl (nb_f Bool.false_ne_true) rfl fun _ h => ?_)
      refine ga h (o_pickF rfl rfl Bool.false_ne_true) rfl fun h => ?_
      refine mv h rfl rfl fun h => ?_
      refine gk h rfl rfl (nb_f Bool.false_ne_true) rfl fun _ h => ?_
      refine ga h (o_pickF rfl rfl Bool.false_ne_true) rfl fun h => ?_
      refine ga h (o_assign rfl) rfl fun h => ?_
      refine GoR.done ?_
      exact J1 false _ _ (som H).symm (h.wr [8, 12, 16])
    ·have H := ifF c4 H
     iterate 3 (refine gk h rfl rfl (nb_f c4) rfl fun _ h => ?_)
     refine ga h (o_pickF rfl rfl c4) rfl fun h => ?_
     refine mv h rfl rfl fun h => ?_
     iterate 3 (refine gk h rfl rfl (nb_f Bool.false_ne_true) rfl fun _ h => ?_)
     refine ga h (o_pickF rfl rfl Bool.false_ne_true) rfl fun h => ?_
     refine mv h rfl rfl fun h => ?_
     iterate 3 (refine gk h rfl rfl (nb_f Bool.false_ne_true) rfl fun _ h => ?_)
     refine ga h (o_pickF rfl rfl Bool.false_ne_true) rfl fun h => ?_
     refine mv h rfl rfl fun h => ?_
     iterate 3 (refine gk h rfl rfl (nb_f Bool.false_ne_true) rfl fun _ h => ?_)
     refine ga h (o_pickF rfl rfl Bool.false_ne_true) rfl fun h => ?_
     refine mv h rfl rfl fun h => ?_
     iterate 5 (refine gk h rfl rfl (nb_f Bool.false_ne_true) rfl fun _ h => ?_)
     refine ga h (o_pickF rfl rfl Bool.false_ne_true) rfl fun h => ?_
     refine mv h rfl rfl fun h => ?_
     refine gk h rfl rfl (nb_f Bool.false_ne_true) rfl fun _ h => ?_
     refine ga h (o_pickF rfl rfl Bool.false_ne_true) rfl fun h => ?_
     refine ga h (o_assign rfl) rfl fun h => ?_
     refine GoR.done ?_
     exact J1 false _ _ (som H).symm (h.wr [8, 12, 16])
   ·have H := ifF c3 H
    iterate 3 (refine gk h rfl rfl (nb_f c3) rfl fun _ h => ?_)
    refine ga h (o_pickF rfl rfl c3) rfl fun h => ?_
    refine mv h rfl rfl fun h => ?_
    iterate 3 (refine gk h rfl rfl (nb_f Bool.false_ne_true) rfl fun _ h => ?_)
    refine ga h (o_pickF rfl rfl Bool.false_ne_true) rfl fun h => ?_
    refine mv h rfl rfl fun h => ?_
    iterate 3 (refine gk h rfl rfl (nb_f Bool.false_ne_true) rfl fun _ h => ?_)
    refine ga h (o_pickF rfl rfl Bool.false_ne_true) rfl fun h => ?_
    refine mv h rfl rfl fun h => ?_
    iterate 3 (refine gk h rfl rfl (nb_f Bool.false_ne_true) rfl fun _ h => ?_)
    refine ga h (o_pickF rfl rfl Bool.false_ne_true) rfl fun h => ?_
    refine mv h rfl rfl fun h => ?_
    iterate 3 (refine gk h rfl rfl (nb_f Bool.false_ne_true) rfl fun _ h => ?_)
    refine ga h (o_pickF rfl rfl Bool.false_ne_true) rfl fun h => ?_
    refine mv h rfl rfl fun h => ?_
    iterate 5 (refine gk h rfl rfl (nb_f Bool.false_ne_true) rfl fun _ h => ?_)
    refine ga h (o_pickF rfl rfl Bool.false_ne_true) rfl fun h => ?_
    refine mv h rfl rfl fun h => ?_
    refine gk h rfl rfl (nb_f Bool.false_ne_true) rfl fun _ h => ?_
    refine ga h (o_pickF rfl rfl Bool.false_ne_true) rfl fun h => ?_
    refine ga h (o_assign rfl) rfl fun h => ?_
    refine GoR.done ?_
    exact J1 false _ _ (som H).symm (h.wr [8, 12, 16])
  ·have H := ifF c2 H
   iterate 3 (refine gk h rfl rfl (nb_f c2) rfl fun _ h => ?_)
   refine ga h (o_pickF rfl rfl c2) rfl fun h => ?_
   refine mv h rfl rfl fun h => ?_
   iterate 3 (refine gk h rfl rfl (nb_f Bool.false_ne_true) rfl fun _ h => ?_)
   refine ga h (o_pickF rfl rfl Bool.false_ne_true) rfl fun h => ?_
   refine mv h rfl rfl fun h => ?_
   iterate 3 (refine gk h rfl rfl (nb_f Bool.false_ne_true) rfl fun _ h => ?_)
   refine ga h (o_pickF rfl rfl Bool.false_ne_true) rfl fun h => ?_
   refine mv h rfl rfl fun h => ?_
   iterate 3 (refine gk h rfl rfl (nb_f Bool.false_ne_true) rfl fun _ h => ?_)
   refine ga h (o_pickF rfl rfl Bool.false_ne_true) rfl fun h => ?_
   refine mv h rfl rfl fun h => ?_
   iterate 3 (refine gk h rfl rfl (nb_f Bool.false_ne_true) rfl fun _ h => ?_)
   refine ga h (o_pickF rfl rfl Bool.false_ne_true) rfl fun h => ?_
   refine mv h rfl rfl fun h => ?_
   iterate 3 (refine gk h rfl rfl (nb_f Bool.false_ne_true) rfl fun _ h => ?_)
   refine ga h (o_pickF rfl rfl Bool.false_ne_true) rfl fun h => ?_
   refine mv h rfl rfl fun h => ?_
   iterate 5 (refine gk h rfl rfl (nb_f Bool.false_ne_true) rfl fun _ h => ?_)
   refine ga h (o_pickF rfl rfl Bool.false_ne_true) rfl fun h => ?_
   refine mv h rfl rfl fun h => ?_
   refine gk h rfl rfl (nb_f Bool.false_ne_true) rfl fun _ h => ?_
   refine ga h (o_pickF rfl rfl Bool.false_ne_true) rfl fun h => ?_
   refine ga h (o_assign rfl) rfl fun h => ?_
   refine GoR.done ?_
   exact J1 false _ _ (som H).symm (h.wr [6, 10, 14])
def law25_LeaseServes.g (k_ : Nat) (a1 : List TLease) (a2 : Int) (a3 : TDhcp) (a4 : Int) : Option (Bool) :=
  (if decide (40 < (a1.length : Int)) = true then (law25_heads.g k_).bind fun r1 => some (r1) else (lease_Serve.g k_ a1 a2 a3).bind fun r2 => (ref25_Serve.g k_ a1 a2 a3).bind fun r3 => (lease_Find.g k_ a1 a2 a3.Mac).bind fun r4 => (ref25_Find.g k_ a1 a2 a3.Mac).bind fun r5 => (lease_Owner.g k_ a1 a2 a4).bind fun r6 => (ref25_Owner.g k_ a1 a2 a4).bind fun r7 => ((ref25_Same.g k_ r2.1 r3.1).bind fun r8 => (if r8 = true then (ref20_Same.g k_ r2.2.1 r3.2.1).bind fun r9 => (if r9 = true then (if (r2.2.2 == r3.2.2) = true then (if decide (r4.1 = r5.1) = true then (if (r4.2 == r5.2) = true then (ref01_Same.g k_ r6.1 r7.1).bind fun r10 => (if r10 = true then (if (r6.2 == r7.2) = true then (lease_Check.g k_ a1).bind fun r11 => (ref25_Check.g k_ a1).bind fun r12 => (if (r11 == r12) = true then (law25_heads.g k_).bind fun r13 => some (r13) else some (false)) else some (false)) else some (false)) else some (false)) else some (false)) else some (false)) else some (false)) else some (false))).bind (fun j1 => some (j1)))
theorem law25_LeaseServes.le (k_ : Nat) (a1 : List TLease) (a2 : Int) (a3 : TDhcp) (a4 : Int) : Le (law25_LeaseServes.g k_ a1 a2 a3 a4) (law25_LeaseServes.f a1 a2 a3 a4) := by
 unfold law25_LeaseServes.g law25_LeaseServes.f
 repeat' (first | with_reducible refine le_loop fun _ => ?_ | with_reducible refine le_bind ?_ fun _ => ?_ | with_reducible refine le_ite ?_ ?_ | with_reducible refine le_lt fun _ => ?_ | with_reducible refine le_elim (fun _ => ?_) (fun _ => ?_) _ | with_reducible apply law25_heads.le | with_reducible apply lease_Check.le | with_reducible apply lease_Find.le | with_reducible apply lease_Owner.le | with_reducible apply lease_Serve.le | with_reducible apply ref01_Same.le | with_reducible apply ref20_Same.le | with_reducible apply ref25_Check.le | with_reducible apply ref25_Find.le | with_reducible apply ref25_Owner.le | with_reducible apply ref25_Same.le | with_reducible apply ref25_Serve.le | with_reducible exact le_refl _)
end Go.Proofs.Ytmmaojclfggioaa.S
