/- Contracts, printed by a program of this session. -/
import Derived.Test.YtmmaojclfggioaaT1
import Derived.Test.YtmmaojclfggioaaT7
import Derived.Test.YtmmaojclfggioaaT8
import Derived.Test.YtmmaojclfggioaaT9
namespace Go.Proofs.Ytmmaojclfggioaa.S
open Go Go.SL Go.RowKit
set_option linter.unusedVariables false
set_option linter.unusedSimpArgs false
/-! drawbridge/drawbridgelaw25.LeaseOffers -/
noncomputable def law25_LeaseOffers.f (a1 : List TLease) (a2 : Int) (a3 : TDhcp) : Option (Bool) :=
  ((if decide (40 < (a1.length : Int)) = true then some (true) else (lease_Check.f a1).bind fun r1 => (if (!r1) = true then some (true) else some ((!decide (a3.Type_ = 1)))))).bind (fun j1 => (if j1 = true then (law25_heads.f).bind fun r2 => some (r2) else (lease_Serve.f a1 a2 a3).bind fun r3 => (ref25_Same.f r3.1 a1).bind fun r4 => (if (!r4) = true then some (false) else (if (!r3.2.2) = true then ((ref20_Same.f r3.2.1 (⟨0, 0, 0, 0, [], 0, 0, 0, 0, 0, 0, 0⟩ : TDhcp)).bind fun r5 => (if r5 = true then (law25_heads.f).bind fun r6 => some (r6) else some (false))).bind (fun j2 => some (j2)) else (lease_Serve.f a1 a2 (⟨1, a3.Xid, 0, 0, a3.Mac, 3, r3.2.1.Yi, r3.2.1.Server, 0, 0, 0, 0⟩ : TDhcp)).bind fun r7 => (lease_Serve.f r7.1 a2 a3).bind fun r8 => ((if r7.2.2 = true then (if decide (r7.2.1.Type_ = 5) = true then (if decide (r7.2.1.Yi = r3.2.1.Yi) = true then (if decide (r7.2.1.Xid = a3.Xid) = true then (if r8.2.2 = true then (if decide (r8.2.1.Yi = r3.2.1.Yi) = true then (law25_heads.f).bind fun r9 => some (r9) else some (false)) else some (false)) else some (false)) else some (false)) else some (false)) else some (false))).bind (fun j3 => some (j3))))))
set_option maxRecDepth 100000 in
set_option maxHeartbeats 4000000 in
theorem law25_LeaseOffers.spc (v1 : Value) (a1 : List TLease) (a2 : Int) (ha2 : InR .i64 a2) (v2 : Value) (a3 : TDhcp) (r : Bool) (H : law25_LeaseOffers.f a1 a2 a3 = some r) : Spc Try.prog 6 [v1, .int .i64 a2, v2] [Val (Kd.sl KLease) v1 a1, Val KDhcp v2 a3] [] (fun (s : Unit) => .bool r) (fun s => []) := by
 unfold law25_LeaseOffers.f at H
 refine Spc.go Try.func6 rfl (by kernel_rfl) rfl rfl (all_cons (Val.per Per_sl) (all_cons (Val.per PDhcp) all_nil)) fun F a w h => ?_
 refine Go.seq ?_
 refine Go.reg ?_
 refine gs h (o_box (K := KDhcp) rfl (pv_at PDhcp 1 rfl)) rfl fun b1 _ _ h => ?_
 refine ga h (o_assign rfl) rfl fun h => ?_
 refine GoR.done ?_
 refine Go.seq ?_
 refine Go.seq ?_
 obtain ⟨o1, H, G1⟩ := bindE H
 refine g_cut (fun G => ∀ j1 (a : Act) (w : World), o1 = j1 → St Try.f6.ntmps F [(0, v1), (1, .int .i64 a2), (5, pt b1), (29, .bool j1)] [Val (Kd.sl KLease) v1 a1, Fld KDhcp b1 0 a3] a w → G a w) 1 ?_ fun J1 => ?_
 ·intro j1 a w ho_ h
  rw [ho_] at G1
  have H := G1
  by_cases c3 : j1 = true
  ·have H := ifT c3 H
   refine g_t h rfl c3 ?_
   refine Go.seq ?_
   refine Go.reg ?_
   obtain ⟨r2, er2, H⟩ := bindE H
   refine ga h (o_call (law25_heads.spc  r2 er2) rfl [] [] (by decide) rfl rfl) rfl fun h => ?_
   refine ga h (o_assign rfl) rfl fun h => ?_
   refine GoR.done ?_
   rw [← som H]
   exact g_ret (vs := [.bool r2]) h Try.func6 ⟨rfl, trivial⟩ ⟨(), rfl, (h.mem.pick [] (by decide) rfl)⟩
  ·have H := ifF c3 H
   refine g_f h rfl c3 ?_
   refine Go.skip ?_
   refine Go.seq ?_
   refine Go.reg ?_
   refine mv h rfl rfl fun h => ?_
   refine mv h rfl rfl fun h => ?_
   refine gs h (o_ldv 1 rfl rfl PDhcp t_y28) rfl fun v3 _ _ h => ?_
   obtain ⟨r3, er3, H⟩ := bindE H
   refine gs h (o_call (lease_Serve.spc v1 a1 a2 ha2 v3 a3 r3 er3) rfl [1, 0] [] (by decide) rfl rfl) rfl fun s_ _ _ h => ?_
   obtain ⟨v4, v5⟩ := s_
   refine mv h rfl rfl fun h => ?_
   iterate 3 (refine ga h (o_extract rfl rfl) rfl fun h => ?_)
   refine gs h (o_alloc (K := KDhcp) (z := (.agg #[.int .i64 0, .int .u32 0, .int .u32 0, .int .u32 0, .slice none 0 0, .int .i64 0, .int .u32 0, .int .u32 0, .int .u32 0, .int .u32 0, .int .u32 0, .int .u32 0])) rfl ZDhcp) rfl fun b2 _ _ h => ?_
   refine ga h (o_assign rfl) rfl fun h => ?_
   refine gs0 h (o_st 0 rfl rfl rfl (pv_at PDhcp 2 rfl) rfl t_w28) fun _ _ _ h => ?_
   refine ga h (o_assign rfl) rfl fun h => ?_
   refine GoR.done ?_
   refine Go.seq ?_
   refine Go.seq ?_
   refine Go.reg ?_
   refine mv h rfl rfl fun h => ?_
   refine mv h rfl rfl fun h => ?_
   obtain ⟨r4, er4, H⟩ := bindE H
   refine ga h (o_call (ref25_Same.spc v4 r3.1 v1 a1 r4 er4) rfl [1, 4] [] (by decide) rfl rfl) rfl fun h => ?_
   refine ga h (o_not rfl) rfl fun h => ?_
   refine GoR.done ?_
   by_cases c4 : (!r4) = true
   ·have H := ifT c4 H
    refine g_t h rfl c4 ?_
    refine Go.seq ?_
    refine Go.reg ?_
    refine ga h (o_assign rfl) rfl fun h => ?_
    refine GoR.done ?_
    rw [← som H]
    exact g_ret (vs := [.bool false]) h Try.func6 ⟨rfl, trivial⟩ ⟨(), rfl, (h.mem.pick [] (by decide) rfl)⟩
   ·have H := ifF c4 H
    refine g_f h rfl c4 ?_
    refine Go.skip ?_
    refine Go.seq ?_
    refine Go.seq ?_
    refine Go.reg ?_
    refine mv h rfl rfl fun h => ?_
    refine ga h (o_not rfl) rfl fun h => ?_
    refine GoR.done ?_
    by_cases c5 : (!r3.2.2) = true
    ·have H := ifT c5 H
     refine g_t h rfl c5 ?_
     refine Go.seq ?_
     obtain ⟨o2, H, G2⟩ := bindE H
     refine g_cut (fun G => ∀ j2 (a : Act) (w : World), o2 = j2 → St Try.f6.ntmps F [(6, .bool j2)] [Fld KDhcp b2 0 r3.2.1, Fld KDhcp b1 0 a3] a w → G a w) 1 ?_ fun J2 => ?_
     ·intro j2 a w ho_ h
      rw [ho_] at G2
      have H := G2
      rw [← som H]
      exact g_ret (vs := [.bool j2]) h Try.func6 ⟨rfl, trivial⟩ ⟨(), rfl, (h.mem.pick [] (by decide) rfl)⟩
     refine Go.reg ?_
     refine gs h (o_ldv 0 rfl rfl PDhcp t_y28) rfl fun v6 _ _ h => ?_
     refine gs h (o_build (K := KDhcp) (x := (⟨0, 0, 0, 0, [], 0, 0, 0, 0, 0, 0, 0⟩ : TDhcp)) (ps := []) rfl (zs := zsDhcp) rfl t_b28 rfl (show PB (Kd.pair (Kd.int .i64) (Kd.pair (Kd.int .u32) (Kd.pair (Kd.int .u32) (Kd.pair (Kd.int .u32) (Kd.pair (Kd.sl (Kd.int .u8)) (Kd.pair (Kd.int .i64) (Kd.pair (Kd.int .u32) (Kd.pair (Kd.int .u32) (Kd.pair (Kd.int .u32) (Kd.pair (Kd.int .u32) (Kd.pair (Kd.int .u32) (Kd.last (Kd.int .u32))))))))))))) (0, 0, 0, 0, [], 0, 0, 0, 0, 0, 0, 0) 0 zsDhcp _ _ from (pb_zero z_int (pb_zero z_int (pb_zero z_int (pb_zero z_int (pb_zero z_sl (pb_zero z_int (pb_zero z_int (pb_zero z_int (pb_zero z_int (pb_zero z_int (pb_zero z_int (pb_lastz z_int)))))))))))))) rfl fun v7 _ _ h => ?_
     obtain ⟨r5, er5, H⟩ := bindE H
     refine ga h (o_call (ref20_Same.spc v6 r3.2.1 v7 (⟨0, 0, 0, 0, [], 0, 0, 0, 0, 0, 0, 0⟩ : TDhcp) r5 er5) rfl [1, 0] [] (by decide) rfl rfl) rfl fun h => ?_
     refine mv h rfl rfl fun h => ?_
     by_cases c6 : r5 = true
     ·have H := ifT c6 H
      obtain ⟨r6, er6, H⟩ := bindE H
      refine gg h rfl rfl c6 (o_call (law25_heads.spc  r6 er6) rfl [] [] (by decide) rfl rfl) rfl fun _ _ _ h => ?_
      refine ga h (o_pickT rfl rfl c6) rfl fun h => ?_
      refine ga h (o_assign rfl) rfl fun h => ?_
      refine GoR.done ?_
      exact J2 r6 _ _ (som H).symm (h.wr [2, 7])
     ·have H := ifF c6 H
      refine gk h rfl rfl (nb_f c6) rfl fun _ h => ?_
      refine ga h (o_pickF rfl rfl c6) rfl fun h => ?_
      refine ga h (o_assign rfl) rfl fun h => ?_
      refine GoR.done ?_
      exact J2 false _ _ (som H).symm (h.wr [2, 7])
    ·have H := ifF c5 H
     refine g_f h rfl c5 ?_
     refine Go.skip ?_
     refine Go.seq ?_
     refine Go.reg ?_
     refine ga h (o_fa rfl t_f28_1 rfl rfl) rfl fun h => ?_
     have g3 := (in2 (fd_sub sDhcp_Xid 5 rfl h.mem))
     refine ga h (o_lfx 5 rfl rfl sDhcp_Xid rfl X_int t_y25) rfl fun h => ?_
     refine ga h (o_fa rfl t_f28_4 rfl rfl) rfl fun h => ?_
     refine gs h (o_lfv 5 rfl rfl sDhcp_Mac rfl Per_sl t_y22) rfl fun v8 _ _ h => ?_
     refine ga h (o_fa rfl t_f28_3 rfl rfl) rfl fun h => ?_
     have g4 := (in2 (fd_sub sDhcp_Yi 1 rfl h.mem))
     refine ga h (o_lfx 1 rfl rfl sDhcp_Yi rfl X_int t_y25) rfl fun h => ?_
     refine ga h (o_fa rfl t_f28_7 rfl rfl) rfl fun h => ?_
     have g5 := (in2 (fd_sub sDhcp_Server 1 rfl h.mem))
     refine ga h (o_lfx 1 rfl rfl sDhcp_Server rfl X_int t_y25) rfl fun h => ?_
     refine gs h (o_build (K := KDhcp) (x := (⟨1, a3.Xid, 0, 0, a3.Mac, 3, r3.2.1.Yi, r3.2.1.Server, 0, 0, 0, 0⟩ : TDhcp)) (ps := [(0, .int .i64 1), (1, .int .u32 a3.Xid), (4, v8), (5, .int .i64 3), (6, .int .u32 r3.2.1.Yi), (7, .int .u32 r3.2.1.Server)]) rfl (zs := zsDhcp) rfl t_b28 rfl (show PB (Kd.pair (Kd.int .i64) (Kd.pair (Kd.int .u32) (Kd.pair (Kd.int .u32) (Kd.pair (Kd.int .u32) (Kd.pair (Kd.sl (Kd.int .u8)) (Kd.pair (Kd.int .i64) (Kd.pair (Kd.int .u32) (Kd.pair (Kd.int .u32) (Kd.pair (Kd.int .u32) (Kd.pair (Kd.int .u32) (Kd.pair (Kd.int .u32) (Kd.last (Kd.int .u32))))))))))))) (1, a3.Xid, 0, 0, a3.Mac, 3, r3.2.1.Yi, r3.2.1.Server, 0, 0, 0, 0) 0 zsDhcp _ _ from (pb_part (pv_int (show InR .i64 1 by decide)) rfl (pb_part (pv_int g3) rfl (pb_zero z_int (pb_zero z_int (pb_part (pv_at Per_sl 0 rfl) rfl (pb_part (pv_int (show InR .i64 3 by decide)) rfl (pb_part (pv_int g4) rfl (pb_part (pv_int g5) rfl (pb_zero z_int (pb_zero z_int (pb_zero z_int (pb_lastz z_int)))))))))))))) rfl fun v9 _ _ h => ?_
     refine gs h (o_alloc (K := KDhcp) (z := (.agg #[.int .i64 0, .int .u32 0, .int .u32 0, .int .u32 0, .slice none 0 0, .int .i64 0, .int .u32 0, .int .u32 0, .int .u32 0, .int .u32 0, .int .u32 0, .int .u32 0])) rfl ZDhcp) rfl fun b3 _ _ h => ?_
     refine gs0 h (o_st 0 rfl rfl rfl (pv_at PDhcp 1 rfl) rfl t_w28) fun _ _ _ h => ?_
     refine GoR.done ?_
     refine Go.seq ?_
     refine Go.reg ?_
     refine mv h rfl rfl fun h => ?_
     refine mv h rfl rfl fun h => ?_
     refine gs h (o_ldv 0 rfl rfl PDhcp t_y28) rfl fun v10 _ _ h => ?_
     obtain ⟨r7, er7, H⟩ := bindE H
     refine gs h (o_call (lease_Serve.spc v1 a1 a2 ha2 v10 (⟨1, a3.Xid, 0, 0, a3.Mac, 3, r3.2.1.Yi, r3.2.1.Server, 0, 0, 0, 0⟩ : TDhcp) r7 er7) rfl [8, 0] [] (by decide) rfl rfl) rfl fun s_ _ _ h => ?_
     obtain ⟨v11, v12⟩ := s_
     refine mv h rfl rfl fun h => ?_
     iterate 3 (refine ga h (o_extract rfl rfl) rfl fun h => ?_)
     refine gs h (o_alloc (K := KDhcp) (z := (.agg #[.int .i64 0, .int .u32 0, .int .u32 0, .int .u32 0, .slice none 0 0, .int .i64 0, .int .u32 0, .int .u32 0, .int .u32 0, .int .u32 0, .int .u32 0, .int .u32 0])) rfl ZDhcp) rfl fun b4 _ _ h => ?_
     refine ga h (o_assign rfl) rfl fun h => ?_
     refine gs0 h (o_st 0 rfl rfl rfl (pv_at PDhcp 2 rfl) rfl t_w28) fun _ _ _ h => ?_
     refine ga h (o_assign rfl) rfl fun h => ?_
     refine GoR.done ?_
     refine Go.seq ?_
     refine Go.reg ?_
     refine mv h rfl rfl fun h => ?_
     refine mv h rfl rfl fun h => ?_
     refine gs h (o_ldv 12 rfl rfl PDhcp t_y28) rfl fun v13 _ _ h => ?_
     obtain ⟨r8, er8, H⟩ := bindE H
     refine gs h (o_call (lease_Serve.spc v11 r7.1 a2 ha2 v13 a3 r8 er8) rfl [2, 0] [] (by decide) rfl rfl) rfl fun s_ _ _ h => ?_
     obtain ⟨v14, v15⟩ := s_
     refine mv h rfl rfl fun h => ?_
     iterate 3 (refine ga h (o_extract rfl rfl) rfl fun h => ?_)
     refine gs h (o_alloc (K := KDhcp) (z := (.agg #[.int .i64 0, .int .u32 0, .int .u32 0, .int .u32 0, .slice none 0 0, .int .i64 0, .int .u32 0, .int .u32 0, .int .u32 0, .int .u32 0, .int .u32 0, .int .u32 0])) rfl ZDhcp) rfl fun b5 _ _ h => ?_
     refine ga h (o_assign rfl) rfl fun h => ?_
     refine gs0 h (o_st 0 rfl rfl rfl (pv_at PDhcp 2 rfl) rfl t_w28) fun _ _ _ h => ?_
     refine ga h (o_assign rfl) rfl fun h => ?_
     refine GoR.done ?_
     refine Go.seq ?_
     obtain ⟨o3, H, G3⟩ := bindE H
     refine g_cut (fun G => ∀ j3 (a : Act) (w : World), o3 = j3 → St Try.f6.ntmps F [(6, .bool j3)] [Fld KDhcp b5 0 r8.2.1, Fld KDhcp b4 0 r7.2.1, Fld KDhcp b3 0 (⟨1, a3.Xid, 0, 0, a3.Mac, 3, r3.2.1.Yi, r3.2.1.Server, 0, 0, 0, 0⟩ : TDhcp), Fld KDhcp b2 0 r3.2.1, Fld KDhcp b1 0 a3] a w → G a w) 1 ?_ fun J3 => ?_
     ·intro j3 a w ho_ h
      rw [ho_] at G3
      have H := G3
      rw [← som H]
      exact g_ret (vs := [.bool j3]) h Try.func6 ⟨rfl, trivial⟩ ⟨(), rfl, (h.mem.pick [] (by decide) rfl)⟩
     refine Go.reg ?_
     refine mv h rfl rfl fun h => ?_
     refine mv h rfl rfl fun h => ?_
     by_cases c7 : r7.2.2 = true
     ·have H := ifT c7 H
      refine gg h rfl rfl c7 (o_fa rfl t_f28_5 rfl rfl) rfl fun _ _ _ h => ?_
      have g6 := (in2 (fd_sub sDhcp_Type_ 4 rfl h.mem))
      refine gg h rfl rfl c7 (o_lfx 4 rfl rfl sDhcp_Type_ rfl X_int t_y3) rfl fun _ _ _ h => ?_
      refine gg h rfl rfl c7 (o_bin rfl rfl rfl) rfl fun _ _ _ h => ?_
      refine ga h (o_pickT rfl rfl c7) rfl fun h => ?_
      refine mv h rfl rfl fun h => ?_
      by_cases c8 : decide (r7.2.1.Type_ = 5) = true
      ·have H := ifT c8 H
       refine gg h rfl rfl c8 (o_fa rfl t_f28_3 rfl rfl) rfl fun _ _ _ h => ?_
       have g7 := (in2 (fd_sub sDhcp_Yi 4 rfl h.mem))
       refine gg h rfl rfl c8 (o_lfx 4 rfl rfl sDhcp_Yi rfl X_int t_y25) rfl fun _ _ _ h => ?_
       refine gg h rfl rfl c8 (o_fa rfl t_f28_3 rfl rfl) rfl fun _ _ _ h => ?_
       have g8 := (in2 (fd_sub sDhcp_Yi 11 rfl h.mem))
       refine gg h rfl rfl c8 (o_lfx 11 rfl rfl sDhcp_Yi rfl X_int t_y25) rfl fun _ _ _ h => ?_
       refine gg h rfl rfl c8 (o_bin rfl rfl rfl) rfl fun _ _ _ h => ?_
       refine ga h (o_pickT rfl rfl c8) rfl fun h => ?_
       refine mv h rfl rfl fun h => ?_
       by_cases c9 : decide (r7.2.1.Yi = r3.2.1.Yi) = true
       ·have H := ifT c9 H
        refine gg h rfl rfl c9 (o_fa rfl t_f28_1 rfl rfl) rfl fun _ _ _ h => ?_
        have g9 := (in2 (fd_sub sDhcp_Xid 4 rfl h.mem))
        refine gg h rfl rfl c9 (o_lfx 4 rfl rfl sDhcp_Xid rfl X_int t_y25) rfl fun _ _ _ h => ?_
        refine gg h rfl rfl c9 (o_fa rfl t_f28_1 rfl rfl) rfl fun _ _ _ h => ?_
        have g10 := (in2 (fd_sub sDhcp_Xid 16 rfl h.mem))
        refine gg h rfl rfl c9 (o_lfx 16 rfl rfl sDhcp_Xid rfl X_int t_y25) rfl fun _ _ _ h => ?_
        refine gg h rfl rfl c9 (o_bin rfl rfl rfl) rfl fun _ _ _ h => ?_
        refine ga h (o_pickT rfl rfl c9) rfl fun h => ?_
        refine mv h rfl rfl fun h => ?_
        by_cases c10 : decide (r7.2.1.Xid = a3.Xid) = true
        ·have H := ifT c10 H
         refine gg h rfl rfl c10 (o_move rfl) rfl fun _ _ _ h => ?_
         refine ga h (o_pickT rfl rfl c10) rfl fun h => ?_
         refine mv h rfl rfl fun h => ?_
         by_cases c11 : r8.2.2 = true
         ·have H := ifT c11 H
          refine gg h rfl rfl c11 (o_fa rfl t_f28_3 rfl rfl) rfl fun _ _ _ h => ?_
          have g11 := (in2 (fd_sub sDhcp_Yi 0 rfl h.mem))
          refine gg h rfl rfl c11 (o_lfx 0 rfl rfl sDhcp_Yi rfl X_int t_y25) rfl fun _ _ _ h => ?_
          refine gg h rfl rfl c11 (o_fa rfl t_f28_3 rfl rfl) rfl fun _ _ _ h => ?_
          have g12 := (in2 (fd_sub sDhcp_Yi 11 rfl h.mem))
          refine gg h rfl rfl c11 (o_lfx 11 rfl rfl sDhcp_Yi rfl X_int t_y25) rfl fun _ _ _ h => ?_
          refine gg h rfl rfl c11 (o_bin rfl rfl rfl) rfl fun _ _ _ h => ?_
          refine ga h (o_pickT rfl rfl c11) rfl fun h => ?_
          refine mv h rfl rfl fun h => ?_
          by_cases c12 : decide (r8.2.1.Yi = r3.2.1.Yi) = true
          ·have H := ifT c12 H
           obtain ⟨r9, er9, H⟩ := bindE H
           refine gg h rfl rfl c12 (o_call (law25_heads.spc  r9 er9) rfl [] [] (by decide) rfl rfl) rfl fun _ _ _ h => ?_
           refine ga h (o_pickT rfl rfl c12) rfl fun h => ?_
           refine ga h (o_assign rfl) rfl fun h => ?_
           refine GoR.done ?_
           exact J3 r9 _ _ (som H).symm (h.wr [0, 4, 8, 11, 16])
          ·have H := ifF c12 H
           refine gk h rfl rfl (nb_f c12) rfl fun _ h => ?_
           refine ga h (o_pickF rfl rfl c12) rfl fun h => ?_
           refine ga h (o_assign rfl) rfl fun h => ?_
           refine GoR.done ?_
           exact J3 false _ _ (som H).symm (h.wr [0, 4, 8, 11, 16])
         ·have H := ifF c11 H
          iterate 5 (refine gk h rfl rfl (nb_f c11) rfl fun _ h => ?_)
          refine ga h (o_pickF rfl rfl c11) rfl fun h => ?_
          refine mv h rfl rfl fun h => ?_
          refine gk h rfl rfl (nb_f Bool.false_ne_true) rfl fun _ h => ?_
          refine ga h (o_pickF rfl rfl Bool.false_ne_true) rfl fun h => ?_
          refine ga h (o_assign rfl) rfl fun h => ?_
          refine GoR.done ?_
          exact J3 false _ _ (som H).symm (h.wr [0, 4, 8, 11, 16])
        ·have H := ifF c10 H
         refine gk h rfl rfl (nb_f c10) rfl fun _ h => ?_
         refine ga h (o_pickF rfl rfl c10) rfl fun h => ?_
         refine mv h rfl rfl fun h => ?_
         iterate 5 (refine gk h rfl rfl (nb_f Bool.false_ne_true) rfl fun _ h => ?_)
         refine ga h (o_pickF rfl rfl Bool.false_ne_true) rfl fun h => ?_
         refine mv h rfl rfl fun h => ?_
         refine gk h rfl rfl (nb_f Bool.false_ne_true) rfl fun _ h => ?_
         refine ga h (o_pickF rfl rfl Bool.false_ne_true) rfl fun h => ?_
         refine ga h (o_assign rfl) rfl fun h => ?_
         refine GoR.done ?_
         exact J3 false _ _ (som H).symm (h.wr [0, 4, 8, 11, 16])
       ·have H := ifF c9 H
        iterate 5 (refine gk h rfl rfl (nb_f c9) rfl fun _ h => ?_)
        refine ga h (o_pickF rfl rfl c9) rfl fun h => ?_
        refine mv h rfl rfl fun h => ?_
        refine gk h rfl rfl (nb_f Bool.false_ne_true) rfl fun _ h => ?_
        refine ga h (o_pickF rfl rfl Bool.false_ne_true) rfl fun h => ?_
        refine mv h rfl rfl fun h => ?_
        iterate 5 (refine gk h rfl rfl (nb_f Bool.false_ne_true) rfl fun _ h => ?_)
        refine ga h (o_pickF rfl rfl Bool.false_ne_true) rfl fun h => ?_
        refine mv h rfl rfl fun h => ?_
        refine gk h rfl rfl (nb_f Bool.false_ne_true) rfl fun _ h => ?_
        refine ga h (o_pickF rfl rfl Bool.false_ne_true) rfl fun h => ?_
        refine ga h (o_assign rfl) rfl fun h => ?_
        refine GoR.done ?_
        exact J3 false _ _ (som H).symm (h.wr [0, 4, 8, 11, 16])
      ·have H := ifF c8 H
       iterate 5 (refine gk h rfl rfl (nb_f c8) rfl fun _ h => ?_)
       refine ga h (o_pickF rfl rfl c8) rfl fun h => ?_
       refine mv h rfl rfl fun h => ?_
       iterate 5 (refine gk h rfl rfl (nb_f Bool.false_ne_true) rfl fun _ h => ?_)
       refine ga h (o_pickF rfl rfl Bool.false_ne_true) rfl fun h => ?_
       refine mv h rfl rfl fun h => ?_
       refine gk h rfl rfl (nb_f Bool.false_ne_true) rfl fun _ h => ?_
       refine ga h (o_pickF rfl rfl Bool.false_ne_true) rfl fun h => ?_
       refine mv h rfl rfl fun h => ?_
       iterate 5 (refine gk h rfl rfl (nb_f Bool.false_ne_true) rfl fun _ h => ?_)
       refine ga h (o_pickF rfl rfl Bool.false_ne_true) rfl fun h => ?_
       refine mv h rfl rfl fun h => ?_
       refine gk h rfl rfl (nb_f Bool.false_ne_true) rfl fun _ h => ?_
       refine ga h (o_pickF rfl rfl Bool.false_ne_true) rfl fun h => ?_
       refine ga h (o_assign rfl) rfl fun h => ?_
       refine GoR.done ?_
       exact J3 false _ _ (som H).symm (h.wr [0, 4, 8, 11, 16])
     ·have H := ifF c7 H
      iterate 3 (refine gk h rfl rfl (nb_f c7) rfl fun _ h => ?_)
      refine ga h (o_pickF rfl rfl c7) rfl fun h => ?_
      refine mv h rfl rfl fun h => ?_
      iterate 5 (refine gk h rfl rfl (nb_f Bool.false_ne_true) rfl fun _ h => ?_)
      refine ga h (o_pickF rfl rfl Bool.false_ne_true) rfl fun h => ?_
      refine mv h rfl rfl fun h => ?_
      iterate 5 (refine gk h rfl rfl (nb_f Bool.false_ne_true) rfl fun _ h => ?_)
      refine ga h (o_pickF rfl rfl Bool.false_ne_true) rfl fun h => ?_
      refine mv h rfl rfl fun h => ?_
      refine gk h rfl rfl (nb_f Bool.false_ne_true) rfl fun _ h => ?_
      refine ga h (o_pickF rfl rfl Bool.false_ne_true) rfl fun h => ?_
      refine mv h rfl rfl fun h => ?_
      iterate 5 (refine gk h rfl rfl (nb_f Bool.false_ne_true) rfl fun _ h => ?_)
      refine ga h (o_pickF rfl rfl Bool.false_ne_true) rfl fun h => ?_
      refine mv h rfl rfl fun h => ?_
      refine gk h rfl rfl (nb_f Bool.false_ne_true) rfl fun _ h => ?_
      refine ga h (o_pickF rfl rfl Bool.false_ne_true) rfl fun h => ?_
      refine ga h (o_assign rfl) rfl fun h => ?_
      refine GoR.done ?_
      exact J3 false _ _ (som H).symm (h.wr [0, 4, 8, 11, 16])
 refine Go.reg ?_
 refine mv h rfl rfl fun h => ?_
 have g1 := (len_at 1 rfl h.mem)
 refine ga h (o_ln rfl (rd_at 1 rfl) t_v26) rfl fun h => ?_
 refine ga h (o_bin rfl rfl rfl) rfl fun h => ?_
 refine mv h rfl rfl fun h => ?_
 by_cases c1 : decide (40 < (a1.length : Int)) = true
 ·have H := ifT c1 H
  iterate 3 (refine gk h rfl rfl (nb_t c1) rfl fun _ h => ?_)
  refine ga h (o_pickT rfl rfl c1) rfl fun h => ?_
  refine mv h rfl rfl fun h => ?_
  iterate 3 (refine gk h rfl rfl (nb_t rfl) rfl fun _ h => ?_)
  refine ga h (o_pickT rfl rfl rfl) rfl fun h => ?_
  refine GoR.done ?_
  exact J1 true _ _ (som H).symm (h.wr [1, 0])
 ·have H := ifF c1 H
  refine gg h rfl rfl (nbF c1) (o_move rfl) rfl fun _ _ _ h => ?_
  obtain ⟨r1, er1, H⟩ := bindE H
  refine gg h rfl rfl (nbF c1) (o_call (lease_Check.spc v1 a1 r1 er1) rfl [1] [] (by decide) rfl rfl) rfl fun _ _ _ h => ?_
  refine gg h rfl rfl (nbF c1) (o_not rfl) rfl fun _ _ _ h => ?_
  refine ga h (o_pickF rfl rfl c1) rfl fun h => ?_
  refine mv h rfl rfl fun h => ?_
  by_cases c2 : (!r1) = true
  ·have H := ifT c2 H
   iterate 3 (refine gk h rfl rfl (nb_t c2) rfl fun _ h => ?_)
   refine ga h (o_pickT rfl rfl c2) rfl fun h => ?_
   refine GoR.done ?_
   exact J1 true _ _ (som H).symm (h.wr [1, 0])
  ·have H := ifF c2 H
   refine gg h rfl rfl (nbF c2) (o_fa rfl t_f28_5 rfl rfl) rfl fun _ _ _ h => ?_
   have g2 := (in2 (fd_sub sDhcp_Type_ 0 rfl h.mem))
   refine gg h rfl rfl (nbF c2) (o_lfx 0 rfl rfl sDhcp_Type_ rfl X_int t_y3) rfl fun _ _ _ h => ?_
   refine gg h rfl rfl (nbF c2) (o_bin rfl rfl rfl) rfl fun _ _ _ h => ?_
   refine ga h (o_pickF rfl rfl c2) rfl fun h => ?_
   refine GoR.done ?_
   exact J1 (!decide (a3.Type_ = 1)) _ _ (som H).symm (h.wr [1, 0])
def law25_LeaseOffers.g (k_ : Nat) (a1 : List TLease) (a2 : Int) (a3 : TDhcp) : Option (Bool) :=
  ((if decide (40 < (a1.length : Int)) = true then some (true) else (lease_Check.g k_ a1).bind fun r1 => (if (!r1) = true then some (true) else some ((!decide (a3.Type_ = 1)))))).bind (fun j1 => (if j1 = true then (law25_heads.g k_).bind fun r2 => some (r2) else (lease_Serve.g k_ a1 a2 a3).bind fun r3 => (ref25_Same.g k_ r3.1 a1).bind fun r4 => (if (!r4) = true then some (false) else (if (!r3.2.2) = true then ((ref20_Same.g k_ r3.2.1 (⟨0, 0, 0, 0, [], 0, 0, 0, 0, 0, 0, 0⟩ : TDhcp)).bind fun r5 => (if r5 = true then (law25_heads.g k_).bind fun r6 => some (r6) else some (false))).bind (fun j2 => some (j2)) else (lease_Serve.g k_ a1 a2 (⟨1, a3.Xid, 0, 0, a3.Mac, 3, r3.2.1.Yi, r3.2.1.Server, 0, 0, 0, 0⟩ : TDhcp)).bind fun r7 => (lease_Serve.g k_ r7.1 a2 a3).bind fun r8 => ((if r7.2.2 = true then (if decide (r7.2.1.Type_ = 5) = true then (if decide (r7.2.1.Yi = r3.2.1.Yi) = true then (if decide (r7.2.1.Xid = a3.Xid) = true then (if r8.2.2 = true then (if decide (r8.2.1.Yi = r3.2.1.Yi) = true then (law25_heads.g k_).bind fun r9 => some (r9) else some (false)) else some (false)) else some (false)) else some (false)) else some (false)) else some (false))).bind (fun j3 => some (j3))))))
theorem law25_LeaseOffers.le (k_ : Nat) (a1 : List TLease) (a2 : Int) (a3 : TDhcp) : Le (law25_LeaseOffers.g k_ a1 a2 a3) (law25_LeaseOffers.f a1 a2 a3) := by
 unfold law25_LeaseOffers.g law25_LeaseOffers.f
 repeat' (first | with_reducible refine le_loop fun _ => ?_ | with_reducible refine le_bind ?_ fun _ => ?_ | with_reducible refine le_ite ?_ ?_ | with_reducible refine le_lt fun _ => ?_ | with_reducible refine le_elim (fun _ => ?_) (fun _ => ?_) _ | with_reducible apply law25_heads.le | with_reducible apply lease_Check.le | with_reducible apply lease_Serve.le | with_reducible apply ref20_Same.le | with_reducible apply ref25_Same.le | with_reducible exact le_refl _)
end Go.Proofs.Ytmmaojclfggioaa.S
