/- Contracts, printed by a program of this session. -/
import Derived.Test.YtmmaojclfggioaaT1
import Derived.Test.YtmmaojclfggioaaT2
import Derived.Test.YtmmaojclfggioaaT3
import Derived.Test.YtmmaojclfggioaaT6
namespace Go.Proofs.Ytmmaojclfggioaa.S
open Go Go.SL Go.RowKit
set_option linter.unusedVariables false
set_option linter.unusedSimpArgs false
/-! drawbridge/lease.Serve -/
noncomputable def lease_Serve.f (a1 : List TLease) (a2 : Int) (a3 : TDhcp) : Option ((List TLease) × TDhcp × Bool) :=
  (dhcp_Put.f a3).bind fun r1 => ((if (!decide (r1.2 = 0)) = true then some (true) else (if (!decide (a3.Op = 1)) = true then some (true) else (lease_Check.f a1).bind fun r2 => (if (!r2) = true then some (true) else (lease_tick.f a2).bind fun r3 => some ((!r3)))))).bind (fun j1 => (if j1 = true then some ((a1, (⟨0, 0, 0, 0, [], 0, 0, 0, 0, 0, 0, 0⟩ : TDhcp), false)) else lt (decide (a3.Type_ = 1)) fun y1 => (if y1 = true then (lease_server_discover.f (⟨a1, a2, a3⟩ : Tserver)).bind fun r4 => some ((r4.2.2.l, r4.1, r4.2.1)) else lt (decide (a3.Type_ = 3)) fun y2 => (if y2 = true then (lease_server_request.f (⟨a1, a2, a3⟩ : Tserver)).bind fun r5 => some ((r5.2.2.l, r5.1, r5.2.1)) else lt (decide (a3.Type_ = 7)) fun y3 => (if y3 = true then (lease_server_release.f (⟨a1, a2, a3⟩ : Tserver)).bind fun r6 => some ((r6.2.2.l, r6.1, r6.2.1)) else (lease_server_other.f (⟨a1, a2, a3⟩ : Tserver)).bind fun r7 => some ((r7.2.2.l, r7.1, r7.2.1)))))))
set_option maxRecDepth 100000 in
set_option maxHeartbeats 4000000 in
theorem lease_Serve.spc (v1 : Value) (a1 : List TLease) (a2 : Int) (ha2 : InR .i64 a2) (v2 : Value) (a3 : TDhcp) (r : (List TLease) × TDhcp × Bool) (H : lease_Serve.f a1 a2 a3 = some r) : Spc Try.prog 9 [v1, .int .i64 a2, v2] [Val (Kd.sl KLease) v1 a1, Val KDhcp v2 a3] [] (fun (s : Value × Value) => .tuple #[s.1, s.2, .bool r.2.2]) (fun s => [Val (Kd.sl KLease) s.1 r.1, Val KDhcp s.2 r.2.1]) := by
 unfold lease_Serve.f at H
 refine Spc.go Try.func9 rfl (by kernel_rfl) rfl rfl (all_cons (Val.per Per_sl) (all_cons (Val.per PDhcp) all_nil)) fun F a w h => ?_
 refine Go.seq ?_
 refine Go.reg ?_
 refine gs h (o_box (K := KDhcp) rfl (pv_at PDhcp 1 rfl)) rfl fun b1 _ _ h => ?_
 refine ga h (o_assign rfl) rfl fun h => ?_
 refine gs h (o_alloc (K := KDhcp) (z := (.agg #[.int .i64 0, .int .u32 0, .int .u32 0, .int .u32 0, .slice none 0 0, .int .i64 0, .int .u32 0, .int .u32 0, .int .u32 0, .int .u32 0, .int .u32 0, .int .u32 0])) rfl ZDhcp) rfl fun b2 _ _ h => ?_
 refine ga h (o_assign rfl) rfl fun h => ?_
 refine GoR.done ?_
 refine Go.seq ?_
 refine Go.seq ?_
 refine Go.reg ?_
 refine gs h (o_ldv 1 rfl rfl PDhcp t_y28) rfl fun v3 _ _ h => ?_
 obtain ⟨r1, er1, H⟩ := bindE H
 refine gs h (o_call (dhcp_Put.spc v3 a3 r1 er1) rfl [0] [] (by decide) rfl rfl) rfl fun v4 _ _ h => ?_
 have g1 := h.mem.pur 0 rfl
 refine mv h rfl rfl fun h => ?_
 refine ga h (o_extract rfl rfl) rfl fun h => ?_
 refine ga h (o_extract rfl rfl) rfl fun h => ?_
 refine ga h (o_assign rfl) rfl fun h => ?_
 refine ga h (o_assign rfl) rfl fun h => ?_
 refine GoR.done ?_
 refine Go.seq ?_
 obtain ⟨o1, H, G1⟩ := bindE H
 refine g_cut (fun G => ∀ j1 (a : Act) (w : World), o1 = j1 → St Try.f9.ntmps F [(0, v1), (1, .int .i64 a2), (5, pt b1), (7, pt b2), (36, .bool j1)] [Val (Kd.sl KLease) v1 a1, Fld KDhcp b2 0 zDhcp, Fld KDhcp b1 0 a3] a w → G a w) 1 ?_ fun J1 => ?_
 ·intro j1 a w ho_ h
  rw [ho_] at G1
  have H := G1
  by_cases c4 : j1 = true
  ·have H := ifT c4 H
   refine g_t h rfl c4 ?_
   refine Go.seq ?_
   refine Go.reg ?_
   refine mv h rfl rfl fun h => ?_
   refine gs h (o_build (K := KDhcp) (x := (⟨0, 0, 0, 0, [], 0, 0, 0, 0, 0, 0, 0⟩ : TDhcp)) (ps := []) rfl (zs := zsDhcp) rfl t_b28 rfl (show PB (Kd.pair (Kd.int .i64) (Kd.pair (Kd.int .u32) (Kd.pair (Kd.int .u32) (Kd.pair (Kd.int .u32) (Kd.pair (Kd.sl (Kd.int .u8)) (Kd.pair (Kd.int .i64) (Kd.pair (Kd.int .u32) (Kd.pair (Kd.int .u32) (Kd.pair (Kd.int .u32) (Kd.pair (Kd.int .u32) (Kd.pair (Kd.int .u32) (Kd.last (Kd.int .u32))))))))))))) (0, 0, 0, 0, [], 0, 0, 0, 0, 0, 0, 0) 0 zsDhcp _ _ from (pb_zero z_int (pb_zero z_int (pb_zero z_int (pb_zero z_int (pb_zero z_sl (pb_zero z_int (pb_zero z_int (pb_zero z_int (pb_zero z_int (pb_zero z_int (pb_zero z_int (pb_lastz z_int)))))))))))))) rfl fun v5 _ _ h => ?_
   refine ga h (o_assign rfl) rfl fun h => ?_
   refine gs0 h (o_st 2 rfl rfl rfl (pv_at PDhcp 0 rfl) rfl t_w28) fun _ _ _ h => ?_
   refine ga h (o_assign rfl) rfl fun h => ?_
   refine GoR.done ?_
   obtain ⟨v6, h, u1⟩ := h.peek 2 rfl PDhcp t_y28
   rw [← som H]
   exact g_ret (vs := [v1, v6, .bool false]) h Try.func9 ⟨rfl, ⟨⟨_, rfl, u1⟩, ⟨rfl, trivial⟩⟩⟩ ⟨(v1, v6), rfl, (h.mem.pick [2, 0] (by decide) rfl)⟩
  ·have H := ifF c4 H
   refine g_f h rfl c4 ?_
   refine Go.skip ?_
   refine Go.seq ?_
   refine Go.reg ?_
   refine ga h (o_assign rfl) rfl fun h => ?_
   refine GoR.done ?_
   refine Go.seq ?_
   refine Go.seq ?_
   refine Go.reg ?_
   refine ga h (o_fa rfl t_f28_5 rfl rfl) rfl fun h => ?_
   have g3 := (in2 (fd_sub sDhcp_Type_ 2 rfl h.mem))
   refine ga h (o_lfx 2 rfl rfl sDhcp_Type_ rfl X_int t_y3) rfl fun h => ?_
   refine GoR.done ?_
   refine Go.block ?_
   refine Go.seq ?_
   refine Go.reg ?_
   refine ga h (o_bin rfl rfl rfl) rfl fun h => ?_
   obtain ⟨y1, ey1, H⟩ := ltE H
   refine ga h (o_assign' rfl (congrArg Value.bool ey1)) rfl fun h => ?_
   refine GoR.done ?_
   by_cases c5 : y1 = true
   ·have H := ifT c5 H
    refine g_t h rfl c5 ?_
    refine Go.reg ?_
    refine ga h (o_assign rfl) rfl fun h => ?_
    refine GoR.done ?_
    refine Go.inBlock ?_
    refine Go.seq ?_
    refine Go.reg ?_
    refine mv h rfl rfl fun h => ?_
    refine mv h rfl rfl fun h => ?_
    refine gs h (o_ldv 2 rfl rfl PDhcp t_y28) rfl fun v7 _ _ h => ?_
    refine gs h (o_build (K := Kserver) (x := (⟨a1, a2, a3⟩ : Tserver)) (ps := [(0, v1), (1, .int .i64 a2), (2, v7)]) rfl (zs := zsserver) rfl t_b53 rfl (show PB (Kd.pair (Kd.sl KLease) (Kd.pair (Kd.int .i64) (Kd.last KDhcp))) (a1, a2, a3) 0 zsserver _ _ from (pb_part (pv_at Per_sl 1 rfl) rfl (pb_part (pv_int ha2) rfl (pb_lastp (pv_at PDhcp 0 rfl) rfl))))) rfl fun v8 _ _ h => ?_
    refine gs h (o_box (K := Kserver) rfl (pv_at Pserver 0 rfl)) rfl fun b3 _ _ h => ?_
    refine ga h (o_assign rfl) rfl fun h => ?_
    refine GoR.done ?_
    refine Go.seq ?_
    refine Go.reg ?_
    refine mv h rfl rfl fun h => ?_
    refine mv h rfl rfl fun h => ?_
    obtain ⟨r4, er4, H⟩ := bindE H
    refine gs h (o_callv (vs := [pt b3]) (caps := []) rfl rfl (lease_server_discover.spc b3 (⟨a1, a2, a3⟩ : Tserver) r4 er4) [] [0] (by decide) rfl rfl) rfl fun v9 _ _ h => ?_
    refine mv h rfl rfl fun h => ?_
    refine ga h (o_extract rfl rfl) rfl fun h => ?_
    refine ga h (o_extract rfl rfl) rfl fun h => ?_
    refine gs h (o_alloc (K := KDhcp) (z := (.agg #[.int .i64 0, .int .u32 0, .int .u32 0, .int .u32 0, .slice none 0 0, .int .i64 0, .int .u32 0, .int .u32 0, .int .u32 0, .int .u32 0, .int .u32 0, .int .u32 0])) rfl ZDhcp) rfl fun b4 _ _ h => ?_
    refine gs0 h (o_st 0 rfl rfl rfl (pv_at PDhcp 1 rfl) rfl t_w28) fun _ _ _ h => ?_
    refine ga h (o_assign rfl) rfl fun h => ?_
    refine GoR.done ?_
    refine Go.seq ?_
    replace h := h.wq [(7, pt b2), (12, pt b3), (13, pt b4), (14, .bool r4.2.1)] [Fld KDhcp b2 0 zDhcp, Fld KDhcp b4 0 r4.1, Val KDhcp v9 r4.1, Fld Kserver b3 0 r4.2.2, Val Kserver v8 (⟨a1, a2, a3⟩ : Tserver), Val KDhcp v7 a3, Val (Kd.sl KLease) v1 a1, Fld KDhcp b1 0 a3] [7, 0, 1, 2, 4, 5, 6, 8]
    refine Go.draw (E := [(7, pt b2), (12, pt b3), (13, pt b4), (14, .bool r4.2.1)]) [] (L := [Fld KDhcp b4 0 r4.1, Val KDhcp v9 r4.1, Fld Kserver b3 0 r4.2.2, Val Kserver v8 (⟨a1, a2, a3⟩ : Tserver), Val KDhcp v7 a3, Val (Kd.sl KLease) v1 a1, Fld KDhcp b1 0 a3]) h rfl rfl 8 [cn (pt b3), ce [0] (pt b3), ce [0, 1] (pt b3), cw [0, 1, 2] [] [] fun u => [Val (Kd.sl KLease) u r4.2.2.l], cw [] [] [] fun u => [Val KDhcp u r4.1], cn (.bool r4.2.1), ⟨[0, 1, 2, 3], [], [], false, .fn (fun u => u) 3, none, fun u => [], []⟩, cm [4] [8, 4] [8] (undef) fun u => [Fld KDhcp b2 0 r4.1], cm [] [] [] undef fun u => [Fld KDhcp b2 0 zDhcp]] rfl t_mxo (by kernel_rfl) (by rfl) ?_ fun f1 _ _ h => ?_
    ·exact ox rfl (o_move rfl) (ox rfl (o_nilc rfl) (ox rfl (o_fa rfl t_f53_0 rfl rfl) (oy rfl (o_lfv 2 rfl rfl sserver_l rfl Per_sl t_y26) (oy rfl (o_ldv 0 rfl rfl PDhcp t_y28) (ox rfl (o_move rfl) (obs_cons (ob_fn rfl (gok_none rfl) rfl fun f1 => (o_assign rfl)) (ox rfl (o_st 0 rfl rfl rfl (pv_at PDhcp 1 rfl) rfl t_w28) (obs_nil))))))))
    replace h := h.wk (E' := [(7, pt b2), (63, .bool r4.2.1), (6, (f1 3))]) (L' := [Val (Kd.sl KLease) (f1 3) r4.2.2.l, Val KDhcp (f1 4) r4.1, Fld KDhcp b2 0 r4.1, Fld KDhcp b4 0 r4.1, Val KDhcp v9 r4.1, Fld Kserver b3 0 r4.2.2, Val Kserver v8 (⟨a1, a2, a3⟩ : Tserver), Val KDhcp v7 a3, Val (Kd.sl KLease) v1 a1, Fld KDhcp b1 0 a3]) (by kernel_rfl) [0, 1, 2, 3, 4, 5, 6, 7, 8, 9] (by decide) (by kernel_rfl)
    refine ga h (o_assign rfl) rfl fun h => ?_
    refine GoR.done ?_
    obtain ⟨v12, h, u2⟩ := h.peek 2 rfl PDhcp t_y28
    rw [← som H]
    exact g_ret (vs := [(f1 3), v12, .bool r4.2.1]) h Try.func9 ⟨rfl, ⟨⟨_, rfl, u2⟩, ⟨rfl, trivial⟩⟩⟩ ⟨((f1 3), v12), rfl, (h.mem.pick [1, 0] (by decide) rfl)⟩
   ·have H := ifF c5 H
    refine g_f h rfl c5 ?_
    refine Go.seq ?_
    refine Go.reg ?_
    refine ga h (o_bin rfl rfl rfl) rfl fun h => ?_
    obtain ⟨y2, ey2, H⟩ := ltE H
    refine ga h (o_assign' rfl (congrArg Value.bool ey2)) rfl fun h => ?_
    refine GoR.done ?_
    by_cases c6 : y2 = true
    ·have H := ifT c6 H
     refine g_t h rfl c6 ?_
     refine Go.reg ?_
     refine ga h (o_assign rfl) rfl fun h => ?_
     refine GoR.done ?_
     refine Go.inBlock ?_
     refine Go.seq ?_
     refine Go.reg ?_
     refine mv h rfl rfl fun h => ?_
     refine mv h rfl rfl fun h => ?_
     refine gs h (o_ldv 2 rfl rfl PDhcp t_y28) rfl fun v13 _ _ h => ?_
     refine gs h (o_build (K := Kserver) (x := (⟨a1, a2, a3⟩ : Tserver)) (ps := [(0, v1), (1, .int .i64 a2), (2, v13)]) rfl (zs := zsserver) rfl t_b53 rfl (show PB (Kd.pair (Kd.sl KLease) (Kd.pair (Kd.int .i64) (Kd.last KDhcp))) (a1, a2, a3) 0 zsserver _ _ from (pb_part (pv_at Per_sl 1 rfl) rfl (pb_part (pv_int ha2) rfl (pb_lastp (pv_at PDhcp 0 rfl) rfl))))) rfl fun v14 _ _ h => ?_
     refine gs h (o_box (K := Kserver) rfl (pv_at Pserver 0 rfl)) rfl fun b5 _ _ h => ?_
     refine ga h (o_assign rfl) rfl fun h => ?_
     refine GoR.done ?_
     refine Go.seq ?_
     refine Go.reg ?_
     refine mv h rfl rfl fun h => ?_
     refine mv h rfl rfl fun h => ?_
     obtain ⟨r5, er5, H⟩ := bindE H
     refine gs h (o_callv (vs := [pt b5]) (caps := []) rfl rfl (lease_server_request.spc b5 (⟨a1, a2, a3⟩ : Tserver) r5 er5) [] [0] (by decide) rfl rfl) rfl fun v15 _ _ h => ?_
     refine mv h rfl rfl fun h => ?_
     refine ga h (o_extract rfl rfl) rfl fun h => ?_
     refine ga h (o_extract rfl rfl) rfl fun h => ?_
     refine gs h (o_alloc (K := KDhcp) (z := (.agg #[.int .i64 0, .int .u32 0, .int .u32 0, .int .u32 0, .slice none 0 0, .int .i64 0, .int .u32 0, .int .u32 0, .int .u32 0, .int .u32 0, .int .u32 0, .int .u32 0])) rfl ZDhcp) rfl fun b6 _ _ h => ?_
     refine gs0 h (o_st 0 rfl rfl rfl (pv_at PDhcp 1 rfl) rfl t_w28) fun _ _ _ h => ?_
     refine ga h (o_assign rfl) rfl fun h => ?_
     refine GoR.done ?_
     refine Go.seq ?_
     replace h := h.wq [(7, pt b2), (12, pt b5), (13, pt b6), (14, .bool r5.2.1)] [Fld KDhcp b2 0 zDhcp, Fld KDhcp b6 0 r5.1, Val KDhcp v15 r5.1, Fld Kserver b5 0 r5.2.2, Val Kserver v14 (⟨a1, a2, a3⟩ : Tserver), Val KDhcp v13 a3, Val (Kd.sl KLease) v1 a1, Fld KDhcp b1 0 a3] [7, 0, 1, 2, 4, 5, 6, 8]
     refine Go.draw (E := [(7, pt b2), (12, pt b5), (13, pt b6), (14, .bool r5.2.1)]) [] (L := [Fld KDhcp b6 0 r5.1, Val KDhcp v15 r5.1, Fld Kserver b5 0 r5.2.2, Val Kserver v14 (⟨a1, a2, a3⟩ : Tserver), Val KDhcp v13 a3, Val (Kd.sl KLease) v1 a1, Fld KDhcp b1 0 a3]) h rfl rfl 8 [cn (pt b5), ce [0] (pt b5), ce [0, 1] (pt b5), cw [0, 1, 2] [] [] fun u => [Val (Kd.sl KLease) u r5.2.2.l], cw [] [] [] fun u => [Val KDhcp u r5.1], cn (.bool r5.2.1), ⟨[0, 1, 2, 3], [], [], false, .fn (fun u => u) 3, none, fun u => [], []⟩, cm [4] [8, 4] [8] (undef) fun u => [Fld KDhcp b2 0 r5.1], cm [] [] [] undef fun u => [Fld KDhcp b2 0 zDhcp]] rfl t_mxo (by kernel_rfl) (by rfl) ?_ fun f2 _ _ h => ?_
     ·exact ox rfl (o_move rfl) (ox rfl (o_nilc rfl) (ox rfl (o_fa rfl t_f53_0 rfl rfl) (oy rfl (o_lfv 2 rfl rfl sserver_l rfl Per_sl t_y26) (oy rfl (o_ldv 0 rfl rfl PDhcp t_y28) (ox rfl (o_move rfl) (obs_cons (ob_fn rfl (gok_none rfl) rfl fun f2 => (o_assign rfl)) (ox rfl (o_st 0 rfl rfl rfl (pv_at PDhcp 1 rfl) rfl t_w28) (obs_nil))))))))
     replace h := h.wk (E' := [(7, pt b2), (63, .bool r5.2.1), (6, (f2 3))]) (L' := [Val (Kd.sl KLease) (f2 3) r5.2.2.l, Val KDhcp (f2 4) r5.1, Fld KDhcp b2 0 r5.1, Fld KDhcp b6 0 r5.1, Val KDhcp v15 r5.1, Fld Kserver b5 0 r5.2.2, Val Kserver v14 (⟨a1, a2, a3⟩ : Tserver), Val KDhcp v13 a3, Val (Kd.sl KLease) v1 a1, Fld KDhcp b1 0 a3]) (by kernel_rfl) [0, 1, 2, 3, 4, 5, 6, 7, 8, 9] (by decide) (by kernel_rfl)
     refine ga h (o_assign rfl) rfl fun h => ?_
     refine GoR.done ?_
     obtain ⟨v18, h, u3⟩ := h.peek 2 rfl PDhcp t_y28
     rw [← som H]
     exact g_ret (vs := [(f2 3), v18, .bool r5.2.1]) h Try.func9 ⟨rfl, ⟨⟨_, rfl, u3⟩, ⟨rfl, trivial⟩⟩⟩ ⟨((f2 3), v18), rfl, (h.mem.pick [1, 0] (by decide) rfl)⟩
    ·have H := ifF c6 H
     refine g_f h rfl c6 ?_
     refine Go.seq ?_
     refine Go.reg ?_
     refine ga h (o_bin rfl rfl rfl) rfl fun h => ?_
     obtain ⟨y3, ey3, H⟩ := ltE H
     refine ga h (o_assign' rfl (congrArg Value.bool ey3)) rfl fun h => ?_
     refine GoR.done ?_
     by_cases c7 : y3 = true
     ·have H := ifT c7 H
      refine g_t h rfl c7 ?_
      refine Go.reg ?_
      refine ga h (o_assign rfl) rfl fun h => ?_
      refine GoR.done ?_
      refine Go.inBlock ?_
      refine Go.seq ?_
      refine Go.reg ?_
      refine mv h rfl rfl fun h => ?_
      refine mv h rfl rfl fun h => ?_
      refine gs h (o_ldv 2 rfl rfl PDhcp t_y28) rfl fun v19 _ _ h => ?_
      refine gs h (o_build (K := Kserver) (x := (⟨a1, a2, a3⟩ : Tserver)) (ps := [(0, v1), (1, .int .i64 a2), (2, v19)]) rfl (zs := zsserver) rfl t_b53 rfl (show PB (Kd.pair (Kd.sl KLease) (Kd.pair (Kd.int .i64) (Kd.last KDhcp))) (a1, a2, a3) 0 zsserver _ _ from (pb_part (pv_at Per_sl 1 rfl) rfl (pb_part (pv_int ha2) rfl (pb_lastp (pv_at PDhcp 0 rfl) rfl))))) rfl fun v20 _ _ h => ?_
      refine gs h (o_box (K := Kserver) rfl (pv_at Pserver 0 rfl)) rfl fun b7 _ _ h => ?_
      refine ga h (o_assign rfl) rfl fun h => ?_
      refine GoR.done ?_
      refine Go.seq ?_
      refine Go.reg ?_
      refine mv h rfl rfl fun h => ?_
      refine mv h rfl rfl fun h => ?_
      obtain ⟨r6, er6, H⟩ := bindE H
      refine gs h (o_callv (vs := [pt b7]) (caps := []) rfl rfl (lease_server_release.spc b7 (⟨a1, a2, a3⟩ : Tserver) r6 er6) [] [0] (by decide) rfl rfl) rfl fun v21 _ _ h => ?_
      refine mv h rfl rfl fun h => ?_
      refine ga h (o_extract rfl rfl) rfl fun h => ?_
      refine ga h (o_extract rfl rfl) rfl fun h => ?_
      refine gs h (o_alloc (K := KDhcp) (z := (.agg #[.int .i64 0, .int .u32 0, .int .u32 0, .int .u32 0, .slice none 0 0, .int .i64 0, .int .u32 0, .int .u32 0, .int .u32 0, .int .u32 0, .int .u32 0, .int .u32 0])) rfl ZDhcp) rfl fun b8 _ _ h => ?_
      refine gs0 h (o_st 0 rfl rfl rfl (pv_at PDhcp 1 rfl) rfl t_w28) fun _ _ _ h => ?_
      refine ga h (o_assign rfl) rfl fun h => ?_
      refine GoR.done ?_
      refine Go.seq ?_
      replace h := h.wq [(7, pt b2), (12, pt b7), (13, pt b8), (14, .bool r6.2.1)] [Fld KDhcp b2 0 zDhcp, Fld KDhcp b8 0 r6.1, Val KDhcp v21 r6.1, Fld Kserver b7 0 r6.2.2, Val Kserver v20 (⟨a1, a2, a3⟩ : Tserver), Val KDhcp v19 a3, Val (Kd.sl KLease) v1 a1, Fld KDhcp b1 0 a3] [7, 0, 1, 2, 4, 5, 6, 8]
      refine Go.draw (E := [(7, pt b2), (12, pt b7), (13, pt b8), (14, .bool r6.2.1)]) [] (L := [Fld KDhcp b8 0 r6.1, Val KDhcp v21 r6.1, Fld Kserver b7 0 r6.2.2, Val Kserver v20 (⟨a1, a2, a3⟩ : Tserver), Val KDhcp v19 a3, Val (Kd.sl KLease) v1 a1, Fld KDhcp b1 0 a3]) h rfl rfl 8 [cn (pt b7), ce [0] (pt b7), ce [0, 1] (pt b7), cw [0, 1, 2] [] [] fun u => [Val (Kd.sl KLease) u r6.2.2.l], cw [] [] [] fun u => [Val KDhcp u r6.1], cn (.bool r6.2.1), ⟨[0, 1, 2, 3], [], [], false, .fn (fun u => u) 3, none, fun u => [], []⟩, cm [4] [8, 4] [8] (undef) fun u => [Fld KDhcp b2 0 r6.1], cm [] [] [] undef fun u => [Fld KDhcp b2 0 zDhcp]] rfl t_mxo (by kernel_rfl) (by rfl) ?_ fun f3 _ _ h => ?_
      ·exact ox rfl (o_move rfl) (ox rfl (o_nilc rfl) (ox rfl (o_fa rfl t_f53_0 rfl rfl) (oy rfl (o_lfv 2 rfl rfl sserver_l rfl Per_sl t_y26) (oy rfl (o_ldv 0 rfl rfl PDhcp t_y28) (ox rfl (o_move rfl) (obs_cons (ob_fn rfl (gok_none rfl) rfl fun f3 => (o_assign rfl)) (ox rfl (o_st 0 rfl rfl rfl (pv_at PDhcp 1 rfl) rfl t_w28) (obs_nil))))))))
      replace h := h.wk (E' := [(7, pt b2), (63, .bool r6.2.1), (6, (f3 3))]) (L' := [Val (Kd.sl KLease) (f3 3) r6.2.2.l, Val KDhcp (f3 4) r6.1, Fld KDhcp b2 0 r6.1, Fld KDhcp b8 0 r6.1, Val KDhcp v21 r6.1, Fld Kserver b7 0 r6.2.2, Val Kserver v20 (⟨a1, a2, a3⟩ : Tserver), Val KDhcp v19 a3, Val (Kd.sl KLease) v1 a1, Fld KDhcp b1 0 a3]) (by kernel_rfl) [0, 1, 2, 3, 4, 5, 6, 7, 8, 9] (by decide) (by kernel_rfl)
      refine ga h (o_assign rfl) rfl fun h => ?_
      refine GoR.done ?_
      obtain ⟨v24, h, u4⟩ := h.peek 2 rfl PDhcp t_y28
      rw [← som H]
      exact g_ret (vs := [(f3 3), v24, .bool r6.2.1]) h Try.func9 ⟨rfl, ⟨⟨_, rfl, u4⟩, ⟨rfl, trivial⟩⟩⟩ ⟨((f3 3), v24), rfl, (h.mem.pick [1, 0] (by decide) rfl)⟩
     ·have H := ifF c7 H
      refine g_f h rfl c7 ?_
      refine Go.skip ?_
      refine Go.inBlock ?_
      refine Go.seq ?_
      refine Go.reg ?_
      refine mv h rfl rfl fun h => ?_
      refine mv h rfl rfl fun h => ?_
      refine gs h (o_ldv 2 rfl rfl PDhcp t_y28) rfl fun v25 _ _ h => ?_
      refine gs h (o_build (K := Kserver) (x := (⟨a1, a2, a3⟩ : Tserver)) (ps := [(0, v1), (1, .int .i64 a2), (2, v25)]) rfl (zs := zsserver) rfl t_b53 rfl (show PB (Kd.pair (Kd.sl KLease) (Kd.pair (Kd.int .i64) (Kd.last KDhcp))) (a1, a2, a3) 0 zsserver _ _ from (pb_part (pv_at Per_sl 1 rfl) rfl (pb_part (pv_int ha2) rfl (pb_lastp (pv_at PDhcp 0 rfl) rfl))))) rfl fun v26 _ _ h => ?_
      refine gs h (o_box (K := Kserver) rfl (pv_at Pserver 0 rfl)) rfl fun b9 _ _ h => ?_
      refine ga h (o_assign rfl) rfl fun h => ?_
      refine GoR.done ?_
      refine Go.seq ?_
      refine Go.reg ?_
      refine mv h rfl rfl fun h => ?_
      refine mv h rfl rfl fun h => ?_
      obtain ⟨r7, er7, H⟩ := bindE H
      refine gs h (o_callv (vs := [pt b9]) (caps := []) rfl rfl (lease_server_other.spc b9 (⟨a1, a2, a3⟩ : Tserver) r7 er7) [] [0] (by decide) rfl rfl) rfl fun v27 _ _ h => ?_
      refine mv h rfl rfl fun h => ?_
      refine ga h (o_extract rfl rfl) rfl fun h => ?_
      refine ga h (o_extract rfl rfl) rfl fun h => ?_
      refine gs h (o_alloc (K := KDhcp) (z := (.agg #[.int .i64 0, .int .u32 0, .int .u32 0, .int .u32 0, .slice none 0 0, .int .i64 0, .int .u32 0, .int .u32 0, .int .u32 0, .int .u32 0, .int .u32 0, .int .u32 0])) rfl ZDhcp) rfl fun b10 _ _ h => ?_
      refine gs0 h (o_st 0 rfl rfl rfl (pv_at PDhcp 1 rfl) rfl t_w28) fun _ _ _ h => ?_
      refine ga h (o_assign rfl) rfl fun h => ?_
      refine GoR.done ?_
      refine Go.seq ?_
      replace h := h.wq [(7, pt b2), (12, pt b9), (13, pt b10), (14, .bool r7.2.1)] [Fld KDhcp b2 0 zDhcp, Fld KDhcp b10 0 r7.1, Val KDhcp v27 r7.1, Fld Kserver b9 0 r7.2.2, Val Kserver v26 (⟨a1, a2, a3⟩ : Tserver), Val KDhcp v25 a3, Val (Kd.sl KLease) v1 a1, Fld KDhcp b1 0 a3] [7, 0, 1, 2, 4, 5, 6, 8]
      refine Go.draw (E := [(7, pt b2), (12, pt b9), (13, pt b10), (14, .bool r7.2.1)]) [] (L := [Fld KDhcp b10 0 r7.1, Val KDhcp v27 r7.1, Fld Kserver b9 0 r7.2.2, Val Kserver v26 (⟨a1, a2, a3⟩ : Tserver), Val KDhcp v25 a3, Val (Kd.sl KLease) v1 a1, Fld KDhcp b1 0 a3]) h rfl rfl 8 [cn (pt b9), ce [0] (pt b9), ce [0, 1] (pt b9), cw [0, 1, 2] [] [] fun u => [Val (Kd.sl KLease) u r7.2.2.l], cw [] [] [] fun u => [Val KDhcp u r7.1], cn (.bool r7.2.1), ⟨[0, 1, 2, 3], [], [], false, .fn (fun u => u) 3, none, fun u => [], []⟩, cm [4] [8, 4] [8] (undef) fun u => [Fld KDhcp b2 0 r7.1], cm [] [] [] undef fun u => [Fld KDhcp b2 0 zDhcp]] rfl t_mxo (by kernel_rfl) (by rfl) ?_ fun f4 _ _ h => ?_
      ·exact ox rfl (o_move rfl) (ox rfl (o_nilc rfl) (ox rfl (o_fa rfl t_f53_0 rfl rfl) (oy rfl (o_lfv 2 rfl rfl sserver_l rfl Per_sl t_y26) (oy rfl (o_ldv 0 rfl rfl PDhcp t_y28) (ox rfl (o_move rfl) (obs_cons (ob_fn rfl (gok_none rfl) rfl fun f4 => (o_assign rfl)) (ox rfl (o_st 0 rfl rfl rfl (pv_at PDhcp 1 rfl) rfl t_w28) (obs_nil))))))))
      replace h := h.wk (E' := [(7, pt b2), (63, .bool r7.2.1), (6, (f4 3))]) (L' := [Val (Kd.sl KLease) (f4 3) r7.2.2.l, Val KDhcp (f4 4) r7.1, Fld KDhcp b2 0 r7.1, Fld KDhcp b10 0 r7.1, Val KDhcp v27 r7.1, Fld Kserver b9 0 r7.2.2, Val Kserver v26 (⟨a1, a2, a3⟩ : Tserver), Val KDhcp v25 a3, Val (Kd.sl KLease) v1 a1, Fld KDhcp b1 0 a3]) (by kernel_rfl) [0, 1, 2, 3, 4, 5, 6, 7, 8, 9] (by decide) (by kernel_rfl)
      refine ga h (o_assign rfl) rfl fun h => ?_
      refine GoR.done ?_
      obtain ⟨v30, h, u5⟩ := h.peek 2 rfl PDhcp t_y28
      rw [← som H]
      exact g_ret (vs := [(f4 3), v30, .bool r7.2.1]) h Try.func9 ⟨rfl, ⟨⟨_, rfl, u5⟩, ⟨rfl, trivial⟩⟩⟩ ⟨((f4 3), v30), rfl, (h.mem.pick [1, 0] (by decide) rfl)⟩
 refine Go.reg ?_
 refine mv h rfl rfl fun h => ?_
 refine ga h (o_bin rfl rfl rfl) rfl fun h => ?_
 refine mv h rfl rfl fun h => ?_
 by_cases c1 : (!decide (r1.2 = 0)) = true
 ·have H := ifT c1 H
  iterate 3 (refine gk h rfl rfl (nb_t c1) rfl fun _ h => ?_)
  refine ga h (o_pickT rfl rfl c1) rfl fun h => ?_
  refine mv h rfl rfl fun h => ?_
  iterate 3 (refine gk h rfl rfl (nb_t rfl) rfl fun _ h => ?_)
  refine ga h (o_pickT rfl rfl rfl) rfl fun h => ?_
  refine mv h rfl rfl fun h => ?_
  iterate 3 (refine gk h rfl rfl (nb_t rfl) rfl fun _ h => ?_)
  refine ga h (o_pickT rfl rfl rfl) rfl fun h => ?_
  refine GoR.done ?_
  exact J1 true _ _ (som H).symm (h.wr [5, 3, 4])
 ·have H := ifF c1 H
  refine gg h rfl rfl (nbF c1) (o_fa rfl t_f28_0 rfl rfl) rfl fun _ _ _ h => ?_
  have g2 := (in2 (fd_sub sDhcp_Op 4 rfl h.mem))
  refine gg h rfl rfl (nbF c1) (o_lfx 4 rfl rfl sDhcp_Op rfl X_int t_y3) rfl fun _ _ _ h => ?_
  refine gg h rfl rfl (nbF c1) (o_bin rfl rfl rfl) rfl fun _ _ _ h => ?_
  refine ga h (o_pickF rfl rfl c1) rfl fun h => ?_
  refine mv h rfl rfl fun h => ?_
  by_cases c2 : (!decide (a3.Op = 1)) = true
  ·have H := ifT c2 H
   iterate 3 (refine gk h rfl rfl (nb_t c2) rfl fun _ h => ?_)
   refine ga h (o_pickT rfl rfl c2) rfl fun h => ?_
   refine mv h rfl rfl fun h => ?_
   iterate 3 (refine gk h rfl rfl (nb_t rfl) rfl fun _ h => ?_)
   refine ga h (o_pickT rfl rfl rfl) rfl fun h => ?_
   refine GoR.done ?_
   exact J1 true _ _ (som H).symm (h.wr [5, 3, 4])
  ·have H := ifF c2 H
   refine gg h rfl rfl (nbF c2) (o_move rfl) rfl fun _ _ _ h => ?_
   obtain ⟨r2, er2, H⟩ := bindE H
   refine gg h rfl rfl (nbF c2) (o_call (lease_Check.spc v1 a1 r2 er2) rfl [5] [] (by decide) rfl rfl) rfl fun _ _ _ h => ?_
   refine gg h rfl rfl (nbF c2) (o_not rfl) rfl fun _ _ _ h => ?_
   refine ga h (o_pickF rfl rfl c2) rfl fun h => ?_
   refine mv h rfl rfl fun h => ?_
   by_cases c3 : (!r2) = true
   ·have H := ifT c3 H
    iterate 3 (refine gk h rfl rfl (nb_t c3) rfl fun _ h => ?_)
    refine ga h (o_pickT rfl rfl c3) rfl fun h => ?_
    refine GoR.done ?_
    exact J1 true _ _ (som H).symm (h.wr [5, 3, 4])
   ·have H := ifF c3 H
    refine gg h rfl rfl (nbF c3) (o_move rfl) rfl fun _ _ _ h => ?_
    obtain ⟨r3, er3, H⟩ := bindE H
    refine gg h rfl rfl (nbF c3) (o_call (lease_tick.spc a2 ha2 r3 er3) rfl [] [] (by decide) rfl rfl) rfl fun _ _ _ h => ?_
    refine gg h rfl rfl (nbF c3) (o_not rfl) rfl fun _ _ _ h => ?_
    refine ga h (o_pickF rfl rfl c3) rfl fun h => ?_
    refine GoR.done ?_
    exact J1 (!r3) _ _ (som H).symm (h.wr [5, 3, 4])
def lease_Serve.g (k_ : Nat) (a1 : List TLease) (a2 : Int) (a3 : TDhcp) : Option ((List TLease) × TDhcp × Bool) :=
  (dhcp_Put.g k_ a3).bind fun r1 => ((if (!decide (r1.2 = 0)) = true then some (true) else (if (!decide (a3.Op = 1)) = true then some (true) else (lease_Check.g k_ a1).bind fun r2 => (if (!r2) = true then some (true) else (lease_tick.g k_ a2).bind fun r3 => some ((!r3)))))).bind (fun j1 => (if j1 = true then some ((a1, (⟨0, 0, 0, 0, [], 0, 0, 0, 0, 0, 0, 0⟩ : TDhcp), false)) else lt (decide (a3.Type_ = 1)) fun y1 => (if y1 = true then (lease_server_discover.g k_ (⟨a1, a2, a3⟩ : Tserver)).bind fun r4 => some ((r4.2.2.l, r4.1, r4.2.1)) else lt (decide (a3.Type_ = 3)) fun y2 => (if y2 = true then (lease_server_request.g k_ (⟨a1, a2, a3⟩ : Tserver)).bind fun r5 => some ((r5.2.2.l, r5.1, r5.2.1)) else lt (decide (a3.Type_ = 7)) fun y3 => (if y3 = true then (lease_server_release.g k_ (⟨a1, a2, a3⟩ : Tserver)).bind fun r6 => some ((r6.2.2.l, r6.1, r6.2.1)) else (lease_server_other.g k_ (⟨a1, a2, a3⟩ : Tserver)).bind fun r7 => some ((r7.2.2.l, r7.1, r7.2.1)))))))
theorem lease_Serve.le (k_ : Nat) (a1 : List TLease) (a2 : Int) (a3 : TDhcp) : Le (lease_Serve.g k_ a1 a2 a3) (lease_Serve.f a1 a2 a3) := by
 unfold lease_Serve.g lease_Serve.f
 repeat' (first | with_reducible refine le_loop fun _ => ?_ | with_reducible refine le_bind ?_ fun _ => ?_ | with_reducible refine le_ite ?_ ?_ | with_reducible refine le_lt fun _ => ?_ | with_reducible refine le_elim (fun _ => ?_) (fun _ => ?_) _ | with_reducible apply dhcp_Put.le | with_reducible apply lease_Check.le | with_reducible apply lease_server_discover.le | with_reducible apply lease_server_other.le | with_reducible apply lease_server_release.le | with_reducible apply lease_server_request.le | with_reducible apply lease_tick.le | with_reducible exact le_refl _)
/-! drawbridge/drawbridgeref01.Same -/
noncomputable def ref01_Same.f (a1 : List Int) (a2 : List Int) : Option (Bool) :=
  lt (decide (a1 = a2)) fun y1 => some (y1)
set_option maxRecDepth 100000 in
set_option maxHeartbeats 4000000 in
theorem ref01_Same.spc (v1 : Value) (a1 : List Int) (v2 : Value) (a2 : List Int) (r : Bool) (H : ref01_Same.f a1 a2 = some r) : Spc Try.prog 7 [v1, v2] [Val (Kd.sl (Kd.int .u8)) v1 a1, Val (Kd.sl (Kd.int .u8)) v2 a2] [] (fun (s : Unit) => .bool r) (fun s => []) := by
 unfold ref01_Same.f at H
 refine Spc.go Try.func7 rfl (by kernel_rfl) rfl rfl (all_cons (Val.per Per_sl) (all_cons (Val.per Per_sl) all_nil)) fun F a w h => ?_
 refine Go.seq ?_
 refine Go.reg ?_
 refine ga h (o_assign rfl) rfl fun h => ?_
 refine GoR.done ?_
 refine Go.seq ?_
 refine Go.reg ?_
 refine mv h rfl rfl fun h => ?_
 have g1 := (rd_bs (rd_at 0 rfl) h.mem)
 refine ga h (o_b2s rfl (rd_at 0 rfl) t_u22 t_u5 t_u9) rfl fun h => ?_
 refine mv h rfl rfl fun h => ?_
 have g2 := (rd_bs (rd_at 1 rfl) h.mem)
 refine ga h (o_b2s rfl (rd_at 1 rfl) t_u22 t_u5 t_u9) rfl fun h => ?_
 refine ga h (o_eqs rfl rfl g1 g2) rfl fun h => ?_
 obtain ⟨y1, ey1, H⟩ := ltE H
 refine ga h (o_assign' rfl (congrArg Value.bool ey1)) rfl fun h => ?_
 refine GoR.done ?_
 rw [← som H]
 exact g_ret (vs := [.bool y1]) h Try.func7 ⟨rfl, trivial⟩ ⟨(), rfl, (h.mem.pick [] (by decide) rfl)⟩
def ref01_Same.g (k_ : Nat) (a1 : List Int) (a2 : List Int) : Option (Bool) :=
  lt (decide (a1 = a2)) fun y1 => some (y1)
theorem ref01_Same.le (k_ : Nat) (a1 : List Int) (a2 : List Int) : Le (ref01_Same.g k_ a1 a2) (ref01_Same.f a1 a2) := by
 unfold ref01_Same.g ref01_Same.f
 repeat' (first | with_reducible refine le_loop fun _ => ?_ | with_reducible refine le_bind ?_ fun _ => ?_ | with_reducible refine le_ite ?_ ?_ | with_reducible refine le_lt fun _ => ?_ | with_reducible refine le_elim (fun _ => ?_) (fun _ => ?_) _ | with_reducible exact le_refl _)
end Go.Proofs.Ytmmaojclfggioaa.S
