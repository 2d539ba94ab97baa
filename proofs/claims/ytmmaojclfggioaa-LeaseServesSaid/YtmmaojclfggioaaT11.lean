/- Contracts, printed by a program of this session. -/
import Derived.Test.YtmmaojclfggioaaT9
import Derived.Test.YtmmaojclfggioaaT10
namespace Go.Proofs.Ytmmaojclfggioaa.S
open Go Go.SL Go.RowKit
set_option linter.unusedVariables false
set_option linter.unusedSimpArgs false
/-! drawbridge/drawbridgeref25.answer -/
noncomputable def ref25_answer.f (a1 : TDhcp) (a2 : Int) : Option (TDhcp) :=
  (app ([] : List Int) a1.Mac).bind fun x1 => some ((⟨2, a1.Xid, 0, 0, x1, a2, 0, 167772674, 0, 0, 0, 0⟩ : TDhcp))
set_option maxRecDepth 100000 in
set_option maxHeartbeats 4000000 in
theorem ref25_answer.spc (v1 : Value) (a1 : TDhcp) (a2 : Int) (ha2 : InR .i64 a2) (r : TDhcp) (H : ref25_answer.f a1 a2 = some r) : Spc Try.prog 33 [v1, .int .i64 a2] [Val KDhcp v1 a1] [] (fun (s : Value) => s) (fun s => [Val KDhcp s r]) := by
 unfold ref25_answer.f at H
 refine Spc.go Try.func33 rfl (by kernel_rfl) rfl rfl (all_cons (Val.per PDhcp) all_nil) fun F a w h => ?_
 refine Go.seq ?_
 refine Go.reg ?_
 refine gs h (o_box (K := KDhcp) rfl (pv_at PDhcp 0 rfl)) rfl fun b1 _ _ h => ?_
 refine gs h (o_alloc (K := KDhcp) (z := (.agg #[.int .i64 0, .int .u32 0, .int .u32 0, .int .u32 0, .slice none 0 0, .int .i64 0, .int .u32 0, .int .u32 0, .int .u32 0, .int .u32 0, .int .u32 0, .int .u32 0])) rfl ZDhcp) rfl fun b2 _ _ h => ?_
 refine GoR.done ?_
 refine Go.seq ?_
 replace h := h.wq [(1, .int .i64 a2), (2, pt b1), (4, pt b2)] [Fld KDhcp b2 0 zDhcp, Fld KDhcp b1 0 a1, Val KDhcp v1 a1] [0, 1, 2]
 obtain ⟨x1, ex1, H⟩ := bindE H
 refine Go.draw (E := [(1, .int .i64 a2), (2, pt b1), (4, pt b2)]) [] (L := [Fld KDhcp b2 0 zDhcp, Fld KDhcp b1 0 a1, Val KDhcp v1 a1]) h rfl rfl 7 [cn (.pointer (some ⟨b1, 1, none⟩)), cm [0] [] [] (.int .u32 a1.Xid) fun u => [Ent.pur (InR .u32 a1.Xid)], cw [] [] [] fun u => [Val (Kd.osl (Kd.int .u8)) u ([] : List Int)], cn (.pointer (some ⟨b1, 4, none⟩)), cw [3] [] [] fun u => [Val (Kd.sl (Kd.int .u8)) u a1.Mac], cw [2, 3, 4] [2, 4] [2] fun u => [Val (Kd.osl (Kd.int .u8)) u x1], cn (.int .i64 a2)] rfl t_mxo (by kernel_rfl) (by rfl) ?_ fun f1 _ _ h => ?_
 ·exact ox rfl (o_fa rfl t_f28_1 rfl rfl) (ox rfl (OpS.pur (fun F w m_ => (in2 (fd_sub sDhcp_Xid 1 rfl m_))) (o_lfx 1 rfl rfl sDhcp_Xid rfl X_int t_y25)) (oy rfl (o_bs (K := (Kd.int .u8)) (vs := []) (xs := ([] : List Int)) rfl rfl pvs_nil t_a22 (by decide) (by decide)) (ox rfl (o_fa rfl t_f28_4 rfl rfl) (oy rfl (o_lfv 1 rfl rfl sDhcp_Mac rfl Per_sl t_y22) (oy rfl (o_app (K := (Kd.int .u8)) 0 rfl rfl rfl (rd_at 1 rfl) ex1 t_a22 t_n22) (ox rfl (o_move rfl) (obs_nil)))))))
 replace h := h.wk (E' := [(4, pt b2), (6, .int .u32 a1.Xid), (10, (f1 5)), (11, .int .i64 a2)]) (L' := [Ent.pur (InR .u32 a1.Xid), Val (Kd.sl (Kd.int .u8)) (f1 4) a1.Mac, Val (Kd.osl (Kd.int .u8)) (f1 5) x1, Fld KDhcp b2 0 zDhcp, Fld KDhcp b1 0 a1, Val KDhcp v1 a1]) (by kernel_rfl) [0, 1, 2, 3, 4, 5] (by decide) (by kernel_rfl)
 have g1 := (Mem.pur 0 rfl h.mem)
 replace h := h.mm fun m => m.freeze 2 rfl
 refine gs h (o_build (K := KDhcp) (x := (⟨2, a1.Xid, 0, 0, x1, a2, 0, 167772674, 0, 0, 0, 0⟩ : TDhcp)) (ps := [(0, .int .i64 2), (1, .int .u32 a1.Xid), (4, (f1 5)), (5, .int .i64 a2), (7, .int .u32 167772674)]) rfl (zs := zsDhcp) rfl t_b28 rfl (show PB (Kd.pair (Kd.int .i64) (Kd.pair (Kd.int .u32) (Kd.pair (Kd.int .u32) (Kd.pair (Kd.int .u32) (Kd.pair (Kd.sl (Kd.int .u8)) (Kd.pair (Kd.int .i64) (Kd.pair (Kd.int .u32) (Kd.pair (Kd.int .u32) (Kd.pair (Kd.int .u32) (Kd.pair (Kd.int .u32) (Kd.pair (Kd.int .u32) (Kd.last (Kd.int .u32))))))))))))) (2, a1.Xid, 0, 0, x1, a2, 0, 167772674, 0, 0, 0, 0) 0 zsDhcp _ _ from (pb_part (pv_int (show InR .i64 2 by decide)) rfl (pb_part (pv_int g1) rfl (pb_zero z_int (pb_zero z_int (pb_part (pv_at Per_sl 2 rfl) rfl (pb_part (pv_int ha2) rfl (pb_zero z_int (pb_part (pv_int (show InR .u32 167772674 by decide)) rfl (pb_zero z_int (pb_zero z_int (pb_zero z_int (pb_lastz z_int)))))))))))))) rfl fun v5 _ _ h => ?_
 refine gs0 h (o_st 4 rfl rfl rfl (pv_at PDhcp 0 rfl) rfl t_w28) fun _ _ _ h => ?_
 refine GoR.done ?_
 obtain ⟨v6, h, u1⟩ := h.peek 4 rfl PDhcp t_y28
 rw [← som H]
 exact g_ret (vs := [v6]) h Try.func33 ⟨⟨_, rfl, u1⟩, trivial⟩ ⟨v6, rfl, (h.mem.pick [0] (by decide) rfl)⟩
def ref25_answer.g (k_ : Nat) (a1 : TDhcp) (a2 : Int) : Option (TDhcp) :=
  (app ([] : List Int) a1.Mac).bind fun x1 => some ((⟨2, a1.Xid, 0, 0, x1, a2, 0, 167772674, 0, 0, 0, 0⟩ : TDhcp))
theorem ref25_answer.le (k_ : Nat) (a1 : TDhcp) (a2 : Int) : Le (ref25_answer.g k_ a1 a2) (ref25_answer.f a1 a2) := by
 unfold ref25_answer.g ref25_answer.f
 repeat' (first | with_reducible refine le_loop fun _ => ?_ | with_reducible refine le_bind ?_ fun _ => ?_ | with_reducible refine le_ite ?_ ?_ | with_reducible refine le_lt fun _ => ?_ | with_reducible refine le_elim (fun _ => ?_) (fun _ => ?_) _ | with_reducible exact le_refl _)
/-! drawbridge/drawbridgeref25.full -/
noncomputable def ref25_full.f (a1 : TDhcp) (a2 : Int) (a3 : Int) : Option (TDhcp) :=
  (ref25_answer.f a1 a2).bind fun r1 => lt (⟨r1.Op, r1.Xid, r1.Ci, a3, r1.Mac, r1.Type_, r1.Want, r1.Server, r1.Lease, r1.Mask, r1.Router, r1.Dns⟩ : TDhcp) fun y1 => lt (⟨y1.Op, y1.Xid, y1.Ci, y1.Yi, y1.Mac, y1.Type_, y1.Want, y1.Server, 3600, y1.Mask, y1.Router, y1.Dns⟩ : TDhcp) fun y2 => lt (⟨y2.Op, y2.Xid, y2.Ci, y2.Yi, y2.Mac, y2.Type_, y2.Want, y2.Server, y2.Lease, 4294967040, y2.Router, y2.Dns⟩ : TDhcp) fun y3 => lt (⟨y3.Op, y3.Xid, y3.Ci, y3.Yi, y3.Mac, y3.Type_, y3.Want, y3.Server, y3.Lease, y3.Mask, 167772674, y3.Dns⟩ : TDhcp) fun y4 => lt (⟨y4.Op, y4.Xid, y4.Ci, y4.Yi, y4.Mac, y4.Type_, y4.Want, y4.Server, y4.Lease, y4.Mask, y4.Router, 167772675⟩ : TDhcp) fun y5 => some (y5)
set_option maxRecDepth 100000 in
set_option maxHeartbeats 4000000 in
theorem ref25_full.spc (v1 : Value) (a1 : TDhcp) (a2 : Int) (ha2 : InR .i64 a2) (a3 : Int) (ha3 : InR .u32 a3) (r : TDhcp) (H : ref25_full.f a1 a2 a3 = some r) : Spc Try.prog 35 [v1, .int .i64 a2, .int .u32 a3] [Val KDhcp v1 a1] [] (fun (s : Value) => s) (fun s => [Val KDhcp s r]) := by
 unfold ref25_full.f at H
 refine Spc.go Try.func35 rfl (by kernel_rfl) rfl rfl (all_cons (Val.per PDhcp) all_nil) fun F a w h => ?_
 refine Go.seq ?_
 refine Go.reg ?_
 refine gs h (o_box (K := KDhcp) rfl (pv_at PDhcp 0 rfl)) rfl fun b1 _ _ h => ?_
 refine gs h (o_alloc (K := KDhcp) (z := (.agg #[.int .i64 0, .int .u32 0, .int .u32 0, .int .u32 0, .slice none 0 0, .int .i64 0, .int .u32 0, .int .u32 0, .int .u32 0, .int .u32 0, .int .u32 0, .int .u32 0])) rfl ZDhcp) rfl fun b2 _ _ h => ?_
 refine GoR.done ?_
 refine Go.seq ?_
 refine Go.reg ?_
 refine gs h (o_ldv 1 rfl rfl PDhcp t_y28) rfl fun v2 _ _ h => ?_
 refine mv h rfl rfl fun h => ?_
 obtain ⟨r1, er1, H⟩ := bindE H
 refine gs h (o_call (ref25_answer.spc v2 a1 a2 ha2 r1 er1) rfl [0] [] (by decide) rfl rfl) rfl fun v3 _ _ h => ?_
 refine gs h (o_alloc (K := KDhcp) (z := (.agg #[.int .i64 0, .int .u32 0, .int .u32 0, .int .u32 0, .slice none 0 0, .int .i64 0, .int .u32 0, .int .u32 0, .int .u32 0, .int .u32 0, .int .u32 0, .int .u32 0])) rfl ZDhcp) rfl fun b3 _ _ h => ?_
 refine gs0 h (o_st 0 rfl rfl rfl (pv_at PDhcp 1 rfl) rfl t_w28) fun _ _ _ h => ?_
 refine GoR.done ?_
 refine Go.seq ?_
 refine Go.reg ?_
 refine mv h rfl rfl fun h => ?_
 refine ga h (o_fa rfl t_f28_3 rfl rfl) rfl fun h => ?_
 obtain ⟨y1, ey1, H⟩ := ltE H
 refine gs0 h (o_stp (x0 := r1) (y := a3) 0 t_uDhcp_3_1 rfl rfl rfl rfl (pv_int ha3) t_w25) fun _ _ _ h => ?_
 rw [ey1] at h
 refine ga h (o_fa rfl t_f28_8 rfl rfl) rfl fun h => ?_
 obtain ⟨y2, ey2, H⟩ := ltE H
 refine gs0 h (o_stp (x0 := y1) (y := 3600) 0 t_uDhcp_8_1 rfl rfl rfl rfl (pv_int (show InR .u32 3600 by decide)) t_w25) fun _ _ _ h => ?_
 rw [ey2] at h
 refine ga h (o_fa rfl t_f28_9 rfl rfl) rfl fun h => ?_
 obtain ⟨y3, ey3, H⟩ := ltE H
 refine gs0 h (o_stp (x0 := y2) (y := 4294967040) 0 t_uDhcp_9_1 rfl rfl rfl rfl (pv_int (show InR .u32 4294967040 by decide)) t_w25) fun _ _ _ h => ?_
 rw [ey3] at h
 refine ga h (o_fa rfl t_f28_10 rfl rfl) rfl fun h => ?_
 obtain ⟨y4, ey4, H⟩ := ltE H
 refine gs0 h (o_stp (x0 := y3) (y := 167772674) 0 t_uDhcp_10_1 rfl rfl rfl rfl (pv_int (show InR .u32 167772674 by decide)) t_w25) fun _ _ _ h => ?_
 rw [ey4] at h
 refine ga h (o_fa rfl t_f28_11 rfl rfl) rfl fun h => ?_
 obtain ⟨y5, ey5, H⟩ := ltE H
 refine gs0 h (o_stp (x0 := y4) (y := 167772675) 0 t_uDhcp_11_1 rfl rfl rfl rfl (pv_int (show InR .u32 167772675 by decide)) t_w25) fun _ _ _ h => ?_
 rw [ey5] at h
 refine GoR.done ?_
 refine Go.seq ?_
 refine Go.reg ?_
 refine gs h (o_ldv 0 rfl rfl PDhcp t_y28) rfl fun v4 _ _ h => ?_
 refine gs0 h (o_st 4 rfl rfl rfl (pv_at PDhcp 0 rfl) rfl t_w28) fun _ _ _ h => ?_
 refine GoR.done ?_
 obtain ⟨v5, h, u1⟩ := h.peek 4 rfl PDhcp t_y28
 rw [← som H]
 exact g_ret (vs := [v5]) h Try.func35 ⟨⟨_, rfl, u1⟩, trivial⟩ ⟨v5, rfl, (h.mem.pick [0] (by decide) rfl)⟩
def ref25_full.g (k_ : Nat) (a1 : TDhcp) (a2 : Int) (a3 : Int) : Option (TDhcp) :=
  (ref25_answer.g k_ a1 a2).bind fun r1 => lt (⟨r1.Op, r1.Xid, r1.Ci, a3, r1.Mac, r1.Type_, r1.Want, r1.Server, r1.Lease, r1.Mask, r1.Router, r1.Dns⟩ : TDhcp) fun y1 => lt (⟨y1.Op, y1.Xid, y1.Ci, y1.Yi, y1.Mac, y1.Type_, y1.Want, y1.Server, 3600, y1.Mask, y1.Router, y1.Dns⟩ : TDhcp) fun y2 => lt (⟨y2.Op, y2.Xid, y2.Ci, y2.Yi, y2.Mac, y2.Type_, y2.Want, y2.Server, y2.Lease, 4294967040, y2.Router, y2.Dns⟩ : TDhcp) fun y3 => lt (⟨y3.Op, y3.Xid, y3.Ci, y3.Yi, y3.Mac, y3.Type_, y3.Want, y3.Server, y3.Lease, y3.Mask, 167772674, y3.Dns⟩ : TDhcp) fun y4 => lt (⟨y4.Op, y4.Xid, y4.Ci, y4.Yi, y4.Mac, y4.Type_, y4.Want, y4.Server, y4.Lease, y4.Mask, y4.Router, 167772675⟩ : TDhcp) fun y5 => some (y5)
theorem ref25_full.le (k_ : Nat) (a1 : TDhcp) (a2 : Int) (a3 : Int) : Le (ref25_full.g k_ a1 a2 a3) (ref25_full.f a1 a2 a3) := by
 unfold ref25_full.g ref25_full.f
 repeat' (first | with_reducible refine le_loop fun _ => ?_ | with_reducible refine le_bind ?_ fun _ => ?_ | with_reducible refine le_ite ?_ ?_ | with_reducible refine le_lt fun _ => ?_ | with_reducible refine le_elim (fun _ => ?_) (fun _ => ?_) _ | with_reducible apply ref25_answer.le | with_reducible exact le_refl _)
/-! drawbridge/drawbridgeref25.Owner -/
noncomputable def ref25_Owner.f (a1 : List TLease) (a2 : Int) (a3 : Int) : Option ((List Int) × Bool) :=
  (loop (fun s1 => ((if decide (s1 < (a1.length : Int)) = true then (ref25_Check.f a1).bind fun r1 => (if r1 = true then (ref25_tick.f a2).bind fun r2 => some (r2) else some (false)) else some (false))).bind (fun j1 => (if j1 = true then ((idx a1 s1).bind fun x1 => (if decide (a2 < x1.Until) = true then (idx a1 s1).bind fun x2 => some (decide (x2.Ip = a3)) else some (false))).bind (fun j2 => (if j2 = true then (idx a1 s1).bind fun x3 => (app ([] : List Int) x3.Mac).bind fun x4 => some (.inr (.inr ((x4, true)))) else lt (IntKind.i64.wrap (s1 + 1)) fun y1 => some (.inl y1))) else some (.inr (.inl (())))))) 0).bind (Sum.elim (fun j3 => some (([], false))) (fun z_ => some (z_)))
set_option maxRecDepth 100000 in
set_option maxHeartbeats 4000000 in
theorem ref25_Owner.spc (v1 : Value) (a1 : List TLease) (a2 : Int) (ha2 : InR .i64 a2) (a3 : Int) (ha3 : InR .u32 a3) (r : (List Int) × Bool) (H : ref25_Owner.f a1 a2 a3 = some r) : Spc Try.prog 16 [v1, .int .i64 a2, .int .u32 a3] [Val (Kd.sl KLease) v1 a1] [] (fun (s : Value) => .tuple #[s, .bool r.2]) (fun s => [Val (Kd.osl (Kd.int .u8)) s r.1]) := by
 unfold ref25_Owner.f at H
 refine Spc.go Try.func16 rfl (by kernel_rfl) rfl rfl (all_cons (Val.per Per_sl) all_nil) fun F a w h => ?_
 refine Go.seq ?_
 refine Go.reg ?_
 refine ga h (o_assign rfl) rfl fun h => ?_
 refine ga h (o_assign rfl) rfl fun h => ?_
 refine GoR.done ?_
 refine Go.seq ?_
 refine Go.seq ?_
 refine Go.reg ?_
 refine ga h (o_assign rfl) rfl fun h => ?_
 refine GoR.done ?_
 refine Go.block ?_
 obtain ⟨o1, hl, G1⟩ := bindE H
 refine g_cut (fun G => ∀ j3 (a : Act) (w : World), o1 = .inl (j3) → St Try.f16.ntmps F [] [] a w → G a w) 2 ?_ fun J3 => ?_
 ·intro j3 a w ho_ h
  rw [ho_] at G1
  have H := eInl G1
  refine Go.seq ?_
  refine Go.reg ?_
  refine ga h (o_assign rfl) rfl fun h => ?_
  refine ga h (o_assign rfl) rfl fun h => ?_
  refine GoR.done ?_
  replace h := h.mm fun m => m.nilo (Kd.int .u8)
  rw [← som H]
  exact g_ret (vs := [.slice none 0 0, .bool false]) h Try.func16 ⟨rfl, ⟨rfl, trivial⟩⟩ ⟨.slice none 0 0, rfl, (h.mem.pick [0] (by decide) rfl)⟩
 refine g_loop (fun s1 G => ∀  (a : Act) (w : World), InR .i64 s1 → St Try.f16.ntmps F [(0, v1), (1, .int .i64 a2), (2, .int .u32 a3), (8, .int .i64 s1)] [Val (Kd.sl KLease) v1 a1] a w → G a w) hl (fun s1 p1 H i1 => ?_) fun I_ => ?_
 ·intro  a w g1 h
  refine Go.seq ?_
  refine Go.seq ?_
  obtain ⟨o2, H, G2⟩ := bindE H
  refine g_cut (fun G => ∀ j1 (a : Act) (w : World), o2 = j1 → St Try.f16.ntmps F [(0, v1), (1, .int .i64 a2), (2, .int .u32 a3), (8, .int .i64 s1), (20, .bool j1)] [Val (Kd.sl KLease) v1 a1] a w → G a w) 1 ?_ fun J1 => ?_
  ·intro j1 a w ho_ h
   rw [ho_] at G2
   have H := G2
   by_cases c3 : j1 = true
   ·have H := ifT c3 H
    refine g_t h rfl c3 ?_
    refine Go.skip ?_
    refine Go.seq ?_
    refine Go.block ?_
    refine Go.seq ?_
    obtain ⟨o3, H, G3⟩ := bindE H
    refine g_cut (fun G => ∀ j2 (a : Act) (w : World), o3 = j2 → St Try.f16.ntmps F [(0, v1), (1, .int .i64 a2), (2, .int .u32 a3), (8, .int .i64 s1), (38, .bool j2)] [Val (Kd.sl KLease) v1 a1] a w → G a w) 1 ?_ fun J2 => ?_
    ·intro j2 a w ho_ h
     rw [ho_] at G3
     have H := G3
     by_cases c5 : j2 = true
     ·have H := ifT c5 H
      refine g_t h rfl c5 ?_
      refine Go.seq ?_
      refine Go.reg ?_
      refine gs h (o_bs (K := (Kd.int .u8)) (vs := []) (xs := ([] : List Int)) rfl rfl pvs_nil t_a22 (by decide) (by decide)) rfl fun v2 _ _ h => ?_
      refine mv h rfl rfl fun h => ?_
      refine mv h rfl rfl fun h => ?_
      obtain ⟨x3, ex3, H⟩ := bindE H
      refine ga h (o_ix rfl rfl (rd_at 1 rfl) ex3 t_v26) rfl fun h => ?_
      refine ga h (o_fae (k' := s1.toNat * Kd.n KLease + 0) rfl (rd_at 1 rfl) ex3 (by decide) t_f42_0 rfl rfl) rfl fun h => ?_
      refine gs h (o_lsv rfl (rd_at 1 rfl) ex3 sLease_Mac t_y22 (by decide)) rfl fun v3 _ _ h => ?_
      obtain ⟨x4, ex4, H⟩ := bindE H
      refine gs h (o_app (K := (Kd.int .u8)) 1 rfl rfl rfl (rd_at 0 rfl) ex4 t_a22 t_n22) rfl fun v4 _ _ h => ?_
      refine ga h (o_assign rfl) rfl fun h => ?_
      refine ga h (o_assign rfl) rfl fun h => ?_
      refine GoR.done ?_
      have e_ := som H; subst e_
      rw [← nx_out i1] at G1
      have H := G1
      rw [← som H]
      exact g_ret (vs := [v4, .bool true]) h Try.func16 ⟨rfl, ⟨rfl, trivial⟩⟩ ⟨v4, rfl, (h.mem.pick [1] (by decide) rfl)⟩
     ·have H := ifF c5 H
      refine g_f h rfl c5 ?_
      refine Go.skip ?_
      refine Go.inBlock ?_
      refine Go.reg ?_
      refine mv h rfl rfl fun h => ?_
      refine ga h (o_bin rfl rfl rfl) rfl fun h => ?_
      obtain ⟨y1, ey1, H⟩ := ltE H
      refine ga h (o_assign' rfl (congrArg (fun z => Value.int .i64 z) ey1)) rfl fun h => ?_
      refine GoR.done ?_
      have e_ := som H; subst e_
      exact Go.inLoop (nx_in i1 _ _ (ey1 ▸ (wrap_in _ _)) (h.wr [0]))
    refine Go.reg ?_
    refine mv h rfl rfl fun h => ?_
    refine mv h rfl rfl fun h => ?_
    obtain ⟨x1, ex1, H⟩ := bindE H
    refine ga h (o_ix rfl rfl (rd_at 0 rfl) ex1 t_v26) rfl fun h => ?_
    refine ga h (o_fae (k' := s1.toNat * Kd.n KLease + 2) rfl (rd_at 0 rfl) ex1 (by decide) t_f42_2 rfl rfl) rfl fun h => ?_
    have g3 := (in1 (rd_sub sLease_Until (rd_at 0 rfl) ex1 h.mem))
    refine ga h (o_lsx rfl (rd_at 0 rfl) ex1 sLease_Until X_int t_y3 (by decide)) rfl fun h => ?_
    refine mv h rfl rfl fun h => ?_
    refine ga h (o_bin rfl rfl rfl) rfl fun h => ?_
    refine mv h rfl rfl fun h => ?_
    by_cases c4 : decide (a2 < x1.Until) = true
    ·have H := ifT c4 H
     refine gg h rfl rfl c4 (o_move rfl) rfl fun _ _ _ h => ?_
     refine gg h rfl rfl c4 (o_move rfl) rfl fun _ _ _ h => ?_
     obtain ⟨x2, ex2, H⟩ := bindE H
     refine gg h rfl rfl c4 (o_ix rfl rfl (rd_at 0 rfl) ex2 t_v26) rfl fun _ _ _ h => ?_
     refine gg h rfl rfl c4 (o_fae (k' := s1.toNat * Kd.n KLease + 1) rfl (rd_at 0 rfl) ex2 (by decide) t_f42_1 rfl rfl) rfl fun _ _ _ h => ?_
     have g4 := (in1 (rd_sub sLease_Ip (rd_at 0 rfl) ex2 h.mem))
     refine gg h rfl rfl c4 (o_lsx rfl (rd_at 0 rfl) ex2 sLease_Ip X_int t_y25 (by decide)) rfl fun _ _ _ h => ?_
     refine gg h rfl rfl c4 (o_move rfl) rfl fun _ _ _ h => ?_
     refine gg h rfl rfl c4 (o_bin rfl rfl rfl) rfl fun _ _ _ h => ?_
     refine ga h (o_pickT rfl rfl c4) rfl fun h => ?_
     refine GoR.done ?_
     exact J2 (decide (x2.Ip = a3)) _ _ (som H).symm (h.wr [0])
    ·have H := ifF c4 H
     iterate 7 (refine gk h rfl rfl (nb_f c4) rfl fun _ h => ?_)
     refine ga h (o_pickF rfl rfl c4) rfl fun h => ?_
     refine GoR.done ?_
     exact J2 false _ _ (som H).symm (h.wr [0])
   ·have H := ifF c3 H
    refine g_f h rfl c3 ?_
    refine Go.exit rfl ?_
    have e_ := som H; subst e_
    exact J3 () _ _ (nx_out i1).symm (h.wr [])
  refine Go.reg ?_
  refine mv h rfl rfl fun h => ?_
  refine mv h rfl rfl fun h => ?_
  have g2 := (len_at 0 rfl h.mem)
  refine ga h (o_ln rfl (rd_at 0 rfl) t_v26) rfl fun h => ?_
  refine ga h (o_bin rfl rfl rfl) rfl fun h => ?_
  refine mv h rfl rfl fun h => ?_
  by_cases c1 : decide (s1 < (a1.length : Int)) = true
  ·have H := ifT c1 H
   refine gg h rfl rfl c1 (o_move rfl) rfl fun _ _ _ h => ?_
   obtain ⟨r1, er1, H⟩ := bindE H
   refine gg h rfl rfl c1 (o_call (ref25_Check.spc v1 a1 r1 er1) rfl [0] [] (by decide) rfl rfl) rfl fun _ _ _ h => ?_
   refine ga h (o_pickT rfl rfl c1) rfl fun h => ?_
   refine mv h rfl rfl fun h => ?_
   by_cases c2 : r1 = true
   ·have H := ifT c2 H
    refine gg h rfl rfl c2 (o_move rfl) rfl fun _ _ _ h => ?_
    obtain ⟨r2, er2, H⟩ := bindE H
    refine gg h rfl rfl c2 (o_call (ref25_tick.spc a2 ha2 r2 er2) rfl [] [] (by decide) rfl rfl) rfl fun _ _ _ h => ?_
    refine ga h (o_pickT rfl rfl c2) rfl fun h => ?_
    refine GoR.done ?_
    exact J1 r2 _ _ (som H).symm (h.wr [0])
   ·have H := ifF c2 H
    refine gk h rfl rfl (nb_f c2) rfl fun _ h => ?_
    refine gk h rfl rfl (nb_f c2) rfl fun _ h => ?_
    refine ga h (o_pickF rfl rfl c2) rfl fun h => ?_
    refine GoR.done ?_
    exact J1 false _ _ (som H).symm (h.wr [0])
  ·have H := ifF c1 H
   refine gk h rfl rfl (nb_f c1) rfl fun _ h => ?_
   refine gk h rfl rfl (nb_f c1) rfl fun _ h => ?_
   refine ga h (o_pickF rfl rfl c1) rfl fun h => ?_
   refine mv h rfl rfl fun h => ?_
   refine gk h rfl rfl (nb_f Bool.false_ne_true) rfl fun _ h => ?_
   refine gk h rfl rfl (nb_f Bool.false_ne_true) rfl fun _ h => ?_
   refine ga h (o_pickF rfl rfl Bool.false_ne_true) rfl fun h => ?_
   refine GoR.done ?_
   exact J1 false _ _ (som H).symm (h.wr [0])
 ·exact I_ _ _ (show InR .i64 0 by decide) (h.wr [0])
def ref25_Owner.g (k_ : Nat) (a1 : List TLease) (a2 : Int) (a3 : Int) : Option ((List Int) × Bool) :=
  (loopK k_ (fun s1 => ((if decide (s1 < (a1.length : Int)) = true then (ref25_Check.g k_ a1).bind fun r1 => (if r1 = true then (ref25_tick.g k_ a2).bind fun r2 => some (r2) else some (false)) else some (false))).bind (fun j1 => (if j1 = true then ((idx a1 s1).bind fun x1 => (if decide (a2 < x1.Until) = true then (idx a1 s1).bind fun x2 => some (decide (x2.Ip = a3)) else some (false))).bind (fun j2 => (if j2 = true then (idx a1 s1).bind fun x3 => (app ([] : List Int) x3.Mac).bind fun x4 => some (.inr (.inr ((x4, true)))) else lt (IntKind.i64.wrap (s1 + 1)) fun y1 => some (.inl y1))) else some (.inr (.inl (())))))) 0).bind (Sum.elim (fun j3 => some (([], false))) (fun z_ => some (z_)))
theorem ref25_Owner.le (k_ : Nat) (a1 : List TLease) (a2 : Int) (a3 : Int) : Le (ref25_Owner.g k_ a1 a2 a3) (ref25_Owner.f a1 a2 a3) := by
 unfold ref25_Owner.g ref25_Owner.f
 repeat' (first | with_reducible refine le_loop fun _ => ?_ | with_reducible refine le_bind ?_ fun _ => ?_ | with_reducible refine le_ite ?_ ?_ | with_reducible refine le_lt fun _ => ?_ | with_reducible refine le_elim (fun _ => ?_) (fun _ => ?_) _ | with_reducible apply ref25_Check.le | with_reducible apply ref25_tick.le | with_reducible exact le_refl _)
/-! drawbridge/drawbridgeref25.free -/
noncomputable def ref25_free.f (a1 : List TLease) (a2 : Int) (a3 : Int) (a4 : List Int) : Option (Bool) :=
  (ref25_Owner.f a1 a2 a3).bind fun r1 => ((ref25_pool.f a3).bind fun r2 => (if r2 = true then (if (!r1.2) = true then some (true) else lt (decide (r1.1 = a4)) fun y1 => some (y1)) else some (false))).bind (fun j1 => some (j1))
set_option maxRecDepth 100000 in
set_option maxHeartbeats 4000000 in
theorem ref25_free.spc (v1 : Value) (a1 : List TLease) (a2 : Int) (ha2 : InR .i64 a2) (a3 : Int) (ha3 : InR .u32 a3) (v2 : Value) (a4 : List Int) (r : Bool) (H : ref25_free.f a1 a2 a3 a4 = some r) : Spc Try.prog 32 [v1, .int .i64 a2, .int .u32 a3, v2] [Val (Kd.sl KLease) v1 a1, Val (Kd.sl (Kd.int .u8)) v2 a4] [] (fun (s : Unit) => .bool r) (fun s => []) := by
 unfold ref25_free.f at H
 refine Spc.go Try.func32 rfl (by kernel_rfl) rfl rfl (all_cons (Val.per Per_sl) (all_cons (Val.per Per_sl) all_nil)) fun F a w h => ?_
 refine Go.seq ?_
 refine Go.reg ?_
 refine ga h (o_assign rfl) rfl fun h => ?_
 refine GoR.done ?_
 refine Go.seq ?_
 refine Go.reg ?_
 iterate 3 (refine ga h (o_move rfl) rfl fun h => ?_)
 obtain ⟨r1, er1, H⟩ := bindE H
 refine gs h (o_call (ref25_Owner.spc v1 a1 a2 ha2 a3 ha3 r1 er1) rfl [0] [] (by decide) rfl rfl) rfl fun v3 _ _ h => ?_
 refine mv h rfl rfl fun h => ?_
 refine ga h (o_extract rfl rfl) rfl fun h => ?_
 refine ga h (o_extract rfl rfl) rfl fun h => ?_
 refine ga h (o_assign rfl) rfl fun h => ?_
 refine ga h (o_assign rfl) rfl fun h => ?_
 refine GoR.done ?_
 refine Go.seq ?_
 obtain ⟨o1, H, G1⟩ := bindE H
 refine g_cut (fun G => ∀ j1 (a : Act) (w : World), o1 = j1 → St Try.f32.ntmps F [(8, .bool j1)] [] a w → G a w) 1 ?_ fun J1 => ?_
 ·intro j1 a w ho_ h
  rw [ho_] at G1
  have H := G1
  rw [← som H]
  exact g_ret (vs := [.bool j1]) h Try.func32 ⟨rfl, trivial⟩ ⟨(), rfl, (h.mem.pick [] (by decide) rfl)⟩
 refine Go.reg ?_
 refine mv h rfl rfl fun h => ?_
 obtain ⟨r2, er2, H⟩ := bindE H
 refine ga h (o_call (ref25_pool.spc a3 ha3 r2 er2) rfl [] [] (by decide) rfl rfl) rfl fun h => ?_
 refine mv h rfl rfl fun h => ?_
 by_cases c1 : r2 = true
 ·have H := ifT c1 H
  refine gg h rfl rfl c1 (o_move rfl) rfl fun _ _ _ h => ?_
  refine gg h rfl rfl c1 (o_not rfl) rfl fun _ _ _ h => ?_
  refine gg h rfl rfl c1 (o_move rfl) rfl fun _ _ _ h => ?_
  by_cases c2 : (!r1.2) = true
  ·have H := ifT c2 H
   iterate 5 (refine gk h rfl rfl (nb_t c2) rfl fun _ h => ?_)
   refine gg h rfl rfl c1 (o_pickT rfl rfl c2) rfl fun _ _ _ h => ?_
   refine ga h (o_pickT rfl rfl c1) rfl fun h => ?_
   refine ga h (o_assign rfl) rfl fun h => ?_
   refine GoR.done ?_
   exact J1 true _ _ (som H).symm (h.wr [])
  ·have H := ifF c2 H
   refine gg h rfl rfl (nbF c2) (o_move rfl) rfl fun _ _ _ h => ?_
   have g1 := (rd_bs (rd_own 0 rfl) h.mem)
   refine gg h rfl rfl (nbF c2) (o_b2s rfl (rd_own 0 rfl) t_u22 t_u5 t_u9) rfl fun _ _ _ h => ?_
   refine gg h rfl rfl (nbF c2) (o_move rfl) rfl fun _ _ _ h => ?_
   have g2 := (rd_bs (rd_at 2 rfl) h.mem)
   refine gg h rfl rfl (nbF c2) (o_b2s rfl (rd_at 2 rfl) t_u22 t_u5 t_u9) rfl fun _ _ _ h => ?_
   refine gg h rfl rfl (nbF c2) (o_eqs rfl rfl g1 g2) rfl fun _ _ _ h => ?_
   refine gg h rfl rfl c1 (o_pickF rfl rfl c2) rfl fun _ _ _ h => ?_
   refine ga h (o_pickT rfl rfl c1) rfl fun h => ?_
   obtain ⟨y1, ey1, H⟩ := ltE H
   refine ga h (o_assign' rfl (congrArg Value.bool ey1)) rfl fun h => ?_
   refine GoR.done ?_
   exact J1 y1 _ _ (som H).symm (h.wr [])
 ·have H := ifF c1 H
  iterate 3 (refine gk h rfl rfl (nb_f c1) rfl fun _ h => ?_)
  iterate 5 (refine gk h rfl rfl rfl rfl fun _ h => ?_)
  refine gk h rfl rfl (nb_f c1) rfl fun _ h => ?_
  refine ga h (o_pickF rfl rfl c1) rfl fun h => ?_
  refine ga h (o_assign rfl) rfl fun h => ?_
  refine GoR.done ?_
  exact J1 false _ _ (som H).symm (h.wr [])
def ref25_free.g (k_ : Nat) (a1 : List TLease) (a2 : Int) (a3 : Int) (a4 : List Int) : Option (Bool) :=
  (ref25_Owner.g k_ a1 a2 a3).bind fun r1 => ((ref25_pool.g k_ a3).bind fun r2 => (if r2 = true then (if (!r1.2) = true then some (true) else lt (decide (r1.1 = a4)) fun y1 => some (y1)) else some (false))).bind (fun j1 => some (j1))
theorem ref25_free.le (k_ : Nat) (a1 : List TLease) (a2 : Int) (a3 : Int) (a4 : List Int) : Le (ref25_free.g k_ a1 a2 a3 a4) (ref25_free.f a1 a2 a3 a4) := by
 unfold ref25_free.g ref25_free.f
 repeat' (first | with_reducible refine le_loop fun _ => ?_ | with_reducible refine le_bind ?_ fun _ => ?_ | with_reducible refine le_ite ?_ ?_ | with_reducible refine le_lt fun _ => ?_ | with_reducible refine le_elim (fun _ => ?_) (fun _ => ?_) _ | with_reducible apply ref25_Owner.le | with_reducible apply ref25_pool.le | with_reducible exact le_refl _)
/-! drawbridge/drawbridgeref25.discover -/
noncomputable def ref25_discover.f (a1 : List TLease) (a2 : Int) (a3 : TDhcp) : Option (TDhcp × Bool) :=
  (ref25_Find.f a1 a2 a3.Mac).bind fun r1 => (if r1.2 = true then (ref25_full.f a3 2 r1.1).bind fun r2 => some ((r2, true)) else (ref25_free.f a1 a2 a3.Want []).bind fun r3 => (if r3 = true then (ref25_full.f a3 2 a3.Want).bind fun r4 => some ((r4, true)) else (loop (fun s1 => (if decide (s1 < 8) = true then (ref25_free.f a1 a2 (IntKind.u32.wrap (167772687 + s1)) []).bind fun r5 => (if r5 = true then (ref25_full.f a3 2 (IntKind.u32.wrap (167772687 + s1))).bind fun r6 => some (.inr (.inr ((r6, true)))) else lt (IntKind.u32.wrap (s1 + 1)) fun y1 => some (.inl y1)) else some (.inr (.inl (()))))) 0).bind (Sum.elim (fun j1 => some (((⟨0, 0, 0, 0, [], 0, 0, 0, 0, 0, 0, 0⟩ : TDhcp), false))) (fun z_ => some (z_)))))
set_option maxRecDepth 100000 in
set_option maxHeartbeats 4000000 in
theorem ref25_discover.spc (v1 : Value) (a1 : List TLease) (a2 : Int) (ha2 : InR .i64 a2) (v2 : Value) (a3 : TDhcp) (r : TDhcp × Bool) (H : ref25_discover.f a1 a2 a3 = some r) : Spc Try.prog 31 [v1, .int .i64 a2, v2] [Val (Kd.sl KLease) v1 a1, Val KDhcp v2 a3] [] (fun (s : Value) => .tuple #[s, .bool r.2]) (fun s => [Val KDhcp s r.1]) := by
 unfold ref25_discover.f at H
 refine Spc.go Try.func31 rfl (by kernel_rfl) rfl rfl (all_cons (Val.per Per_sl) (all_cons (Val.per PDhcp) all_nil)) fun F a w h => ?_
 refine Go.seq ?_
 refine Go.reg ?_
 refine gs h (o_box (K := KDhcp) rfl (pv_at PDhcp 1 rfl)) rfl fun b1 _ _ h => ?_
 refine gs h (o_alloc (K := KDhcp) (z := (.agg #[.int .i64 0, .int .u32 0, .int .u32 0, .int .u32 0, .slice none 0 0, .int .i64 0, .int .u32 0, .int .u32 0, .int .u32 0, .int .u32 0, .int .u32 0, .int .u32 0])) rfl ZDhcp) rfl fun b2 _ _ h => ?_
 refine ga h (o_assign rfl) rfl fun h => ?_
 refine GoR.done ?_
 refine Go.seq ?_
 refine Go.reg ?_
 refine mv h rfl rfl fun h => ?_
 refine mv h rfl rfl fun h => ?_
 refine ga h (o_fa rfl t_f28_4 rfl rfl) rfl fun h => ?_
 refine gs h (o_lfv 1 rfl rfl sDhcp_Mac rfl Per_sl t_y22) rfl fun v3 _ _ h => ?_
 obtain ⟨r1, er1, H⟩ := bindE H
 refine ga h (o_call (ref25_Find.spc v1 a1 a2 ha2 v3 a3.Mac r1 er1) rfl [3, 0] [] (by decide) rfl rfl) rfl fun h => ?_
 have g1 := h.mem.pur 0 rfl
 refine mv h rfl rfl fun h => ?_
 refine ga h (o_extract rfl rfl) rfl fun h => ?_
 refine ga h (o_extract rfl rfl) rfl fun h => ?_
 refine ga h (o_assign rfl) rfl fun h => ?_
 refine ga h (o_assign rfl) rfl fun h => ?_
 refine GoR.done ?_
 refine Go.seq ?_
 refine Go.seq ?_
 refine Go.reg ?_
 refine mv h rfl rfl fun h => ?_
 refine GoR.done ?_
 by_cases c1 : r1.2 = true
 ·have H := ifT c1 H
  refine g_t h rfl c1 ?_
  refine Go.seq ?_
  refine Go.reg ?_
  refine gs h (o_ldv 3 rfl rfl PDhcp t_y28) rfl fun v4 _ _ h => ?_
  refine mv h rfl rfl fun h => ?_
  obtain ⟨r2, er2, H⟩ := bindE H
  refine gs h (o_call (ref25_full.spc v4 a3 2 (show InR .i64 2 by decide) r1.1 g1 r2 er2) rfl [0] [] (by decide) rfl rfl) rfl fun v5 _ _ h => ?_
  refine gs0 h (o_st 4 rfl rfl rfl (pv_at PDhcp 0 rfl) rfl t_w28) fun _ _ _ h => ?_
  refine ga h (o_assign rfl) rfl fun h => ?_
  refine GoR.done ?_
  obtain ⟨v6, h, u1⟩ := h.peek 4 rfl PDhcp t_y28
  rw [← som H]
  exact g_ret (vs := [v6, .bool true]) h Try.func31 ⟨⟨_, rfl, u1⟩, ⟨rfl, trivial⟩⟩ ⟨v6, rfl, (h.mem.pick [0] (by decide) rfl)⟩
 ·have H := ifF c1 H
  refine g_f h rfl c1 ?_
  refine Go.skip ?_
  refine Go.seq ?_
  refine Go.seq ?_
  refine Go.reg ?_
  refine mv h rfl rfl fun h => ?_
  refine mv h rfl rfl fun h => ?_
  refine ga h (o_fa rfl t_f28_6 rfl rfl) rfl fun h => ?_
  have g2 := (in2 (fd_sub sDhcp_Want 3 rfl h.mem))
  refine ga h (o_lfx 3 rfl rfl sDhcp_Want rfl X_int t_y25) rfl fun h => ?_
  replace h := h.mm fun m => (pv_nil (K := (Kd.int .u8))).ent m
  obtain ⟨r3, er3, H⟩ := bindE H
  refine ga h (o_call (ref25_free.spc v1 a1 a2 ha2 a3.Want g2 (.slice none 0 0) [] r3 er3) rfl [5, 0] [] (by decide) rfl rfl) rfl fun h => ?_
  refine GoR.done ?_
  by_cases c2 : r3 = true
  ·have H := ifT c2 H
   refine g_t h rfl c2 ?_
   refine Go.seq ?_
   refine Go.reg ?_
   refine gs h (o_ldv 4 rfl rfl PDhcp t_y28) rfl fun v7 _ _ h => ?_
   refine ga h (o_fa rfl t_f28_6 rfl rfl) rfl fun h => ?_
   have g3 := (in2 (fd_sub sDhcp_Want 5 rfl h.mem))
   refine ga h (o_lfx 5 rfl rfl sDhcp_Want rfl X_int t_y25) rfl fun h => ?_
   obtain ⟨r4, er4, H⟩ := bindE H
   refine gs h (o_call (ref25_full.spc v7 a3 2 (show InR .i64 2 by decide) a3.Want g3 r4 er4) rfl [0] [] (by decide) rfl rfl) rfl fun v8 _ _ h => ?_
   refine gs0 h (o_st 5 rfl rfl rfl (pv_at PDhcp 0 rfl) rfl t_w28) fun _ _ _ h => ?_
   refine ga h (o_assign rfl) rfl fun h => ?_
   refine GoR.done ?_
   obtain ⟨v9, h, u2⟩ := h.peek 5 rfl PDhcp t_y28
   rw [← som H]
   exact g_ret (vs := [v9, .bool true]) h Try.func31 ⟨⟨_, rfl, u2⟩, ⟨rfl, trivial⟩⟩ ⟨v9, rfl, (h.mem.pick [0] (by decide) rfl)⟩
  ·have H := ifF c2 H
   refine g_f h rfl c2 ?_
   refine Go.skip ?_
   refine Go.seq ?_
   refine Go.seq ?_
   refine Go.reg ?_
   refine ga h (o_assign rfl) rfl fun h => ?_
   refine GoR.done ?_
   refine Go.block ?_
   obtain ⟨o1, hl, G1⟩ := bindE H
   refine g_cut (fun G => ∀ j1 (a : Act) (w : World), o1 = .inl (j1) → St Try.f31.ntmps F [(6, pt b2)] [Fld KDhcp b2 0 zDhcp, Fld KDhcp b1 0 a3] a w → G a w) 2 ?_ fun J1 => ?_
   ·intro j1 a w ho_ h
    rw [ho_] at G1
    have H := eInl G1
    refine Go.seq ?_
    refine Go.reg ?_
    refine gs h (o_build (K := KDhcp) (x := (⟨0, 0, 0, 0, [], 0, 0, 0, 0, 0, 0, 0⟩ : TDhcp)) (ps := []) rfl (zs := zsDhcp) rfl t_b28 rfl (show PB (Kd.pair (Kd.int .i64) (Kd.pair (Kd.int .u32) (Kd.pair (Kd.int .u32) (Kd.pair (Kd.int .u32) (Kd.pair (Kd.sl (Kd.int .u8)) (Kd.pair (Kd.int .i64) (Kd.pair (Kd.int .u32) (Kd.pair (Kd.int .u32) (Kd.pair (Kd.int .u32) (Kd.pair (Kd.int .u32) (Kd.pair (Kd.int .u32) (Kd.last (Kd.int .u32))))))))))))) (0, 0, 0, 0, [], 0, 0, 0, 0, 0, 0, 0) 0 zsDhcp _ _ from (pb_zero z_int (pb_zero z_int (pb_zero z_int (pb_zero z_int (pb_zero z_sl (pb_zero z_int (pb_zero z_int (pb_zero z_int (pb_zero z_int (pb_zero z_int (pb_zero z_int (pb_lastz z_int)))))))))))))) rfl fun v13 _ _ h => ?_
    refine gs0 h (o_st 1 rfl rfl rfl (pv_at PDhcp 0 rfl) rfl t_w28) fun _ _ _ h => ?_
    refine ga h (o_assign rfl) rfl fun h => ?_
    refine GoR.done ?_
    obtain ⟨v14, h, u4⟩ := h.peek 1 rfl PDhcp t_y28
    rw [← som H]
    exact g_ret (vs := [v14, .bool false]) h Try.func31 ⟨⟨_, rfl, u4⟩, ⟨rfl, trivial⟩⟩ ⟨v14, rfl, (h.mem.pick [0] (by decide) rfl)⟩
   refine g_loop (fun s1 G => ∀  (a : Act) (w : World), InR .u32 s1 → St Try.f31.ntmps F [(0, v1), (1, .int .i64 a2), (5, pt b1), (6, pt b2), (10, .int .u32 s1)] [Val (Kd.sl KLease) v1 a1, Fld KDhcp b2 0 zDhcp, Fld KDhcp b1 0 a3] a w → G a w) hl (fun s1 p1 H i1 => ?_) fun I_ => ?_
   ·intro  a w g4 h
    refine Go.seq ?_
    refine Go.seq ?_
    refine Go.reg ?_
    refine mv h rfl rfl fun h => ?_
    refine ga h (o_bin rfl rfl rfl) rfl fun h => ?_
    refine GoR.done ?_
    by_cases c3 : decide (s1 < 8) = true
    ·have H := ifT c3 H
     refine g_t h rfl c3 ?_
     refine Go.skip ?_
     refine Go.seq ?_
     refine Go.block ?_
     refine Go.seq ?_
     refine Go.reg ?_
     iterate 3 (refine ga h (o_move rfl) rfl fun h => ?_)
     refine ga h (o_bin rfl rfl rfl) rfl fun h => ?_
     replace h := h.mm fun m => (pv_nil (K := (Kd.int .u8))).ent m
     obtain ⟨r5, er5, H⟩ := bindE H
     refine ga h (o_call (ref25_free.spc v1 a1 a2 ha2 (IntKind.u32.wrap (167772687 + s1)) (wrap_in _ _) (.slice none 0 0) [] r5 er5) rfl [1, 0] [] (by decide) rfl rfl) rfl fun h => ?_
     refine GoR.done ?_
     by_cases c4 : r5 = true
     ·have H := ifT c4 H
      refine g_t h rfl c4 ?_
      refine Go.seq ?_
      refine Go.reg ?_
      refine gs h (o_ldv 3 rfl rfl PDhcp t_y28) rfl fun v10 _ _ h => ?_
      refine mv h rfl rfl fun h => ?_
      refine ga h (o_bin rfl rfl rfl) rfl fun h => ?_
      obtain ⟨r6, er6, H⟩ := bindE H
      refine gs h (o_call (ref25_full.spc v10 a3 2 (show InR .i64 2 by decide) (IntKind.u32.wrap (167772687 + s1)) (wrap_in _ _) r6 er6) rfl [0] [] (by decide) rfl rfl) rfl fun v11 _ _ h => ?_
      refine gs0 h (o_st 4 rfl rfl rfl (pv_at PDhcp 0 rfl) rfl t_w28) fun _ _ _ h => ?_
      refine ga h (o_assign rfl) rfl fun h => ?_
      refine GoR.done ?_
      obtain ⟨v12, h, u3⟩ := h.peek 4 rfl PDhcp t_y28
      have e_ := som H; subst e_
      rw [← nx_out i1] at G1
      have H := G1
      rw [← som H]
      exact g_ret (vs := [v12, .bool true]) h Try.func31 ⟨⟨_, rfl, u3⟩, ⟨rfl, trivial⟩⟩ ⟨v12, rfl, (h.mem.pick [0] (by decide) rfl)⟩
     ·have H := ifF c4 H
      refine g_f h rfl c4 ?_
      refine Go.skip ?_
      refine Go.inBlock ?_
      refine Go.reg ?_
      refine mv h rfl rfl fun h => ?_
      refine ga h (o_bin rfl rfl rfl) rfl fun h => ?_
      obtain ⟨y1, ey1, H⟩ := ltE H
      refine ga h (o_assign' rfl (congrArg (fun z => Value.int .u32 z) ey1)) rfl fun h => ?_
      refine GoR.done ?_
      have e_ := som H; subst e_
      exact Go.inLoop (nx_in i1 _ _ (ey1 ▸ (wrap_in _ _)) (h.wr [1, 2, 3]))
    ·have H := ifF c3 H
     refine g_f h rfl c3 ?_
     refine Go.exit rfl ?_
     have e_ := som H; subst e_
     exact J1 () _ _ (nx_out i1).symm (h.wr [1, 2])
   ·exact I_ _ _ (show InR .u32 0 by decide) (h.wr [5, 3, 4])
def ref25_discover.g (k_ : Nat) (a1 : List TLease) (a2 : Int) (a3 : TDhcp) : Option (TDhcp × Bool) :=
  (ref25_Find.g k_ a1 a2 a3.Mac).bind fun r1 => (if r1.2 = true then (ref25_full.g k_ a3 2 r1.1).bind fun r2 => some ((r2, true)) else (ref25_free.g k_ a1 a2 a3.Want []).bind fun r3 => (if r3 = true then (ref25_full.g k_ a3 2 a3.Want).bind fun r4 => some ((r4, true)) else (loopK k_ (fun s1 => (if decide (s1 < 8) = true then (ref25_free.g k_ a1 a2 (IntKind.u32.wrap (167772687 + s1)) []).bind fun r5 => (if r5 = true then (ref25_full.g k_ a3 2 (IntKind.u32.wrap (167772687 + s1))).bind fun r6 => some (.inr (.inr ((r6, true)))) else lt (IntKind.u32.wrap (s1 + 1)) fun y1 => some (.inl y1)) else some (.inr (.inl (()))))) 0).bind (Sum.elim (fun j1 => some (((⟨0, 0, 0, 0, [], 0, 0, 0, 0, 0, 0, 0⟩ : TDhcp), false))) (fun z_ => some (z_)))))
theorem ref25_discover.le (k_ : Nat) (a1 : List TLease) (a2 : Int) (a3 : TDhcp) : Le (ref25_discover.g k_ a1 a2 a3) (ref25_discover.f a1 a2 a3) := by
 unfold ref25_discover.g ref25_discover.f
 repeat' (first | with_reducible refine le_loop fun _ => ?_ | with_reducible refine le_bind ?_ fun _ => ?_ | with_reducible refine le_ite ?_ ?_ | with_reducible refine le_lt fun _ => ?_ | with_reducible refine le_elim (fun _ => ?_) (fun _ => ?_) _ | with_reducible apply ref25_Find.le | with_reducible apply ref25_free.le | with_reducible apply ref25_full.le | with_reducible exact le_refl _)
/-! drawbridge/drawbridgeref25.with -/
noncomputable def ref25_with.f (a1 : List TLease) (a2 : TLease) : Option ((List TLease)) :=
  (loop (fun s1 => (if decide (s1.2.2 < (a1.length : Int)) = true then (((((if (!s1.2.1) = true then (idx a1 s1.2.2).bind fun x1 => some (decide (a2.Ip ≤ x1.Ip)) else some (false))).bind (fun j1 => (if j1 = true then (app s1.1 ([a2] : List TLease)).bind fun x2 => some ((x2, true)) else some ((s1.1, s1.2.1))))).bind (fun j2 => ((idx a1 s1.2.2).bind fun x3 => (if (!decide (x3.Ip = a2.Ip)) = true then (idx a1 s1.2.2).bind fun x4 => some ((!decide (x4.Mac = a2.Mac))) else some (false))).bind (fun j3 => (if j3 = true then (idx a1 s1.2.2).bind fun x5 => (app j2.1 ([x5] : List TLease)).bind fun x6 => some ((x6, j2.2)) else some ((j2.1, j2.2)))))).bind (fun j4 => some ((j4.1, j4.2)))).bind (fun j5 => lt (IntKind.i64.wrap (s1.2.2 + 1)) fun y1 => some (.inl (j5.1, j5.2, y1))) else some (.inr ((s1.1, s1.2.1))))) (([] : List TLease), false, 0)).bind (fun j6 => ((if (!j6.2) = true then (app j6.1 ([a2] : List TLease)).bind fun x7 => some (x7) else some (j6.1))).bind (fun j7 => some (j7)))
set_option maxRecDepth 100000 in
set_option maxHeartbeats 4000000 in
theorem ref25_with.spc (v1 : Value) (a1 : List TLease) (v2 : Value) (a2 : TLease) (r : (List TLease)) (H : ref25_with.f a1 a2 = some r) : Spc Try.prog 34 [v1, v2] [Val (Kd.sl KLease) v1 a1, Val KLease v2 a2] [] (fun (s : Value) => s) (fun s => [Val (Kd.osl KLease) s r]) := by
 unfold ref25_with.f at H
 refine Spc.go Try.func34 rfl (by kernel_rfl) rfl rfl (all_cons (Val.per Per_sl) (all_cons (Val.per PLease) all_nil)) fun F a w h => ?_
 refine Go.seq ?_
 refine Go.reg ?_
 refine gs h (o_box (K := KLease) rfl (pv_at PLease 1 rfl)) rfl fun b1 _ _ h => ?_
 refine ga h (o_assign rfl) rfl fun h => ?_
 refine GoR.done ?_
 refine Go.seq ?_
 refine Go.reg ?_
 refine ga h (o_assign rfl) rfl fun h => ?_
 refine GoR.done ?_
 refine Go.seq ?_
 refine Go.reg ?_
 refine ga h (o_assign rfl) rfl fun h => ?_
 refine GoR.done ?_
 refine Go.seq ?_
 refine Go.seq ?_
 refine Go.reg ?_
 refine ga h (o_assign rfl) rfl fun h => ?_
 refine GoR.done ?_
 refine Go.block ?_
 obtain ⟨o1, hl, G1⟩ := bindE H
 refine g_cut (fun G => ∀ j6 (v15 : Value) (a : Act) (w : World), o1 = j6 → St Try.f34.ntmps F [(3, pt b1), (5, v15), (6, .bool j6.2)] [Val (Kd.osl KLease) v15 j6.1, Fld KLease b1 0 a2] a w → G a w) 2 ?_ fun J6 => ?_
 ·intro j6 v15 a w ho_ h
  rw [ho_] at G1
  have H := G1
  refine Go.seq ?_
  obtain ⟨o7, H, G7⟩ := bindE H
  refine g_cut (fun G => ∀ j7 (v19 : Value) (a : Act) (w : World), o7 = j7 → St Try.f34.ntmps F [(5, v19)] [Val (Kd.osl KLease) v19 j7, Fld KLease b1 0 a2] a w → G a w) 1 ?_ fun J7 => ?_
  ·intro j7 v19 a w ho_ h
   rw [ho_] at G7
   have H := G7
   refine Go.seq ?_
   refine Go.reg ?_
   refine mv h rfl rfl fun h => ?_
   refine ga h (o_assign rfl) rfl fun h => ?_
   refine GoR.done ?_
   rw [← som H]
   exact g_ret (vs := [v19]) h Try.func34 ⟨rfl, trivial⟩ ⟨v19, rfl, (h.mem.pick [0] (by decide) rfl)⟩
  refine Go.seq ?_
  refine Go.reg ?_
  refine mv h rfl rfl fun h => ?_
  refine ga h (o_not rfl) rfl fun h => ?_
  refine GoR.done ?_
  by_cases c6 : (!j6.2) = true
  ·have H := ifT c6 H
   refine g_t h rfl c6 ?_
   refine Go.reg ?_
   refine mv h rfl rfl fun h => ?_
   refine gs h (o_ldv 1 rfl rfl PLease t_y42) rfl fun v16 _ _ h => ?_
   refine gs h (o_bs (K := KLease) (vs := [v16]) (xs := ([a2] : List TLease)) rfl rfl (pvs_cons (pv_at PLease 0 rfl) pvs_nil) t_a26 (by decide) (by decide)) rfl fun v17 _ _ h => ?_
   obtain ⟨x7, ex7, H⟩ := bindE H
   refine gs h (o_app (K := KLease) 2 rfl rfl rfl (rd_own 0 rfl) ex7 t_a26 t_n26) rfl fun v18 _ _ h => ?_
   refine ga h (o_assign rfl) rfl fun h => ?_
   refine GoR.done ?_
   exact J7 x7 v18 _ _ (som H).symm (h.wr [2, 3])
  ·have H := ifF c6 H
   refine g_f h rfl c6 ?_
   refine Go.skip ?_
   exact J7 j6.1 v15 _ _ (som H).symm (h.wr [0, 1])
 refine g_loop (fun s1 G => ∀ (v3 : Value) (a : Act) (w : World), InR .i64 s1.2.2 → St Try.f34.ntmps F [(0, v1), (3, pt b1), (5, v3), (6, .bool s1.2.1), (7, .int .i64 s1.2.2)] [Val (Kd.sl KLease) v1 a1, Val (Kd.osl KLease) v3 s1.1, Fld KLease b1 0 a2] a w → G a w) hl (fun s1 p1 H i1 => ?_) fun I_ => ?_
 ·intro v3 a w g1 h
  refine Go.seq ?_
  refine Go.seq ?_
  refine Go.reg ?_
  refine mv h rfl rfl fun h => ?_
  refine mv h rfl rfl fun h => ?_
  have g2 := (len_at 0 rfl h.mem)
  refine ga h (o_ln rfl (rd_at 0 rfl) t_v26) rfl fun h => ?_
  refine ga h (o_bin rfl rfl rfl) rfl fun h => ?_
  refine GoR.done ?_
  by_cases c1 : decide (s1.2.2 < (a1.length : Int)) = true
  ·have H := ifT c1 H
   refine g_t h rfl c1 ?_
   refine Go.skip ?_
   refine Go.seq ?_
   obtain ⟨o2, H, G2⟩ := bindE H
   refine g_cut (fun G => ∀ j5 (v14 : Value) (a : Act) (w : World), o2 = j5 → St Try.f34.ntmps F [(0, v1), (3, pt b1), (5, v14), (6, .bool j5.2), (7, .int .i64 s1.2.2)] [Val (Kd.sl KLease) v1 a1, Val (Kd.osl KLease) v14 j5.1, Fld KLease b1 0 a2] a w → G a w) 1 ?_ fun J5 => ?_
   ·intro j5 v14 a w ho_ h
    rw [ho_] at G2
    have H := G2
    refine Go.reg ?_
    refine mv h rfl rfl fun h => ?_
    refine ga h (o_bin rfl rfl rfl) rfl fun h => ?_
    obtain ⟨y1, ey1, H⟩ := ltE H
    refine ga h (o_assign' rfl (congrArg (fun z => Value.int .i64 z) ey1)) rfl fun h => ?_
    refine GoR.done ?_
    have e_ := som H; subst e_
    exact Go.inLoop (nx_in i1 v14 _ _ (ey1 ▸ (wrap_in _ _)) (h.wr [0, 1, 2]))
   refine Go.block ?_
   obtain ⟨o3, H, G3⟩ := bindE H
   refine g_cut (fun G => ∀ j4 (v13 : Value) (a : Act) (w : World), o3 = j4 → St Try.f34.ntmps F [(0, v1), (3, pt b1), (5, v13), (6, .bool j4.2), (7, .int .i64 s1.2.2)] [Val (Kd.sl KLease) v1 a1, Val (Kd.osl KLease) v13 j4.1, Fld KLease b1 0 a2] a w → G a w) 2 ?_ fun J4 => ?_
   ·intro j4 v13 a w ho_ h
    rw [ho_] at G3
    have H := G3
    exact J5 (j4.1, j4.2) v13 _ _ (som H).symm (h.wr [0, 1, 2])
   refine Go.seq ?_
   obtain ⟨o4, H, G4⟩ := bindE H
   refine g_cut (fun G => ∀ j2 (v7 : Value) (a : Act) (w : World), o4 = j2 → St Try.f34.ntmps F [(0, v1), (3, pt b1), (5, v7), (6, .bool j2.2), (7, .int .i64 s1.2.2)] [Val (Kd.sl KLease) v1 a1, Val (Kd.osl KLease) v7 j2.1, Fld KLease b1 0 a2] a w → G a w) 1 ?_ fun J2 => ?_
   ·intro j2 v7 a w ho_ h
    rw [ho_] at G4
    have H := G4
    refine Go.seq ?_
    replace h := h.wq [(0, v1), (3, pt b1), (5, v7), (6, .bool j2.2), (7, .int .i64 s1.2.2)] [Val (Kd.sl KLease) v1 a1, Val (Kd.osl KLease) v7 j2.1, Fld KLease b1 0 a2] [0, 1, 2]
    obtain ⟨o6, H, G6⟩ := bindE H
    refine g_cut (fun G => ∀ j3 (a : Act) (w : World), o6 = j3 → St Try.f34.ntmps F [(0, v1), (3, pt b1), (5, v7), (6, .bool j2.2), (7, .int .i64 s1.2.2), (49, .bool j3)] [Val (Kd.sl KLease) v1 a1, Val (Kd.osl KLease) v7 j2.1, Fld KLease b1 0 a2] a w → G a w) 1 ?_ fun J3 => ?_
    ·intro j3 a w ho_ h
     rw [ho_] at G6
     have H := G6
     by_cases c5 : j3 = true
     ·have H := ifT c5 H
      refine g_t h rfl c5 ?_
      refine Go.reg ?_
      iterate 3 (refine ga h (o_move rfl) rfl fun h => ?_)
      obtain ⟨x5, ex5, H⟩ := bindE H
      refine ga h (o_ix rfl rfl (rd_at 0 rfl) ex5 t_v26) rfl fun h => ?_
      refine gs h (o_lev rfl (rd_at 0 rfl) ex5 t_y42 (by decide)) rfl fun v10 _ _ h => ?_
      refine gs h (o_bs (K := KLease) (vs := [v10]) (xs := ([x5] : List TLease)) rfl rfl (pvs_cons (pv_at PLease 0 rfl) pvs_nil) t_a26 (by decide) (by decide)) rfl fun v11 _ _ h => ?_
      obtain ⟨x6, ex6, H⟩ := bindE H
      refine gs h (o_app (K := KLease) 3 rfl rfl rfl (rd_own 0 rfl) ex6 t_a26 t_n26) rfl fun v12 _ _ h => ?_
      refine ga h (o_assign rfl) rfl fun h => ?_
      refine GoR.done ?_
      refine Go.inBlock ?_
      exact J4 (x6, j2.2) v12 _ _ (som H).symm (h.wr [2, 3, 4])
     ·have H := ifF c5 H
      refine g_f h rfl c5 ?_
      refine Go.skip ?_
      refine Go.inBlock ?_
      exact J4 (j2.1, j2.2) v7 _ _ (som H).symm (h.wr [0, 1, 2])
    obtain ⟨x3, ex3, H⟩ := bindE H
    by_cases c4 : (!decide (x3.Ip = a2.Ip)) = true
    ·have H := ifT c4 H
     obtain ⟨x4, ex4, H⟩ := bindE H
     refine Go.draw (E := [(0, v1), (3, pt b1), (5, v7), (6, .bool j2.2), (7, .int .i64 s1.2.2)]) [] (L := [Val (Kd.sl KLease) v1 a1, Val (Kd.osl KLease) v7 j2.1, Fld KLease b1 0 a2]) h rfl rfl 18 [cn (v1), cn (.int .i64 s1.2.2), ce [0, 1] (elemP v1 (s1.2.2.toNat * Kd.n KLease)), ce [0, 1, 2] (elemP v1 (s1.2.2.toNat * Kd.n KLease + 1)), cm [0, 1, 2, 3] [] [] (.int .u32 x3.Ip) fun u => [Ent.pur (InR .u32 x3.Ip)], cn (.pointer (some ⟨b1, 1, none⟩)), cm [5] [] [] (.int .u32 a2.Ip) fun u => [Ent.pur (InR .u32 a2.Ip)], ce [0, 1, 2, 3, 4, 5, 6] (.bool (!decide (x3.Ip = a2.Ip))), ce [0, 1, 2, 3, 4, 5, 6, 7] (.bool (!decide (x3.Ip = a2.Ip))), ce [0, 1, 2, 3, 4, 5, 6, 7, 8] (v1), ce [0, 1, 2, 3, 4, 5, 6, 7, 8] (.int .i64 s1.2.2), ce [0, 1, 2, 3, 4, 5, 6, 7, 8, 9, 10] (elemP v1 (s1.2.2.toNat * Kd.n KLease)), ce [0, 1, 2, 3, 4, 5, 6, 7, 8, 9, 10, 11] (elemP v1 (s1.2.2.toNat * Kd.n KLease + 0)), cw [0, 1, 2, 3, 4, 5, 6, 7, 8, 9, 10, 11, 12] [] [] fun u => [Val (Kd.sl (Kd.int .u8)) u x4.Mac], cm [0, 1, 2, 3, 4, 5, 6, 7, 8, 9, 10, 11, 12, 13] [13] [] (.string (mkS x4.Mac)) fun u => [], ce [0, 1, 2, 3, 4, 5, 6, 7, 8] (pt b1), cw [0, 1, 2, 3, 4, 5, 6, 7, 8, 15] [] [] fun u => [Val (Kd.sl (Kd.int .u8)) u a2.Mac], cm [0, 1, 2, 3, 4, 5, 6, 7, 8, 15, 16] [16] [] (.string (mkS a2.Mac)) fun u => []] rfl t_mxo (by kernel_rfl) (by rfl) ?_ fun f2 _ _ h => ?_
     ·exact ox rfl (o_move rfl) (ox rfl (o_move rfl) (ox rfl (o_ix rfl rfl (rd_at 0 rfl) ex3 t_v26) (ox rfl (o_fae (k' := s1.2.2.toNat * Kd.n KLease + 1) rfl (rd_at 0 rfl) ex3 (by decide) t_f42_1 rfl rfl) (ox rfl (OpS.pur (fun F w m_ => (in1 (rd_sub sLease_Ip (rd_at 0 rfl) ex3 m_))) (o_lsx rfl (rd_at 0 rfl) ex3 sLease_Ip X_int t_y25 (by decide))) (ox rfl (o_fa rfl t_f42_1 rfl rfl) (ox rfl (OpS.pur (fun F w m_ => (in2 (fd_sub sLease_Ip 2 rfl m_))) (o_lfx 2 rfl rfl sLease_Ip rfl X_int t_y25)) (ox rfl (o_bin rfl rfl rfl) (ox rfl (o_move rfl) (og rfl rfl (fun _ => rfl) c4 (o_move rfl) (og rfl rfl (fun _ => rfl) c4 (o_move rfl) (og rfl rfl (fun _ => rfl) c4 (o_ix rfl rfl (rd_at 0 rfl) ex4 t_v26) (og rfl rfl (fun _ => rfl) c4 (o_fae (k' := s1.2.2.toNat * Kd.n KLease + 0) rfl (rd_at 0 rfl) ex4 (by decide) t_f42_0 rfl rfl) (obs_cons (ob_own rfl (gok_some rfl rfl rfl (fun _ => rfl) c4) rfl fun f2 => (o_lsv rfl (rd_at 0 rfl) ex4 sLease_Mac t_y22 (by decide))) (og rfl rfl (fun _ => rfl) c4 (o_b2s rfl (rd_at 0 rfl) t_u22 t_u5 t_u9) (og rfl rfl (fun _ => rfl) c4 (o_fa rfl t_f42_0 rfl rfl) (obs_cons (ob_own rfl (gok_some rfl rfl rfl (fun _ => rfl) c4) rfl fun f2 => (o_lfv 2 rfl rfl sLease_Mac rfl Per_sl t_y22)) (og rfl rfl (fun _ => rfl) c4 (o_b2s rfl (rd_at 0 rfl) t_u22 t_u5 t_u9) (obs_nil))))))))))))))))))
     replace h := h.wk (E' := [(0, v1), (3, pt b1), (5, v7), (6, .bool j2.2), (7, .int .i64 s1.2.2), (38, .bool (!decide (x3.Ip = a2.Ip))), (44, .string (mkS x4.Mac)), (47, .string (mkS a2.Mac))]) (L' := [Ent.pur (InR .u32 x3.Ip), Ent.pur (InR .u32 a2.Ip), Val (Kd.sl (Kd.int .u8)) (f2 13) x4.Mac, Val (Kd.sl (Kd.int .u8)) (f2 16) a2.Mac, Val (Kd.sl KLease) v1 a1, Val (Kd.osl KLease) v7 j2.1, Fld KLease b1 0 a2]) (by kernel_rfl) [0, 1, 2, 3, 4, 5, 6] (by decide) (by kernel_rfl)
     have g5 := (rd_bs (rd_at 2 rfl) h.mem)
     have g6 := (rd_bs (rd_at 3 rfl) h.mem)
     refine gg h rfl rfl c4 (o_nes rfl rfl g5 g6) rfl fun _ _ _ h => ?_
     refine ga h (o_pickT rfl rfl c4) rfl fun h => ?_
     refine GoR.done ?_
     exact J3 (!decide (x4.Mac = a2.Mac)) _ _ (som H).symm (h.wr [4, 5, 6])
    ·have H := ifF c4 H
     refine Go.draw (E := [(0, v1), (3, pt b1), (5, v7), (6, .bool j2.2), (7, .int .i64 s1.2.2)]) [] (L := [Val (Kd.sl KLease) v1 a1, Val (Kd.osl KLease) v7 j2.1, Fld KLease b1 0 a2]) h rfl rfl 18 [cn (v1), cn (.int .i64 s1.2.2), ce [0, 1] (elemP v1 (s1.2.2.toNat * Kd.n KLease)), ce [0, 1, 2] (elemP v1 (s1.2.2.toNat * Kd.n KLease + 1)), cm [0, 1, 2, 3] [] [] (.int .u32 x3.Ip) fun u => [Ent.pur (InR .u32 x3.Ip)], cn (.pointer (some ⟨b1, 1, none⟩)), cm [5] [] [] (.int .u32 a2.Ip) fun u => [Ent.pur (InR .u32 a2.Ip)], ce [0, 1, 2, 3, 4, 5, 6] (.bool (!decide (x3.Ip = a2.Ip))), ce [0, 1, 2, 3, 4, 5, 6, 7] (.bool (!decide (x3.Ip = a2.Ip))), ⟨[8], [], [], true, .con undef, none, fun u => [], []⟩, ⟨[8], [], [], true, .con undef, none, fun u => [], []⟩, ⟨[8], [], [], true, .con undef, none, fun u => [], []⟩, ⟨[8], [], [], true, .con undef, none, fun u => [], []⟩, ⟨[8], [], [], true, .con undef, none, fun u => [], []⟩, ⟨[8], [], [], true, .con undef, none, fun u => [], []⟩, ⟨[8], [], [], true, .con undef, none, fun u => [], []⟩, ⟨[8], [], [], true, .con undef, none, fun u => [], []⟩, ⟨[8], [], [], true, .con undef, none, fun u => [], []⟩] rfl t_mxo (by kernel_rfl) (by rfl) ?_ fun f2 _ _ h => ?_
     ·exact ox rfl (o_move rfl) (ox rfl (o_move rfl) (ox rfl (o_ix rfl rfl (rd_at 0 rfl) ex3 t_v26) (ox rfl (o_fae (k' := s1.2.2.toNat * Kd.n KLease + 1) rfl (rd_at 0 rfl) ex3 (by decide) t_f42_1 rfl rfl) (ox rfl (OpS.pur (fun F w m_ => (in1 (rd_sub sLease_Ip (rd_at 0 rfl) ex3 m_))) (o_lsx rfl (rd_at 0 rfl) ex3 sLease_Ip X_int t_y25 (by decide))) (ox rfl (o_fa rfl t_f42_1 rfl rfl) (ox rfl (OpS.pur (fun F w m_ => (in2 (fd_sub sLease_Ip 2 rfl m_))) (o_lfx 2 rfl rfl sLease_Ip rfl X_int t_y25)) (ox rfl (o_bin rfl rfl rfl) (ox rfl (o_move rfl) (oj rfl rfl (fun _ => rfl) (nb_f c4) (oj rfl rfl (fun _ => rfl) (nb_f c4) (oj rfl rfl (fun _ => rfl) (nb_f c4) (oj rfl rfl (fun _ => rfl) (nb_f c4) (oj rfl rfl (fun _ => rfl) (nb_f c4) (oj rfl rfl (fun _ => rfl) (nb_f c4) (oj rfl rfl (fun _ => rfl) (nb_f c4) (oj rfl rfl (fun _ => rfl) (nb_f c4) (oj rfl rfl (fun _ => rfl) (nb_f c4) (obs_nil))))))))))))))))))
     replace h := h.wk (E' := [(0, v1), (3, pt b1), (5, v7), (6, .bool j2.2), (7, .int .i64 s1.2.2), (38, .bool (!decide (x3.Ip = a2.Ip)))]) (L' := [Ent.pur (InR .u32 x3.Ip), Ent.pur (InR .u32 a2.Ip), Val (Kd.sl KLease) v1 a1, Val (Kd.osl KLease) v7 j2.1, Fld KLease b1 0 a2]) (by kernel_rfl) [0, 1, 2, 3, 4] (by decide) (by kernel_rfl)
     refine gk h rfl rfl (nb_f c4) rfl fun _ h => ?_
     refine ga h (o_pickF rfl rfl c4) rfl fun h => ?_
     refine GoR.done ?_
     exact J3 false _ _ (som H).symm (h.wr [2, 3, 4])
   refine Go.seq ?_
   replace h := h.wq [(0, v1), (3, pt b1), (5, v3), (6, .bool s1.2.1), (7, .int .i64 s1.2.2)] [Val (Kd.sl KLease) v1 a1, Val (Kd.osl KLease) v3 s1.1, Fld KLease b1 0 a2] [0, 1, 2]
   obtain ⟨o5, H, G5⟩ := bindE H
   refine g_cut (fun G => ∀ j1 (a : Act) (w : World), o5 = j1 → St Try.f34.ntmps F [(0, v1), (3, pt b1), (5, v3), (6, .bool s1.2.1), (7, .int .i64 s1.2.2), (25, .bool j1)] [Val (Kd.sl KLease) v1 a1, Val (Kd.osl KLease) v3 s1.1, Fld KLease b1 0 a2] a w → G a w) 1 ?_ fun J1 => ?_
   ·intro j1 a w ho_ h
    rw [ho_] at G5
    have H := G5
    by_cases c3 : j1 = true
    ·have H := ifT c3 H
     refine g_t h rfl c3 ?_
     refine Go.seq ?_
     refine Go.reg ?_
     refine mv h rfl rfl fun h => ?_
     refine gs h (o_ldv 2 rfl rfl PLease t_y42) rfl fun v4 _ _ h => ?_
     refine gs h (o_bs (K := KLease) (vs := [v4]) (xs := ([a2] : List TLease)) rfl rfl (pvs_cons (pv_at PLease 0 rfl) pvs_nil) t_a26 (by decide) (by decide)) rfl fun v5 _ _ h => ?_
     obtain ⟨x2, ex2, H⟩ := bindE H
     refine gs h (o_app (K := KLease) 3 rfl rfl rfl (rd_own 0 rfl) ex2 t_a26 t_n26) rfl fun v6 _ _ h => ?_
     refine ga h (o_assign rfl) rfl fun h => ?_
     refine GoR.done ?_
     refine Go.reg ?_
     refine ga h (o_assign rfl) rfl fun h => ?_
     refine GoR.done ?_
     exact J2 (x2, true) v6 _ _ (som H).symm (h.wr [2, 3, 4])
    ·have H := ifF c3 H
     refine g_f h rfl c3 ?_
     refine Go.skip ?_
     exact J2 (s1.1, s1.2.1) v3 _ _ (som H).symm (h.wr [0, 1, 2])
   by_cases c2 : (!s1.2.1) = true
   ·have H := ifT c2 H
    obtain ⟨x1, ex1, H⟩ := bindE H
    refine Go.draw (E := [(0, v1), (3, pt b1), (5, v3), (6, .bool s1.2.1), (7, .int .i64 s1.2.2)]) [] (L := [Val (Kd.sl KLease) v1 a1, Val (Kd.osl KLease) v3 s1.1, Fld KLease b1 0 a2]) h rfl rfl 10 [cn (.bool s1.2.1), ce [0] (.bool (!s1.2.1)), ce [0, 1] (.bool (!s1.2.1)), ce [0, 1, 2] (v1), ce [0, 1, 2] (.int .i64 s1.2.2), ce [0, 1, 2, 3, 4] (elemP v1 (s1.2.2.toNat * Kd.n KLease)), ce [0, 1, 2, 3, 4, 5] (elemP v1 (s1.2.2.toNat * Kd.n KLease + 1)), cm [0, 1, 2, 3, 4, 5, 6] [] [] (.int .u32 x1.Ip) fun u => [Ent.pur (InR .u32 x1.Ip)], ce [0, 1, 2] (.pointer (some ⟨b1, 1, none⟩)), cm [0, 1, 2, 8] [] [] (.int .u32 a2.Ip) fun u => [Ent.pur (InR .u32 a2.Ip)]] rfl t_mxo (by kernel_rfl) (by rfl) ?_ fun f1 _ _ h => ?_
    ·exact ox rfl (o_move rfl) (ox rfl (o_not rfl) (ox rfl (o_move rfl) (og rfl rfl (fun _ => rfl) c2 (o_move rfl) (og rfl rfl (fun _ => rfl) c2 (o_move rfl) (og rfl rfl (fun _ => rfl) c2 (o_ix rfl rfl (rd_at 0 rfl) ex1 t_v26) (og rfl rfl (fun _ => rfl) c2 (o_fae (k' := s1.2.2.toNat * Kd.n KLease + 1) rfl (rd_at 0 rfl) ex1 (by decide) t_f42_1 rfl rfl) (og rfl rfl (fun _ => rfl) c2 (OpS.pur (fun F w m_ => (in1 (rd_sub sLease_Ip (rd_at 0 rfl) ex1 m_))) (o_lsx rfl (rd_at 0 rfl) ex1 sLease_Ip X_int t_y25 (by decide))) (og rfl rfl (fun _ => rfl) c2 (o_fa rfl t_f42_1 rfl rfl) (og rfl rfl (fun _ => rfl) c2 (OpS.pur (fun F w m_ => (in2 (fd_sub sLease_Ip 2 rfl m_))) (o_lfx 2 rfl rfl sLease_Ip rfl X_int t_y25)) (obs_nil))))))))))
    replace h := h.wk (E' := [(0, v1), (3, pt b1), (5, v3), (6, .bool s1.2.1), (7, .int .i64 s1.2.2), (16, .bool (!s1.2.1)), (21, .int .u32 x1.Ip), (23, .int .u32 a2.Ip)]) (L' := [Ent.pur (InR .u32 x1.Ip), Ent.pur (InR .u32 a2.Ip), Val (Kd.sl KLease) v1 a1, Val (Kd.osl KLease) v3 s1.1, Fld KLease b1 0 a2]) (by kernel_rfl) [0, 1, 2, 3, 4] (by decide) (by kernel_rfl)
    have g3 := (Mem.pur 0 rfl h.mem)
    have g4 := (Mem.pur 1 rfl h.mem)
    refine gg h rfl rfl c2 (o_bin rfl rfl rfl) rfl fun _ _ _ h => ?_
    refine ga h (o_pickT rfl rfl c2) rfl fun h => ?_
    refine GoR.done ?_
    exact J1 (decide (a2.Ip ≤ x1.Ip)) _ _ (som H).symm (h.wr [2, 3, 4])
   ·have H := ifF c2 H
    refine Go.draw (E := [(0, v1), (3, pt b1), (5, v3), (6, .bool s1.2.1), (7, .int .i64 s1.2.2)]) [] (L := [Val (Kd.sl KLease) v1 a1, Val (Kd.osl KLease) v3 s1.1, Fld KLease b1 0 a2]) h rfl rfl 10 [cn (.bool s1.2.1), ce [0] (.bool (!s1.2.1)), ce [0, 1] (.bool (!s1.2.1)), ⟨[2], [], [], true, .con undef, none, fun u => [], []⟩, ⟨[2], [], [], true, .con undef, none, fun u => [], []⟩, ⟨[2], [], [], true, .con undef, none, fun u => [], []⟩, ⟨[2], [], [], true, .con undef, none, fun u => [], []⟩, ⟨[2], [], [], true, .con undef, none, fun u => [], []⟩, ⟨[2], [], [], true, .con undef, none, fun u => [], []⟩, ⟨[2], [], [], true, .con undef, none, fun u => [], []⟩] rfl t_mxo (by kernel_rfl) (by rfl) ?_ fun f1 _ _ h => ?_
    ·exact ox rfl (o_move rfl) (ox rfl (o_not rfl) (ox rfl (o_move rfl) (oj rfl rfl (fun _ => rfl) (nb_f c2) (oj rfl rfl (fun _ => rfl) (nb_f c2) (oj rfl rfl (fun _ => rfl) (nb_f c2) (oj rfl rfl (fun _ => rfl) (nb_f c2) (oj rfl rfl (fun _ => rfl) (nb_f c2) (oj rfl rfl (fun _ => rfl) (nb_f c2) (oj rfl rfl (fun _ => rfl) (nb_f c2) (obs_nil))))))))))
    replace h := h.wk (E' := [(0, v1), (3, pt b1), (5, v3), (6, .bool s1.2.1), (7, .int .i64 s1.2.2), (16, .bool (!s1.2.1))]) (L' := [Val (Kd.sl KLease) v1 a1, Val (Kd.osl KLease) v3 s1.1, Fld KLease b1 0 a2]) (by kernel_rfl) [0, 1, 2] (by decide) (by kernel_rfl)
    refine gk h rfl rfl (nb_f c2) rfl fun _ h => ?_
    refine ga h (o_pickF rfl rfl c2) rfl fun h => ?_
    refine GoR.done ?_
    exact J1 false _ _ (som H).symm (h.wr [0, 1, 2])
  ·have H := ifF c1 H
   refine g_f h rfl c1 ?_
   refine Go.exit rfl ?_
   have e_ := som H; subst e_
   exact J6 (s1.1, s1.2.1) v3 _ _ (nx_out i1).symm (h.wr [1, 2])
 ·replace h := h.mm fun m => m.nilo KLease
  exact I_ (.slice none 0 0) _ _ (show InR .i64 0 by decide) (h.wr [2, 0, 1])
def ref25_with.g (k_ : Nat) (a1 : List TLease) (a2 : TLease) : Option ((List TLease)) :=
  (loopK k_ (fun s1 => (if decide (s1.2.2 < (a1.length : Int)) = true then (((((if (!s1.2.1) = true then (idx a1 s1.2.2).bind fun x1 => some (decide (a2.Ip ≤ x1.Ip)) else some (false))).bind (fun j1 => (if j1 = true then (app s1.1 ([a2] : List TLease)).bind fun x2 => some ((x2, true)) else some ((s1.1, s1.2.1))))).bind (fun j2 => ((idx a1 s1.2.2).bind fun x3 => (if (!decide (x3.Ip = a2.Ip)) = true then (idx a1 s1.2.2).bind fun x4 => some ((!decide (x4.Mac = a2.Mac))) else some (false))).bind (fun j3 => (if j3 = true then (idx a1 s1.2.2).bind fun x5 => (app j2.1 ([x5] : List TLease)).bind fun x6 => some ((x6, j2.2)) else some ((j2.1, j2.2)))))).bind (fun j4 => some ((j4.1, j4.2)))).bind (fun j5 => lt (IntKind.i64.wrap (s1.2.2 + 1)) fun y1 => some (.inl (j5.1, j5.2, y1))) else some (.inr ((s1.1, s1.2.1))))) (([] : List TLease), false, 0)).bind (fun j6 => ((if (!j6.2) = true then (app j6.1 ([a2] : List TLease)).bind fun x7 => some (x7) else some (j6.1))).bind (fun j7 => some (j7)))
theorem ref25_with.le (k_ : Nat) (a1 : List TLease) (a2 : TLease) : Le (ref25_with.g k_ a1 a2) (ref25_with.f a1 a2) := by
 unfold ref25_with.g ref25_with.f
 repeat' (first | with_reducible refine le_loop fun _ => ?_ | with_reducible refine le_bind ?_ fun _ => ?_ | with_reducible refine le_ite ?_ ?_ | with_reducible refine le_lt fun _ => ?_ | with_reducible refine le_elim (fun _ => ?_) (fun _ => ?_) _ | with_reducible exact le_refl _)
end Go.Proofs.Ytmmaojclfggioaa.S
