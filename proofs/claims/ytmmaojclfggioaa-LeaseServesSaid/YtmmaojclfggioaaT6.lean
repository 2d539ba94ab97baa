/- Contracts, printed by a program of this session. -/
import Derived.Test.YtmmaojclfggioaaT1
import Derived.Test.YtmmaojclfggioaaT2
import Derived.Test.YtmmaojclfggioaaT3
import Derived.Test.YtmmaojclfggioaaT4
import Derived.Test.YtmmaojclfggioaaT5
namespace Go.Proofs.Ytmmaojclfggioaa.S
open Go Go.SL Go.RowKit
set_option linter.unusedVariables false
set_option linter.unusedSimpArgs false
/-! (*drawbridge/lease.server).request -/
noncomputable def lease_server_request.f (a1 : Tserver) : Option (TDhcp × Bool × Tserver) :=
  ((if (!decide (a1.d.Server = 0)) = true then some ((!decide (a1.d.Server = 167772674))) else some (false))).bind (fun j1 => (if j1 = true then some (((⟨0, 0, 0, 0, [], 0, 0, 0, 0, 0, 0, 0⟩ : TDhcp), false, a1)) else (cmp_Or_uint32.f ([a1.d.Want, a1.d.Ci] : List Int)).bind fun r1 => (lease_Owner.f a1.l a1.now r1).bind fun r2 => ((lease_pool.f r1).bind fun r3 => (if (!r3) = true then some (true) else (if r2.2 = true then (bytes_Equal.f r2.1 a1.d.Mac).bind fun r4 => some ((!r4)) else some (false)))).bind (fun j2 => (if j2 = true then (lease_server_answer.f a1 6).bind fun r5 => some ((r5.1, true, r5.2)) else (slices_Clone_s_api_Lease_api_Lease.f a1.l).bind fun r8 => (slices_DeleteFunc_s_api_Lease_api_Lease_at_lease_server_request_1_of_p.f r8 r1 a1).bind fun r9 => (slices_Clone_s_byte_byte.f r9.2.d.Mac).bind fun r11 => (app r9.1 ([(⟨r11, r1, IntKind.i64.wrap (r9.2.now + 3600)⟩ : TLease)] : List TLease)).bind fun x1 => (slices_SortFunc_s_api_Lease_api_Lease_at_lease_server_request_2.f x1).bind fun r12 => (lease_server_full.f (⟨r12, r9.2.now, r9.2.d⟩ : Tserver) 5 r1).bind fun r13 => some ((r13.1, true, r13.2))))))
set_option maxRecDepth 100000 in
set_option maxHeartbeats 4000000 in
theorem lease_server_request.spc (b1 : Nat) (a1 : Tserver) (r : TDhcp × Bool × Tserver) (H : lease_server_request.f a1 = some r) : Spc Try.prog 23 [pt b1] [] [Fld Kserver b1 0 a1] (fun (s : Value) => .tuple #[s, .bool r.2.1]) (fun s => [Val KDhcp s r.1, Fld Kserver b1 0 r.2.2]) := by
 unfold lease_server_request.f at H
 refine Spc.go Try.func23 rfl (by kernel_rfl) rfl rfl all_nil fun F a w h => ?_
 refine Go.seq ?_
 refine Go.reg ?_
 refine gs h (o_box (K := (Kd.eq (pt b1))) rfl (pv_eq rfl)) rfl fun b2 _ _ h => ?_
 refine gs h (o_alloc (K := KDhcp) (z := (.agg #[.int .i64 0, .int .u32 0, .int .u32 0, .int .u32 0, .slice none 0 0, .int .i64 0, .int .u32 0, .int .u32 0, .int .u32 0, .int .u32 0, .int .u32 0, .int .u32 0])) rfl ZDhcp) rfl fun b3 _ _ h => ?_
 refine ga h (o_assign rfl) rfl fun h => ?_
 refine GoR.done ?_
 refine Go.seq ?_
 refine Go.seq ?_
 obtain ⟨o1, H, G1⟩ := bindE H
 refine g_cut (fun G => ∀ j1 (a : Act) (w : World), o1 = j1 → St Try.f23.ntmps F [(1, pt b2), (2, pt b3), (20, .bool j1)] [Fld KDhcp b3 0 zDhcp, Fld (Kd.eq (pt b1)) b2 0 (), Fld Kserver b1 0 a1] a w → G a w) 1 ?_ fun J1 => ?_
 ·intro j1 a w ho_ h
  rw [ho_] at G1
  have H := G1
  by_cases c2 : j1 = true
  ·have H := ifT c2 H
   refine g_t h rfl c2 ?_
   refine Go.seq ?_
   refine Go.reg ?_
   refine gs h (o_build (K := KDhcp) (x := (⟨0, 0, 0, 0, [], 0, 0, 0, 0, 0, 0, 0⟩ : TDhcp)) (ps := []) rfl (zs := zsDhcp) rfl t_b28 rfl (show PB (Kd.pair (Kd.int .i64) (Kd.pair (Kd.int .u32) (Kd.pair (Kd.int .u32) (Kd.pair (Kd.int .u32) (Kd.pair (Kd.sl (Kd.int .u8)) (Kd.pair (Kd.int .i64) (Kd.pair (Kd.int .u32) (Kd.pair (Kd.int .u32) (Kd.pair (Kd.int .u32) (Kd.pair (Kd.int .u32) (Kd.pair (Kd.int .u32) (Kd.last (Kd.int .u32))))))))))))) (0, 0, 0, 0, [], 0, 0, 0, 0, 0, 0, 0) 0 zsDhcp _ _ from (pb_zero z_int (pb_zero z_int (pb_zero z_int (pb_zero z_int (pb_zero z_sl (pb_zero z_int (pb_zero z_int (pb_zero z_int (pb_zero z_int (pb_zero z_int (pb_zero z_int (pb_lastz z_int)))))))))))))) rfl fun v1 _ _ h => ?_
   refine gs0 h (o_st 1 rfl rfl rfl (pv_at PDhcp 0 rfl) rfl t_w28) fun _ _ _ h => ?_
   refine ga h (o_assign rfl) rfl fun h => ?_
   refine GoR.done ?_
   obtain ⟨v2, h, u1⟩ := h.peek 1 rfl PDhcp t_y28
   rw [← som H]
   exact g_ret (vs := [v2, .bool false]) h Try.func23 ⟨⟨_, rfl, u1⟩, ⟨rfl, trivial⟩⟩ ⟨v2, rfl, (h.mem.pick [0, 4] (by decide) rfl)⟩
  ·have H := ifF c2 H
   refine g_f h rfl c2 ?_
   refine Go.skip ?_
   refine Go.seq ?_
   replace h := h.wq [(1, pt b2), (2, pt b3)] [Fld KDhcp b3 0 zDhcp, Fld (Kd.eq (pt b1)) b2 0 (), Fld Kserver b1 0 a1] [0, 1, 2]
   obtain ⟨r1, er1, H⟩ := bindE H
   refine Go.draw (E := [(1, pt b2), (2, pt b3)]) [] (L := [Fld KDhcp b3 0 zDhcp, Fld (Kd.eq (pt b1)) b2 0 (), Fld Kserver b1 0 a1]) h rfl rfl 13 [cn (pt b1), ce [0] (pt b1), ce [0, 1] (.pointer (some ⟨b1, 2, none⟩)), ce [0, 1, 2] (.pointer (some ⟨b1, 8, none⟩)), cm [0, 1, 2, 3] [] [] (.int .u32 a1.d.Want) fun u => [Ent.pur (InR .u32 a1.d.Want)], cn (pt b1), ce [5] (pt b1), ce [5, 6] (.pointer (some ⟨b1, 2, none⟩)), ce [5, 6, 7] (.pointer (some ⟨b1, 4, none⟩)), cm [5, 6, 7, 8] [] [] (.int .u32 a1.d.Ci) fun u => [Ent.pur (InR .u32 a1.d.Ci)], cw [0, 1, 2, 3, 4, 5, 6, 7, 8, 9] [4, 9] [] fun u => [Val (Kd.sl (Kd.int .u32)) u ([a1.d.Want, a1.d.Ci] : List Int)], cm [0, 1, 2, 3, 4, 5, 6, 7, 8, 9, 10] [10] [] (.int .u32 r1) fun u => [Ent.pur (InR .u32 r1)], cw [] [] [] fun u => [Ent.pur (u = .pointer (some ⟨blk u, 0, none⟩)), Fld (Kd.int .u32) (blk u) 0 0]] rfl t_mxo (by kernel_rfl) (by rfl) ?_ fun f2 _ _ h => ?_
   ·exact ox rfl (o_ldx (K := (Kd.eq (pt b1))) 1 rfl rfl X_eq t_y51) (ox rfl (o_nilc rfl) (ox rfl (o_fa rfl t_f53_2 rfl rfl) (ox rfl (o_fa rfl t_f28_6 rfl rfl) (ox rfl (OpS.pur (fun F w m_ => (in2 (fd_sub t_sserver_d_Want 2 rfl m_))) (o_lfx (K := Kserver) (pr := fun x => x.d.Want) (y := a1) 2 rfl rfl t_sserver_d_Want rfl X_int t_y25)) (ox rfl (o_ldx (K := (Kd.eq (pt b1))) 1 rfl rfl X_eq t_y51) (ox rfl (o_nilc rfl) (ox rfl (o_fa rfl t_f53_2 rfl rfl) (ox rfl (o_fa rfl t_f28_2 rfl rfl) (ox rfl (OpS.pur (fun F w m_ => (in2 (fd_sub t_sserver_d_Ci 2 rfl m_))) (o_lfx (K := Kserver) (pr := fun x => x.d.Ci) (y := a1) 2 rfl rfl t_sserver_d_Ci rfl X_int t_y25)) (oy rfl (OpS.fact (p := InR .u32 a1.d.Want) (fun F w m_ => (Mem.pur 0 rfl m_)) fun g7 => (OpS.fact (p := InR .u32 a1.d.Ci) (fun F w m_ => (Mem.pur 1 rfl m_)) fun g8 => (OpS.fact (p := InR .u32 a1.d.Want) (fun F w m_ => (Mem.pur 0 rfl m_)) fun g9 => (OpS.fact (p := InR .u32 a1.d.Ci) (fun F w m_ => (Mem.pur 1 rfl m_)) fun g10 => (OpS.mm (o_bs (K := (Kd.int .u32)) (vs := [.int .u32 a1.d.Want, .int .u32 a1.d.Ci]) (xs := ([a1.d.Want, a1.d.Ci] : List Int)) rfl rfl (pvs_cons (pv_int g9) (pvs_cons (pv_int g10) pvs_nil)) t_a74 (by decide) (by decide)) (fun _ _ _ m => m.freeze 0 rfl)))))) (oc rfl rfl rfl (fun f2 => (o_call (cmp_Or_uint32.spc (f2 10) ([a1.d.Want, a1.d.Ci] : List Int) r1 er1) rfl [0] [] (by decide) rfl rfl)) (oy rfl (ptr_d (o_alloc (K := (Kd.int .u32)) (z := (.int .u32 0)) rfl z_int)) (obs_nil)))))))))))))
   replace h := h.wk (E' := [(1, pt b2), (2, pt b3), (33, .int .u32 r1), (4, (f2 12))]) (L' := [Ent.pur (InR .u32 a1.d.Want), Ent.pur (InR .u32 a1.d.Ci), Val (Kd.sl (Kd.int .u32)) (f2 10) ([a1.d.Want, a1.d.Ci] : List Int), Ent.pur (InR .u32 r1), Ent.pur ((f2 12) = .pointer (some ⟨blk (f2 12), 0, none⟩)), Fld (Kd.int .u32) (blk (f2 12)) 0 0, Fld KDhcp b3 0 zDhcp, Fld (Kd.eq (pt b1)) b2 0 (), Fld Kserver b1 0 a1]) (by kernel_rfl) [0, 1, 2, 3, 4, 5, 6, 7, 8] (by decide) (by kernel_rfl)
   have q_ := h.mem.pur 4 rfl
   generalize blk (f2 12) = b5 at h q_
   rw [q_] at h
   have g11 := (Mem.pur 3 rfl h.mem)
   refine gs0 h (o_st 5 rfl rfl rfl (pv_int g11) rfl t_w25) fun _ _ _ h => ?_
   refine GoR.done ?_
   refine Go.seq ?_
   replace h := h.wq [(1, pt b2), (2, pt b3), (4, pt b5)] [Ent.pur (InR .u32 a1.d.Want), Ent.pur (InR .u32 a1.d.Ci), Val (Kd.sl (Kd.int .u32)) (f2 10) ([a1.d.Want, a1.d.Ci] : List Int), Ent.pur (InR .u32 r1), Fld (Kd.int .u32) b5 0 r1, Fld KDhcp b3 0 zDhcp, Fld (Kd.eq (pt b1)) b2 0 (), Fld Kserver b1 0 a1] [0, 1, 2, 3, 5, 6, 7, 8]
   obtain ⟨r2, er2, H⟩ := bindE H
   refine Go.draw (E := [(1, pt b2), (2, pt b3), (4, pt b5)]) [] (L := [Ent.pur (InR .u32 a1.d.Want), Ent.pur (InR .u32 a1.d.Ci), Val (Kd.sl (Kd.int .u32)) (f2 10) ([a1.d.Want, a1.d.Ci] : List Int), Ent.pur (InR .u32 r1), Fld (Kd.int .u32) b5 0 r1, Fld KDhcp b3 0 zDhcp, Fld (Kd.eq (pt b1)) b2 0 (), Fld Kserver b1 0 a1]) h rfl rfl 14 [cn (pt b1), ce [0] (pt b1), ce [0, 1] (pt b1), cw [0, 1, 2] [] [] fun u => [Val (Kd.sl KLease) u a1.l], cn (pt b1), ce [4] (pt b1), ce [4, 5] (.pointer (some ⟨b1, 1, none⟩)), cm [4, 5, 6] [] [] (.int .i64 a1.now) fun u => [Ent.pur (InR .i64 a1.now)], cm [] [] [] (.int .u32 r1) fun u => [Ent.pur (InR .u32 r1)], cw [0, 1, 2, 3, 4, 5, 6, 7, 8] [3, 7, 8] [] fun u => [Ent.pur (u = .tuple #[(tpv u 0), .bool r2.2]), Val (Kd.osl (Kd.int .u8)) (tpv u 0) r2.1], ⟨[0, 1, 2, 3, 4, 5, 6, 7, 8, 9], [], [], false, .fn (fun u => u) 9, none, fun u => [], []⟩, ⟨[0, 1, 2, 3, 4, 5, 6, 7, 8, 9, 10], [9], [], false, .fn (fun u => (tpv u 0)) 9, none, fun u => [], []⟩, cm [0, 1, 2, 3, 4, 5, 6, 7, 8, 9, 10] [9] [] (.bool r2.2) fun u => [], ⟨[0, 1, 2, 3, 4, 5, 6, 7, 8, 9, 10, 11], [], [], false, .fn (fun u => (tpv u 0)) 9, none, fun u => [], []⟩] rfl t_mxo (by kernel_rfl) (by rfl) ?_ fun f3 _ _ h => ?_
   ·exact ox rfl (o_ldx (K := (Kd.eq (pt b1))) 6 rfl rfl X_eq t_y51) (ox rfl (o_nilc rfl) (ox rfl (o_fa rfl t_f53_0 rfl rfl) (oy rfl (o_lfv 7 rfl rfl sserver_l rfl Per_sl t_y26) (ox rfl (o_ldx (K := (Kd.eq (pt b1))) 6 rfl rfl X_eq t_y51) (ox rfl (o_nilc rfl) (ox rfl (o_fa rfl t_f53_1 rfl rfl) (ox rfl (OpS.pur (fun F w m_ => (in2 (fd_sub sserver_now 7 rfl m_))) (o_lfx 7 rfl rfl sserver_now rfl X_int t_y3)) (ox rfl (OpS.pur (fun F w m_ => (fd_in 4 rfl m_)) (o_ldx 4 rfl rfl X_int t_y25)) (ow rfl rfl rfl (fun f3 => (OpS.fact (p := InR .i64 a1.now) (fun F w m_ => (Mem.pur 1 rfl m_)) fun g12 => (OpS.fact (p := InR .u32 r1) (fun F w m_ => (Mem.pur 2 rfl m_)) fun g13 => (pur_d (o_call (lease_Owner.spc (f3 3) a1.l a1.now g12 r1 g13 r2 er2) rfl [0] [] (by decide) rfl rfl) (fun _ => rfl))))) (obs_cons (ob_fn rfl (gok_none rfl) rfl fun f3 => (o_move rfl)) (obs_cons (ob_fn rfl (gok_none rfl) rfl fun f3 => (OpS.fact (fun F w m_ => (Mem.pur 0 rfl m_)) fun g14 => (o_extract (congrArg some g14) rfl))) (ox rfl (OpS.fact (fun F w m_ => (Mem.pur 0 rfl m_)) fun g15 => (o_extract (congrArg some g15) rfl)) (obs_cons (ob_fn rfl (gok_none rfl) rfl fun f3 => (o_assign rfl)) (obs_nil))))))))))))))
   replace h := h.wk (E' := [(1, pt b2), (2, pt b3), (4, pt b5), (46, .bool r2.2), (5, (tpv (f3 9) 0))]) (L' := [Val (Kd.sl KLease) (f3 3) a1.l, Ent.pur (InR .i64 a1.now), Ent.pur (InR .u32 r1), Ent.pur ((f3 9) = .tuple #[(tpv (f3 9) 0), .bool r2.2]), Val (Kd.osl (Kd.int .u8)) (tpv (f3 9) 0) r2.1, Ent.pur (InR .u32 a1.d.Want), Ent.pur (InR .u32 a1.d.Ci), Val (Kd.sl (Kd.int .u32)) (f2 10) ([a1.d.Want, a1.d.Ci] : List Int), Ent.pur (InR .u32 r1), Fld (Kd.int .u32) b5 0 r1, Fld KDhcp b3 0 zDhcp, Fld (Kd.eq (pt b1)) b2 0 (), Fld Kserver b1 0 a1]) (by kernel_rfl) [0, 1, 2, 3, 4, 5, 6, 7, 8, 9, 10, 11, 12] (by decide) (by kernel_rfl)
   refine ga h (o_assign rfl) rfl fun h => ?_
   refine GoR.done ?_
   refine Go.seq ?_
   refine Go.seq ?_
   obtain ⟨o2, H, G2⟩ := bindE H
   refine g_cut (fun G => ∀ j2 (a : Act) (w : World), o2 = j2 → St Try.f23.ntmps F [(1, pt b2), (2, pt b3), (4, pt b5), (62, .bool j2)] [Fld (Kd.int .u32) b5 0 r1, Fld KDhcp b3 0 zDhcp, Fld (Kd.eq (pt b1)) b2 0 (), Fld Kserver b1 0 a1] a w → G a w) 1 ?_ fun J2 => ?_
   ·intro j2 a w ho_ h
    rw [ho_] at G2
    have H := G2
    by_cases c5 : j2 = true
    ·have H := ifT c5 H
     refine g_t h rfl c5 ?_
     refine Go.seq ?_
     refine Go.reg ?_
     refine ga h (o_ldx (K := (Kd.eq (pt b1))) 2 rfl rfl X_eq t_y51) rfl fun h => ?_
     obtain ⟨r5, er5, H⟩ := bindE H
     refine gs h (o_call (lease_server_answer.spc b1 a1 6 (show InR .i64 6 by decide) r5 er5) rfl [] [3] (by decide) rfl rfl) rfl fun v8 _ _ h => ?_
     refine gs0 h (o_st 3 rfl rfl rfl (pv_at PDhcp 0 rfl) rfl t_w28) fun _ _ _ h => ?_
     refine ga h (o_assign rfl) rfl fun h => ?_
     refine GoR.done ?_
     obtain ⟨v9, h, u2⟩ := h.peek 3 rfl PDhcp t_y28
     rw [← som H]
     exact g_ret (vs := [v9, .bool true]) h Try.func23 ⟨⟨_, rfl, u2⟩, ⟨rfl, trivial⟩⟩ ⟨v9, rfl, (h.mem.pick [0, 2] (by decide) rfl)⟩
    ·have H := ifF c5 H
     refine g_f h rfl c5 ?_
     refine Go.skip ?_
     refine Go.seq ?_
     replace h := h.mm fun m => m.frz Per_int 0 rfl
     replace h := h.mm fun m => m.frz Per_eq 2 rfl
     replace h := h.wq [(1, pt b2), (2, pt b3), (4, pt b5)] [Fld Kserver b1 0 a1, Pfl (Kd.int .u32) b5 0 r1, Fld KDhcp b3 0 zDhcp, Pfl (Kd.eq (pt b1)) b2 0 ()] [3, 0, 1, 2]
     obtain ⟨r8, er8, H⟩ := bindE H
     obtain ⟨r9, er9, H⟩ := bindE H
     refine Go.draw (E := [(1, pt b2), (2, pt b3), (4, pt b5)]) [] (L := [Pfl (Kd.int .u32) b5 0 r1, Fld KDhcp b3 0 zDhcp, Pfl (Kd.eq (pt b1)) b2 0 ()]) h rfl rfl 8 [cn (pt b1), cn (pt b1), ce [1] (pt b1), ce [1, 2] (pt b1), cw [1, 2, 3] [8] [] fun u => [Val (Kd.sl KLease) u a1.l], cw [1, 2, 3, 4] [4] [] fun u => [Val (Kd.osl KLease) u r8], cn (.func (.func 51) #[] #[pt b5, pt b2]), cw [1, 2, 3, 4, 5, 6] [5, 8] [5, 8] fun u => [Val (Kd.osl KLease) u r9.1, Fld Kserver b1 0 r9.2, Ent.nul, Ent.nul], cm [] [] [] undef fun u => [Fld Kserver b1 0 a1]] rfl t_mxo (by kernel_rfl) (by rfl) ?_ fun f6 _ _ h => ?_
     ·exact ox rfl (p_lfx (K := (Kd.eq (pt b1))) (A := (Kd.eq (pt b1))) (pr := fun x => x) (off := 0) 2 rfl rfl sub_self rfl X_eq t_y51) (ox rfl (p_lfx (K := (Kd.eq (pt b1))) (A := (Kd.eq (pt b1))) (pr := fun x => x) (off := 0) 2 rfl rfl sub_self rfl X_eq t_y51) (ox rfl (o_nilc rfl) (ox rfl (o_fa rfl t_f53_0 rfl rfl) (oy rfl (o_lfv 0 rfl rfl sserver_l rfl Per_sl t_y26) (ow rfl rfl rfl (fun f6 => (o_call (slices_Clone_s_api_Lease_api_Lease.spc (f6 4) a1.l r8 er8) rfl [0] [] (by decide) rfl rfl)) (ox rfl (o_makeFunc (vs := [pt b5, pt b2]) rfl) (ow rfl rfl rfl (fun f6 => (o_call (slices_DeleteFunc_s_api_Lease_api_Lease_at_lease_server_request_1_of_p.spc (f6 5) r8 b5 r1 b2 b1 a1 r9 er9) rfl [2, 4] [0, 1] (by decide) rfl rfl)) (obs_nil))))))))
     replace h := h.wk (E' := [(1, pt b2), (2, pt b3), (4, pt b5), (65, pt b1), (72, (f6 7))]) (L' := [Val (Kd.sl KLease) (f6 4) a1.l, Val (Kd.osl KLease) (f6 7) r9.1, Fld Kserver b1 0 r9.2, Ent.nul, Ent.nul, Pfl (Kd.int .u32) b5 0 r1, Fld KDhcp b3 0 zDhcp, Pfl (Kd.eq (pt b1)) b2 0 ()]) (by kernel_rfl) [0, 1, 2, 3, 4, 5, 6, 7] (by decide) (by kernel_rfl)
     refine ga h (o_nilc rfl) rfl fun h => ?_
     refine ga h (o_fa rfl t_f53_0 rfl rfl) rfl fun h => ?_
     replace h := h.mm fun m => (m.take (i := 2) rfl).opn (cserver _ _)
     refine gs0 h (o_st 0 rfl rfl rfl (pv_eqo 4 rfl) rfl t_w26) fun _ _ _ h => ?_
     refine GoR.done ?_
     refine Go.seq ?_
     replace h := h.wq [(1, pt b2), (2, pt b3), (4, pt b5)] [Val (Kd.osl KLease) (f6 7) r9.1, Fld (Kd.eq (f6 7)) b1 0 (), Fld (Kd.int .i64) b1 1 r9.2.now, Fld KDhcp b1 2 r9.2.d, Val (Kd.sl KLease) (f6 4) a1.l, Pfl (Kd.int .u32) b5 0 r1, Fld KDhcp b3 0 zDhcp, Pfl (Kd.eq (pt b1)) b2 0 ()] [4, 0, 1, 2, 3, 8, 9, 10]
     obtain ⟨r11, er11, H⟩ := bindE H
     obtain ⟨x1, ex1, H⟩ := bindE H
     refine Go.draw (E := [(1, pt b2), (2, pt b3), (4, pt b5)]) [] (L := [Fld (Kd.eq (f6 7)) b1 0 (), Fld (Kd.int .i64) b1 1 r9.2.now, Fld KDhcp b1 2 r9.2.d, Val (Kd.sl KLease) (f6 4) a1.l, Pfl (Kd.int .u32) b5 0 r1, Fld KDhcp b3 0 zDhcp, Pfl (Kd.eq (pt b1)) b2 0 ()]) h rfl rfl 20 [cn (pt b1), cn (pt b1), ce [1] (pt b1), ce [1, 2] (pt b1), ce [1, 2, 3] ((f6 7)), cn (pt b1), ce [5] (pt b1), ce [5, 6] (.pointer (some ⟨b1, 2, none⟩)), ce [5, 6, 7] (.pointer (some ⟨b1, 6, none⟩)), cw [5, 6, 7, 8] [] [] fun u => [Val (Kd.sl (Kd.int .u8)) u r9.2.d.Mac], cw [5, 6, 7, 8, 9] [9] [] fun u => [Val (Kd.sl (Kd.int .u8)) u r11], cm [] [] [] (.int .u32 r1) fun u => [Ent.pur (InR .u32 r1)], cn (pt b1), ce [12] (pt b1), ce [12, 13] (.pointer (some ⟨b1, 1, none⟩)), cm [12, 13, 14] [] [] (.int .i64 r9.2.now) fun u => [Ent.pur (InR .i64 r9.2.now)], ce [12, 13, 14, 15] (.int .i64 (IntKind.i64.wrap (r9.2.now + 3600))), cw [5, 6, 7, 8, 9, 10, 11, 12, 13, 14, 15, 16] [10, 11] [] fun u => [Val KLease u (⟨r11, r1, IntKind.i64.wrap (r9.2.now + 3600)⟩ : TLease)], cw [5, 6, 7, 8, 9, 10, 11, 12, 13, 14, 15, 16, 17] [17] [] fun u => [Val (Kd.osl KLease) u ([(⟨r11, r1, IntKind.i64.wrap (r9.2.now + 3600)⟩ : TLease)] : List TLease)], cw [1, 2, 3, 4, 5, 6, 7, 8, 9, 10, 11, 12, 13, 14, 15, 16, 17, 18] [20, 18] [20] fun u => [Val (Kd.osl KLease) u x1], cm [] [] [] undef fun u => [Val (Kd.osl KLease) (f6 7) r9.1]] rfl t_mxo (by kernel_rfl) (by rfl) ?_ fun f8 _ _ h => ?_
     ·exact ox rfl (p_lfx (K := (Kd.eq (pt b1))) (A := (Kd.eq (pt b1))) (pr := fun x => x) (off := 0) 6 rfl rfl sub_self rfl X_eq t_y51) (ox rfl (p_lfx (K := (Kd.eq (pt b1))) (A := (Kd.eq (pt b1))) (pr := fun x => x) (off := 0) 6 rfl rfl sub_self rfl X_eq t_y51) (ox rfl (o_nilc rfl) (ox rfl (o_fa rfl t_f53_0 rfl rfl) (ox rfl (o_ldx (K := (Kd.eq (f6 7))) 0 rfl rfl X_eq t_y26) (ox rfl (p_lfx (K := (Kd.eq (pt b1))) (A := (Kd.eq (pt b1))) (pr := fun x => x) (off := 0) 6 rfl rfl sub_self rfl X_eq t_y51) (ox rfl (o_nilc rfl) (ox rfl (o_fa rfl t_f53_2 rfl rfl) (ox rfl (o_fa rfl t_f28_4 rfl rfl) (oy rfl (o_lfv 2 rfl rfl sDhcp_Mac rfl Per_sl t_y22) (ow rfl rfl rfl (fun f8 => (OpS.mm (o_call (slices_Clone_s_byte_byte.spc (f8 9) r9.2.d.Mac r11 er11) rfl [0] [] (by decide) rfl rfl) (fun _ _ _ m => m.freeze 0 rfl))) (ox rfl (OpS.pur (fun F w m_ => (in2 (pf_sub sub_self 4 rfl m_))) (p_lfx 4 rfl rfl sub_self rfl X_int t_y25)) (ox rfl (p_lfx (K := (Kd.eq (pt b1))) (A := (Kd.eq (pt b1))) (pr := fun x => x) (off := 0) 6 rfl rfl sub_self rfl X_eq t_y51) (ox rfl (o_nilc rfl) (ox rfl (o_fa rfl t_f53_1 rfl rfl) (ox rfl (OpS.pur (fun F w m_ => (fd_in 1 rfl m_)) (o_ldx 1 rfl rfl X_int t_y3)) (ox rfl (o_bin rfl rfl rfl) (ow rfl rfl rfl (fun f8 => (OpS.fact (p := InR .u32 r1) (fun F w m_ => (Mem.pur 1 rfl m_)) fun g17 => (OpS.fact (p := InR .u32 r1) (fun F w m_ => (Mem.pur 1 rfl m_)) fun g18 => (o_build (K := KLease) (x := (⟨r11, r1, IntKind.i64.wrap (r9.2.now + 3600)⟩ : TLease)) (ps := [(0, (f8 10)), (1, .int .u32 r1), (2, .int .i64 (IntKind.i64.wrap (r9.2.now + 3600)))]) rfl (zs := zsLease) rfl t_b42 rfl (show PB (Kd.pair (Kd.sl (Kd.int .u8)) (Kd.pair (Kd.int .u32) (Kd.last (Kd.int .i64)))) (r11, r1, IntKind.i64.wrap (r9.2.now + 3600)) 0 zsLease _ _ from (pb_part (pv_at Per_sl 0 rfl) rfl (pb_part (pv_int g18) rfl (pb_lastp (pv_int (wrap_in _ _)) rfl)))))))) (ow rfl rfl rfl (fun f8 => (o_bs (K := KLease) (vs := [(f8 17)]) (xs := ([(⟨r11, r1, IntKind.i64.wrap (r9.2.now + 3600)⟩ : TLease)] : List TLease)) rfl rfl (pvs_cons (pv_at PLease 0 rfl) pvs_nil) t_a26 (by decide) (by decide))) (oy rfl (o_app (K := KLease) 0 rfl rfl rfl (rd_own 1 rfl) ex1 t_a26 t_n26) (obs_nil))))))))))))))))))))
     replace h := h.wk (E' := [(1, pt b2), (2, pt b3), (4, pt b5), (75, pt b1), (94, (f8 19))]) (L' := [Val (Kd.sl (Kd.int .u8)) (f8 9) r9.2.d.Mac, Val (Kd.sl (Kd.int .u8)) (f8 10) r11, Ent.pur (InR .u32 r1), Ent.pur (InR .i64 r9.2.now), Val KLease (f8 17) (⟨r11, r1, IntKind.i64.wrap (r9.2.now + 3600)⟩ : TLease), Val (Kd.osl KLease) (f8 18) ([(⟨r11, r1, IntKind.i64.wrap (r9.2.now + 3600)⟩ : TLease)] : List TLease), Val (Kd.osl KLease) (f8 19) x1, Fld (Kd.eq (f6 7)) b1 0 (), Fld (Kd.int .i64) b1 1 r9.2.now, Fld KDhcp b1 2 r9.2.d, Val (Kd.sl KLease) (f6 4) a1.l, Pfl (Kd.int .u32) b5 0 r1, Fld KDhcp b3 0 zDhcp, Pfl (Kd.eq (pt b1)) b2 0 ()]) (by kernel_rfl) [0, 1, 2, 3, 4, 5, 6, 7, 8, 9, 10, 11, 12, 13] (by decide) (by kernel_rfl)
     refine ga h (o_nilc rfl) rfl fun h => ?_
     refine ga h (o_fa rfl t_f53_0 rfl rfl) rfl fun h => ?_
     refine gs0 h (o_st 7 rfl rfl rfl (pv_eqo 6 rfl) rfl t_w26) fun _ _ _ h => ?_
     refine GoR.done ?_
     refine Go.seq ?_
     refine Go.reg ?_
     refine ga h (p_lfx (K := (Kd.eq (pt b1))) (A := (Kd.eq (pt b1))) (pr := fun x => x) (off := 0) 13 rfl rfl sub_self rfl X_eq t_y51) rfl fun h => ?_
     refine ga h (o_nilc rfl) rfl fun h => ?_
     refine ga h (o_fa rfl t_f53_0 rfl rfl) rfl fun h => ?_
     refine ga h (o_ldx (K := (Kd.eq (f8 19))) 7 rfl rfl X_eq t_y26) rfl fun h => ?_
     obtain ⟨r12, er12, H⟩ := bindE H
     refine ga h (o_call (slices_SortFunc_s_api_Lease_api_Lease_at_lease_server_request_2.spc (f8 19) x1 r12 er12) rfl [] [6] (by decide) rfl rfl) rfl fun h => ?_
     refine GoR.done ?_
     refine Go.seq ?_
     refine Go.reg ?_
     refine ga h (p_lfx (K := (Kd.eq (pt b1))) (A := (Kd.eq (pt b1))) (pr := fun x => x) (off := 0) 14 rfl rfl sub_self rfl X_eq t_y51) rfl fun h => ?_
     have g19 := (in2 (pf_sub sub_self 12 rfl h.mem))
     refine ga h (p_lfx 12 rfl rfl sub_self rfl X_int t_y25) rfl fun h => ?_
     replace h := h.mm fun m => m.freeze 0 rfl
     replace h := h.mm fun m => m.give rfl 8 0 (by decide) rfl rfl
     replace h := h.mm fun m => (m.pull (Lo := [Fld (Kd.sl KLease) b1 0 r12, Fld (Kd.int .i64) b1 1 r9.2.now, Fld KDhcp b1 2 r9.2.d]) [8, 9, 10] (by decide) rfl).cls (cserver _ (⟨r12, r9.2.now, r9.2.d⟩ : Tserver))
     obtain ⟨r13, er13, H⟩ := bindE H
     refine gs h (o_call (lease_server_full.spc b1 (⟨r12, r9.2.now, r9.2.d⟩ : Tserver) 5 (show InR .i64 5 by decide) r1 g19 r13 er13) rfl [] [0] (by decide) rfl rfl) rfl fun v24 _ _ h => ?_
     refine gs0 h (o_st 16 rfl rfl rfl (pv_at PDhcp 0 rfl) rfl t_w28) fun _ _ _ h => ?_
     refine ga h (o_assign rfl) rfl fun h => ?_
     refine GoR.done ?_
     obtain ⟨v25, h, u3⟩ := h.peek 16 rfl PDhcp t_y28
     rw [← som H]
     exact g_ret (vs := [v25, .bool true]) h Try.func23 ⟨⟨_, rfl, u3⟩, ⟨rfl, trivial⟩⟩ ⟨v25, rfl, (h.mem.pick [0, 2] (by decide) rfl)⟩
   refine Go.reg ?_
   have g16 := (fd_in 9 rfl h.mem)
   refine ga h (o_ldx 9 rfl rfl X_int t_y25) rfl fun h => ?_
   obtain ⟨r3, er3, H⟩ := bindE H
   refine ga h (o_call (lease_pool.spc r1 g16 r3 er3) rfl [] [] (by decide) rfl rfl) rfl fun h => ?_
   refine ga h (o_not rfl) rfl fun h => ?_
   refine mv h rfl rfl fun h => ?_
   by_cases c3 : (!r3) = true
   ·have H := ifT c3 H
    refine gk h rfl rfl (nb_t c3) rfl fun _ h => ?_
    refine gk h rfl rfl (nb_t c3) rfl fun _ h => ?_
    iterate 8 (refine gk h rfl rfl rfl rfl fun _ h => ?_)
    refine gk h rfl rfl (nb_t c3) rfl fun _ h => ?_
    refine ga h (o_pickT rfl rfl c3) rfl fun h => ?_
    refine GoR.done ?_
    exact J2 true _ _ (som H).symm (h.wr [9, 10, 11, 12])
   ·have H := ifF c3 H
    refine gg h rfl rfl (nbF c3) (o_move rfl) rfl fun _ _ _ h => ?_
    refine gg h rfl rfl (nbF c3) (o_move rfl) rfl fun _ _ _ h => ?_
    by_cases c4 : r2.2 = true
    ·have H := ifT c4 H
     refine gg h rfl rfl c4 (o_move rfl) rfl fun _ _ _ h => ?_
     refine gg h rfl rfl c4 (o_ldx (K := (Kd.eq (pt b1))) 11 rfl rfl X_eq t_y51) rfl fun _ _ _ h => ?_
     refine gg h rfl rfl c4 (o_nilc rfl) rfl fun _ _ _ h => ?_
     refine gg h rfl rfl c4 (o_fa rfl t_f53_2 rfl rfl) rfl fun _ _ _ h => ?_
     refine gg h rfl rfl c4 (o_fa rfl t_f28_4 rfl rfl) rfl fun _ _ _ h => ?_
     refine gg h rfl rfl c4 (o_lfv 12 rfl rfl t_sserver_d_Mac rfl Per_sl t_y22) rfl fun v7 _ _ h => ?_
     replace h := h.mm fun m => m.freeze 5 rfl
     obtain ⟨r4, er4, H⟩ := bindE H
     refine gg h rfl rfl c4 (o_call (bytes_Equal.spc (tpv (f3 9) 0) r2.1 v7 a1.d.Mac r4 er4) rfl [5, 0] [] (by decide) rfl rfl) rfl fun _ _ _ h => ?_
     refine gg h rfl rfl c4 (o_not rfl) rfl fun _ _ _ h => ?_
     refine gg h rfl rfl (nbF c3) (o_pickT rfl rfl c4) rfl fun _ _ _ h => ?_
     refine ga h (o_pickF rfl rfl c3) rfl fun h => ?_
     refine GoR.done ?_
     exact J2 (!r4) _ _ (som H).symm (h.wr [10, 11, 12, 13])
    ·have H := ifF c4 H
     iterate 8 (refine gk h rfl rfl (nb_f c4) rfl fun _ h => ?_)
     refine gg h rfl rfl (nbF c3) (o_pickF rfl rfl c4) rfl fun _ _ _ h => ?_
     refine ga h (o_pickF rfl rfl c3) rfl fun h => ?_
     refine GoR.done ?_
     exact J2 false _ _ (som H).symm (h.wr [9, 10, 11, 12])
 refine Go.reg ?_
 refine ga h (o_ldx (K := (Kd.eq (pt b1))) 1 rfl rfl X_eq t_y51) rfl fun h => ?_
 refine ga h (o_nilc rfl) rfl fun h => ?_
 refine ga h (o_fa rfl t_f53_2 rfl rfl) rfl fun h => ?_
 refine ga h (o_fa rfl t_f28_7 rfl rfl) rfl fun h => ?_
 have g1 := (in2 (fd_sub t_sserver_d_Server 2 rfl h.mem))
 refine ga h (o_lfx 2 rfl rfl t_sserver_d_Server rfl X_int t_y25) rfl fun h => ?_
 refine ga h (o_bin rfl rfl rfl) rfl fun h => ?_
 refine mv h rfl rfl fun h => ?_
 by_cases c1 : (!decide (a1.d.Server = 0)) = true
 ·have H := ifT c1 H
  refine gg h rfl rfl c1 (o_ldx (K := (Kd.eq (pt b1))) 1 rfl rfl X_eq t_y51) rfl fun _ _ _ h => ?_
  refine gg h rfl rfl c1 (o_nilc rfl) rfl fun _ _ _ h => ?_
  refine gg h rfl rfl c1 (o_fa rfl t_f53_2 rfl rfl) rfl fun _ _ _ h => ?_
  refine gg h rfl rfl c1 (o_fa rfl t_f28_7 rfl rfl) rfl fun _ _ _ h => ?_
  have g2 := (in2 (fd_sub t_sserver_d_Server 2 rfl h.mem))
  refine gg h rfl rfl c1 (o_lfx 2 rfl rfl t_sserver_d_Server rfl X_int t_y25) rfl fun _ _ _ h => ?_
  refine gg h rfl rfl c1 (o_bin rfl rfl rfl) rfl fun _ _ _ h => ?_
  refine ga h (o_pickT rfl rfl c1) rfl fun h => ?_
  refine GoR.done ?_
  exact J1 (!decide (a1.d.Server = 167772674)) _ _ (som H).symm (h.wr [0, 1, 2])
 ·have H := ifF c1 H
  iterate 6 (refine gk h rfl rfl (nb_f c1) rfl fun _ h => ?_)
  refine ga h (o_pickF rfl rfl c1) rfl fun h => ?_
  refine GoR.done ?_
  exact J1 false _ _ (som H).symm (h.wr [0, 1, 2])
def lease_server_request.g (k_ : Nat) (a1 : Tserver) : Option (TDhcp × Bool × Tserver) :=
  ((if (!decide (a1.d.Server = 0)) = true then some ((!decide (a1.d.Server = 167772674))) else some (false))).bind (fun j1 => (if j1 = true then some (((⟨0, 0, 0, 0, [], 0, 0, 0, 0, 0, 0, 0⟩ : TDhcp), false, a1)) else (cmp_Or_uint32.g k_ ([a1.d.Want, a1.d.Ci] : List Int)).bind fun r1 => (lease_Owner.g k_ a1.l a1.now r1).bind fun r2 => ((lease_pool.g k_ r1).bind fun r3 => (if (!r3) = true then some (true) else (if r2.2 = true then (bytes_Equal.g k_ r2.1 a1.d.Mac).bind fun r4 => some ((!r4)) else some (false)))).bind (fun j2 => (if j2 = true then (lease_server_answer.g k_ a1 6).bind fun r5 => some ((r5.1, true, r5.2)) else (slices_Clone_s_api_Lease_api_Lease.g k_ a1.l).bind fun r8 => (slices_DeleteFunc_s_api_Lease_api_Lease_at_lease_server_request_1_of_p.g k_ r8 r1 a1).bind fun r9 => (slices_Clone_s_byte_byte.g k_ r9.2.d.Mac).bind fun r11 => (app r9.1 ([(⟨r11, r1, IntKind.i64.wrap (r9.2.now + 3600)⟩ : TLease)] : List TLease)).bind fun x1 => (slices_SortFunc_s_api_Lease_api_Lease_at_lease_server_request_2.g k_ x1).bind fun r12 => (lease_server_full.g k_ (⟨r12, r9.2.now, r9.2.d⟩ : Tserver) 5 r1).bind fun r13 => some ((r13.1, true, r13.2))))))
theorem lease_server_request.le (k_ : Nat) (a1 : Tserver) : Le (lease_server_request.g k_ a1) (lease_server_request.f a1) := by
 unfold lease_server_request.g lease_server_request.f
 repeat' (first | with_reducible refine le_loop fun _ => ?_ | with_reducible refine le_bind ?_ fun _ => ?_ | with_reducible refine le_ite ?_ ?_ | with_reducible refine le_lt fun _ => ?_ | with_reducible refine le_elim (fun _ => ?_) (fun _ => ?_) _ | with_reducible apply bytes_Equal.le | with_reducible apply cmp_Or_uint32.le | with_reducible apply lease_Owner.le | with_reducible apply lease_pool.le | with_reducible apply lease_server_answer.le | with_reducible apply lease_server_full.le | with_reducible apply slices_Clone_s_api_Lease_api_Lease.le | with_reducible apply slices_Clone_s_byte_byte.le | with_reducible apply slices_DeleteFunc_s_api_Lease_api_Lease_at_lease_server_request_1_of_p.le | with_reducible apply slices_SortFunc_s_api_Lease_api_Lease_at_lease_server_request_2.le | with_reducible exact le_refl _)
/-! (*drawbridge/lease.server).release$1 -/
noncomputable def lease_server_release_1_at_p.f (a1 : TLease) (a2 : Tserver) : Option (Bool) :=
  ((if decide (a1.Ip = a2.d.Ci) = true then (bytes_Equal.f a1.Mac a2.d.Mac).bind fun r1 => some (r1) else some (false))).bind (fun j1 => some (j1))
set_option maxRecDepth 100000 in
set_option maxHeartbeats 4000000 in
theorem lease_server_release_1_at_p.spc (v1 : Value) (a1 : TLease) (b1 : Nat) (b2 : Nat) (a2 : Tserver) (r : Bool) (H : lease_server_release_1_at_p.f a1 a2 = some r) : Spc Try.prog 55 [v1, pt b1] [Val KLease v1 a1, Pfl Kserver b2 0 a2, Pfl (Kd.eq (pt b2)) b1 0 ()] [] (fun (s : Unit) => .bool r) (fun s => []) := by
 unfold lease_server_release_1_at_p.f at H
 refine Spc.go Try.func55 rfl (by kernel_rfl) rfl rfl (all_cons (Val.per PLease) (all_cons Per_pfl (all_cons Per_pfl all_nil))) fun F a w h => ?_
 refine Go.seq ?_
 refine Go.reg ?_
 refine gs h (o_box (K := KLease) rfl (pv_at PLease 0 rfl)) rfl fun b3 _ _ h => ?_
 refine ga h (o_assign rfl) rfl fun h => ?_
 refine GoR.done ?_
 refine Go.seq ?_
 replace h := h.wq [(1, pt b1), (2, pt b3), (3, .bool false)] [Fld KLease b3 0 a1, Val KLease v1 a1, Pfl Kserver b2 0 a2, Pfl (Kd.eq (pt b2)) b1 0 ()] [0, 1, 2, 3]
 obtain ⟨o1, H, G1⟩ := bindE H
 refine g_cut (fun G => ∀ j1 (a : Act) (w : World), o1 = j1 → St Try.f55.ntmps F [(3, .bool j1)] [Fld KLease b3 0 a1, Pfl Kserver b2 0 a2, Pfl (Kd.eq (pt b2)) b1 0 ()] a w → G a w) 1 ?_ fun J1 => ?_
 ·intro j1 a w ho_ h
  rw [ho_] at G1
  have H := G1
  rw [← som H]
  exact g_ret (vs := [.bool j1]) h Try.func55 ⟨rfl, trivial⟩ ⟨(), rfl, (h.mem.pick [] (by decide) rfl)⟩
 by_cases c1 : decide (a1.Ip = a2.d.Ci) = true
 ·have H := ifT c1 H
  refine Go.draw (E := [(1, pt b1), (2, pt b3), (3, .bool false)]) [] (L := [Fld KLease b3 0 a1, Val KLease v1 a1, Pfl Kserver b2 0 a2, Pfl (Kd.eq (pt b2)) b1 0 ()]) h rfl rfl 16 [cn (.pointer (some ⟨b3, 1, none⟩)), cm [0] [] [] (.int .u32 a1.Ip) fun u => [Ent.pur (InR .u32 a1.Ip)], cn (pt b2), ce [2] (pt b2), ce [2, 3] (.pointer (some ⟨b2, 2, none⟩)), ce [2, 3, 4] (.pointer (some ⟨b2, 4, none⟩)), cm [2, 3, 4, 5] [] [] (.int .u32 a2.d.Ci) fun u => [Ent.pur (InR .u32 a2.d.Ci)], ce [0, 1, 2, 3, 4, 5, 6] (.bool (decide (a1.Ip = a2.d.Ci))), ce [0, 1, 2, 3, 4, 5, 6, 7] (.bool (decide (a1.Ip = a2.d.Ci))), ce [0, 1, 2, 3, 4, 5, 6, 7, 8] (pt b3), cw [0, 1, 2, 3, 4, 5, 6, 7, 8, 9] [] [] fun u => [Val (Kd.sl (Kd.int .u8)) u a1.Mac], ce [0, 1, 2, 3, 4, 5, 6, 7, 8] (pt b2), ce [0, 1, 2, 3, 4, 5, 6, 7, 8, 11] (pt b2), ce [0, 1, 2, 3, 4, 5, 6, 7, 8, 11, 12] (.pointer (some ⟨b2, 2, none⟩)), ce [0, 1, 2, 3, 4, 5, 6, 7, 8, 11, 12, 13] (.pointer (some ⟨b2, 6, none⟩)), cw [0, 1, 2, 3, 4, 5, 6, 7, 8, 11, 12, 13, 14] [] [] fun u => [Val (Kd.sl (Kd.int .u8)) u a2.d.Mac]] rfl t_mxo (by kernel_rfl) (by rfl) ?_ fun f1 _ _ h => ?_
  ·exact ox rfl (o_fa rfl t_f42_1 rfl rfl) (ox rfl (OpS.pur (fun F w m_ => (in2 (fd_sub sLease_Ip 0 rfl m_))) (o_lfx 0 rfl rfl sLease_Ip rfl X_int t_y25)) (ox rfl (p_lfx (K := (Kd.eq (pt b2))) (A := (Kd.eq (pt b2))) (pr := fun x => x) (off := 0) 3 rfl rfl sub_self rfl X_eq t_y51) (ox rfl (o_nilc rfl) (ox rfl (o_fa rfl t_f53_2 rfl rfl) (ox rfl (o_fa rfl t_f28_2 rfl rfl) (ox rfl (OpS.pur (fun F w m_ => (in2 (pf_sub t_sserver_d_Ci 2 rfl m_))) (p_lfx (K := Kserver) (pr := fun x => x.d.Ci) (y := a2) 2 rfl rfl t_sserver_d_Ci rfl X_int t_y25)) (ox rfl (o_bin rfl rfl rfl) (ox rfl (o_move rfl) (og rfl rfl (fun _ => rfl) c1 (o_fa rfl t_f42_0 rfl rfl) (obs_cons (ob_own rfl (gok_some rfl rfl rfl (fun _ => rfl) c1) rfl fun f1 => (o_lfv 0 rfl rfl sLease_Mac rfl Per_sl t_y22)) (og rfl rfl (fun _ => rfl) c1 (p_lfx (K := (Kd.eq (pt b2))) (A := (Kd.eq (pt b2))) (pr := fun x => x) (off := 0) 3 rfl rfl sub_self rfl X_eq t_y51) (og rfl rfl (fun _ => rfl) c1 (o_nilc rfl) (og rfl rfl (fun _ => rfl) c1 (o_fa rfl t_f53_2 rfl rfl) (og rfl rfl (fun _ => rfl) c1 (o_fa rfl t_f28_4 rfl rfl) (obs_cons (ob_own rfl (gok_some rfl rfl rfl (fun _ => rfl) c1) rfl fun f1 => (p_lfv (K := Kserver) (pr := fun x => x.d.Mac) (y := a2) 2 rfl rfl t_sserver_d_Mac rfl t_y22)) (obs_nil))))))))))))))))
  replace h := h.wk (E' := [(3, .bool false), (12, .bool (decide (a1.Ip = a2.d.Ci))), (14, (f1 10)), (19, (f1 15))]) (L' := [Ent.pur (InR .u32 a1.Ip), Ent.pur (InR .u32 a2.d.Ci), Val (Kd.sl (Kd.int .u8)) (f1 10) a1.Mac, Val (Kd.sl (Kd.int .u8)) (f1 15) a2.d.Mac, Fld KLease b3 0 a1, Val KLease v1 a1, Pfl Kserver b2 0 a2, Pfl (Kd.eq (pt b2)) b1 0 ()]) (by kernel_rfl) [0, 1, 2, 3, 4, 5, 6, 7] (by decide) (by kernel_rfl)
  obtain ⟨r1, er1, H⟩ := bindE H
  refine gg h rfl rfl c1 (o_call (bytes_Equal.spc (f1 10) a1.Mac (f1 15) a2.d.Mac r1 er1) rfl [2, 3] [] (by decide) rfl rfl) rfl fun _ _ _ h => ?_
  refine ga h (o_pickT rfl rfl c1) rfl fun h => ?_
  refine ga h (o_assign rfl) rfl fun h => ?_
  refine GoR.done ?_
  exact J1 r1 _ _ (som H).symm (h.wr [4, 6, 7])
 ·have H := ifF c1 H
  refine Go.draw (E := [(1, pt b1), (2, pt b3), (3, .bool false)]) [] (L := [Fld KLease b3 0 a1, Val KLease v1 a1, Pfl Kserver b2 0 a2, Pfl (Kd.eq (pt b2)) b1 0 ()]) h rfl rfl 16 [cn (.pointer (some ⟨b3, 1, none⟩)), cm [0] [] [] (.int .u32 a1.Ip) fun u => [Ent.pur (InR .u32 a1.Ip)], cn (pt b2), ce [2] (pt b2), ce [2, 3] (.pointer (some ⟨b2, 2, none⟩)), ce [2, 3, 4] (.pointer (some ⟨b2, 4, none⟩)), cm [2, 3, 4, 5] [] [] (.int .u32 a2.d.Ci) fun u => [Ent.pur (InR .u32 a2.d.Ci)], ce [0, 1, 2, 3, 4, 5, 6] (.bool (decide (a1.Ip = a2.d.Ci))), ce [0, 1, 2, 3, 4, 5, 6, 7] (.bool (decide (a1.Ip = a2.d.Ci))), ⟨[8], [], [], true, .con undef, none, fun u => [], []⟩, ⟨[8], [], [], true, .con undef, none, fun u => [], []⟩, ⟨[8], [], [], true, .con undef, none, fun u => [], []⟩, ⟨[8], [], [], true, .con undef, none, fun u => [], []⟩, ⟨[8], [], [], true, .con undef, none, fun u => [], []⟩, ⟨[8], [], [], true, .con undef, none, fun u => [], []⟩, ⟨[8], [], [], true, .con undef, none, fun u => [], []⟩] rfl t_mxo (by kernel_rfl) (by rfl) ?_ fun f1 _ _ h => ?_
  ·exact ox rfl (o_fa rfl t_f42_1 rfl rfl) (ox rfl (OpS.pur (fun F w m_ => (in2 (fd_sub sLease_Ip 0 rfl m_))) (o_lfx 0 rfl rfl sLease_Ip rfl X_int t_y25)) (ox rfl (p_lfx (K := (Kd.eq (pt b2))) (A := (Kd.eq (pt b2))) (pr := fun x => x) (off := 0) 3 rfl rfl sub_self rfl X_eq t_y51) (ox rfl (o_nilc rfl) (ox rfl (o_fa rfl t_f53_2 rfl rfl) (ox rfl (o_fa rfl t_f28_2 rfl rfl) (ox rfl (OpS.pur (fun F w m_ => (in2 (pf_sub t_sserver_d_Ci 2 rfl m_))) (p_lfx (K := Kserver) (pr := fun x => x.d.Ci) (y := a2) 2 rfl rfl t_sserver_d_Ci rfl X_int t_y25)) (ox rfl (o_bin rfl rfl rfl) (ox rfl (o_move rfl) (oj rfl rfl (fun _ => rfl) (nb_f c1) (oj rfl rfl (fun _ => rfl) (nb_f c1) (oj rfl rfl (fun _ => rfl) (nb_f c1) (oj rfl rfl (fun _ => rfl) (nb_f c1) (oj rfl rfl (fun _ => rfl) (nb_f c1) (oj rfl rfl (fun _ => rfl) (nb_f c1) (oj rfl rfl (fun _ => rfl) (nb_f c1) (obs_nil))))))))))))))))
  replace h := h.wk (E' := [(3, .bool false), (12, .bool (decide (a1.Ip = a2.d.Ci)))]) (L' := [Ent.pur (InR .u32 a1.Ip), Ent.pur (InR .u32 a2.d.Ci), Fld KLease b3 0 a1, Val KLease v1 a1, Pfl Kserver b2 0 a2, Pfl (Kd.eq (pt b2)) b1 0 ()]) (by kernel_rfl) [0, 1, 2, 3, 4, 5] (by decide) (by kernel_rfl)
  refine gk h rfl rfl (nb_f c1) rfl fun _ h => ?_
  refine ga h (o_pickF rfl rfl c1) rfl fun h => ?_
  refine ga h (o_assign rfl) rfl fun h => ?_
  refine GoR.done ?_
  exact J1 false _ _ (som H).symm (h.wr [2, 4, 5])
def lease_server_release_1_at_p.g (k_ : Nat) (a1 : TLease) (a2 : Tserver) : Option (Bool) :=
  ((if decide (a1.Ip = a2.d.Ci) = true then (bytes_Equal.g k_ a1.Mac a2.d.Mac).bind fun r1 => some (r1) else some (false))).bind (fun j1 => some (j1))
theorem lease_server_release_1_at_p.le (k_ : Nat) (a1 : TLease) (a2 : Tserver) : Le (lease_server_release_1_at_p.g k_ a1 a2) (lease_server_release_1_at_p.f a1 a2) := by
 unfold lease_server_release_1_at_p.g lease_server_release_1_at_p.f
 repeat' (first | with_reducible refine le_loop fun _ => ?_ | with_reducible refine le_bind ?_ fun _ => ?_ | with_reducible refine le_ite ?_ ?_ | with_reducible refine le_lt fun _ => ?_ | with_reducible refine le_elim (fun _ => ?_) (fun _ => ?_) _ | with_reducible apply bytes_Equal.le | with_reducible exact le_refl _)
/-! slices.IndexFunc[[]drawbridge/api.Lease,drawbridge/api.Lease] -/
noncomputable def slices_IndexFunc_s_api_Lease_api_Lease_at_lease_server_release_1_of_p.f (a1 : List TLease) (a2 : Tserver) : Option (Int) :=
  (loop (fun s1 => (if decide (s1 < (a1.length : Int)) = true then (idx a1 s1).bind fun x1 => (lease_server_release_1_at_p.f x1 a2).bind fun r1 => (if r1 = true then some (.inr (.inr (s1))) else some (.inl (IntKind.i64.wrap (s1 + 1)))) else some (.inr (.inl (()))))) 0).bind (Sum.elim (fun j1 => some ((-1))) (fun z_ => some (z_)))
set_option maxRecDepth 100000 in
set_option maxHeartbeats 4000000 in
theorem slices_IndexFunc_s_api_Lease_api_Lease_at_lease_server_release_1_of_p.spc (v1 : Value) (a1 : List TLease) (b1 : Nat) (b2 : Nat) (a2 : Tserver) (r : Int) (H : slices_IndexFunc_s_api_Lease_api_Lease_at_lease_server_release_1_of_p.f a1 a2 = some r) : Spc Try.prog 63 [v1, .func (.func 55) #[] #[pt b1]] [Val (Kd.sl KLease) v1 a1, Pfl Kserver b2 0 a2, Pfl (Kd.eq (pt b2)) b1 0 ()] [] (fun (s : Unit) => .int .i64 r) (fun s => [Ent.pur (InR .i64 r)]) := by
 unfold slices_IndexFunc_s_api_Lease_api_Lease_at_lease_server_release_1_of_p.f at H
 refine Spc.go Try.func63 rfl (by kernel_rfl) rfl rfl (all_cons (Val.per Per_sl) (all_cons Per_pfl (all_cons Per_pfl all_nil))) fun F a w h => ?_
 refine Go.seq ?_
 refine Go.reg ?_
 refine ga h (o_assign rfl) rfl fun h => ?_
 refine GoR.done ?_
 refine Go.seq ?_
 refine Go.seq ?_
 refine Go.reg ?_
 refine mv h rfl rfl fun h => ?_
 have g1 := (len_at 0 rfl h.mem)
 refine ga h (o_ln rfl (rd_at 0 rfl) t_v26) rfl fun h => ?_
 refine mv h rfl rfl fun h => ?_
 refine GoR.done ?_
 refine Go.block ?_
 obtain ⟨o1, hl, G1⟩ := bindE H
 refine g_cut (fun G => ∀ j1 (a : Act) (w : World), o1 = .inl (j1) → St Try.f63.ntmps F [] [Pfl Kserver b2 0 a2, Pfl (Kd.eq (pt b2)) b1 0 ()] a w → G a w) 2 ?_ fun J1 => ?_
 ·intro j1 a w ho_ h
  rw [ho_] at G1
  have H := eInl G1
  refine Go.seq ?_
  refine Go.reg ?_
  refine ga h (o_assign rfl) rfl fun h => ?_
  refine GoR.done ?_
  rw [← som H]
  exact g_ret (vs := [.int .i64 (-1)]) h Try.func63 ⟨rfl, trivial⟩ ⟨(), rfl, ((h.mem.pick [] (by decide) rfl).addpur (show InR .i64 (-1) by decide))⟩
 refine g_loop (fun s1 G => ∀  (a : Act) (w : World), InR .i64 s1 → St Try.f63.ntmps F [(0, v1), (1, .func (.func 55) #[] #[pt b1]), (7, .int .i64 (a1.length : Int)), (8, .int .i64 s1)] [Val (Kd.sl KLease) v1 a1, Pfl Kserver b2 0 a2, Pfl (Kd.eq (pt b2)) b1 0 ()] a w → G a w) hl (fun s1 p1 H i1 => ?_) fun I_ => ?_
 ·intro  a w g2 h
  refine Go.seq ?_
  refine Go.reg ?_
  refine ga h (o_bin rfl rfl rfl) rfl fun h => ?_
  refine GoR.done ?_
  refine Go.seq ?_
  by_cases c1 : decide (s1 < (a1.length : Int)) = true
  ·have H := ifT c1 H
   refine g_t h rfl c1 ?_
   refine Go.skip ?_
   refine Go.seq ?_
   refine Go.block ?_
   refine Go.seq ?_
   refine Go.reg ?_
   refine mv h rfl rfl fun h => ?_
   refine ga h (o_assign rfl) rfl fun h => ?_
   refine GoR.done ?_
   refine Go.seq ?_
   refine Go.reg ?_
   iterate 3 (refine ga h (o_move rfl) rfl fun h => ?_)
   obtain ⟨x1, ex1, H⟩ := bindE H
   refine ga h (o_ix rfl rfl (rd_at 0 rfl) ex1 t_v26) rfl fun h => ?_
   refine gs h (o_lev rfl (rd_at 0 rfl) ex1 t_y42 (by decide)) rfl fun v2 _ _ h => ?_
   obtain ⟨r1, er1, H⟩ := bindE H
   refine ga h (o_callv (vs := [v2]) (caps := [pt b1]) rfl rfl (lease_server_release_1_at_p.spc v2 x1 b1 b2 a2 r1 er1) [0, 2, 3] [] (by decide) rfl rfl) rfl fun h => ?_
   refine GoR.done ?_
   by_cases c2 : r1 = true
   ·have H := ifT c2 H
    refine g_t h rfl c2 ?_
    refine Go.seq ?_
    refine Go.reg ?_
    refine mv h rfl rfl fun h => ?_
    refine ga h (o_assign rfl) rfl fun h => ?_
    refine GoR.done ?_
    have e_ := som H; subst e_
    rw [← nx_out i1] at G1
    have H := G1
    rw [← som H]
    exact g_ret (vs := [.int .i64 s1]) h Try.func63 ⟨rfl, trivial⟩ ⟨(), rfl, ((h.mem.pick [] (by decide) rfl).addpur g2)⟩
   ·have H := ifF c2 H
    refine g_f h rfl c2 ?_
    refine Go.skip ?_
    refine Go.inBlock ?_
    refine Go.reg ?_
    refine ga h (o_bin rfl rfl rfl) rfl fun h => ?_
    refine mv h rfl rfl fun h => ?_
    refine GoR.done ?_
    have e_ := som H; subst e_
    exact Go.inLoop (nx_in i1 _ _ (wrap_in _ _) (h.wr [1, 2, 3]))
  ·have H := ifF c1 H
   refine g_f h rfl c1 ?_
   refine Go.exit rfl ?_
   have e_ := som H; subst e_
   exact J1 () _ _ (nx_out i1).symm (h.wr [1, 2])
 ·exact I_ _ _ (show InR .i64 0 by decide) (h.wr [0, 1, 2])
def slices_IndexFunc_s_api_Lease_api_Lease_at_lease_server_release_1_of_p.g (k_ : Nat) (a1 : List TLease) (a2 : Tserver) : Option (Int) :=
  (loopK k_ (fun s1 => (if decide (s1 < (a1.length : Int)) = true then (idx a1 s1).bind fun x1 => (lease_server_release_1_at_p.g k_ x1 a2).bind fun r1 => (if r1 = true then some (.inr (.inr (s1))) else some (.inl (IntKind.i64.wrap (s1 + 1)))) else some (.inr (.inl (()))))) 0).bind (Sum.elim (fun j1 => some ((-1))) (fun z_ => some (z_)))
theorem slices_IndexFunc_s_api_Lease_api_Lease_at_lease_server_release_1_of_p.le (k_ : Nat) (a1 : List TLease) (a2 : Tserver) : Le (slices_IndexFunc_s_api_Lease_api_Lease_at_lease_server_release_1_of_p.g k_ a1 a2) (slices_IndexFunc_s_api_Lease_api_Lease_at_lease_server_release_1_of_p.f a1 a2) := by
 unfold slices_IndexFunc_s_api_Lease_api_Lease_at_lease_server_release_1_of_p.g slices_IndexFunc_s_api_Lease_api_Lease_at_lease_server_release_1_of_p.f
 repeat' (first | with_reducible refine le_loop fun _ => ?_ | with_reducible refine le_bind ?_ fun _ => ?_ | with_reducible refine le_ite ?_ ?_ | with_reducible refine le_lt fun _ => ?_ | with_reducible refine le_elim (fun _ => ?_) (fun _ => ?_) _ | with_reducible apply lease_server_release_1_at_p.le | with_reducible exact le_refl _)
/-! slices.DeleteFunc[[]drawbridge/api.Lease,drawbridge/api.Lease] -/
noncomputable def slices_DeleteFunc_s_api_Lease_api_Lease_at_lease_server_release_1_of_p.f (a1 : List TLease) (a2 : Tserver) : Option ((List TLease) × Tserver) :=
  (slices_IndexFunc_s_api_Lease_api_Lease_at_lease_server_release_1_of_p.f a1 a2).bind fun r1 => (if decide (r1 = (-1)) = true then some ((a1, a2)) else lt (IntKind.i64.wrap (r1 + 1)) fun y1 => (loop (fun s1 => (if decide (s1.2.2 < (s1.1.length : Int)) = true then (((idx s1.1 s1.2.2).bind fun x1 => (lease_server_release_1_at_p.f x1 a2).bind fun r2 => (if (!r2) = true then (idx s1.1 s1.2.1).bind fun x2 => lt (s1.1.set s1.2.1.toNat x1) fun y2 => lt (IntKind.i64.wrap (s1.2.1 + 1)) fun y3 => some ((y2, y3, x1)) else some ((s1.1, s1.2.1, x1)))).bind (fun j1 => some ((j1.1, j1.2.1, j1.2.2)))).bind (fun j2 => lt (IntKind.i64.wrap (s1.2.2 + 1)) fun y4 => some (.inl (j2.1, j2.2.1, y4))) else some (.inr ((s1.1, s1.2.1))))) (a1, r1, y1)).bind (fun j3 => if inB j3.1 j3.2 (j3.1.length : Int) then (lt (Go.splice j3.1 j3.2.toNat (List.replicate ((j3.1.length : Int).toNat - j3.2.toNat) zLease)) fun y5 => (cut y5 0 j3.2).bind fun x3 => some ((x3, a2))) else none))
set_option maxRecDepth 100000 in
set_option maxHeartbeats 4000000 in
theorem slices_DeleteFunc_s_api_Lease_api_Lease_at_lease_server_release_1_of_p.spc (v1 : Value) (a1 : List TLease) (b1 : Nat) (b2 : Nat) (a2 : Tserver) (r : (List TLease) × Tserver) (H : slices_DeleteFunc_s_api_Lease_api_Lease_at_lease_server_release_1_of_p.f a1 a2 = some r) : Spc Try.prog 49 [v1, .func (.func 55) #[] #[pt b1]] [Pfl (Kd.eq (pt b2)) b1 0 ()] [Val (Kd.osl KLease) v1 a1, Fld Kserver b2 0 a2] (fun (s : Value) => s) (fun s => [Val (Kd.osl KLease) s r.1, Fld Kserver b2 0 r.2]) := by
 unfold slices_DeleteFunc_s_api_Lease_api_Lease_at_lease_server_release_1_of_p.f at H
 refine Spc.go Try.func49 rfl (by kernel_rfl) rfl rfl (all_cons Per_pfl all_nil) fun F a w h => ?_
 refine Go.seq ?_
 refine Go.reg ?_
 refine ga h (o_assign rfl) rfl fun h => ?_
 refine GoR.done ?_
 refine Go.seq ?_
 refine Go.reg ?_
 refine mv h rfl rfl fun h => ?_
 refine mv h rfl rfl fun h => ?_
 obtain ⟨r1, er1, H⟩ := bindE H
 refine ga h (OpS.lend (Lp := [Val (Kd.sl KLease) v1 a1, Pfl Kserver b2 0 a2, Pfl (Kd.eq (pt b2)) b1 0 ()]) (lent_cons (lent_own 1 rfl) (lent_cons (lent_fld (ro_per Pserver) 2 rfl) (lent_cons (lent_per Per_pfl 0 rfl) lent_nil))) (o_call (slices_IndexFunc_s_api_Lease_api_Lease_at_lease_server_release_1_of_p.spc v1 a1 b1 b2 a2 r1 er1) rfl [0, 1, 2] [] (by decide) rfl rfl) (fun _ => (clo_cons cl_pur clo_nil))) rfl fun h => ?_
 have g1 := h.mem.pur 0 rfl
 refine ga h (o_assign rfl) rfl fun h => ?_
 refine GoR.done ?_
 refine Go.seq ?_
 refine Go.seq ?_
 refine Go.reg ?_
 refine mv h rfl rfl fun h => ?_
 refine ga h (o_bin rfl rfl rfl) rfl fun h => ?_
 refine GoR.done ?_
 by_cases c1 : decide (r1 = (-1)) = true
 ·have H := ifT c1 H
  refine g_t h rfl c1 ?_
  refine Go.seq ?_
  refine Go.reg ?_
  refine mv h rfl rfl fun h => ?_
  refine ga h (o_assign rfl) rfl fun h => ?_
  refine GoR.done ?_
  rw [← som H]
  exact g_ret (vs := [v1]) h Try.func49 ⟨rfl, trivial⟩ ⟨v1, rfl, (h.mem.pick [2, 3] (by decide) rfl)⟩
 ·have H := ifF c1 H
  refine g_f h rfl c1 ?_
  refine Go.skip ?_
  refine Go.seq ?_
  refine Go.seq ?_
  refine Go.reg ?_
  refine mv h rfl rfl fun h => ?_
  refine ga h (o_bin rfl rfl rfl) rfl fun h => ?_
  obtain ⟨y1, ey1, H⟩ := ltE H
  refine ga h (o_assign' rfl (congrArg (fun z => Value.int .i64 z) ey1)) rfl fun h => ?_
  refine GoR.done ?_
  refine Go.block ?_
  obtain ⟨o1, hl, G1⟩ := bindE H
  refine g_cut (fun G => ∀ j3 (v5 : Value) (a : Act) (w : World), o1 = j3 → InR .i64 j3.2 → St Try.f49.ntmps F [(0, v5), (5, .int .i64 j3.2)] [Val (Kd.osl KLease) v5 j3.1, Fld Kserver b2 0 a2, Pfl (Kd.eq (pt b2)) b1 0 ()] a w → G a w) 2 ?_ fun J3 => ?_
  ·intro j3 v5 a w ho_ g7 h
   rw [ho_] at G1
   have H := G1
   refine Go.seq ?_
   refine Go.reg ?_
   refine mv h rfl rfl fun h => ?_
   refine mv h rfl rfl fun h => ?_
   obtain ⟨q1, H⟩ := ifS H
   refine ga h (o_ownl 0 rfl rfl rfl q1 t_v26) rfl fun h => ?_
   obtain ⟨y5, ey5, H⟩ := ltE H
   refine gs0 h (o_clr (z := zLease) 0 rfl rfl q1 t_a26 (by decide) (fun e he => ⟨[.slice none 0 0, .int .u32 0, .int .i64 0], by cases he; exact t_zc42, ZLease⟩)) fun _ _ _ h => ?_
   rw [ey5] at h
   refine GoR.done ?_
   refine Go.seq ?_
   refine Go.reg ?_
   refine mv h rfl rfl fun h => ?_
   refine mv h rfl rfl fun h => ?_
   obtain ⟨x3, ex3, H⟩ := bindE H
   refine ga h (o_subh 0 rfl rfl rfl ex3 t_v26) rfl fun h => ?_
   refine ga h (o_assign rfl) rfl fun h => ?_
   refine GoR.done ?_
   rw [← som H]
   exact g_ret (vs := [subV v5 (0 : Int).toNat j3.2.toNat (Kd.n KLease)]) h Try.func49 ⟨rfl, trivial⟩ ⟨subV v5 (0 : Int).toNat j3.2.toNat (Kd.n KLease), rfl, (h.mem.pick [0, 1] (by decide) rfl)⟩
  refine g_loop (fun s1 G => ∀  (a : Act) (w : World), InR .i64 s1.2.1 → InR .i64 s1.2.2 → St Try.f49.ntmps F [(0, v1), (1, .func (.func 55) #[] #[pt b1]), (5, .int .i64 s1.2.1), (6, .int .i64 s1.2.2)] [Val (Kd.osl KLease) v1 s1.1, Fld Kserver b2 0 a2, Pfl (Kd.eq (pt b2)) b1 0 ()] a w → G a w) hl (fun s1 p1 H i1 => ?_) fun I_ => ?_
  ·intro  a w g2 g3 h
   refine Go.seq ?_
   refine Go.seq ?_
   refine Go.reg ?_
   refine mv h rfl rfl fun h => ?_
   refine mv h rfl rfl fun h => ?_
   have g4 := (len_own 0 rfl h.mem)
   refine ga h (o_ln rfl (rd_own 0 rfl) t_v26) rfl fun h => ?_
   refine ga h (o_bin rfl rfl rfl) rfl fun h => ?_
   refine GoR.done ?_
   by_cases c2 : decide (s1.2.2 < (s1.1.length : Int)) = true
   ·have H := ifT c2 H
    refine g_t h rfl c2 ?_
    refine Go.skip ?_
    refine Go.seq ?_
    obtain ⟨o2, H, G2⟩ := bindE H
    refine g_cut (fun G => ∀ j2 (b3 : Nat) (a : Act) (w : World), o2 = j2 → InR .i64 j2.2.1 → St Try.f49.ntmps F [(0, v1), (1, .func (.func 55) #[] #[pt b1]), (5, .int .i64 j2.2.1), (6, .int .i64 s1.2.2)] [Val (Kd.osl KLease) v1 j2.1, Fld KLease b3 0 j2.2.2, Fld Kserver b2 0 a2, Pfl (Kd.eq (pt b2)) b1 0 ()] a w → G a w) 1 ?_ fun J2 => ?_
    ·intro j2 b3 a w ho_ g6 h
     rw [ho_] at G2
     have H := G2
     refine Go.reg ?_
     refine mv h rfl rfl fun h => ?_
     refine ga h (o_bin rfl rfl rfl) rfl fun h => ?_
     obtain ⟨y4, ey4, H⟩ := ltE H
     refine ga h (o_assign' rfl (congrArg (fun z => Value.int .i64 z) ey4)) rfl fun h => ?_
     refine GoR.done ?_
     have e_ := som H; subst e_
     exact Go.inLoop (nx_in i1 _ _ g6 (ey4 ▸ (wrap_in _ _)) (h.wr [0, 2, 3]))
    refine Go.block ?_
    obtain ⟨o3, H, G3⟩ := bindE H
    refine g_cut (fun G => ∀ j1 (b3 : Nat) (a : Act) (w : World), o3 = j1 → InR .i64 j1.2.1 → St Try.f49.ntmps F [(0, v1), (1, .func (.func 55) #[] #[pt b1]), (5, .int .i64 j1.2.1), (6, .int .i64 s1.2.2)] [Val (Kd.osl KLease) v1 j1.1, Fld KLease b3 0 j1.2.2, Fld Kserver b2 0 a2, Pfl (Kd.eq (pt b2)) b1 0 ()] a w → G a w) 2 ?_ fun J1 => ?_
    ·intro j1 b3 a w ho_ g5 h
     rw [ho_] at G3
     have H := G3
     exact J2 (j1.1, j1.2.1, j1.2.2) b3 _ _ (som H).symm g5 (h.wr [0, 1, 2, 3])
    refine Go.seq ?_
    refine Go.reg ?_
    refine mv h rfl rfl fun h => ?_
    refine mv h rfl rfl fun h => ?_
    obtain ⟨x1, ex1, H⟩ := bindE H
    refine ga h (o_ix rfl rfl (rd_own 0 rfl) ex1 t_v26) rfl fun h => ?_
    refine gs h (o_lev rfl (rd_own 0 rfl) ex1 t_y42 (by decide)) rfl fun v2 _ _ h => ?_
    refine gs h (o_alloc (K := KLease) (z := (.agg #[.slice none 0 0, .int .u32 0, .int .i64 0])) rfl ZLease) rfl fun b3 _ _ h => ?_
    refine gs0 h (o_st 0 rfl rfl rfl (pv_at PLease 1 rfl) rfl t_w42) fun _ _ _ h => ?_
    refine GoR.done ?_
    refine Go.seq ?_
    refine Go.reg ?_
    refine mv h rfl rfl fun h => ?_
    refine gs h (o_ldv 0 rfl rfl PLease t_y42) rfl fun v3 _ _ h => ?_
    obtain ⟨r2, er2, H⟩ := bindE H
    refine ga h (OpS.lend (Lp := [Val KLease v3 x1, Pfl Kserver b2 0 a2, Pfl (Kd.eq (pt b2)) b1 0 ()]) (lent_cons (lent_per (Val.per PLease) 0 rfl) (lent_cons (lent_fld (ro_per Pserver) 4 rfl) (lent_cons (lent_per Per_pfl 5 rfl) lent_nil))) (o_callv (vs := [v3]) (caps := [pt b1]) rfl rfl (lease_server_release_1_at_p.spc v3 x1 b1 b2 a2 r2 er2) [0, 1, 2] [] (by decide) rfl rfl) (fun _ => clo_nil)) rfl fun h => ?_
    refine ga h (o_not rfl) rfl fun h => ?_
    refine GoR.done ?_
    by_cases c3 : (!r2) = true
    ·have H := ifT c3 H
     refine g_t h rfl c3 ?_
     refine Go.seq ?_
     refine Go.reg ?_
     refine mv h rfl rfl fun h => ?_
     refine mv h rfl rfl fun h => ?_
     refine gs h (o_ldv 1 rfl rfl PLease t_y42) rfl fun v4 _ _ h => ?_
     obtain ⟨x2, ex2, H⟩ := bindE H
     refine ga h (o_ix rfl rfl (rd_own 4 rfl) ex2 t_v26) rfl fun h => ?_
     obtain ⟨y2, ey2, H⟩ := ltE H
     refine gs0 h (o_ste 4 rfl rfl rfl (pv_at PLease 0 rfl) ex2 t_w42 (by decide)) fun _ _ _ h => ?_
     rw [ey2] at h
     refine GoR.done ?_
     refine Go.reg ?_
     refine mv h rfl rfl fun h => ?_
     refine ga h (o_bin rfl rfl rfl) rfl fun h => ?_
     obtain ⟨y3, ey3, H⟩ := ltE H
     refine ga h (o_assign' rfl (congrArg (fun z => Value.int .i64 z) ey3)) rfl fun h => ?_
     refine GoR.done ?_
     refine Go.inBlock ?_
     exact J1 (y2, y3, x1) b3 _ _ (som H).symm (ey3 ▸ (wrap_in _ _)) (h.wr [4, 2, 5, 6])
    ·have H := ifF c3 H
     refine g_f h rfl c3 ?_
     refine Go.skip ?_
     refine Go.inBlock ?_
     exact J1 (s1.1, s1.2.1, x1) b3 _ _ (som H).symm g2 (h.wr [3, 1, 4, 5])
   ·have H := ifF c2 H
    refine g_f h rfl c2 ?_
    refine Go.exit rfl ?_
    have e_ := som H; subst e_
    exact J3 (s1.1, s1.2.1) v1 _ _ (nx_out i1).symm g2 (h.wr [0, 1, 2])
  ·exact I_ _ _ g1 (ey1 ▸ (wrap_in _ _)) (h.wr [2, 3, 1])
def slices_DeleteFunc_s_api_Lease_api_Lease_at_lease_server_release_1_of_p.g (k_ : Nat) (a1 : List TLease) (a2 : Tserver) : Option ((List TLease) × Tserver) :=
  (slices_IndexFunc_s_api_Lease_api_Lease_at_lease_server_release_1_of_p.g k_ a1 a2).bind fun r1 => (if decide (r1 = (-1)) = true then some ((a1, a2)) else lt (IntKind.i64.wrap (r1 + 1)) fun y1 => (loopK k_ (fun s1 => (if decide (s1.2.2 < (s1.1.length : Int)) = true then (((idx s1.1 s1.2.2).bind fun x1 => (lease_server_release_1_at_p.g k_ x1 a2).bind fun r2 => (if (!r2) = true then (idx s1.1 s1.2.1).bind fun x2 => lt (s1.1.set s1.2.1.toNat x1) fun y2 => lt (IntKind.i64.wrap (s1.2.1 + 1)) fun y3 => some ((y2, y3, x1)) else some ((s1.1, s1.2.1, x1)))).bind (fun j1 => some ((j1.1, j1.2.1, j1.2.2)))).bind (fun j2 => lt (IntKind.i64.wrap (s1.2.2 + 1)) fun y4 => some (.inl (j2.1, j2.2.1, y4))) else some (.inr ((s1.1, s1.2.1))))) (a1, r1, y1)).bind (fun j3 => if inB j3.1 j3.2 (j3.1.length : Int) then (lt (Go.splice j3.1 j3.2.toNat (List.replicate ((j3.1.length : Int).toNat - j3.2.toNat) zLease)) fun y5 => (cut y5 0 j3.2).bind fun x3 => some ((x3, a2))) else none))
theorem slices_DeleteFunc_s_api_Lease_api_Lease_at_lease_server_release_1_of_p.le (k_ : Nat) (a1 : List TLease) (a2 : Tserver) : Le (slices_DeleteFunc_s_api_Lease_api_Lease_at_lease_server_release_1_of_p.g k_ a1 a2) (slices_DeleteFunc_s_api_Lease_api_Lease_at_lease_server_release_1_of_p.f a1 a2) := by
 unfold slices_DeleteFunc_s_api_Lease_api_Lease_at_lease_server_release_1_of_p.g slices_DeleteFunc_s_api_Lease_api_Lease_at_lease_server_release_1_of_p.f
 repeat' (first | with_reducible refine le_loop fun _ => ?_ | with_reducible refine le_bind ?_ fun _ => ?_ | with_reducible refine le_ite ?_ ?_ | with_reducible refine le_lt fun _ => ?_ | with_reducible refine le_elim (fun _ => ?_) (fun _ => ?_) _ | with_reducible apply lease_server_release_1_at_p.le | with_reducible apply slices_IndexFunc_s_api_Lease_api_Lease_at_lease_server_release_1_of_p.le | with_reducible exact le_refl _)
/-! (*drawbridge/lease.server).release -/
noncomputable def lease_server_release.f (a1 : Tserver) : Option (TDhcp × Bool × Tserver) :=
  (slices_Clone_s_api_Lease_api_Lease.f a1.l).bind fun r2 => (slices_DeleteFunc_s_api_Lease_api_Lease_at_lease_server_release_1_of_p.f r2 a1).bind fun r3 => lt (⟨r3.1, r3.2.now, r3.2.d⟩ : Tserver) fun y1 => some (((⟨0, 0, 0, 0, [], 0, 0, 0, 0, 0, 0, 0⟩ : TDhcp), false, y1))
set_option maxRecDepth 100000 in
set_option maxHeartbeats 4000000 in
theorem lease_server_release.spc (b1 : Nat) (a1 : Tserver) (r : TDhcp × Bool × Tserver) (H : lease_server_release.f a1 = some r) : Spc Try.prog 24 [pt b1] [] [Fld Kserver b1 0 a1] (fun (s : Value) => .tuple #[s, .bool r.2.1]) (fun s => [Val KDhcp s r.1, Fld Kserver b1 0 r.2.2]) := by
 unfold lease_server_release.f at H
 refine Spc.go Try.func24 rfl (by kernel_rfl) rfl rfl all_nil fun F a w h => ?_
 refine Go.seq ?_
 refine Go.reg ?_
 refine gs h (o_box (K := (Kd.eq (pt b1))) rfl (pv_eq rfl)) rfl fun b2 _ _ h => ?_
 refine gs h (o_alloc (K := KDhcp) (z := (.agg #[.int .i64 0, .int .u32 0, .int .u32 0, .int .u32 0, .slice none 0 0, .int .i64 0, .int .u32 0, .int .u32 0, .int .u32 0, .int .u32 0, .int .u32 0, .int .u32 0])) rfl ZDhcp) rfl fun b3 _ _ h => ?_
 refine ga h (o_assign rfl) rfl fun h => ?_
 refine GoR.done ?_
 refine Go.seq ?_
 replace h := h.mm fun m => m.frz Per_eq 1 rfl
 replace h := h.wq [(1, pt b2), (2, pt b3), (3, .bool false)] [Fld Kserver b1 0 a1, Fld KDhcp b3 0 zDhcp, Pfl (Kd.eq (pt b1)) b2 0 ()] [2, 0, 1]
 obtain ⟨r2, er2, H⟩ := bindE H
 obtain ⟨r3, er3, H⟩ := bindE H
 refine Go.draw (E := [(1, pt b2), (2, pt b3), (3, .bool false)]) [] (L := [Fld KDhcp b3 0 zDhcp, Pfl (Kd.eq (pt b1)) b2 0 ()]) h rfl rfl 8 [cn (pt b1), cn (pt b1), ce [1] (pt b1), ce [1, 2] (pt b1), cw [1, 2, 3] [8] [] fun u => [Val (Kd.sl KLease) u a1.l], cw [1, 2, 3, 4] [4] [] fun u => [Val (Kd.osl KLease) u r2], cn (.func (.func 55) #[] #[pt b2]), cw [1, 2, 3, 4, 5, 6] [5, 8] [5, 8] fun u => [Val (Kd.osl KLease) u r3.1, Fld Kserver b1 0 r3.2, Ent.nul, Ent.nul], cm [] [] [] undef fun u => [Fld Kserver b1 0 a1]] rfl t_mxo (by kernel_rfl) (by rfl) ?_ fun f2 _ _ h => ?_
 ·exact ox rfl (p_lfx (K := (Kd.eq (pt b1))) (A := (Kd.eq (pt b1))) (pr := fun x => x) (off := 0) 1 rfl rfl sub_self rfl X_eq t_y51) (ox rfl (p_lfx (K := (Kd.eq (pt b1))) (A := (Kd.eq (pt b1))) (pr := fun x => x) (off := 0) 1 rfl rfl sub_self rfl X_eq t_y51) (ox rfl (o_nilc rfl) (ox rfl (o_fa rfl t_f53_0 rfl rfl) (oy rfl (o_lfv 0 rfl rfl sserver_l rfl Per_sl t_y26) (ow rfl rfl rfl (fun f2 => (o_call (slices_Clone_s_api_Lease_api_Lease.spc (f2 4) a1.l r2 er2) rfl [0] [] (by decide) rfl rfl)) (ox rfl (o_makeFunc (vs := [pt b2]) rfl) (ow rfl rfl rfl (fun f2 => (o_call (slices_DeleteFunc_s_api_Lease_api_Lease_at_lease_server_release_1_of_p.spc (f2 5) r2 b2 b1 a1 r3 er3) rfl [3] [0, 1] (by decide) rfl rfl)) (obs_nil))))))))
 replace h := h.wk (E' := [(2, pt b3), (3, .bool false), (4, pt b1), (11, (f2 7))]) (L' := [Val (Kd.sl KLease) (f2 4) a1.l, Val (Kd.osl KLease) (f2 7) r3.1, Fld Kserver b1 0 r3.2, Ent.nul, Ent.nul, Fld KDhcp b3 0 zDhcp, Pfl (Kd.eq (pt b1)) b2 0 ()]) (by kernel_rfl) [0, 1, 2, 3, 4, 5, 6] (by decide) (by kernel_rfl)
 refine ga h (o_nilc rfl) rfl fun h => ?_
 refine ga h (o_fa rfl t_f53_0 rfl rfl) rfl fun h => ?_
 replace h := h.mm fun m => m.freeze 1 rfl
 obtain ⟨y1, ey1, H⟩ := ltE H
 refine gs0 h (o_stp (x0 := r3.2) (y := r3.1) 2 t_userver_0_1 rfl rfl rfl rfl (pv_at Per_sl 1 rfl) t_w26) fun _ _ _ h => ?_
 rw [ey1] at h
 refine GoR.done ?_
 refine Go.seq ?_
 refine Go.reg ?_
 refine gs h (o_build (K := KDhcp) (x := (⟨0, 0, 0, 0, [], 0, 0, 0, 0, 0, 0, 0⟩ : TDhcp)) (ps := []) rfl (zs := zsDhcp) rfl t_b28 rfl (show PB (Kd.pair (Kd.int .i64) (Kd.pair (Kd.int .u32) (Kd.pair (Kd.int .u32) (Kd.pair (Kd.int .u32) (Kd.pair (Kd.sl (Kd.int .u8)) (Kd.pair (Kd.int .i64) (Kd.pair (Kd.int .u32) (Kd.pair (Kd.int .u32) (Kd.pair (Kd.int .u32) (Kd.pair (Kd.int .u32) (Kd.pair (Kd.int .u32) (Kd.last (Kd.int .u32))))))))))))) (0, 0, 0, 0, [], 0, 0, 0, 0, 0, 0, 0) 0 zsDhcp _ _ from (pb_zero z_int (pb_zero z_int (pb_zero z_int (pb_zero z_int (pb_zero z_sl (pb_zero z_int (pb_zero z_int (pb_zero z_int (pb_zero z_int (pb_zero z_int (pb_zero z_int (pb_lastz z_int)))))))))))))) rfl fun v6 _ _ h => ?_
 refine gs0 h (o_st 6 rfl rfl rfl (pv_at PDhcp 0 rfl) rfl t_w28) fun _ _ _ h => ?_
 refine ga h (o_assign rfl) rfl fun h => ?_
 refine GoR.done ?_
 obtain ⟨v7, h, u1⟩ := h.peek 6 rfl PDhcp t_y28
 rw [← som H]
 exact g_ret (vs := [v7, .bool false]) h Try.func24 ⟨⟨_, rfl, u1⟩, ⟨rfl, trivial⟩⟩ ⟨v7, rfl, (h.mem.pick [0, 4] (by decide) rfl)⟩
def lease_server_release.g (k_ : Nat) (a1 : Tserver) : Option (TDhcp × Bool × Tserver) :=
  (slices_Clone_s_api_Lease_api_Lease.g k_ a1.l).bind fun r2 => (slices_DeleteFunc_s_api_Lease_api_Lease_at_lease_server_release_1_of_p.g k_ r2 a1).bind fun r3 => lt (⟨r3.1, r3.2.now, r3.2.d⟩ : Tserver) fun y1 => some (((⟨0, 0, 0, 0, [], 0, 0, 0, 0, 0, 0, 0⟩ : TDhcp), false, y1))
theorem lease_server_release.le (k_ : Nat) (a1 : Tserver) : Le (lease_server_release.g k_ a1) (lease_server_release.f a1) := by
 unfold lease_server_release.g lease_server_release.f
 repeat' (first | with_reducible refine le_loop fun _ => ?_ | with_reducible refine le_bind ?_ fun _ => ?_ | with_reducible refine le_ite ?_ ?_ | with_reducible refine le_lt fun _ => ?_ | with_reducible refine le_elim (fun _ => ?_) (fun _ => ?_) _ | with_reducible apply slices_Clone_s_api_Lease_api_Lease.le | with_reducible apply slices_DeleteFunc_s_api_Lease_api_Lease_at_lease_server_release_1_of_p.le | with_reducible exact le_refl _)
end Go.Proofs.Ytmmaojclfggioaa.S
