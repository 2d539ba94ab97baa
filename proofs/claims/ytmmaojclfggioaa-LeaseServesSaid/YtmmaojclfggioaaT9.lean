/- Contracts, printed by a program of this session. -/
import Derived.Test.YtmmaojclfggioaaT8
namespace Go.Proofs.Ytmmaojclfggioaa.S
open Go Go.SL Go.RowKit
set_option linter.unusedVariables false
set_option linter.unusedSimpArgs false
/-! drawbridge/drawbridgeref20.Put -/
noncomputable def ref20_Put.f (a1 : TDhcp) : Option ((List Int) × Int) :=
  ((if (!decide (a1.Op = 1)) = true then (if (!decide (a1.Op = 2)) = true then some (true) else (if (!decide ((a1.Mac.length : Int) = 6)) = true then some (true) else (if decide (a1.Type_ < 1) = true then some (true) else some (decide (8 < a1.Type_))))) else (if (!decide ((a1.Mac.length : Int) = 6)) = true then some (true) else (if decide (a1.Type_ < 1) = true then some (true) else some (decide (8 < a1.Type_)))))).bind (fun j1 => (if j1 = true then some (([], 2)) else (ref20_four.f a1.Xid).bind fun r1 => (app ([IntKind.u8.wrap a1.Op, 1, 6, 0] : List Int) r1).bind fun x1 => (app x1 ([0, 0, 0, 0] : List Int)).bind fun x2 => (ref20_four.f a1.Ci).bind fun r2 => (app x2 r2).bind fun x3 => (ref20_four.f a1.Yi).bind fun r3 => (app x3 r3).bind fun x4 => (mk 8 0).bind fun x5 => (app x4 x5).bind fun x6 => (app x6 a1.Mac).bind fun x7 => (mk 202 0).bind fun x8 => (app x7 x8).bind fun x9 => (app x9 ([99, 130, 83, 99, 53, 1, IntKind.u8.wrap a1.Type_] : List Int)).bind fun x10 => (loop (fun s1 => (if decide (s1.2 < (([50, 54, 51, 1, 3, 6] : List Int).length : Int)) = true then (idx ([50, 54, 51, 1, 3, 6] : List Int) s1.2).bind fun x11 => (idx ([a1.Want, a1.Server, a1.Lease, a1.Mask, a1.Router, a1.Dns] : List Int) s1.2).bind fun x12 => (ref20_option.f x11 x12).bind fun r4 => (app s1.1 r4).bind fun x13 => lt (IntKind.i64.wrap (s1.2 + 1)) fun y1 => some (.inl (x13, y1)) else some (.inr (s1.1)))) (x10, 0)).bind (fun j2 => (app j2 ([255] : List Int)).bind fun x14 => some ((x14, 0)))))
set_option maxRecDepth 100000 in
set_option maxHeartbeats 4000000 in
theorem ref20_Put.spc (v1 : Value) (a1 : TDhcp) (r : (List Int) × Int) (H : ref20_Put.f a1 = some r) : Spc Try.prog 29 [v1] [Val KDhcp v1 a1] [] (fun (s : Value) => .tuple #[s, .int .i64 r.2]) (fun s => [Ent.pur (InR .i64 r.2), Val (Kd.osl (Kd.int .u8)) s r.1]) := by
 unfold ref20_Put.f at H
 refine Spc.go Try.func29 rfl (by kernel_rfl) rfl rfl (all_cons (Val.per PDhcp) all_nil) fun F a w h => ?_
 refine Go.seq ?_
 refine Go.reg ?_
 refine gs h (o_box (K := KDhcp) rfl (pv_at PDhcp 0 rfl)) rfl fun b1 _ _ h => ?_
 refine ga h (o_assign rfl) rfl fun h => ?_
 refine ga h (o_assign rfl) rfl fun h => ?_
 refine GoR.done ?_
 refine Go.seq ?_
 refine Go.seq ?_
 obtain ⟨o1, H, G1⟩ := bindE H
 refine g_cut (fun G => ∀ j1 (a : Act) (w : World), o1 = j1 → St Try.f29.ntmps F [(1, pt b1), (31, .bool j1)] [Fld KDhcp b1 0 a1] a w → G a w) 1 ?_ fun J1 => ?_
 ·intro j1 a w ho_ h
  rw [ho_] at G1
  have H := G1
  by_cases c7 : j1 = true
  ·have H := ifT c7 H
   refine g_t h rfl c7 ?_
   refine Go.seq ?_
   refine Go.reg ?_
   refine ga h (o_assign rfl) rfl fun h => ?_
   refine ga h (o_assign rfl) rfl fun h => ?_
   refine GoR.done ?_
   replace h := h.mm fun m => m.nilo (Kd.int .u8)
   rw [← som H]
   exact g_ret (vs := [.slice none 0 0, .int .i64 2]) h Try.func29 ⟨rfl, ⟨rfl, trivial⟩⟩ ⟨.slice none 0 0, rfl, ((h.mem.pick [0] (by decide) rfl).addpur (show InR .i64 2 by decide))⟩
  ·have H := ifF c7 H
   refine g_f h rfl c7 ?_
   refine Go.skip ?_
   refine Go.seq ?_
   replace h := h.wq [(1, pt b1)] [Fld KDhcp b1 0 a1] [0]
   obtain ⟨r1, er1, H⟩ := bindE H
   refine Go.draw (E := [(1, pt b1)]) [] (L := [Fld KDhcp b1 0 a1]) h rfl rfl 7 [cn (pt b1), cm [0] [] [] (.int .i64 a1.Op) fun u => [Ent.pur (InR .i64 a1.Op)], ce [0, 1] (.int .u8 (IntKind.u8.wrap a1.Op)), cw [0, 1, 2] [] [] fun u => [Val (Kd.osl (Kd.int .u8)) u ([IntKind.u8.wrap a1.Op, 1, 6, 0] : List Int)], cn (.pointer (some ⟨b1, 1, none⟩)), cm [4] [] [] (.int .u32 a1.Xid) fun u => [Ent.pur (InR .u32 a1.Xid)], cw [4, 5] [5] [] fun u => [Val (Kd.osl (Kd.int .u8)) u r1]] rfl t_mxo (by kernel_rfl) (by rfl) ?_ fun f1 _ _ h => ?_
   ·exact ox rfl (o_fa rfl t_f28_0 rfl rfl) (ox rfl (OpS.pur (fun F w m_ => (in2 (fd_sub sDhcp_Op 0 rfl m_))) (o_lfx 0 rfl rfl sDhcp_Op rfl X_int t_y3)) (ox rfl (o_conv rfl t_q3 t_u5) (oy rfl (o_bs (K := (Kd.int .u8)) (vs := [.int .u8 (IntKind.u8.wrap a1.Op), .int .u8 1, .int .u8 6, .int .u8 0]) (xs := ([IntKind.u8.wrap a1.Op, 1, 6, 0] : List Int)) rfl rfl (pvs_cons (pv_int (wrap_in _ _)) (pvs_cons (pv_int (show InR .u8 1 by decide)) (pvs_cons (pv_int (show InR .u8 6 by decide)) (pvs_cons (pv_int (show InR .u8 0 by decide)) pvs_nil)))) t_a22 (by decide) (by decide)) (ox rfl (o_fa rfl t_f28_1 rfl rfl) (ox rfl (OpS.pur (fun F w m_ => (in2 (fd_sub sDhcp_Xid 0 rfl m_))) (o_lfx 0 rfl rfl sDhcp_Xid rfl X_int t_y25)) (oy rfl (OpS.fact (p := InR .u32 a1.Xid) (fun F w m_ => (Mem.pur 0 rfl m_)) fun g9 => (o_call (ref20_four.spc a1.Xid g9 r1 er1) rfl [] [] (by decide) rfl rfl)) (obs_nil)))))))
   replace h := h.wk (E' := [(1, pt b1), (35, (f1 3)), (38, (f1 6))]) (L' := [Ent.pur (InR .i64 a1.Op), Val (Kd.osl (Kd.int .u8)) (f1 3) ([IntKind.u8.wrap a1.Op, 1, 6, 0] : List Int), Ent.pur (InR .u32 a1.Xid), Val (Kd.osl (Kd.int .u8)) (f1 6) r1, Fld KDhcp b1 0 a1]) (by kernel_rfl) [0, 1, 2, 3, 4] (by decide) (by kernel_rfl)
   obtain ⟨x1, ex1, H⟩ := bindE H
   refine gs h (o_app (K := (Kd.int .u8)) 1 rfl rfl rfl (rd_own 3 rfl) ex1 t_a22 t_n22) rfl fun v6 _ _ h => ?_
   refine ga h (o_assign rfl) rfl fun h => ?_
   refine GoR.done ?_
   refine Go.seq ?_
   replace h := h.wq [(1, pt b1), (4, v6)] [Val (Kd.osl (Kd.int .u8)) v6 x1, Ent.pur (InR .i64 a1.Op), Ent.pur (InR .u32 a1.Xid), Val (Kd.osl (Kd.int .u8)) (f1 6) r1, Fld KDhcp b1 0 a1] [1, 0, 2, 3, 4]
   obtain ⟨x2, ex2, H⟩ := bindE H
   obtain ⟨r2, er2, H⟩ := bindE H
   obtain ⟨x3, ex3, H⟩ := bindE H
   refine Go.draw (E := [(1, pt b1), (4, v6)]) [] (L := [Ent.pur (InR .i64 a1.Op), Ent.pur (InR .u32 a1.Xid), Val (Kd.osl (Kd.int .u8)) (f1 6) r1, Fld KDhcp b1 0 a1]) h rfl rfl 9 [cn (v6), cw [] [] [] fun u => [Val (Kd.osl (Kd.int .u8)) u ([0, 0, 0, 0] : List Int)], cw [0, 1] [9, 1] [9] fun u => [Val (Kd.osl (Kd.int .u8)) u x2], cn (.pointer (some ⟨b1, 2, none⟩)), cm [3] [] [] (.int .u32 a1.Ci) fun u => [Ent.pur (InR .u32 a1.Ci)], cw [0, 1, 2, 3, 4] [4] [] fun u => [Val (Kd.osl (Kd.int .u8)) u r2], cw [0, 1, 2, 3, 4, 5] [2, 5] [2] fun u => [Val (Kd.osl (Kd.int .u8)) u x3], cn (.pointer (some ⟨b1, 3, none⟩)), cm [7] [] [] (.int .u32 a1.Yi) fun u => [Ent.pur (InR .u32 a1.Yi)], cm [] [] [] undef fun u => [Val (Kd.osl (Kd.int .u8)) v6 x1]] rfl t_mxo (by kernel_rfl) (by rfl) ?_ fun f2 _ _ h => ?_
   ·exact ox rfl (o_move rfl) (oy rfl (o_bs (K := (Kd.int .u8)) (vs := [.int .u8 0, .int .u8 0, .int .u8 0, .int .u8 0]) (xs := ([0, 0, 0, 0] : List Int)) rfl rfl (pvs_cons (pv_int (show InR .u8 0 by decide)) (pvs_cons (pv_int (show InR .u8 0 by decide)) (pvs_cons (pv_int (show InR .u8 0 by decide)) (pvs_cons (pv_int (show InR .u8 0 by decide)) pvs_nil)))) t_a22 (by decide) (by decide)) (oy rfl (o_app (K := (Kd.int .u8)) 0 rfl rfl rfl (rd_own 1 rfl) ex2 t_a22 t_n22) (ox rfl (o_fa rfl t_f28_2 rfl rfl) (ox rfl (OpS.pur (fun F w m_ => (in2 (fd_sub sDhcp_Ci 3 rfl m_))) (o_lfx 3 rfl rfl sDhcp_Ci rfl X_int t_y25)) (oy rfl (OpS.fact (p := InR .u32 a1.Ci) (fun F w m_ => (Mem.pur 0 rfl m_)) fun g10 => (o_call (ref20_four.spc a1.Ci g10 r2 er2) rfl [] [] (by decide) rfl rfl)) (oy rfl (o_app (K := (Kd.int .u8)) 0 rfl rfl rfl (rd_own 1 rfl) ex3 t_a22 t_n22) (ox rfl (o_fa rfl t_f28_3 rfl rfl) (ox rfl (OpS.pur (fun F w m_ => (in2 (fd_sub sDhcp_Yi 3 rfl m_))) (o_lfx 3 rfl rfl sDhcp_Yi rfl X_int t_y25)) (obs_nil)))))))))
   replace h := h.wk (E' := [(1, pt b1), (4, v6), (46, (f2 6)), (48, .int .u32 a1.Yi)]) (L' := [Val (Kd.osl (Kd.int .u8)) (f2 1) ([0, 0, 0, 0] : List Int), Ent.pur (InR .u32 a1.Ci), Val (Kd.osl (Kd.int .u8)) (f2 5) r2, Val (Kd.osl (Kd.int .u8)) (f2 6) x3, Ent.pur (InR .u32 a1.Yi), Ent.pur (InR .i64 a1.Op), Ent.pur (InR .u32 a1.Xid), Val (Kd.osl (Kd.int .u8)) (f1 6) r1, Fld KDhcp b1 0 a1]) (by kernel_rfl) [0, 1, 2, 3, 4, 5, 6, 7, 8] (by decide) (by kernel_rfl)
   have g11 := (Mem.pur 4 rfl h.mem)
   obtain ⟨r3, er3, H⟩ := bindE H
   refine gs h (o_call (ref20_four.spc a1.Yi g11 r3 er3) rfl [] [] (by decide) rfl rfl) rfl fun v11 _ _ h => ?_
   obtain ⟨x4, ex4, H⟩ := bindE H
   refine gs h (o_app (K := (Kd.int .u8)) 4 rfl rfl rfl (rd_own 0 rfl) ex4 t_a22 t_n22) rfl fun v12 _ _ h => ?_
   refine ga h (o_assign rfl) rfl fun h => ?_
   refine GoR.done ?_
   refine Go.seq ?_
   replace h := h.wq [(1, pt b1), (4, v12)] [Val (Kd.osl (Kd.int .u8)) v12 x4, Val (Kd.osl (Kd.int .u8)) v11 r3, Val (Kd.osl (Kd.int .u8)) (f2 1) ([0, 0, 0, 0] : List Int), Ent.pur (InR .u32 a1.Ci), Val (Kd.osl (Kd.int .u8)) (f2 5) r2, Ent.pur (InR .u32 a1.Yi), Ent.pur (InR .i64 a1.Op), Ent.pur (InR .u32 a1.Xid), Val (Kd.osl (Kd.int .u8)) (f1 6) r1, Fld KDhcp b1 0 a1] [4, 0, 1, 2, 3, 5, 6, 7, 8, 9]
   obtain ⟨x5, ex5, H⟩ := bindE H
   obtain ⟨x6, ex6, H⟩ := bindE H
   refine Go.draw (E := [(1, pt b1), (4, v12)]) [] (L := [Val (Kd.osl (Kd.int .u8)) v11 r3, Val (Kd.osl (Kd.int .u8)) (f2 1) ([0, 0, 0, 0] : List Int), Ent.pur (InR .u32 a1.Ci), Val (Kd.osl (Kd.int .u8)) (f2 5) r2, Ent.pur (InR .u32 a1.Yi), Ent.pur (InR .i64 a1.Op), Ent.pur (InR .u32 a1.Xid), Val (Kd.osl (Kd.int .u8)) (f1 6) r1, Fld KDhcp b1 0 a1]) h rfl rfl 4 [cn (v12), cw [0] [4] [4] fun u => [Val (Kd.osl (Kd.int .u8)) u x6], cn (.pointer (some ⟨b1, 4, none⟩)), cw [2] [] [] fun u => [Val (Kd.sl (Kd.int .u8)) u a1.Mac], cm [] [] [] undef fun u => [Val (Kd.osl (Kd.int .u8)) v12 x4]] rfl t_mxo (by kernel_rfl) (by rfl) ?_ fun f3 _ _ h => ?_
   ·exact ox rfl (o_move rfl) (oy rfl (o_appm (K := (Kd.int .u8)) 0 rfl rfl rfl ex5 ex6 t_a22 t_u3 (by decide) (fun e he => ⟨[.int .u8 0], by cases he; exact t_zc5, z_int⟩)) (ox rfl (o_fa rfl t_f28_4 rfl rfl) (oy rfl (o_lfv 8 rfl rfl sDhcp_Mac rfl Per_sl t_y22) (obs_nil))))
   replace h := h.wk (E' := [(1, pt b1), (4, v12), (52, (f3 1)), (54, (f3 3))]) (L' := [Val (Kd.osl (Kd.int .u8)) (f3 1) x6, Val (Kd.sl (Kd.int .u8)) (f3 3) a1.Mac, Val (Kd.osl (Kd.int .u8)) v11 r3, Val (Kd.osl (Kd.int .u8)) (f2 1) ([0, 0, 0, 0] : List Int), Ent.pur (InR .u32 a1.Ci), Val (Kd.osl (Kd.int .u8)) (f2 5) r2, Ent.pur (InR .u32 a1.Yi), Ent.pur (InR .i64 a1.Op), Ent.pur (InR .u32 a1.Xid), Val (Kd.osl (Kd.int .u8)) (f1 6) r1, Fld KDhcp b1 0 a1]) (by kernel_rfl) [0, 1, 2, 3, 4, 5, 6, 7, 8, 9, 10] (by decide) (by kernel_rfl)
   obtain ⟨x7, ex7, H⟩ := bindE H
   refine gs h (o_app (K := (Kd.int .u8)) 0 rfl rfl rfl (rd_at 1 rfl) ex7 t_a22 t_n22) rfl fun v15 _ _ h => ?_
   refine ga h (o_assign rfl) rfl fun h => ?_
   refine GoR.done ?_
   refine Go.seq ?_
   replace h := h.wq [(1, pt b1), (4, v15)] [Val (Kd.osl (Kd.int .u8)) v15 x7, Val (Kd.sl (Kd.int .u8)) (f3 3) a1.Mac, Val (Kd.osl (Kd.int .u8)) v11 r3, Val (Kd.osl (Kd.int .u8)) (f2 1) ([0, 0, 0, 0] : List Int), Ent.pur (InR .u32 a1.Ci), Val (Kd.osl (Kd.int .u8)) (f2 5) r2, Ent.pur (InR .u32 a1.Yi), Ent.pur (InR .i64 a1.Op), Ent.pur (InR .u32 a1.Xid), Val (Kd.osl (Kd.int .u8)) (f1 6) r1, Fld KDhcp b1 0 a1] [0, 1, 2, 3, 4, 5, 6, 7, 8, 9, 10]
   obtain ⟨x8, ex8, H⟩ := bindE H
   obtain ⟨x9, ex9, H⟩ := bindE H
   refine Go.draw (E := [(1, pt b1), (4, v15)]) [] (L := [Val (Kd.sl (Kd.int .u8)) (f3 3) a1.Mac, Val (Kd.osl (Kd.int .u8)) v11 r3, Val (Kd.osl (Kd.int .u8)) (f2 1) ([0, 0, 0, 0] : List Int), Ent.pur (InR .u32 a1.Ci), Val (Kd.osl (Kd.int .u8)) (f2 5) r2, Ent.pur (InR .u32 a1.Yi), Ent.pur (InR .i64 a1.Op), Ent.pur (InR .u32 a1.Xid), Val (Kd.osl (Kd.int .u8)) (f1 6) r1, Fld KDhcp b1 0 a1]) h rfl rfl 6 [cn (v15), cw [0] [6] [6] fun u => [Val (Kd.osl (Kd.int .u8)) u x9], cn (.pointer (some ⟨b1, 5, none⟩)), cm [2] [] [] (.int .i64 a1.Type_) fun u => [Ent.pur (InR .i64 a1.Type_)], ce [2, 3] (.int .u8 (IntKind.u8.wrap a1.Type_)), cw [2, 3, 4] [] [] fun u => [Val (Kd.osl (Kd.int .u8)) u ([99, 130, 83, 99, 53, 1, IntKind.u8.wrap a1.Type_] : List Int)], cm [] [] [] undef fun u => [Val (Kd.osl (Kd.int .u8)) v15 x7]] rfl t_mxo (by kernel_rfl) (by rfl) ?_ fun f4 _ _ h => ?_
   ·exact ox rfl (o_move rfl) (oy rfl (o_appm (K := (Kd.int .u8)) 0 rfl rfl rfl ex8 ex9 t_a22 t_u3 (by decide) (fun e he => ⟨[.int .u8 0], by cases he; exact t_zc5, z_int⟩)) (ox rfl (o_fa rfl t_f28_5 rfl rfl) (ox rfl (OpS.pur (fun F w m_ => (in2 (fd_sub sDhcp_Type_ 9 rfl m_))) (o_lfx 9 rfl rfl sDhcp_Type_ rfl X_int t_y3)) (ox rfl (o_conv rfl t_q3 t_u5) (oy rfl (o_bs (K := (Kd.int .u8)) (vs := [.int .u8 99, .int .u8 130, .int .u8 83, .int .u8 99, .int .u8 53, .int .u8 1, .int .u8 (IntKind.u8.wrap a1.Type_)]) (xs := ([99, 130, 83, 99, 53, 1, IntKind.u8.wrap a1.Type_] : List Int)) rfl rfl (pvs_cons (pv_int (show InR .u8 99 by decide)) (pvs_cons (pv_int (show InR .u8 130 by decide)) (pvs_cons (pv_int (show InR .u8 83 by decide)) (pvs_cons (pv_int (show InR .u8 99 by decide)) (pvs_cons (pv_int (show InR .u8 53 by decide)) (pvs_cons (pv_int (show InR .u8 1 by decide)) (pvs_cons (pv_int (wrap_in _ _)) pvs_nil))))))) t_a22 (by decide) (by decide)) (obs_nil))))))
   replace h := h.wk (E' := [(1, pt b1), (4, v15), (57, (f4 1)), (61, (f4 5))]) (L' := [Val (Kd.osl (Kd.int .u8)) (f4 1) x9, Ent.pur (InR .i64 a1.Type_), Val (Kd.osl (Kd.int .u8)) (f4 5) ([99, 130, 83, 99, 53, 1, IntKind.u8.wrap a1.Type_] : List Int), Val (Kd.sl (Kd.int .u8)) (f3 3) a1.Mac, Val (Kd.osl (Kd.int .u8)) v11 r3, Val (Kd.osl (Kd.int .u8)) (f2 1) ([0, 0, 0, 0] : List Int), Ent.pur (InR .u32 a1.Ci), Val (Kd.osl (Kd.int .u8)) (f2 5) r2, Ent.pur (InR .u32 a1.Yi), Ent.pur (InR .i64 a1.Op), Ent.pur (InR .u32 a1.Xid), Val (Kd.osl (Kd.int .u8)) (f1 6) r1, Fld KDhcp b1 0 a1]) (by kernel_rfl) [0, 1, 2, 3, 4, 5, 6, 7, 8, 9, 10, 11, 12] (by decide) (by kernel_rfl)
   obtain ⟨x10, ex10, H⟩ := bindE H
   refine gs h (o_app (K := (Kd.int .u8)) 0 rfl rfl rfl (rd_own 2 rfl) ex10 t_a22 t_n22) rfl fun v18 _ _ h => ?_
   refine ga h (o_assign rfl) rfl fun h => ?_
   refine GoR.done ?_
   refine Go.seq ?_
   refine Go.reg ?_
   refine gs h (o_bs (K := (Kd.int .u8)) (vs := [.int .u8 50, .int .u8 54, .int .u8 51, .int .u8 1, .int .u8 3, .int .u8 6]) (xs := ([50, 54, 51, 1, 3, 6] : List Int)) rfl rfl (pvs_cons (pv_int (show InR .u8 50 by decide)) (pvs_cons (pv_int (show InR .u8 54 by decide)) (pvs_cons (pv_int (show InR .u8 51 by decide)) (pvs_cons (pv_int (show InR .u8 1 by decide)) (pvs_cons (pv_int (show InR .u8 3 by decide)) (pvs_cons (pv_int (show InR .u8 6 by decide)) pvs_nil)))))) t_a22 (by decide) (by decide)) rfl fun v19 _ _ h => ?_
   refine ga h (o_assign rfl) rfl fun h => ?_
   refine GoR.done ?_
   refine Go.seq ?_
   refine Go.reg ?_
   refine ga h (o_fa rfl t_f28_6 rfl rfl) rfl fun h => ?_
   have g12 := (in2 (fd_sub sDhcp_Want 13 rfl h.mem))
   refine ga h (o_lfx 13 rfl rfl sDhcp_Want rfl X_int t_y25) rfl fun h => ?_
   refine ga h (o_fa rfl t_f28_7 rfl rfl) rfl fun h => ?_
   have g13 := (in2 (fd_sub sDhcp_Server 13 rfl h.mem))
   refine ga h (o_lfx 13 rfl rfl sDhcp_Server rfl X_int t_y25) rfl fun h => ?_
   refine ga h (o_fa rfl t_f28_8 rfl rfl) rfl fun h => ?_
   have g14 := (in2 (fd_sub sDhcp_Lease 13 rfl h.mem))
   refine ga h (o_lfx 13 rfl rfl sDhcp_Lease rfl X_int t_y25) rfl fun h => ?_
   refine ga h (o_fa rfl t_f28_9 rfl rfl) rfl fun h => ?_
   have g15 := (in2 (fd_sub sDhcp_Mask 13 rfl h.mem))
   refine ga h (o_lfx 13 rfl rfl sDhcp_Mask rfl X_int t_y25) rfl fun h => ?_
   refine ga h (o_fa rfl t_f28_10 rfl rfl) rfl fun h => ?_
   have g16 := (in2 (fd_sub sDhcp_Router 13 rfl h.mem))
   refine ga h (o_lfx 13 rfl rfl sDhcp_Router rfl X_int t_y25) rfl fun h => ?_
   refine ga h (o_fa rfl t_f28_11 rfl rfl) rfl fun h => ?_
   have g17 := (in2 (fd_sub sDhcp_Dns 13 rfl h.mem))
   refine ga h (o_lfx 13 rfl rfl sDhcp_Dns rfl X_int t_y25) rfl fun h => ?_
   refine gs h (o_bs (K := (Kd.int .u32)) (vs := [.int .u32 a1.Want, .int .u32 a1.Server, .int .u32 a1.Lease, .int .u32 a1.Mask, .int .u32 a1.Router, .int .u32 a1.Dns]) (xs := ([a1.Want, a1.Server, a1.Lease, a1.Mask, a1.Router, a1.Dns] : List Int)) rfl rfl (pvs_cons (pv_int g12) (pvs_cons (pv_int g13) (pvs_cons (pv_int g14) (pvs_cons (pv_int g15) (pvs_cons (pv_int g16) (pvs_cons (pv_int g17) pvs_nil)))))) t_a74 (by decide) (by decide)) rfl fun v20 _ _ h => ?_
   refine ga h (o_assign rfl) rfl fun h => ?_
   refine GoR.done ?_
   refine Go.seq ?_
   refine Go.seq ?_
   refine Go.reg ?_
   refine ga h (o_assign rfl) rfl fun h => ?_
   refine GoR.done ?_
   refine Go.block ?_
   obtain ⟨o2, hl, G2⟩ := bindE H
   refine g_cut (fun G => ∀ j2 (v24 : Value) (a : Act) (w : World), o2 = j2 → St Try.f29.ntmps F [(4, v24)] [Val (Kd.osl (Kd.int .u8)) v24 j2, Fld KDhcp b1 0 a1] a w → G a w) 2 ?_ fun J2 => ?_
   ·intro j2 v24 a w ho_ h
    rw [ho_] at G2
    have H := G2
    refine Go.seq ?_
    refine Go.reg ?_
    refine mv h rfl rfl fun h => ?_
    refine gs h (o_bs (K := (Kd.int .u8)) (vs := [.int .u8 255]) (xs := ([255] : List Int)) rfl rfl (pvs_cons (pv_int (show InR .u8 255 by decide)) pvs_nil) t_a22 (by decide) (by decide)) rfl fun v25 _ _ h => ?_
    obtain ⟨x14, ex14, H⟩ := bindE H
    refine gs h (o_app (K := (Kd.int .u8)) 1 rfl rfl rfl (rd_own 0 rfl) ex14 t_a22 t_n22) rfl fun v26 _ _ h => ?_
    refine ga h (o_assign rfl) rfl fun h => ?_
    refine ga h (o_assign rfl) rfl fun h => ?_
    refine GoR.done ?_
    rw [← som H]
    exact g_ret (vs := [v26, .int .i64 0]) h Try.func29 ⟨rfl, ⟨rfl, trivial⟩⟩ ⟨v26, rfl, ((h.mem.pick [1] (by decide) rfl).addpur (show InR .i64 0 by decide))⟩
   refine g_loop (fun s1 G => ∀ (v21 : Value) (a : Act) (w : World), InR .i64 s1.2 → St Try.f29.ntmps F [(4, v21), (5, v19), (6, v20), (7, .int .i64 s1.2)] [Val (Kd.osl (Kd.int .u8)) v21 s1.1, Val (Kd.osl (Kd.int .u8)) v19 ([50, 54, 51, 1, 3, 6] : List Int), Val (Kd.osl (Kd.int .u32)) v20 ([a1.Want, a1.Server, a1.Lease, a1.Mask, a1.Router, a1.Dns] : List Int), Fld KDhcp b1 0 a1] a w → G a w) hl (fun s1 p1 H i1 => ?_) fun I_ => ?_
   ·intro v21 a w g18 h
    refine Go.seq ?_
    refine Go.seq ?_
    refine Go.reg ?_
    refine mv h rfl rfl fun h => ?_
    refine mv h rfl rfl fun h => ?_
    have g19 := (len_own 1 rfl h.mem)
    refine ga h (o_ln rfl (rd_own 1 rfl) t_v22) rfl fun h => ?_
    refine ga h (o_bin rfl rfl rfl) rfl fun h => ?_
    refine GoR.done ?_
    by_cases c8 : decide (s1.2 < (([50, 54, 51, 1, 3, 6] : List Int).length : Int)) = true
    ·have H := ifT c8 H
     refine g_t h rfl c8 ?_
     refine Go.skip ?_
     refine Go.seq ?_
     refine Go.block ?_
     replace h := h.wq [(4, v21), (5, v19), (6, v20), (7, .int .i64 s1.2)] [Val (Kd.osl (Kd.int .u8)) v21 s1.1, Val (Kd.osl (Kd.int .u8)) v19 ([50, 54, 51, 1, 3, 6] : List Int), Val (Kd.osl (Kd.int .u32)) v20 ([a1.Want, a1.Server, a1.Lease, a1.Mask, a1.Router, a1.Dns] : List Int), Fld KDhcp b1 0 a1] [0, 1, 2, 3]
     obtain ⟨x11, ex11, H⟩ := bindE H
     obtain ⟨x12, ex12, H⟩ := bindE H
     obtain ⟨r4, er4, H⟩ := bindE H
     refine Go.draw (E := [(4, v21), (5, v19), (6, v20), (7, .int .i64 s1.2)]) [] (L := [Val (Kd.osl (Kd.int .u8)) v21 s1.1, Val (Kd.osl (Kd.int .u8)) v19 ([50, 54, 51, 1, 3, 6] : List Int), Val (Kd.osl (Kd.int .u32)) v20 ([a1.Want, a1.Server, a1.Lease, a1.Mask, a1.Router, a1.Dns] : List Int), Fld KDhcp b1 0 a1]) h rfl rfl 10 [cn (v21), cn (v19), cn (.int .i64 s1.2), ce [1, 2] (elemP v19 (s1.2.toNat * Kd.n (Kd.int .u8))), cm [1, 2, 3] [] [] (.int .u8 x11) fun u => [Ent.pur (InR .u8 x11)], cn (v20), cn (.int .i64 s1.2), ce [5, 6] (elemP v20 (s1.2.toNat * Kd.n (Kd.int .u32))), cm [5, 6, 7] [] [] (.int .u32 x12) fun u => [Ent.pur (InR .u32 x12)], cw [1, 2, 3, 4, 5, 6, 7, 8] [4, 8] [] fun u => [Val (Kd.osl (Kd.int .u8)) u r4]] rfl t_mxo (by kernel_rfl) (by rfl) ?_ fun f5 _ _ h => ?_
     ·exact ox rfl (o_move rfl) (ox rfl (o_move rfl) (ox rfl (o_move rfl) (ox rfl (o_ix rfl rfl (rd_own 1 rfl) ex11 t_v22) (ox rfl (OpS.pur (fun F w m_ => (rd_inr (rd_own 1 rfl) ex11 m_)) (o_lex rfl (rd_own 1 rfl) ex11 X_int t_y5 (by decide))) (ox rfl (o_move rfl) (ox rfl (o_move rfl) (ox rfl (o_ix rfl rfl (rd_own 2 rfl) ex12 t_v74) (ox rfl (OpS.pur (fun F w m_ => (rd_inr (rd_own 2 rfl) ex12 m_)) (o_lex rfl (rd_own 2 rfl) ex12 X_int t_y25 (by decide))) (oy rfl (OpS.fact (p := InR .u8 x11) (fun F w m_ => (Mem.pur 0 rfl m_)) fun g20 => (OpS.fact (p := InR .u32 x12) (fun F w m_ => (Mem.pur 1 rfl m_)) fun g21 => (o_call (ref20_option.spc x11 g20 x12 g21 r4 er4) rfl [] [] (by decide) rfl rfl))) (obs_nil))))))))))
     replace h := h.wk (E' := [(4, v21), (5, v19), (6, v20), (7, .int .i64 s1.2), (83, v21), (92, (f5 9))]) (L' := [Ent.pur (InR .u8 x11), Ent.pur (InR .u32 x12), Val (Kd.osl (Kd.int .u8)) (f5 9) r4, Val (Kd.osl (Kd.int .u8)) v21 s1.1, Val (Kd.osl (Kd.int .u8)) v19 ([50, 54, 51, 1, 3, 6] : List Int), Val (Kd.osl (Kd.int .u32)) v20 ([a1.Want, a1.Server, a1.Lease, a1.Mask, a1.Router, a1.Dns] : List Int), Fld KDhcp b1 0 a1]) (by kernel_rfl) [0, 1, 2, 3, 4, 5, 6] (by decide) (by kernel_rfl)
     obtain ⟨x13, ex13, H⟩ := bindE H
     refine gs h (o_app (K := (Kd.int .u8)) 3 rfl rfl rfl (rd_own 2 rfl) ex13 t_a22 t_n22) rfl fun v23 _ _ h => ?_
     refine ga h (o_assign rfl) rfl fun h => ?_
     refine GoR.done ?_
     refine Go.inBlock ?_
     refine Go.reg ?_
     refine mv h rfl rfl fun h => ?_
     refine ga h (o_bin rfl rfl rfl) rfl fun h => ?_
     obtain ⟨y1, ey1, H⟩ := ltE H
     refine ga h (o_assign' rfl (congrArg (fun z => Value.int .i64 z) ey1)) rfl fun h => ?_
     refine GoR.done ?_
     have e_ := som H; subst e_
     exact Go.inLoop (nx_in i1 v23 _ _ (ey1 ▸ (wrap_in _ _)) (h.wr [3, 4, 5, 6]))
    ·have H := ifF c8 H
     refine g_f h rfl c8 ?_
     refine Go.exit rfl ?_
     have e_ := som H; subst e_
     exact J2 s1.1 v21 _ _ (nx_out i1).symm (h.wr [0, 3])
   ·exact I_ v18 _ _ (show InR .i64 0 by decide) (h.wr [2, 1, 0, 14])
 refine Go.reg ?_
 refine ga h (o_fa rfl t_f28_0 rfl rfl) rfl fun h => ?_
 have g1 := (in2 (fd_sub sDhcp_Op 0 rfl h.mem))
 refine ga h (o_lfx 0 rfl rfl sDhcp_Op rfl X_int t_y3) rfl fun h => ?_
 refine ga h (o_bin rfl rfl rfl) rfl fun h => ?_
 refine mv h rfl rfl fun h => ?_
 by_cases c1 : (!decide (a1.Op = 1)) = true
 ·have H := ifT c1 H
  refine gg h rfl rfl c1 (o_fa rfl t_f28_0 rfl rfl) rfl fun _ _ _ h => ?_
  have g2 := (in2 (fd_sub sDhcp_Op 0 rfl h.mem))
  refine gg h rfl rfl c1 (o_lfx 0 rfl rfl sDhcp_Op rfl X_int t_y3) rfl fun _ _ _ h => ?_
  refine gg h rfl rfl c1 (o_bin rfl rfl rfl) rfl fun _ _ _ h => ?_
  refine ga h (o_pickT rfl rfl c1) rfl fun h => ?_
  refine mv h rfl rfl fun h => ?_
  by_cases c2 : (!decide (a1.Op = 2)) = true
  ·have H := ifT c2 H
   iterate 4 (refine gk h rfl rfl (nb_t c2) rfl fun _ h => ?_)
   refine ga h (o_pickT rfl rfl c2) rfl fun h => ?_
   refine mv h rfl rfl fun h => ?_
   iterate 3 (refine gk h rfl rfl (nb_t rfl) rfl fun _ h => ?_)
   refine ga h (o_pickT rfl rfl rfl) rfl fun h => ?_
   refine mv h rfl rfl fun h => ?_
   iterate 3 (refine gk h rfl rfl (nb_t rfl) rfl fun _ h => ?_)
   refine ga h (o_pickT rfl rfl rfl) rfl fun h => ?_
   refine GoR.done ?_
   exact J1 true _ _ (som H).symm (h.wr [0])
  ·have H := ifF c2 H
   refine gg h rfl rfl (nbF c2) (o_fa rfl t_f28_4 rfl rfl) rfl fun _ _ _ h => ?_
   refine gg h rfl rfl (nbF c2) (o_lfv 0 rfl rfl sDhcp_Mac rfl Per_sl t_y22) rfl fun v2 _ _ h => ?_
   have g3 := (len_at 0 rfl h.mem)
   refine gg h rfl rfl (nbF c2) (o_ln rfl (rd_at 0 rfl) t_v22) rfl fun _ _ _ h => ?_
   refine gg h rfl rfl (nbF c2) (o_bin rfl rfl rfl) rfl fun _ _ _ h => ?_
   refine ga h (o_pickF rfl rfl c2) rfl fun h => ?_
   refine mv h rfl rfl fun h => ?_
   by_cases c3 : (!decide ((a1.Mac.length : Int) = 6)) = true
   ·have H := ifT c3 H
    iterate 3 (refine gk h rfl rfl (nb_t c3) rfl fun _ h => ?_)
    refine ga h (o_pickT rfl rfl c3) rfl fun h => ?_
    refine mv h rfl rfl fun h => ?_
    iterate 3 (refine gk h rfl rfl (nb_t rfl) rfl fun _ h => ?_)
    refine ga h (o_pickT rfl rfl rfl) rfl fun h => ?_
    refine GoR.done ?_
    exact J1 true _ _ (som H).symm (h.wr [1])
   ·have H := ifF c3 H
    refine gg h rfl rfl (nbF c3) (o_fa rfl t_f28_5 rfl rfl) rfl fun _ _ _ h => ?_
    have g4 := (in2 (fd_sub sDhcp_Type_ 1 rfl h.mem))
    refine gg h rfl rfl (nbF c3) (o_lfx 1 rfl rfl sDhcp_Type_ rfl X_int t_y3) rfl fun _ _ _ h => ?_
    refine gg h rfl rfl (nbF c3) (o_bin rfl rfl rfl) rfl fun _ _ _ h => ?_
    refine ga h (o_pickF rfl rfl c3) rfl fun h => ?_
    refine mv h rfl rfl fun h => ?_
    by_cases c4 : decide (a1.Type_ < 1) = true
    ·have H := ifT c4 H
     iterate 3 (refine gk h rfl rfl (nb_t c4) rfl fun _ h => ?_)
     refine ga h (o_pickT rfl rfl c4) rfl fun h => ?_
     refine GoR.done ?_
     exact J1 true _ _ (som H).symm (h.wr [1])
    ·have H := ifF c4 H
     refine gg h rfl rfl (nbF c4) (o_fa rfl t_f28_5 rfl rfl) rfl fun _ _ _ h => ?_
     have g5 := (in2 (fd_sub sDhcp_Type_ 1 rfl h.mem))
     refine gg h rfl rfl (nbF c4) (o_lfx 1 rfl rfl sDhcp_Type_ rfl X_int t_y3) rfl fun _ _ _ h => ?_
     refine gg h rfl rfl (nbF c4) (o_bin rfl rfl rfl) rfl fun _ _ _ h => ?_
     refine ga h (o_pickF rfl rfl c4) rfl fun h => ?_
     refine GoR.done ?_
     exact J1 (decide (8 < a1.Type_)) _ _ (som H).symm (h.wr [1])
 ·have H := ifF c1 H
  iterate 3 (refine gk h rfl rfl (nb_f c1) rfl fun _ h => ?_)
  refine ga h (o_pickF rfl rfl c1) rfl fun h => ?_
  refine mv h rfl rfl fun h => ?_
  refine gg h rfl rfl (nbF Bool.false_ne_true) (o_fa rfl t_f28_4 rfl rfl) rfl fun _ _ _ h => ?_
  refine gg h rfl rfl (nbF Bool.false_ne_true) (o_lfv 0 rfl rfl sDhcp_Mac rfl Per_sl t_y22) rfl fun v3 _ _ h => ?_
  have g6 := (len_at 0 rfl h.mem)
  refine gg h rfl rfl (nbF Bool.false_ne_true) (o_ln rfl (rd_at 0 rfl) t_v22) rfl fun _ _ _ h => ?_
  refine gg h rfl rfl (nbF Bool.false_ne_true) (o_bin rfl rfl rfl) rfl fun _ _ _ h => ?_
  refine ga h (o_pickF rfl rfl Bool.false_ne_true) rfl fun h => ?_
  refine mv h rfl rfl fun h => ?_
  by_cases c5 : (!decide ((a1.Mac.length : Int) = 6)) = true
  ·have H := ifT c5 H
   iterate 3 (refine gk h rfl rfl (nb_t c5) rfl fun _ h => ?_)
   refine ga h (o_pickT rfl rfl c5) rfl fun h => ?_
   refine mv h rfl rfl fun h => ?_
   iterate 3 (refine gk h rfl rfl (nb_t rfl) rfl fun _ h => ?_)
   refine ga h (o_pickT rfl rfl rfl) rfl fun h => ?_
   refine GoR.done ?_
   exact J1 true _ _ (som H).symm (h.wr [1])
  ·have H := ifF c5 H
   refine gg h rfl rfl (nbF c5) (o_fa rfl t_f28_5 rfl rfl) rfl fun _ _ _ h => ?_
   have g7 := (in2 (fd_sub sDhcp_Type_ 1 rfl h.mem))
   refine gg h rfl rfl (nbF c5) (o_lfx 1 rfl rfl sDhcp_Type_ rfl X_int t_y3) rfl fun _ _ _ h => ?_
   refine gg h rfl rfl (nbF c5) (o_bin rfl rfl rfl) rfl fun _ _ _ h => ?_
   refine ga h (o_pickF rfl rfl c5) rfl fun h => ?_
   refine mv h rfl rfl fun h => ?_
   by_cases c6 : decide (a1.Type_ < 1) = true
   ·have H := ifT c6 H
    iterate 3 (refine gk h rfl rfl (nb_t c6) rfl fun _ h => ?_)
    refine ga h (o_pickT rfl rfl c6) rfl fun h => ?_
    refine GoR.done ?_
    exact J1 true _ _ (som H).symm (h.wr [1])
   ·have H := ifF c6 H
    refine gg h rfl rfl (nbF c6) (o_fa rfl t_f28_5 rfl rfl) rfl fun _ _ _ h => ?_
    have g8 := (in2 (fd_sub sDhcp_Type_ 1 rfl h.mem))
    refine gg h rfl rfl (nbF c6) (o_lfx 1 rfl rfl sDhcp_Type_ rfl X_int t_y3) rfl fun _ _ _ h => ?_
    refine gg h rfl rfl (nbF c6) (o_bin rfl rfl rfl) rfl fun _ _ _ h => ?_
    refine ga h (o_pickF rfl rfl c6) rfl fun h => ?_
    refine GoR.done ?_
    exact J1 (decide (8 < a1.Type_)) _ _ (som H).symm (h.wr [1])
def ref20_Put.g (k_ : Nat) (a1 : TDhcp) : Option ((List Int) × Int) :=
  ((if (!decide (a1.Op = 1)) = true then (if (!decide (a1.Op = 2)) = true then some (true) else (if (!decide ((a1.Mac.length : Int) = 6)) = true then some (true) else (if decide (a1.Type_ < 1) = true then some (true) else some (decide (8 < a1.Type_))))) else (if (!decide ((a1.Mac.length : Int) = 6)) = true then some (true) else (if decide (a1.Type_ < 1) = true then some (true) else some (decide (8 < a1.Type_)))))).bind (fun j1 => (if j1 = true then some (([], 2)) else (ref20_four.g k_ a1.Xid).bind fun r1 => (app ([IntKind.u8.wrap a1.Op, 1, 6, 0] : List Int) r1).bind fun x1 => (app x1 ([0, 0, 0, 0] : List Int)).bind fun x2 => (ref20_four.g k_ a1.Ci).bind fun r2 => (app x2 r2).bind fun x3 => (ref20_four.g k_ a1.Yi).bind fun r3 => (app x3 r3).bind fun x4 => (mk 8 0).bind fun x5 => (app x4 x5).bind fun x6 => (app x6 a1.Mac).bind fun x7 => (mk 202 0).bind fun x8 => (app x7 x8).bind fun x9 => (app x9 ([99, 130, 83, 99, 53, 1, IntKind.u8.wrap a1.Type_] : List Int)).bind fun x10 => (loopK k_ (fun s1 => (if decide (s1.2 < (([50, 54, 51, 1, 3, 6] : List Int).length : Int)) = true then (idx ([50, 54, 51, 1, 3, 6] : List Int) s1.2).bind fun x11 => (idx ([a1.Want, a1.Server, a1.Lease, a1.Mask, a1.Router, a1.Dns] : List Int) s1.2).bind fun x12 => (ref20_option.g k_ x11 x12).bind fun r4 => (app s1.1 r4).bind fun x13 => lt (IntKind.i64.wrap (s1.2 + 1)) fun y1 => some (.inl (x13, y1)) else some (.inr (s1.1)))) (x10, 0)).bind (fun j2 => (app j2 ([255] : List Int)).bind fun x14 => some ((x14, 0)))))
theorem ref20_Put.le (k_ : Nat) (a1 : TDhcp) : Le (ref20_Put.g k_ a1) (ref20_Put.f a1) := by
 unfold ref20_Put.g ref20_Put.f
 repeat' (first | with_reducible refine le_loop fun _ => ?_ | with_reducible refine le_bind ?_ fun _ => ?_ | with_reducible refine le_ite ?_ ?_ | with_reducible refine le_lt fun _ => ?_ | with_reducible refine le_elim (fun _ => ?_) (fun _ => ?_) _ | with_reducible apply ref20_four.le | with_reducible apply ref20_option.le | with_reducible exact le_refl _)
/-! drawbridge/drawbridgeref25.pool -/
noncomputable def ref25_pool.f (a1 : Int) : Option (Bool) :=
  ((if decide (167772687 ≤ a1) = true then lt (decide (a1 < 167772695)) fun y1 => some (y1) else some (false))).bind (fun j1 => some (j1))
set_option maxRecDepth 100000 in
set_option maxHeartbeats 4000000 in
theorem ref25_pool.spc (a1 : Int) (ha1 : InR .u32 a1) (r : Bool) (H : ref25_pool.f a1 = some r) : Spc Try.prog 39 [.int .u32 a1] [] [] (fun (s : Unit) => .bool r) (fun s => []) := by
 unfold ref25_pool.f at H
 refine Spc.go Try.func39 rfl (by kernel_rfl) rfl rfl all_nil fun F a w h => ?_
 refine Go.seq ?_
 refine Go.reg ?_
 refine ga h (o_assign rfl) rfl fun h => ?_
 refine GoR.done ?_
 refine Go.seq ?_
 obtain ⟨o1, H, G1⟩ := bindE H
 refine g_cut (fun G => ∀ j1 (a : Act) (w : World), o1 = j1 → St Try.f39.ntmps F [(2, .bool j1)] [] a w → G a w) 1 ?_ fun J1 => ?_
 ·intro j1 a w ho_ h
  rw [ho_] at G1
  have H := G1
  rw [← som H]
  exact g_ret (vs := [.bool j1]) h Try.func39 ⟨rfl, trivial⟩ ⟨(), rfl, (h.mem.pick [] (by decide) rfl)⟩
 refine Go.reg ?_
 refine mv h rfl rfl fun h => ?_
 refine ga h (o_bin rfl rfl rfl) rfl fun h => ?_
 refine mv h rfl rfl fun h => ?_
 by_cases c1 : decide (167772687 ≤ a1) = true
 ·have H := ifT c1 H
  refine gg h rfl rfl c1 (o_move rfl) rfl fun _ _ _ h => ?_
  refine gg h rfl rfl c1 (o_bin rfl rfl rfl) rfl fun _ _ _ h => ?_
  refine ga h (o_pickT rfl rfl c1) rfl fun h => ?_
  obtain ⟨y1, ey1, H⟩ := ltE H
  refine ga h (o_assign' rfl (congrArg Value.bool ey1)) rfl fun h => ?_
  refine GoR.done ?_
  exact J1 y1 _ _ (som H).symm (h.wr [])
 ·have H := ifF c1 H
  refine gk h rfl rfl (nb_f c1) rfl fun _ h => ?_
  refine gk h rfl rfl (nb_f c1) rfl fun _ h => ?_
  refine ga h (o_pickF rfl rfl c1) rfl fun h => ?_
  refine ga h (o_assign rfl) rfl fun h => ?_
  refine GoR.done ?_
  exact J1 false _ _ (som H).symm (h.wr [])
def ref25_pool.g (k_ : Nat) (a1 : Int) : Option (Bool) :=
  ((if decide (167772687 ≤ a1) = true then lt (decide (a1 < 167772695)) fun y1 => some (y1) else some (false))).bind (fun j1 => some (j1))
theorem ref25_pool.le (k_ : Nat) (a1 : Int) : Le (ref25_pool.g k_ a1) (ref25_pool.f a1) := by
 unfold ref25_pool.g ref25_pool.f
 repeat' (first | with_reducible refine le_loop fun _ => ?_ | with_reducible refine le_bind ?_ fun _ => ?_ | with_reducible refine le_ite ?_ ?_ | with_reducible refine le_lt fun _ => ?_ | with_reducible refine le_elim (fun _ => ?_) (fun _ => ?_) _ | with_reducible exact le_refl _)
end Go.Proofs.Ytmmaojclfggioaa.S
