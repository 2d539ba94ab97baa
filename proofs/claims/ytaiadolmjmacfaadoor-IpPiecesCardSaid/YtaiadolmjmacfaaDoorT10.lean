/- Contracts, printed by a program of this session. -/
import Derived.Test.YtaiadolmjmacfaaDoorT9
namespace Go.Proofs.YtaiadolmjmacfaaDoor.S
open Go Go.SL Go.RowKit
set_option linter.unusedVariables false
set_option linter.unusedSimpArgs false
/-! drawbridge/drawbridgeref17.Put -/
noncomputable def ref17_Put.f (a1 : TIp) : Option ((List Int) × Int) :=
  (ref17_right.f a1).bind fun r1 => (if (!r1) = true then some (([], 2)) else lt (IntKind.i64.wrap (20 + (a1.Options.length : Int))) fun y1 => (ref17_two.f (IntKind.i64.wrap (y1 + (a1.Data.length : Int)))).bind fun r2 => (app ([IntKind.u8.wrap (IntKind.i64.wrap (64 + (IntKind.i64.wrap (Int.tdiv y1 4)))), IntKind.u8.wrap a1.Tos] : List Int) r2).bind fun x1 => (ref17_two.f a1.Id).bind fun r3 => (app x1 r3).bind fun x2 => (ref17_two.f (IntKind.i64.wrap ((IntKind.i64.wrap (a1.Flags * 8192)) + a1.Off))).bind fun r4 => (app x2 r4).bind fun x3 => (app x3 ([IntKind.u8.wrap a1.Ttl, IntKind.u8.wrap a1.Proto, 0, 0] : List Int)).bind fun x4 => (ref01_Put.f a1.Src 4 true).bind fun r5 => (app x4 r5).bind fun x5 => (ref01_Put.f a1.Dst 4 true).bind fun r6 => (app x5 r6).bind fun x6 => (app x6 a1.Options).bind fun x7 => (ref15_Patch.f x7 10).bind fun r7 => (app r7 a1.Data).bind fun x8 => some ((x8, 0)))
set_option maxRecDepth 100000 in
set_option maxHeartbeats 4000000 in
theorem ref17_Put.spc (v1 : Value) (a1 : TIp) (r : (List Int) × Int) (H : ref17_Put.f a1 = some r) : Spc Tryd.prog 9 [v1] [Val KIp v1 a1] [] (fun (s : Value) => .tuple #[s, .int .i64 r.2]) (fun s => [Ent.pur (InR .i64 r.2), Val (Kd.osl (Kd.int .u8)) s r.1]) := by
 unfold ref17_Put.f at H
 refine Spc.go Tryd.func9 rfl (by kernel_rfl) rfl rfl (all_cons (Val.per PIp) all_nil) fun F a w h => ?_
 refine Go.seq ?_
 refine Go.reg ?_
 refine gs h (o_box (K := KIp) rfl (pv_at PIp 0 rfl)) rfl fun b1 _ _ h => ?_
 refine gs h (o_assign rfl) rfl fun _ _ _ h => ?_
 refine gs h (o_assign rfl) rfl fun _ _ _ h => ?_
 refine GoR.done ?_
 refine Go.seq ?_
 refine Go.seq ?_
 refine Go.reg ?_
 refine gs h (o_ldv 0 rfl rfl PIp t_y25) rfl fun v2 _ _ h => ?_
 obtain ⟨r1, er1, H⟩ := bindE H
 refine gs h (o_call (ref17_right.spc v2 a1 r1 er1) rfl [0] [] (by decide) rfl rfl) rfl fun _ _ _ h => ?_
 refine gs h (o_not rfl) rfl fun _ _ _ h => ?_
 refine GoR.done ?_
 by_cases c1 : (!r1) = true
 ·have H := ifT c1 H
  refine g_t h rfl c1 ?_
  refine Go.seq ?_
  refine Go.reg ?_
  refine gs h (o_assign rfl) rfl fun _ _ _ h => ?_
  refine gs h (o_assign rfl) rfl fun _ _ _ h => ?_
  refine GoR.done ?_
  replace h := h.mm fun m => m.nilo (Kd.int .u8)
  rw [← som H]
  exact g_ret (vs := [.slice none 0 0, .int .i64 2]) h Tryd.func9 ⟨rfl, ⟨rfl, trivial⟩⟩ ⟨.slice none 0 0, rfl, ((h.mem.pick [0] (by decide) rfl).addpur (show InR .i64 2 by decide))⟩
 ·have H := ifF c1 H
  refine g_f h rfl c1 ?_
  refine Go.skip ?_
  refine Go.seq ?_
  refine Go.reg ?_
  refine gs h (o_fa rfl t_f25_8 rfl rfl) rfl fun _ _ _ h => ?_
  refine gs h (o_lfv 1 rfl rfl sIp_Options rfl Per_sl t_y23) rfl fun v3 _ _ h => ?_
  have g1 := (len_at 0 rfl h.mem)
  refine gs h (o_ln rfl (rd_at 0 rfl) t_v23) rfl fun _ _ _ h => ?_
  refine gs h (o_bin rfl rfl rfl) rfl fun _ _ _ h => ?_
  obtain ⟨y1, ey1, H⟩ := ltE H
  refine gs h (o_assign' rfl (congrArg (fun z => Value.int .i64 z) ey1)) rfl fun _ _ _ h => ?_
  refine GoR.done ?_
  refine Go.seq ?_
  replace h := h.wk (E' := [(1, .pointer (some ⟨b1, 0, none⟩)), (2, .slice none 0 0), (3, .int .i64 0), (4, .int .i64 y1)]) (L' := [Val (Kd.sl (Kd.int .u8)) v3 a1.Options, Val KIp v2 a1, Fld KIp b1 0 a1, Val KIp v1 a1]) (by rfl) [0, 1, 2, 3] (by decide) (by rfl)
  obtain ⟨r2, er2, H⟩ := bindE H
  refine Go.draw (E := [(1, .pointer (some ⟨b1, 0, none⟩)), (2, .slice none 0 0), (3, .int .i64 0), (4, .int .i64 y1)]) [] (L := [Val (Kd.sl (Kd.int .u8)) v3 a1.Options, Val KIp v2 a1, Fld KIp b1 0 a1, Val KIp v1 a1]) h rfl rfl 14 [⟨[], [], [], false, .con (.int .i64 y1), none, fun u => [], []⟩, ⟨[0], [], [], false, .con (.int .i64 (IntKind.i64.wrap (Int.tdiv y1 4))), none, fun u => [], []⟩, ⟨[0, 1], [], [], false, .con (.int .i64 (IntKind.i64.wrap (64 + (IntKind.i64.wrap (Int.tdiv y1 4))))), none, fun u => [], []⟩, ⟨[0, 1, 2], [], [], false, .con (.int .u8 (IntKind.u8.wrap (IntKind.i64.wrap (64 + (IntKind.i64.wrap (Int.tdiv y1 4)))))), none, fun u => [], []⟩, ⟨[], [], [], false, .con (.pointer (some ⟨b1, 0, none⟩)), none, fun u => [], []⟩, ⟨[4], [], [], false, .con (.int .i64 a1.Tos), none, fun u => [Ent.pur (InR .i64 a1.Tos)], []⟩, ⟨[4, 5], [], [], false, .con (.int .u8 (IntKind.u8.wrap a1.Tos)), none, fun u => [], []⟩, ⟨[0, 1, 2, 3, 4, 5, 6], [], [], false, .own, none, fun u => [Val (Kd.osl (Kd.int .u8)) u ([IntKind.u8.wrap (IntKind.i64.wrap (64 + (IntKind.i64.wrap (Int.tdiv y1 4)))), IntKind.u8.wrap a1.Tos] : List Int)], []⟩, ⟨[], [], [], false, .con (.int .i64 y1), none, fun u => [], []⟩, ⟨[], [], [], false, .con (.pointer (some ⟨b1, 9, none⟩)), none, fun u => [], []⟩, ⟨[9], [], [], false, .own, none, fun u => [Val (Kd.sl (Kd.int .u8)) u a1.Data], []⟩, ⟨[9, 10], [10], [], false, .con (.int .i64 (a1.Data.length : Int)), none, fun u => [], []⟩, ⟨[8, 9, 10, 11], [], [], false, .con (.int .i64 (IntKind.i64.wrap (y1 + (a1.Data.length : Int)))), none, fun u => [], []⟩, ⟨[8, 9, 10, 11, 12], [], [], false, .own, none, fun u => [Val (Kd.osl (Kd.int .u8)) u r2], []⟩] rfl t_mxo (by kernel_rfl) (by rfl) ?_ fun f1 _ _ h => ?_
  ·exact obs_cons (ob_con rfl (gok_none rfl) rfl fun f1 => (o_move rfl)) (obs_cons (ob_con rfl (gok_none rfl) rfl fun f1 => (o_quo rfl rfl (show (4 : Int) ≠ 0 by decide))) (obs_cons (ob_con rfl (gok_none rfl) rfl fun f1 => (o_bin rfl rfl rfl)) (obs_cons (ob_con rfl (gok_none rfl) rfl fun f1 => (o_conv rfl t_q3 t_u5)) (obs_cons (ob_con rfl (gok_none rfl) rfl fun f1 => (o_fa rfl t_f25_0 rfl rfl)) (obs_cons (ob_con rfl (gok_none rfl) rfl fun f1 => (OpS.pur (fun F w m_ => (in2 (fd_sub sIp_Tos 2 rfl m_))) (o_lfx 2 rfl rfl sIp_Tos rfl X_int t_y3))) (obs_cons (ob_con rfl (gok_none rfl) rfl fun f1 => (o_conv rfl t_q3 t_u5)) (obs_cons (ob_own rfl (gok_none rfl) rfl fun f1 => (o_bs (K := (Kd.int .u8)) (vs := [.int .u8 (IntKind.u8.wrap (IntKind.i64.wrap (64 + (IntKind.i64.wrap (Int.tdiv y1 4))))), .int .u8 (IntKind.u8.wrap a1.Tos)]) (xs := ([IntKind.u8.wrap (IntKind.i64.wrap (64 + (IntKind.i64.wrap (Int.tdiv y1 4)))), IntKind.u8.wrap a1.Tos] : List Int)) rfl rfl (pvs_cons (pv_int (wrap_in _ _)) (pvs_cons (pv_int (wrap_in _ _)) pvs_nil)) t_a23 (by decide) (by decide))) (obs_cons (ob_con rfl (gok_none rfl) rfl fun f1 => (o_move rfl)) (obs_cons (ob_con rfl (gok_none rfl) rfl fun f1 => (o_fa rfl t_f25_9 rfl rfl)) (obs_cons (ob_own rfl (gok_none rfl) rfl fun f1 => (o_lfv 2 rfl rfl sIp_Data rfl Per_sl t_y23)) (obs_cons (ob_con rfl (gok_none rfl) rfl fun f1 => (o_ln rfl (rd_at 0 rfl) t_v23)) (obs_cons (ob_con rfl (gok_none rfl) rfl fun f1 => (o_bin rfl rfl rfl)) (obs_cons (ob_own rfl (gok_none rfl) rfl fun f1 => (o_call (ref17_two.spc (IntKind.i64.wrap (y1 + (a1.Data.length : Int))) (wrap_in _ _) r2 er2) rfl [] [] (by decide) rfl rfl)) (obs_nil))))))))))))))
  replace h := h.wk (E' := [(1, .pointer (some ⟨b1, 0, none⟩)), (2, .slice none 0 0), (3, .int .i64 0), (20, (f1 7)), (26, (f1 13))]) (L' := [Ent.pur (InR .i64 a1.Tos), Val (Kd.osl (Kd.int .u8)) (f1 7) ([IntKind.u8.wrap (IntKind.i64.wrap (64 + (IntKind.i64.wrap (Int.tdiv y1 4)))), IntKind.u8.wrap a1.Tos] : List Int), Val (Kd.sl (Kd.int .u8)) (f1 10) a1.Data, Val (Kd.osl (Kd.int .u8)) (f1 13) r2, Val (Kd.sl (Kd.int .u8)) v3 a1.Options, Val KIp v2 a1, Fld KIp b1 0 a1, Val KIp v1 a1]) (by kernel_rfl) [0, 1, 2, 3, 4, 5, 6, 7] (by decide) (by kernel_rfl)
  obtain ⟨x1, ex1, H⟩ := bindE H
  refine gs h (o_app (K := (Kd.int .u8)) 1 rfl rfl rfl (rd_own 3 rfl) ex1 t_a23 t_n23) rfl fun v7 _ _ h => ?_
  refine gs h (o_assign rfl) rfl fun _ _ _ h => ?_
  refine GoR.done ?_
  refine Go.seq ?_
  replace h := h.wk (E' := [(1, .pointer (some ⟨b1, 0, none⟩)), (2, .slice none 0 0), (3, .int .i64 0), (5, v7)]) (L' := [Val (Kd.osl (Kd.int .u8)) v7 x1, Ent.pur (InR .i64 a1.Tos), Val (Kd.sl (Kd.int .u8)) (f1 10) a1.Data, Val (Kd.osl (Kd.int .u8)) (f1 13) r2, Val (Kd.sl (Kd.int .u8)) v3 a1.Options, Val KIp v2 a1, Fld KIp b1 0 a1, Val KIp v1 a1]) (by rfl) [1, 0, 2, 3, 4, 5, 6, 7] (by decide) (by rfl)
  obtain ⟨r3, er3, H⟩ := bindE H
  obtain ⟨x2, ex2, H⟩ := bindE H
  refine Go.draw (E := [(1, .pointer (some ⟨b1, 0, none⟩)), (2, .slice none 0 0), (3, .int .i64 0), (5, v7)]) [] (L := [Ent.pur (InR .i64 a1.Tos), Val (Kd.sl (Kd.int .u8)) (f1 10) a1.Data, Val (Kd.osl (Kd.int .u8)) (f1 13) r2, Val (Kd.sl (Kd.int .u8)) v3 a1.Options, Val KIp v2 a1, Fld KIp b1 0 a1, Val KIp v1 a1]) h rfl rfl 11 [⟨[], [], [], false, .con (v7), none, fun u => [], []⟩, ⟨[], [], [], false, .con (.pointer (some ⟨b1, 1, none⟩)), none, fun u => [], []⟩, ⟨[1], [], [], false, .con (.int .i64 a1.Id), none, fun u => [Ent.pur (InR .i64 a1.Id)], []⟩, ⟨[1, 2], [2], [], false, .own, none, fun u => [Val (Kd.osl (Kd.int .u8)) u r3], []⟩, ⟨[0, 1, 2, 3], [11, 3], [11], false, .own, none, fun u => [Val (Kd.osl (Kd.int .u8)) u x2], []⟩, ⟨[], [], [], false, .con (.pointer (some ⟨b1, 2, none⟩)), none, fun u => [], []⟩, ⟨[5], [], [], false, .con (.int .i64 a1.Flags), none, fun u => [Ent.pur (InR .i64 a1.Flags)], []⟩, ⟨[5, 6], [], [], false, .con (.int .i64 (IntKind.i64.wrap (a1.Flags * 8192))), none, fun u => [], []⟩, ⟨[], [], [], false, .con (.pointer (some ⟨b1, 3, none⟩)), none, fun u => [], []⟩, ⟨[8], [], [], false, .con (.int .i64 a1.Off), none, fun u => [Ent.pur (InR .i64 a1.Off)], []⟩, ⟨[5, 6, 7, 8, 9], [], [], false, .con (.int .i64 (IntKind.i64.wrap ((IntKind.i64.wrap (a1.Flags * 8192)) + a1.Off))), none, fun u => [], []⟩, ⟨[], [], [], false, .con undef, none, fun u => [Val (Kd.osl (Kd.int .u8)) v7 x1], []⟩] rfl t_mxo (by kernel_rfl) (by rfl) ?_ fun f2 _ _ h => ?_
  ·exact obs_cons (ob_con rfl (gok_none rfl) rfl fun f2 => (o_move rfl)) (obs_cons (ob_con rfl (gok_none rfl) rfl fun f2 => (o_fa rfl t_f25_1 rfl rfl)) (obs_cons (ob_con rfl (gok_none rfl) rfl fun f2 => (OpS.pur (fun F w m_ => (in2 (fd_sub sIp_Id 5 rfl m_))) (o_lfx 5 rfl rfl sIp_Id rfl X_int t_y3))) (obs_cons (ob_own rfl (gok_none rfl) rfl fun f2 => (OpS.fact (p := InR .i64 a1.Id) (fun F w m_ => (Mem.pur 0 rfl m_)) fun g2 => (o_call (ref17_two.spc a1.Id g2 r3 er3) rfl [] [] (by decide) rfl rfl))) (obs_cons (ob_own rfl (gok_none rfl) rfl fun f2 => (o_app (K := (Kd.int .u8)) 0 rfl rfl rfl (rd_own 1 rfl) ex2 t_a23 t_n23)) (obs_cons (ob_con rfl (gok_none rfl) rfl fun f2 => (o_fa rfl t_f25_2 rfl rfl)) (obs_cons (ob_con rfl (gok_none rfl) rfl fun f2 => (OpS.pur (fun F w m_ => (in2 (fd_sub sIp_Flags 5 rfl m_))) (o_lfx 5 rfl rfl sIp_Flags rfl X_int t_y3))) (obs_cons (ob_con rfl (gok_none rfl) rfl fun f2 => (o_bin rfl rfl rfl)) (obs_cons (ob_con rfl (gok_none rfl) rfl fun f2 => (o_fa rfl t_f25_3 rfl rfl)) (obs_cons (ob_con rfl (gok_none rfl) rfl fun f2 => (OpS.pur (fun F w m_ => (in2 (fd_sub sIp_Off 5 rfl m_))) (o_lfx 5 rfl rfl sIp_Off rfl X_int t_y3))) (obs_cons (ob_con rfl (gok_none rfl) rfl fun f2 => (o_bin rfl rfl rfl)) (obs_nil)))))))))))
  replace h := h.wk (E' := [(1, .pointer (some ⟨b1, 0, none⟩)), (2, .slice none 0 0), (3, .int .i64 0), (5, v7), (32, (f2 4)), (38, .int .i64 (IntKind.i64.wrap ((IntKind.i64.wrap (a1.Flags * 8192)) + a1.Off)))]) (L' := [Ent.pur (InR .i64 a1.Id), Val (Kd.osl (Kd.int .u8)) (f2 3) r3, Val (Kd.osl (Kd.int .u8)) (f2 4) x2, Ent.pur (InR .i64 a1.Flags), Ent.pur (InR .i64 a1.Off), Ent.pur (InR .i64 a1.Tos), Val (Kd.sl (Kd.int .u8)) (f1 10) a1.Data, Val (Kd.osl (Kd.int .u8)) (f1 13) r2, Val (Kd.sl (Kd.int .u8)) v3 a1.Options, Val KIp v2 a1, Fld KIp b1 0 a1, Val KIp v1 a1]) (by kernel_rfl) [0, 1, 2, 3, 4, 5, 6, 7, 8, 9, 10, 11] (by decide) (by kernel_rfl)
  obtain ⟨r4, er4, H⟩ := bindE H
  refine gs h (o_call (ref17_two.spc (IntKind.i64.wrap ((IntKind.i64.wrap (a1.Flags * 8192)) + a1.Off)) (wrap_in _ _) r4 er4) rfl [] [] (by decide) rfl rfl) rfl fun v10 _ _ h => ?_
  obtain ⟨x3, ex3, H⟩ := bindE H
  refine gs h (o_app (K := (Kd.int .u8)) 3 rfl rfl rfl (rd_own 0 rfl) ex3 t_a23 t_n23) rfl fun v11 _ _ h => ?_
  refine gs h (o_assign rfl) rfl fun _ _ _ h => ?_
  refine GoR.done ?_
  refine Go.seq ?_
  refine Go.reg ?_
  refine gs h (o_move rfl) rfl fun _ _ _ h => ?_
  refine gs h (o_fa rfl t_f25_4 rfl rfl) rfl fun _ _ _ h => ?_
  have g3 := (in2 (fd_sub sIp_Ttl 11 rfl h.mem))
  refine gs h (o_lfx 11 rfl rfl sIp_Ttl rfl X_int t_y3) rfl fun _ _ _ h => ?_
  refine gs h (o_conv rfl t_q3 t_u5) rfl fun _ _ _ h => ?_
  refine gs h (o_fa rfl t_f25_5 rfl rfl) rfl fun _ _ _ h => ?_
  have g4 := (in2 (fd_sub sIp_Proto 11 rfl h.mem))
  refine gs h (o_lfx 11 rfl rfl sIp_Proto rfl X_int t_y3) rfl fun _ _ _ h => ?_
  refine gs h (o_conv rfl t_q3 t_u5) rfl fun _ _ _ h => ?_
  refine gs h (o_bs (K := (Kd.int .u8)) (vs := [.int .u8 (IntKind.u8.wrap a1.Ttl), .int .u8 (IntKind.u8.wrap a1.Proto), .int .u8 0, .int .u8 0]) (xs := ([IntKind.u8.wrap a1.Ttl, IntKind.u8.wrap a1.Proto, 0, 0] : List Int)) rfl rfl (pvs_cons (pv_int (wrap_in _ _)) (pvs_cons (pv_int (wrap_in _ _)) (pvs_cons (pv_int (show InR .u8 0 by decide)) (pvs_cons (pv_int (show InR .u8 0 by decide)) pvs_nil)))) t_a23 (by decide) (by decide)) rfl fun v12 _ _ h => ?_
  obtain ⟨x4, ex4, H⟩ := bindE H
  refine gs h (o_app (K := (Kd.int .u8)) 4 rfl rfl rfl (rd_own 0 rfl) ex4 t_a23 t_n23) rfl fun v13 _ _ h => ?_
  refine gs h (o_assign rfl) rfl fun _ _ _ h => ?_
  refine GoR.done ?_
  refine Go.seq ?_
  replace h := h.wk (E' := [(1, .pointer (some ⟨b1, 0, none⟩)), (2, .slice none 0 0), (3, .int .i64 0), (5, v13)]) (L' := [Val (Kd.osl (Kd.int .u8)) v13 x4, Val (Kd.osl (Kd.int .u8)) v12 ([IntKind.u8.wrap a1.Ttl, IntKind.u8.wrap a1.Proto, 0, 0] : List Int), Val (Kd.osl (Kd.int .u8)) v10 r4, Ent.pur (InR .i64 a1.Id), Val (Kd.osl (Kd.int .u8)) (f2 3) r3, Ent.pur (InR .i64 a1.Flags), Ent.pur (InR .i64 a1.Off), Ent.pur (InR .i64 a1.Tos), Val (Kd.sl (Kd.int .u8)) (f1 10) a1.Data, Val (Kd.osl (Kd.int .u8)) (f1 13) r2, Val (Kd.sl (Kd.int .u8)) v3 a1.Options, Val KIp v2 a1, Fld KIp b1 0 a1, Val KIp v1 a1]) (by rfl) [4, 0, 1, 2, 3, 5, 6, 7, 8, 9, 10, 11, 12, 13] (by decide) (by rfl)
  obtain ⟨r5, er5, H⟩ := bindE H
  obtain ⟨x5, ex5, H⟩ := bindE H
  refine Go.draw (E := [(1, .pointer (some ⟨b1, 0, none⟩)), (2, .slice none 0 0), (3, .int .i64 0), (5, v13)]) [] (L := [Val (Kd.osl (Kd.int .u8)) v12 ([IntKind.u8.wrap a1.Ttl, IntKind.u8.wrap a1.Proto, 0, 0] : List Int), Val (Kd.osl (Kd.int .u8)) v10 r4, Ent.pur (InR .i64 a1.Id), Val (Kd.osl (Kd.int .u8)) (f2 3) r3, Ent.pur (InR .i64 a1.Flags), Ent.pur (InR .i64 a1.Off), Ent.pur (InR .i64 a1.Tos), Val (Kd.sl (Kd.int .u8)) (f1 10) a1.Data, Val (Kd.osl (Kd.int .u8)) (f1 13) r2, Val (Kd.sl (Kd.int .u8)) v3 a1.Options, Val KIp v2 a1, Fld KIp b1 0 a1, Val KIp v1 a1]) h rfl rfl 9 [⟨[], [], [], false, .con (v13), none, fun u => [], []⟩, ⟨[], [], [], false, .con (.pointer (some ⟨b1, 6, none⟩)), none, fun u => [], []⟩, ⟨[1], [], [], false, .con (.int .u32 a1.Src), none, fun u => [Ent.pur (InR .u32 a1.Src)], []⟩, ⟨[1, 2], [2], [], false, .con (.int .u64 a1.Src), none, fun u => [], []⟩, ⟨[1, 2, 3], [2], [], false, .own, none, fun u => [Val (Kd.osl (Kd.int .u8)) u r5], []⟩, ⟨[0, 1, 2, 3, 4], [9, 4], [9], false, .own, none, fun u => [Val (Kd.osl (Kd.int .u8)) u x5], []⟩, ⟨[], [], [], false, .con (.pointer (some ⟨b1, 7, none⟩)), none, fun u => [], []⟩, ⟨[6], [], [], false, .con (.int .u32 a1.Dst), none, fun u => [Ent.pur (InR .u32 a1.Dst)], []⟩, ⟨[6, 7], [7], [], false, .con (.int .u64 a1.Dst), none, fun u => [], []⟩, ⟨[], [], [], false, .con undef, none, fun u => [Val (Kd.osl (Kd.int .u8)) v13 x4], []⟩] rfl t_mxo (by kernel_rfl) (by rfl) ?_ fun f3 _ _ h => ?_
  ·exact obs_cons (ob_con rfl (gok_none rfl) rfl fun f3 => (o_move rfl)) (obs_cons (ob_con rfl (gok_none rfl) rfl fun f3 => (o_fa rfl t_f25_6 rfl rfl)) (obs_cons (ob_con rfl (gok_none rfl) rfl fun f3 => (OpS.pur (fun F w m_ => (in2 (fd_sub sIp_Src 11 rfl m_))) (o_lfx 11 rfl rfl sIp_Src rfl X_int t_y22))) (obs_cons (ob_con rfl (gok_none rfl) rfl fun f3 => (OpS.fact (p := InR .u32 a1.Src) (fun F w m_ => (Mem.pur 0 rfl m_)) fun g5 => (o_convw rfl t_q22 t_u49 g5 rfl))) (obs_cons (ob_own rfl (gok_none rfl) rfl fun f3 => (OpS.fact (p := InR .u64 a1.Src) (fun F w m_ => (inr_wid (k := .u32) (k' := .u64) (Mem.pur 0 rfl m_) rfl)) fun g6 => (o_call (ref01_Put.spc a1.Src g6 4 (show InR .i64 4 by decide) true r5 er5) rfl [] [] (by decide) rfl rfl))) (obs_cons (ob_own rfl (gok_none rfl) rfl fun f3 => (o_app (K := (Kd.int .u8)) 0 rfl rfl rfl (rd_own 1 rfl) ex5 t_a23 t_n23)) (obs_cons (ob_con rfl (gok_none rfl) rfl fun f3 => (o_fa rfl t_f25_7 rfl rfl)) (obs_cons (ob_con rfl (gok_none rfl) rfl fun f3 => (OpS.pur (fun F w m_ => (in2 (fd_sub sIp_Dst 11 rfl m_))) (o_lfx 11 rfl rfl sIp_Dst rfl X_int t_y22))) (obs_cons (ob_con rfl (gok_none rfl) rfl fun f3 => (OpS.fact (p := InR .u32 a1.Dst) (fun F w m_ => (Mem.pur 0 rfl m_)) fun g7 => (o_convw rfl t_q22 t_u49 g7 rfl))) (obs_nil)))))))))
  replace h := h.wk (E' := [(1, .pointer (some ⟨b1, 0, none⟩)), (2, .slice none 0 0), (3, .int .i64 0), (5, v13), (55, (f3 5)), (58, .int .u64 a1.Dst)]) (L' := [Ent.pur (InR .u32 a1.Src), Val (Kd.osl (Kd.int .u8)) (f3 4) r5, Val (Kd.osl (Kd.int .u8)) (f3 5) x5, Ent.pur (InR .u32 a1.Dst), Val (Kd.osl (Kd.int .u8)) v12 ([IntKind.u8.wrap a1.Ttl, IntKind.u8.wrap a1.Proto, 0, 0] : List Int), Val (Kd.osl (Kd.int .u8)) v10 r4, Ent.pur (InR .i64 a1.Id), Val (Kd.osl (Kd.int .u8)) (f2 3) r3, Ent.pur (InR .i64 a1.Flags), Ent.pur (InR .i64 a1.Off), Ent.pur (InR .i64 a1.Tos), Val (Kd.sl (Kd.int .u8)) (f1 10) a1.Data, Val (Kd.osl (Kd.int .u8)) (f1 13) r2, Val (Kd.sl (Kd.int .u8)) v3 a1.Options, Val KIp v2 a1, Fld KIp b1 0 a1, Val KIp v1 a1]) (by kernel_rfl) [0, 1, 2, 3, 4, 5, 6, 7, 8, 9, 10, 11, 12, 13, 14, 15, 16] (by decide) (by kernel_rfl)
  have g8 := (inr_wid (k := .u32) (k' := .u64) (Mem.pur 3 rfl h.mem) rfl)
  obtain ⟨r6, er6, H⟩ := bindE H
  refine gs h (o_call (ref01_Put.spc a1.Dst g8 4 (show InR .i64 4 by decide) true r6 er6) rfl [] [] (by decide) rfl rfl) rfl fun v16 _ _ h => ?_
  obtain ⟨x6, ex6, H⟩ := bindE H
  refine gs h (o_app (K := (Kd.int .u8)) 3 rfl rfl rfl (rd_own 0 rfl) ex6 t_a23 t_n23) rfl fun v17 _ _ h => ?_
  refine gs h (o_assign rfl) rfl fun _ _ _ h => ?_
  refine GoR.done ?_
  refine Go.seq ?_
  refine Go.reg ?_
  refine gs h (o_move rfl) rfl fun _ _ _ h => ?_
  refine gs h (o_fa rfl t_f25_8 rfl rfl) rfl fun _ _ _ h => ?_
  refine gs h (o_lfv 16 rfl rfl sIp_Options rfl Per_sl t_y23) rfl fun v18 _ _ h => ?_
  obtain ⟨x7, ex7, H⟩ := bindE H
  refine gs h (o_app (K := (Kd.int .u8)) 4 rfl rfl rfl (rd_at 0 rfl) ex7 t_a23 t_n23) rfl fun v19 _ _ h => ?_
  replace h := h.mm fun m => m.freeze 4 rfl
  obtain ⟨r7, er7, H⟩ := bindE H
  refine gs h (o_call (ref15_Patch.spc v19 x7 10 (show InR .i64 10 by decide) r7 er7) rfl [4] [] (by decide) rfl rfl) rfl fun v20 _ _ h => ?_
  refine gs h (o_assign rfl) rfl fun _ _ _ h => ?_
  refine GoR.done ?_
  refine Go.seq ?_
  refine Go.reg ?_
  refine gs h (o_move rfl) rfl fun _ _ _ h => ?_
  refine gs h (o_fa rfl t_f25_9 rfl rfl) rfl fun _ _ _ h => ?_
  refine gs h (o_lfv 18 rfl rfl sIp_Data rfl Per_sl t_y23) rfl fun v21 _ _ h => ?_
  obtain ⟨x8, ex8, H⟩ := bindE H
  refine gs h (o_app (K := (Kd.int .u8)) 1 rfl rfl rfl (rd_at 0 rfl) ex8 t_a23 t_n23) rfl fun v22 _ _ h => ?_
  refine gs h (o_assign rfl) rfl fun _ _ _ h => ?_
  refine gs h (o_assign rfl) rfl fun _ _ _ h => ?_
  refine GoR.done ?_
  rw [← som H]
  exact g_ret (vs := [v22, .int .i64 0]) h Tryd.func9 ⟨rfl, ⟨rfl, trivial⟩⟩ ⟨v22, rfl, ((h.mem.pick [1] (by decide) rfl).addpur (show InR .i64 0 by decide))⟩
def ref17_Put.g (k_ : Nat) (a1 : TIp) : Option ((List Int) × Int) :=
  (ref17_right.g k_ a1).bind fun r1 => (if (!r1) = true then some (([], 2)) else lt (IntKind.i64.wrap (20 + (a1.Options.length : Int))) fun y1 => (ref17_two.g k_ (IntKind.i64.wrap (y1 + (a1.Data.length : Int)))).bind fun r2 => (app ([IntKind.u8.wrap (IntKind.i64.wrap (64 + (IntKind.i64.wrap (Int.tdiv y1 4)))), IntKind.u8.wrap a1.Tos] : List Int) r2).bind fun x1 => (ref17_two.g k_ a1.Id).bind fun r3 => (app x1 r3).bind fun x2 => (ref17_two.g k_ (IntKind.i64.wrap ((IntKind.i64.wrap (a1.Flags * 8192)) + a1.Off))).bind fun r4 => (app x2 r4).bind fun x3 => (app x3 ([IntKind.u8.wrap a1.Ttl, IntKind.u8.wrap a1.Proto, 0, 0] : List Int)).bind fun x4 => (ref01_Put.g k_ a1.Src 4 true).bind fun r5 => (app x4 r5).bind fun x5 => (ref01_Put.g k_ a1.Dst 4 true).bind fun r6 => (app x5 r6).bind fun x6 => (app x6 a1.Options).bind fun x7 => (ref15_Patch.g k_ x7 10).bind fun r7 => (app r7 a1.Data).bind fun x8 => some ((x8, 0)))
theorem ref17_Put.le (k_ : Nat) (a1 : TIp) : Le (ref17_Put.g k_ a1) (ref17_Put.f a1) := by
 unfold ref17_Put.g ref17_Put.f
 repeat' (first | with_reducible refine le_loop fun _ => ?_ | with_reducible refine le_bind ?_ fun _ => ?_ | with_reducible refine le_ite ?_ ?_ | with_reducible refine le_lt fun _ => ?_ | with_reducible refine le_elim (fun _ => ?_) (fun _ => ?_) _ | with_reducible apply ref01_Put.le | with_reducible apply ref15_Patch.le | with_reducible apply ref17_right.le | with_reducible apply ref17_two.le | with_reducible exact le_refl _)
/-! drawbridge/drawbridgeref15.Right -/
noncomputable def ref15_Right.f (a1 : List Int) : Option (Bool) :=
  (ref15_Sum.f a1).bind fun r1 => lt (decide (r1 = 0)) fun y1 => some (y1)
set_option maxRecDepth 100000 in
set_option maxHeartbeats 4000000 in
theorem ref15_Right.spc (v1 : Value) (a1 : List Int) (r : Bool) (H : ref15_Right.f a1 = some r) : Spc Tryd.prog 17 [v1] [Val (Kd.sl (Kd.int .u8)) v1 a1] [] (fun (s : Unit) => .bool r) (fun s => []) := by
 unfold ref15_Right.f at H
 refine Spc.go Tryd.func17 rfl (by kernel_rfl) rfl rfl (all_cons (Val.per Per_sl) all_nil) fun F a w h => ?_
 refine Go.seq ?_
 refine Go.reg ?_
 refine gs h (o_assign rfl) rfl fun _ _ _ h => ?_
 refine GoR.done ?_
 refine Go.seq ?_
 refine Go.reg ?_
 refine gs h (o_move rfl) rfl fun _ _ _ h => ?_
 obtain ⟨r1, er1, H⟩ := bindE H
 refine gs h (o_call (ref15_Sum.spc v1 a1 r1 er1) rfl [0] [] (by decide) rfl rfl) rfl fun _ _ _ h => ?_
 have g1 := h.mem.pur 0 rfl
 refine gs h (o_bin rfl rfl rfl) rfl fun _ _ _ h => ?_
 obtain ⟨y1, ey1, H⟩ := ltE H
 refine gs h (o_assign' rfl (congrArg Value.bool ey1)) rfl fun _ _ _ h => ?_
 refine GoR.done ?_
 rw [← som H]
 exact g_ret (vs := [.bool y1]) h Tryd.func17 ⟨rfl, trivial⟩ ⟨(), rfl, (h.mem.pick [] (by decide) rfl)⟩
def ref15_Right.g (k_ : Nat) (a1 : List Int) : Option (Bool) :=
  (ref15_Sum.g k_ a1).bind fun r1 => lt (decide (r1 = 0)) fun y1 => some (y1)
theorem ref15_Right.le (k_ : Nat) (a1 : List Int) : Le (ref15_Right.g k_ a1) (ref15_Right.f a1) := by
 unfold ref15_Right.g ref15_Right.f
 repeat' (first | with_reducible refine le_loop fun _ => ?_ | with_reducible refine le_bind ?_ fun _ => ?_ | with_reducible refine le_ite ?_ ?_ | with_reducible refine le_lt fun _ => ?_ | with_reducible refine le_elim (fun _ => ?_) (fun _ => ?_) _ | with_reducible apply ref15_Sum.le | with_reducible exact le_refl _)
/-! drawbridge/drawbridgeref01.Get -/
noncomputable def ref01_Get.f (a1 : List Int) (a2 : Bool) : Option (Int) :=
  lt (min (a1.length : Int) 8) fun y1 => (loop (fun s1 => (if decide (s1.2 < y1) = true then (((if a2 = true then (idx a1 s1.2).bind fun x1 => lt (IntKind.u64.wrap ((IntKind.u64.wrap (s1.1 * 256)) + x1)) fun y2 => some (y2) else (idx a1 (IntKind.i64.wrap ((IntKind.i64.wrap (y1 - 1)) - s1.2))).bind fun x2 => lt (IntKind.u64.wrap ((IntKind.u64.wrap (s1.1 * 256)) + x2)) fun y3 => some (y3))).bind (fun j1 => some (j1))).bind (fun j2 => lt (IntKind.i64.wrap (s1.2 + 1)) fun y4 => some (.inl (j2, y4))) else some (.inr (s1.1)))) (0, 0)).bind (fun j3 => some (j3))
set_option maxRecDepth 100000 in
set_option maxHeartbeats 4000000 in
theorem ref01_Get.spc (v1 : Value) (a1 : List Int) (a2 : Bool) (r : Int) (H : ref01_Get.f a1 a2 = some r) : Spc Tryd.prog 44 [v1, .bool a2] [Val (Kd.sl (Kd.int .u8)) v1 a1] [] (fun (s : Unit) => .int .u64 r) (fun s => [Ent.pur (InR .u64 r)]) := by
 unfold ref01_Get.f at H
 refine Spc.go Tryd.func44 rfl (by kernel_rfl) rfl rfl (all_cons (Val.per Per_sl) all_nil) fun F a w h => ?_
 refine Go.seq ?_
 refine Go.reg ?_
 refine gs h (o_assign rfl) rfl fun _ _ _ h => ?_
 refine GoR.done ?_
 refine Go.seq ?_
 refine Go.reg ?_
 refine gs h (o_assign rfl) rfl fun _ _ _ h => ?_
 refine GoR.done ?_
 refine Go.seq ?_
 refine Go.reg ?_
 refine gs h (o_move rfl) rfl fun _ _ _ h => ?_
 have g1 := (len_at 0 rfl h.mem)
 refine gs h (o_ln rfl (rd_at 0 rfl) t_v23) rfl fun _ _ _ h => ?_
 refine gs h (o_min rfl rfl) rfl fun _ _ _ h => ?_
 obtain ⟨y1, ey1, H⟩ := ltE H
 refine gs h (o_assign' rfl (congrArg (fun z => Value.int .i64 z) ey1)) rfl fun _ _ _ h => ?_
 refine GoR.done ?_
 refine Go.seq ?_
 refine Go.seq ?_
 refine Go.reg ?_
 refine gs h (o_assign rfl) rfl fun _ _ _ h => ?_
 refine GoR.done ?_
 refine Go.block ?_
 obtain ⟨o1, hl, G1⟩ := bindE H
 refine g_cut (fun G => ∀ j3 (a : Act) (w : World), o1 = j3 → InR .u64 j3 → St Tryd.f44.ntmps F [(5, .int .u64 j3)] [] a w → G a w) 2 ?_ fun J3 => ?_
 ·intro j3 a w ho_ g8 h
  rw [ho_] at G1
  have H := G1
  refine Go.seq ?_
  refine Go.reg ?_
  refine gs h (o_move rfl) rfl fun _ _ _ h => ?_
  refine gs h (o_assign rfl) rfl fun _ _ _ h => ?_
  refine GoR.done ?_
  rw [← som H]
  exact g_ret (vs := [.int .u64 j3]) h Tryd.func44 ⟨rfl, trivial⟩ ⟨(), rfl, ((h.mem.pick [] (by decide) rfl).addpur g8)⟩
 refine g_loop (fun s1 G => ∀  (a : Act) (w : World), InR .u64 s1.1 → InR .i64 s1.2 → St Tryd.f44.ntmps F [(0, v1), (1, .bool a2), (5, .int .u64 s1.1), (6, .int .i64 y1), (7, .int .i64 s1.2)] [Val (Kd.sl (Kd.int .u8)) v1 a1] a w → G a w) hl (fun s1 p1 H i1 => ?_) fun I_ => ?_
 ·intro  a w g2 g3 h
  refine Go.seq ?_
  refine Go.seq ?_
  refine Go.reg ?_
  refine gs h (o_move rfl) rfl fun _ _ _ h => ?_
  refine gs h (o_move rfl) rfl fun _ _ _ h => ?_
  refine gs h (o_bin rfl rfl rfl) rfl fun _ _ _ h => ?_
  refine GoR.done ?_
  by_cases c1 : decide (s1.2 < y1) = true
  ·have H := ifT c1 H
   refine g_t h rfl c1 ?_
   refine Go.skip ?_
   refine Go.seq ?_
   obtain ⟨o2, H, G2⟩ := bindE H
   refine g_cut (fun G => ∀ j2 (a : Act) (w : World), o2 = j2 → InR .u64 j2 → St Tryd.f44.ntmps F [(0, v1), (1, .bool a2), (5, .int .u64 j2), (6, .int .i64 y1), (7, .int .i64 s1.2)] [Val (Kd.sl (Kd.int .u8)) v1 a1] a w → G a w) 1 ?_ fun J2 => ?_
   ·intro j2 a w ho_ g7 h
    rw [ho_] at G2
    have H := G2
    refine Go.reg ?_
    refine gs h (o_move rfl) rfl fun _ _ _ h => ?_
    refine gs h (o_bin rfl rfl rfl) rfl fun _ _ _ h => ?_
    obtain ⟨y4, ey4, H⟩ := ltE H
    refine gs h (o_assign' rfl (congrArg (fun z => Value.int .i64 z) ey4)) rfl fun _ _ _ h => ?_
    refine GoR.done ?_
    have e_ := som H; subst e_
    exact Go.inLoop (nx_in i1 _ _ g7 (ey4 ▸ (wrap_in _ _)) (h.wk (by rfl) [0] (by decide) (by rfl)))
   refine Go.block ?_
   obtain ⟨o3, H, G3⟩ := bindE H
   refine g_cut (fun G => ∀ j1 (a : Act) (w : World), o3 = j1 → InR .u64 j1 → St Tryd.f44.ntmps F [(0, v1), (1, .bool a2), (5, .int .u64 j1), (6, .int .i64 y1), (7, .int .i64 s1.2)] [Val (Kd.sl (Kd.int .u8)) v1 a1] a w → G a w) 2 ?_ fun J1 => ?_
   ·intro j1 a w ho_ g6 h
    rw [ho_] at G3
    have H := G3
    exact J2 j1 _ _ (som H).symm g6 (h.wk (by rfl) [0] (by decide) (by rfl))
   refine Go.seq ?_
   refine Go.reg ?_
   refine gs h (o_move rfl) rfl fun _ _ _ h => ?_
   refine GoR.done ?_
   by_cases c2 : a2 = true
   ·have H := ifT c2 H
    refine g_t h rfl c2 ?_
    refine Go.reg ?_
    refine gs h (o_move rfl) rfl fun _ _ _ h => ?_
    refine gs h (o_bin rfl rfl rfl) rfl fun _ _ _ h => ?_
    refine gs h (o_move rfl) rfl fun _ _ _ h => ?_
    refine gs h (o_move rfl) rfl fun _ _ _ h => ?_
    obtain ⟨x1, ex1, H⟩ := bindE H
    refine gs h (o_ix rfl rfl (rd_at 0 rfl) ex1 t_v23) rfl fun _ _ _ h => ?_
    have g4 := (rd_inr (rd_at 0 rfl) ex1 h.mem)
    refine gs h (o_lex rfl (rd_at 0 rfl) ex1 X_int t_y5 (by decide)) rfl fun _ _ _ h => ?_
    refine gs h (o_convw rfl t_q5 t_u49 g4 rfl) rfl fun _ _ _ h => ?_
    refine gs h (o_bin rfl rfl rfl) rfl fun _ _ _ h => ?_
    obtain ⟨y2, ey2, H⟩ := ltE H
    refine gs h (o_assign' rfl (congrArg (fun z => Value.int .u64 z) ey2)) rfl fun _ _ _ h => ?_
    refine GoR.done ?_
    refine Go.inBlock ?_
    exact J1 y2 _ _ (som H).symm (ey2 ▸ (wrap_in _ _)) (h.wk (by rfl) [0] (by decide) (by rfl))
   ·have H := ifF c2 H
    refine g_f h rfl c2 ?_
    refine Go.reg ?_
    refine gs h (o_move rfl) rfl fun _ _ _ h => ?_
    refine gs h (o_bin rfl rfl rfl) rfl fun _ _ _ h => ?_
    refine gs h (o_move rfl) rfl fun _ _ _ h => ?_
    refine gs h (o_move rfl) rfl fun _ _ _ h => ?_
    refine gs h (o_bin rfl rfl rfl) rfl fun _ _ _ h => ?_
    refine gs h (o_move rfl) rfl fun _ _ _ h => ?_
    refine gs h (o_bin rfl rfl rfl) rfl fun _ _ _ h => ?_
    obtain ⟨x2, ex2, H⟩ := bindE H
    refine gs h (o_ix rfl rfl (rd_at 0 rfl) ex2 t_v23) rfl fun _ _ _ h => ?_
    have g5 := (rd_inr (rd_at 0 rfl) ex2 h.mem)
    refine gs h (o_lex rfl (rd_at 0 rfl) ex2 X_int t_y5 (by decide)) rfl fun _ _ _ h => ?_
    refine gs h (o_convw rfl t_q5 t_u49 g5 rfl) rfl fun _ _ _ h => ?_
    refine gs h (o_bin rfl rfl rfl) rfl fun _ _ _ h => ?_
    obtain ⟨y3, ey3, H⟩ := ltE H
    refine gs h (o_assign' rfl (congrArg (fun z => Value.int .u64 z) ey3)) rfl fun _ _ _ h => ?_
    refine GoR.done ?_
    refine Go.inBlock ?_
    exact J1 y3 _ _ (som H).symm (ey3 ▸ (wrap_in _ _)) (h.wk (by rfl) [0] (by decide) (by rfl))
  ·have H := ifF c1 H
   refine g_f h rfl c1 ?_
   refine Go.exit rfl ?_
   have e_ := som H; subst e_
   exact J3 s1.1 _ _ (nx_out i1).symm g2 (h.wk (by rfl) [] (by decide) (by rfl))
 ·exact I_ _ _ (show InR .u64 0 by decide) (show InR .i64 0 by decide) (h.wk (by rfl) [0] (by decide) (by rfl))
def ref01_Get.g (k_ : Nat) (a1 : List Int) (a2 : Bool) : Option (Int) :=
  lt (min (a1.length : Int) 8) fun y1 => (loopK k_ (fun s1 => (if decide (s1.2 < y1) = true then (((if a2 = true then (idx a1 s1.2).bind fun x1 => lt (IntKind.u64.wrap ((IntKind.u64.wrap (s1.1 * 256)) + x1)) fun y2 => some (y2) else (idx a1 (IntKind.i64.wrap ((IntKind.i64.wrap (y1 - 1)) - s1.2))).bind fun x2 => lt (IntKind.u64.wrap ((IntKind.u64.wrap (s1.1 * 256)) + x2)) fun y3 => some (y3))).bind (fun j1 => some (j1))).bind (fun j2 => lt (IntKind.i64.wrap (s1.2 + 1)) fun y4 => some (.inl (j2, y4))) else some (.inr (s1.1)))) (0, 0)).bind (fun j3 => some (j3))
theorem ref01_Get.le (k_ : Nat) (a1 : List Int) (a2 : Bool) : Le (ref01_Get.g k_ a1 a2) (ref01_Get.f a1 a2) := by
 unfold ref01_Get.g ref01_Get.f
 repeat' (first | with_reducible refine le_loop fun _ => ?_ | with_reducible refine le_bind ?_ fun _ => ?_ | with_reducible refine le_ite ?_ ?_ | with_reducible refine le_lt fun _ => ?_ | with_reducible refine le_elim (fun _ => ?_) (fun _ => ?_) _ | with_reducible exact le_refl _)
/-! drawbridge/drawbridgeref17.number -/
noncomputable def ref17_number.f (a1 : List Int) : Option (Int) :=
  (ref01_Get.f a1 true).bind fun r1 => lt (IntKind.i64.wrap r1) fun y1 => some (y1)
set_option maxRecDepth 100000 in
set_option maxHeartbeats 4000000 in
theorem ref17_number.spc (v1 : Value) (a1 : List Int) (r : Int) (H : ref17_number.f a1 = some r) : Spc Tryd.prog 29 [v1] [Val (Kd.sl (Kd.int .u8)) v1 a1] [] (fun (s : Unit) => .int .i64 r) (fun s => [Ent.pur (InR .i64 r)]) := by
 unfold ref17_number.f at H
 refine Spc.go Tryd.func29 rfl (by kernel_rfl) rfl rfl (all_cons (Val.per Per_sl) all_nil) fun F a w h => ?_
 refine Go.seq ?_
 refine Go.reg ?_
 refine gs h (o_assign rfl) rfl fun _ _ _ h => ?_
 refine GoR.done ?_
 refine Go.seq ?_
 refine Go.reg ?_
 refine gs h (o_move rfl) rfl fun _ _ _ h => ?_
 obtain ⟨r1, er1, H⟩ := bindE H
 refine gs h (o_call (ref01_Get.spc v1 a1 true r1 er1) rfl [0] [] (by decide) rfl rfl) rfl fun _ _ _ h => ?_
 have g1 := h.mem.pur 0 rfl
 refine gs h (o_conv rfl t_q49 t_u3) rfl fun _ _ _ h => ?_
 obtain ⟨y1, ey1, H⟩ := ltE H
 refine gs h (o_assign' rfl (congrArg (fun z => Value.int .i64 z) ey1)) rfl fun _ _ _ h => ?_
 refine GoR.done ?_
 rw [← som H]
 exact g_ret (vs := [.int .i64 y1]) h Tryd.func29 ⟨rfl, trivial⟩ ⟨(), rfl, ((h.mem.pick [] (by decide) rfl).addpur (ey1 ▸ (wrap_in _ _)))⟩
def ref17_number.g (k_ : Nat) (a1 : List Int) : Option (Int) :=
  (ref01_Get.g k_ a1 true).bind fun r1 => lt (IntKind.i64.wrap r1) fun y1 => some (y1)
theorem ref17_number.le (k_ : Nat) (a1 : List Int) : Le (ref17_number.g k_ a1) (ref17_number.f a1) := by
 unfold ref17_number.g ref17_number.f
 repeat' (first | with_reducible refine le_loop fun _ => ?_ | with_reducible refine le_bind ?_ fun _ => ?_ | with_reducible refine le_ite ?_ ?_ | with_reducible refine le_lt fun _ => ?_ | with_reducible refine le_elim (fun _ => ?_) (fun _ => ?_) _ | with_reducible apply ref01_Get.le | with_reducible exact le_refl _)
end Go.Proofs.YtaiadolmjmacfaaDoor.S
