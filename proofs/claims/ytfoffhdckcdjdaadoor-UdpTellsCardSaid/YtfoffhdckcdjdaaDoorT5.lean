/- Contracts, printed by a program of this session. -/
import Derived.Test.YtfoffhdckcdjdaaDoorT4
namespace Go.Proofs.YtfoffhdckcdjdaaDoor.S
open Go Go.SL Go.RowKit
set_option linter.unusedVariables false
set_option linter.unusedSimpArgs false
/-! drawbridge/drawbridgeref18.Put -/
noncomputable def ref18_Put.f (a1 : TUdp) (a2 : Int) (a3 : Int) : Option ((List Int) × Int) :=
  ((ref18_port.f a1.Src).bind fun r1 => (if (!r1) = true then some (true) else (ref18_port.f a1.Dst).bind fun r2 => (if (!r2) = true then some (true) else some (decide (65507 < (a1.Data.length : Int)))))).bind (fun j1 => (if j1 = true then some (([], 2)) else lt (IntKind.i64.wrap (8 + (a1.Data.length : Int))) fun y1 => (ref18_two.f a1.Src).bind fun r3 => (ref18_two.f a1.Dst).bind fun r4 => (app r3 r4).bind fun x1 => (ref18_two.f y1).bind fun r5 => (app x1 r5).bind fun x2 => (app x2 ([0, 0] : List Int)).bind fun x3 => (app x3 a1.Data).bind fun x4 => (ref15_Pseudo.f a2 a3 17 y1).bind fun r6 => (app r6 x4).bind fun x5 => (ref15_Sum.f x5).bind fun r7 => ((if decide (r7 = 0) = true then some (65535) else some (r7))).bind (fun j2 => (idx x4 6).bind fun x6 => lt (x4.set (6 : Int).toNat (IntKind.u8.wrap (IntKind.i64.wrap (Int.tdiv j2 256)))) fun y2 => (idx y2 7).bind fun x7 => lt (y2.set (7 : Int).toNat (IntKind.u8.wrap (Int.tmod j2 256))) fun y3 => some ((y3, 0)))))
set_option maxRecDepth 100000 in
set_option maxHeartbeats 4000000 in
theorem ref18_Put.spc (v1 : Value) (a1 : TUdp) (a2 : Int) (ha2 : InR .u32 a2) (a3 : Int) (ha3 : InR .u32 a3) (r : (List Int) × Int) (H : ref18_Put.f a1 a2 a3 = some r) : Spc Tryd.prog 8 [v1, .int .u32 a2, .int .u32 a3] [Val KUdp v1 a1] [] (fun (s : Value) => .tuple #[s, .int .i64 r.2]) (fun s => [Ent.pur (InR .i64 r.2), Val (Kd.osl (Kd.int .u8)) s r.1]) := by
 unfold ref18_Put.f at H
 refine Spc.go Tryd.func8 rfl (by kernel_rfl) rfl rfl (all_cons (Val.per PUdp) all_nil) fun F a w h => ?_
 refine Go.seq ?_
 refine Go.reg ?_
 refine gs h (o_box (K := KUdp) rfl (pv_at PUdp 0 rfl)) rfl fun b1 _ _ h => ?_
 refine gs h (o_assign rfl) rfl fun _ _ _ h => ?_
 refine gs h (o_assign rfl) rfl fun _ _ _ h => ?_
 refine GoR.done ?_
 refine Go.seq ?_
 refine Go.seq ?_
 obtain ⟨o1, H, G1⟩ := bindE H
 refine g_cut (fun G => ∀ j1 (a : Act) (w : World), o1 = j1 → St Tryd.f8.ntmps F [(1, .int .u32 a2), (2, .int .u32 a3), (3, .pointer (some ⟨b1, 0, none⟩)), (26, .bool j1)] [Fld KUdp b1 0 a1] a w → G a w) 1 ?_ fun J1 => ?_
 ·intro j1 a w ho_ h
  rw [ho_] at G1
  have H := G1
  by_cases c3 : j1 = true
  ·have H := ifT c3 H
   refine g_t h rfl c3 ?_
   refine Go.seq ?_
   refine Go.reg ?_
   refine gs h (o_assign rfl) rfl fun _ _ _ h => ?_
   refine gs h (o_assign rfl) rfl fun _ _ _ h => ?_
   refine GoR.done ?_
   replace h := h.mm fun m => m.nilo (Kd.int .u8)
   rw [← som H]
   exact g_ret (vs := [.slice none 0 0, .int .i64 2]) h Tryd.func8 ⟨rfl, ⟨rfl, trivial⟩⟩ ⟨.slice none 0 0, rfl, ((h.mem.pick [0] (by decide) rfl).addpur (show InR .i64 2 by decide))⟩
  ·have H := ifF c3 H
   refine g_f h rfl c3 ?_
   refine Go.skip ?_
   refine Go.seq ?_
   refine Go.reg ?_
   refine gs h (o_fa rfl t_f24_2 rfl rfl) rfl fun _ _ _ h => ?_
   refine gs h (o_lfv 0 rfl rfl sUdp_Data rfl Per_sl t_y22) rfl fun v3 _ _ h => ?_
   have g4 := (len_at 0 rfl h.mem)
   refine gs h (o_ln rfl (rd_at 0 rfl) t_v22) rfl fun _ _ _ h => ?_
   refine gs h (o_bin rfl rfl rfl) rfl fun _ _ _ h => ?_
   obtain ⟨y1, ey1, H⟩ := ltE H
   refine gs h (o_assign' rfl (congrArg (fun z => Value.int .i64 z) ey1)) rfl fun _ _ _ h => ?_
   refine GoR.done ?_
   refine Go.seq ?_
   replace h := h.wk (E' := [(1, .int .u32 a2), (2, .int .u32 a3), (3, .pointer (some ⟨b1, 0, none⟩)), (8, .int .i64 y1)]) (L' := [Val (Kd.sl (Kd.int .u8)) v3 a1.Data, Fld KUdp b1 0 a1]) (by rfl) [0, 1] (by decide) (by rfl)
   obtain ⟨r3, er3, H⟩ := bindE H
   obtain ⟨r4, er4, H⟩ := bindE H
   obtain ⟨x1, ex1, H⟩ := bindE H
   obtain ⟨r5, er5, H⟩ := bindE H
   obtain ⟨x2, ex2, H⟩ := bindE H
   obtain ⟨x3, ex3, H⟩ := bindE H
   refine Go.draw (L := [Val (Kd.sl (Kd.int .u8)) v3 a1.Data, Fld KUdp b1 0 a1]) h 14 [⟨[], [], [], false, .con (.pointer (some ⟨b1, 0, none⟩)), none, fun u => []⟩, ⟨[0], [], [], false, .con (.int .i64 a1.Src), none, fun u => [Ent.pur (InR .i64 a1.Src)]⟩, ⟨[0, 1], [1], [], false, .own, none, fun u => [Val (Kd.osl (Kd.int .u8)) u r3]⟩, ⟨[], [], [], false, .con (.pointer (some ⟨b1, 1, none⟩)), none, fun u => []⟩, ⟨[3], [], [], false, .con (.int .i64 a1.Dst), none, fun u => [Ent.pur (InR .i64 a1.Dst)]⟩, ⟨[3, 4], [4], [], false, .own, none, fun u => [Val (Kd.osl (Kd.int .u8)) u r4]⟩, ⟨[0, 1, 2, 3, 4, 5], [2, 5], [2], false, .own, none, fun u => [Val (Kd.osl (Kd.int .u8)) u x1]⟩, ⟨[], [], [], false, .con (.int .i64 y1), none, fun u => []⟩, ⟨[7], [], [], false, .own, none, fun u => [Val (Kd.osl (Kd.int .u8)) u r5]⟩, ⟨[0, 1, 2, 3, 4, 5, 6, 7, 8], [6, 8], [6], false, .own, none, fun u => [Val (Kd.osl (Kd.int .u8)) u x2]⟩, ⟨[], [], [], false, .own, none, fun u => [Val (Kd.osl (Kd.int .u8)) u ([0, 0] : List Int)]⟩, ⟨[0, 1, 2, 3, 4, 5, 6, 7, 8, 9, 10], [9, 10], [9], false, .own, none, fun u => [Val (Kd.osl (Kd.int .u8)) u x3]⟩, ⟨[], [], [], false, .con (.pointer (some ⟨b1, 2, none⟩)), none, fun u => []⟩, ⟨[12], [], [], false, .own, none, fun u => [Val (Kd.sl (Kd.int .u8)) u a1.Data]⟩] rfl t_mxo (by kernel_rfl) (by rfl) ?_ fun f1 _ _ h => ?_
   ·exact obs_cons (ob_con rfl (gok_none rfl) rfl fun f1 => (o_fa rfl t_f24_0 rfl rfl)) (obs_cons (ob_con rfl (gok_none rfl) rfl fun f1 => (OpS.pur (fun F w m_ => (in2 (fd_sub sUdp_Src 1 rfl m_))) (o_lfx 1 rfl rfl sUdp_Src rfl X_int t_y3))) (obs_cons (ob_own rfl (gok_none rfl) rfl fun f1 => (OpS.fact (p := InR .i64 a1.Src) (fun F w m_ => (Mem.pur 0 rfl m_)) fun g5 => (o_call (ref18_two.spc a1.Src g5 r3 er3) rfl [] [] (by decide) rfl rfl))) (obs_cons (ob_con rfl (gok_none rfl) rfl fun f1 => (o_fa rfl t_f24_1 rfl rfl)) (obs_cons (ob_con rfl (gok_none rfl) rfl fun f1 => (OpS.pur (fun F w m_ => (in2 (fd_sub sUdp_Dst 1 rfl m_))) (o_lfx 1 rfl rfl sUdp_Dst rfl X_int t_y3))) (obs_cons (ob_own rfl (gok_none rfl) rfl fun f1 => (OpS.fact (p := InR .i64 a1.Dst) (fun F w m_ => (Mem.pur 0 rfl m_)) fun g6 => (o_call (ref18_two.spc a1.Dst g6 r4 er4) rfl [] [] (by decide) rfl rfl))) (obs_cons (ob_own rfl (gok_none rfl) rfl fun f1 => (o_app (K := (Kd.int .u8)) 0 rfl rfl rfl (rd_own 1 rfl) ex1 t_a22 t_n22)) (obs_cons (ob_con rfl (gok_none rfl) rfl fun f1 => (o_move rfl)) (obs_cons (ob_own rfl (gok_none rfl) rfl fun f1 => (o_call (ref18_two.spc y1 (ey1 ▸ (wrap_in _ _)) r5 er5) rfl [] [] (by decide) rfl rfl)) (obs_cons (ob_own rfl (gok_none rfl) rfl fun f1 => (o_app (K := (Kd.int .u8)) 0 rfl rfl rfl (rd_own 1 rfl) ex2 t_a22 t_n22)) (obs_cons (ob_own rfl (gok_none rfl) rfl fun f1 => (o_bs (K := (Kd.int .u8)) (vs := [.int .u8 0, .int .u8 0]) (xs := ([0, 0] : List Int)) rfl rfl (pvs_cons (pv_int (show InR .u8 0 by decide)) (pvs_cons (pv_int (show InR .u8 0 by decide)) pvs_nil)) t_a22 (by decide) (by decide))) (obs_cons (ob_own rfl (gok_none rfl) rfl fun f1 => (o_app (K := (Kd.int .u8)) 0 rfl rfl rfl (rd_own 1 rfl) ex3 t_a22 t_n22)) (obs_cons (ob_con rfl (gok_none rfl) rfl fun f1 => (o_fa rfl t_f24_2 rfl rfl)) (obs_cons (ob_own rfl (gok_none rfl) rfl fun f1 => (o_lfv 1 rfl rfl sUdp_Data rfl Per_sl t_y22)) (obs_nil))))))))))))))
   replace h := h.wk (E' := [(1, .int .u32 a2), (2, .int .u32 a3), (8, .int .i64 y1), (42, (f1 11)), (44, (f1 13))]) (L' := [Ent.pur (InR .i64 a1.Src), Ent.pur (InR .i64 a1.Dst), Val (Kd.osl (Kd.int .u8)) (f1 5) r4, Val (Kd.osl (Kd.int .u8)) (f1 8) r5, Val (Kd.osl (Kd.int .u8)) (f1 10) ([0, 0] : List Int), Val (Kd.osl (Kd.int .u8)) (f1 11) x3, Val (Kd.sl (Kd.int .u8)) (f1 13) a1.Data, Val (Kd.sl (Kd.int .u8)) v3 a1.Data, Fld KUdp b1 0 a1]) (by kernel_rfl) [0, 1, 2, 3, 4, 5, 6, 7, 8] (by decide) (by kernel_rfl)
   obtain ⟨x4, ex4, H⟩ := bindE H
   refine gs h (o_app (K := (Kd.int .u8)) 5 rfl rfl rfl (rd_at 6 rfl) ex4 t_a22 t_n22) rfl fun v12 _ _ h => ?_
   refine gs h (o_assign rfl) rfl fun _ _ _ h => ?_
   refine GoR.done ?_
   refine Go.seq ?_
   refine Go.reg ?_
   refine gs h (o_move rfl) rfl fun _ _ _ h => ?_
   refine gs h (o_move rfl) rfl fun _ _ _ h => ?_
   refine gs h (o_move rfl) rfl fun _ _ _ h => ?_
   obtain ⟨r6, er6, H⟩ := bindE H
   refine gs h (o_call (ref15_Pseudo.spc a2 ha2 a3 ha3 17 (show InR .i64 17 by decide) y1 (ey1 ▸ (wrap_in _ _)) r6 er6) rfl [] [] (by decide) rfl rfl) rfl fun v13 _ _ h => ?_
   refine gs h (o_move rfl) rfl fun _ _ _ h => ?_
   obtain ⟨x5, ex5, H⟩ := bindE H
   refine gs h (o_app (K := (Kd.int .u8)) 0 rfl rfl rfl (rd_own 6 rfl) ex5 t_a22 t_n22) rfl fun v14 _ _ h => ?_
   replace h := h.mm fun m => m.freeze 0 rfl
   obtain ⟨r7, er7, H⟩ := bindE H
   refine gs h (o_call (ref15_Sum.spc v14 x5 r7 er7) rfl [0] [] (by decide) rfl rfl) rfl fun _ _ _ h => ?_
   have g7 := h.mem.pur 0 rfl
   refine gs h (o_assign rfl) rfl fun _ _ _ h => ?_
   refine GoR.done ?_
   refine Go.seq ?_
   obtain ⟨o2, H, G2⟩ := bindE H
   refine g_cut (fun G => ∀ j2 (a : Act) (w : World), o2 = j2 → InR .i64 j2 → St Tryd.f8.ntmps F [(9, v12), (10, .int .i64 j2)] [Val (Kd.osl (Kd.int .u8)) v12 x4, Fld KUdp b1 0 a1] a w → G a w) 1 ?_ fun J2 => ?_
   ·intro j2 a w ho_ g8 h
    rw [ho_] at G2
    have H := G2
    refine Go.seq ?_
    refine Go.reg ?_
    refine gs h (o_move rfl) rfl fun _ _ _ h => ?_
    refine gs h (o_move rfl) rfl fun _ _ _ h => ?_
    refine gs h (o_move rfl) rfl fun _ _ _ h => ?_
    refine gs h (o_quo rfl rfl (show (256 : Int) ≠ 0 by decide)) rfl fun _ _ _ h => ?_
    refine gs h (o_conv rfl t_q3 t_u5) rfl fun _ _ _ h => ?_
    refine gs h (o_move rfl) rfl fun _ _ _ h => ?_
    refine gs h (o_rem rfl rfl (show (256 : Int) ≠ 0 by decide)) rfl fun _ _ _ h => ?_
    refine gs h (o_conv rfl t_q3 t_u5) rfl fun _ _ _ h => ?_
    obtain ⟨x6, ex6, H⟩ := bindE H
    refine gs h (o_ix rfl rfl (rd_own 0 rfl) ex6 t_v22) rfl fun _ _ _ h => ?_
    obtain ⟨y2, ey2, H⟩ := ltE H
    refine gs0 h (o_ste 0 rfl rfl rfl (pv_int (wrap_in _ _)) ex6 t_w5 (by decide)) fun _ _ _ h => ?_
    rw [ey2] at h
    obtain ⟨x7, ex7, H⟩ := bindE H
    refine gs h (o_ix rfl rfl (rd_own 0 rfl) ex7 t_v22) rfl fun _ _ _ h => ?_
    obtain ⟨y3, ey3, H⟩ := ltE H
    refine gs0 h (o_ste 0 rfl rfl rfl (pv_int (wrap_in _ _)) ex7 t_w5 (by decide)) fun _ _ _ h => ?_
    rw [ey3] at h
    refine GoR.done ?_
    refine Go.seq ?_
    refine Go.reg ?_
    refine gs h (o_move rfl) rfl fun _ _ _ h => ?_
    refine gs h (o_assign rfl) rfl fun _ _ _ h => ?_
    refine gs h (o_assign rfl) rfl fun _ _ _ h => ?_
    refine GoR.done ?_
    rw [← som H]
    exact g_ret (vs := [v12, .int .i64 0]) h Tryd.func8 ⟨rfl, ⟨rfl, trivial⟩⟩ ⟨v12, rfl, ((h.mem.pick [0] (by decide) rfl).addpur (show InR .i64 0 by decide))⟩
   refine Go.seq ?_
   refine Go.reg ?_
   refine gs h (o_move rfl) rfl fun _ _ _ h => ?_
   refine gs h (o_bin rfl rfl rfl) rfl fun _ _ _ h => ?_
   refine GoR.done ?_
   by_cases c4 : decide (r7 = 0) = true
   ·have H := ifT c4 H
    refine g_t h rfl c4 ?_
    refine Go.reg ?_
    refine gs h (o_assign rfl) rfl fun _ _ _ h => ?_
    refine GoR.done ?_
    exact J2 65535 _ _ (som H).symm (show InR .i64 65535 by decide) (h.wk (by rfl) [7, 10] (by decide) (by rfl))
   ·have H := ifF c4 H
    refine g_f h rfl c4 ?_
    refine Go.skip ?_
    exact J2 r7 _ _ (som H).symm g7 (h.wk (by rfl) [7, 10] (by decide) (by rfl))
 refine Go.reg ?_
 refine gs h (o_fa rfl t_f24_0 rfl rfl) rfl fun _ _ _ h => ?_
 have g1 := (in2 (fd_sub sUdp_Src 0 rfl h.mem))
 refine gs h (o_lfx 0 rfl rfl sUdp_Src rfl X_int t_y3) rfl fun _ _ _ h => ?_
 obtain ⟨r1, er1, H⟩ := bindE H
 refine gs h (o_call (ref18_port.spc a1.Src g1 r1 er1) rfl [] [] (by decide) rfl rfl) rfl fun _ _ _ h => ?_
 refine gs h (o_not rfl) rfl fun _ _ _ h => ?_
 refine gs h (o_move rfl) rfl fun _ _ _ h => ?_
 by_cases c1 : (!r1) = true
 ·have H := ifT c1 H
  refine gk h rfl rfl (nb_t c1) rfl fun _ h => ?_
  refine gk h rfl rfl (nb_t c1) rfl fun _ h => ?_
  refine gk h rfl rfl (nb_t c1) rfl fun _ h => ?_
  refine gk h rfl rfl (nb_t c1) rfl fun _ h => ?_
  refine gs h (o_pickT rfl rfl c1) rfl fun _ _ _ h => ?_
  refine gs h (o_move rfl) rfl fun _ _ _ h => ?_
  refine gk h rfl rfl (nb_t rfl) rfl fun _ h => ?_
  refine gk h rfl rfl (nb_t rfl) rfl fun _ h => ?_
  refine gk h rfl rfl (nb_t rfl) rfl fun _ h => ?_
  refine gk h rfl rfl (nb_t rfl) rfl fun _ h => ?_
  refine gs h (o_pickT rfl rfl rfl) rfl fun _ _ _ h => ?_
  refine GoR.done ?_
  exact J1 true _ _ (som H).symm (h.wk (by rfl) [0] (by decide) (by rfl))
 ·have H := ifF c1 H
  refine gg h rfl rfl (nbF c1) (o_fa rfl t_f24_1 rfl rfl) rfl fun _ _ _ h => ?_
  have g2 := (in2 (fd_sub sUdp_Dst 0 rfl h.mem))
  refine gg h rfl rfl (nbF c1) (o_lfx 0 rfl rfl sUdp_Dst rfl X_int t_y3) rfl fun _ _ _ h => ?_
  obtain ⟨r2, er2, H⟩ := bindE H
  refine gg h rfl rfl (nbF c1) (o_call (ref18_port.spc a1.Dst g2 r2 er2) rfl [] [] (by decide) rfl rfl) rfl fun _ _ _ h => ?_
  refine gg h rfl rfl (nbF c1) (o_not rfl) rfl fun _ _ _ h => ?_
  refine gs h (o_pickF rfl rfl c1) rfl fun _ _ _ h => ?_
  refine gs h (o_move rfl) rfl fun _ _ _ h => ?_
  by_cases c2 : (!r2) = true
  ·have H := ifT c2 H
   refine gk h rfl rfl (nb_t c2) rfl fun _ h => ?_
   refine gk h rfl rfl (nb_t c2) rfl fun _ h => ?_
   refine gk h rfl rfl (nb_t c2) rfl fun _ h => ?_
   refine gk h rfl rfl (nb_t c2) rfl fun _ h => ?_
   refine gs h (o_pickT rfl rfl c2) rfl fun _ _ _ h => ?_
   refine GoR.done ?_
   exact J1 true _ _ (som H).symm (h.wk (by rfl) [0] (by decide) (by rfl))
  ·have H := ifF c2 H
   refine gg h rfl rfl (nbF c2) (o_fa rfl t_f24_2 rfl rfl) rfl fun _ _ _ h => ?_
   refine gg h rfl rfl (nbF c2) (o_lfv 0 rfl rfl sUdp_Data rfl Per_sl t_y22) rfl fun v2 _ _ h => ?_
   have g3 := (len_at 0 rfl h.mem)
   refine gg h rfl rfl (nbF c2) (o_ln rfl (rd_at 0 rfl) t_v22) rfl fun _ _ _ h => ?_
   refine gg h rfl rfl (nbF c2) (o_bin rfl rfl rfl) rfl fun _ _ _ h => ?_
   refine gs h (o_pickF rfl rfl c2) rfl fun _ _ _ h => ?_
   refine GoR.done ?_
   exact J1 (decide (65507 < (a1.Data.length : Int))) _ _ (som H).symm (h.wk (by rfl) [1] (by decide) (by rfl))
def ref18_Put.g (k_ : Nat) (a1 : TUdp) (a2 : Int) (a3 : Int) : Option ((List Int) × Int) :=
  ((ref18_port.g k_ a1.Src).bind fun r1 => (if (!r1) = true then some (true) else (ref18_port.g k_ a1.Dst).bind fun r2 => (if (!r2) = true then some (true) else some (decide (65507 < (a1.Data.length : Int)))))).bind (fun j1 => (if j1 = true then some (([], 2)) else lt (IntKind.i64.wrap (8 + (a1.Data.length : Int))) fun y1 => (ref18_two.g k_ a1.Src).bind fun r3 => (ref18_two.g k_ a1.Dst).bind fun r4 => (app r3 r4).bind fun x1 => (ref18_two.g k_ y1).bind fun r5 => (app x1 r5).bind fun x2 => (app x2 ([0, 0] : List Int)).bind fun x3 => (app x3 a1.Data).bind fun x4 => (ref15_Pseudo.g k_ a2 a3 17 y1).bind fun r6 => (app r6 x4).bind fun x5 => (ref15_Sum.g k_ x5).bind fun r7 => ((if decide (r7 = 0) = true then some (65535) else some (r7))).bind (fun j2 => (idx x4 6).bind fun x6 => lt (x4.set (6 : Int).toNat (IntKind.u8.wrap (IntKind.i64.wrap (Int.tdiv j2 256)))) fun y2 => (idx y2 7).bind fun x7 => lt (y2.set (7 : Int).toNat (IntKind.u8.wrap (Int.tmod j2 256))) fun y3 => some ((y3, 0)))))
theorem ref18_Put.le (k_ : Nat) (a1 : TUdp) (a2 : Int) (a3 : Int) : Le (ref18_Put.g k_ a1 a2 a3) (ref18_Put.f a1 a2 a3) := by
 unfold ref18_Put.g ref18_Put.f
 repeat' (first | with_reducible refine le_loop fun _ => ?_ | with_reducible refine le_bind ?_ fun _ => ?_ | with_reducible refine le_ite ?_ ?_ | with_reducible refine le_lt fun _ => ?_ | with_reducible refine le_elim (fun _ => ?_) (fun _ => ?_) _ | with_reducible apply ref15_Pseudo.le | with_reducible apply ref15_Sum.le | with_reducible apply ref18_port.le | with_reducible apply ref18_two.le | with_reducible exact le_refl _)
/-! drawbridge/drawbridgeref01.Get -/
noncomputable def ref01_Get.f (a1 : List Int) (a2 : Bool) : Option (Int) :=
  lt (min (a1.length : Int) 8) fun y1 => (loop (fun s1 => (if decide (s1.2 < y1) = true then (((if a2 = true then (idx a1 s1.2).bind fun x1 => lt (IntKind.u64.wrap ((IntKind.u64.wrap (s1.1 * 256)) + x1)) fun y2 => some (y2) else (idx a1 (IntKind.i64.wrap ((IntKind.i64.wrap (y1 - 1)) - s1.2))).bind fun x2 => lt (IntKind.u64.wrap ((IntKind.u64.wrap (s1.1 * 256)) + x2)) fun y3 => some (y3))).bind (fun j1 => some (j1))).bind (fun j2 => lt (IntKind.i64.wrap (s1.2 + 1)) fun y4 => some (.inl (j2, y4))) else some (.inr (s1.1)))) (0, 0)).bind (fun j3 => some (j3))
set_option maxRecDepth 100000 in
set_option maxHeartbeats 4000000 in
theorem ref01_Get.spc (v1 : Value) (a1 : List Int) (a2 : Bool) (r : Int) (H : ref01_Get.f a1 a2 = some r) : Spc Tryd.prog 22 [v1, .bool a2] [Val (Kd.sl (Kd.int .u8)) v1 a1] [] (fun (s : Unit) => .int .u64 r) (fun s => [Ent.pur (InR .u64 r)]) := by
 unfold ref01_Get.f at H
 refine Spc.go Tryd.func22 rfl (by kernel_rfl) rfl rfl (all_cons (Val.per Per_sl) all_nil) fun F a w h => ?_
 refine Go.seq ?_
 refine Go.reg ?_
 refine gs h (o_assign rfl) rfl fun _ _ _ h => ?_
 refine GoR.done ?_
 refine Go.seq ?_
 refine Go.reg ?_
 refine gs h (o_assign rfl) rfl fun _ _ _ h => ?_
 refine GoR.done ?_
 refine Go.seq ?_
 refine Go.reg ?_
 refine gs h (o_move rfl) rfl fun _ _ _ h => ?_
 have g1 := (len_at 0 rfl h.mem)
 refine gs h (o_ln rfl (rd_at 0 rfl) t_v22) rfl fun _ _ _ h => ?_
 refine gs h (o_min rfl rfl) rfl fun _ _ _ h => ?_
 obtain ⟨y1, ey1, H⟩ := ltE H
 refine gs h (o_assign' rfl (congrArg (fun z => Value.int .i64 z) ey1)) rfl fun _ _ _ h => ?_
 refine GoR.done ?_
 refine Go.seq ?_
 refine Go.seq ?_
 refine Go.reg ?_
 refine gs h (o_assign rfl) rfl fun _ _ _ h => ?_
 refine GoR.done ?_
 refine Go.block ?_
 obtain ⟨o1, hl, G1⟩ := bindE H
 refine g_cut (fun G => ∀ j3 (a : Act) (w : World), o1 = j3 → InR .u64 j3 → St Tryd.f22.ntmps F [(5, .int .u64 j3)] [] a w → G a w) 2 ?_ fun J3 => ?_
 ·intro j3 a w ho_ g8 h
  rw [ho_] at G1
  have H := G1
  refine Go.seq ?_
  refine Go.reg ?_
  refine gs h (o_move rfl) rfl fun _ _ _ h => ?_
  refine gs h (o_assign rfl) rfl fun _ _ _ h => ?_
  refine GoR.done ?_
  rw [← som H]
  exact g_ret (vs := [.int .u64 j3]) h Tryd.func22 ⟨rfl, trivial⟩ ⟨(), rfl, ((h.mem.pick [] (by decide) rfl).addpur g8)⟩
 refine g_loop (fun s1 G => ∀  (a : Act) (w : World), InR .u64 s1.1 → InR .i64 s1.2 → St Tryd.f22.ntmps F [(0, v1), (1, .bool a2), (5, .int .u64 s1.1), (6, .int .i64 y1), (7, .int .i64 s1.2)] [Val (Kd.sl (Kd.int .u8)) v1 a1] a w → G a w) hl (fun s1 p1 H i1 => ?_) fun I_ => ?_
 ·intro  a w g2 g3 h
  refine Go.seq ?_
  refine Go.seq ?_
  refine Go.reg ?_
  refine gs h (o_move rfl) rfl fun _ _ _ h => ?_
  refine gs h (o_move rfl) rfl fun _ _ _ h => ?_
  refine gs h (o_bin rfl rfl rfl) rfl fun _ _ _ h => ?_
  refine GoR.done ?_
  by_cases c1 : decide (s1.2 < y1) = true
  ·have H := ifT c1 H
   refine g_t h rfl c1 ?_
   refine Go.skip ?_
   refine Go.seq ?_
   obtain ⟨o2, H, G2⟩ := bindE H
   refine g_cut (fun G => ∀ j2 (a : Act) (w : World), o2 = j2 → InR .u64 j2 → St Tryd.f22.ntmps F [(0, v1), (1, .bool a2), (5, .int .u64 j2), (6, .int .i64 y1), (7, .int .i64 s1.2)] [Val (Kd.sl (Kd.int .u8)) v1 a1] a w → G a w) 1 ?_ fun J2 => ?_
   ·intro j2 a w ho_ g7 h
    rw [ho_] at G2
    have H := G2
    refine Go.reg ?_
    refine gs h (o_move rfl) rfl fun _ _ _ h => ?_
    refine gs h (o_bin rfl rfl rfl) rfl fun _ _ _ h => ?_
    obtain ⟨y4, ey4, H⟩ := ltE H
    refine gs h (o_assign' rfl (congrArg (fun z => Value.int .i64 z) ey4)) rfl fun _ _ _ h => ?_
    refine GoR.done ?_
    have e_ := som H; subst e_
    exact Go.inLoop (nx_in i1 _ _ g7 (ey4 ▸ (wrap_in _ _)) (h.wk (by rfl) [0] (by decide) (by rfl)))
   refine Go.block ?_
   obtain ⟨o3, H, G3⟩ := bindE H
   refine g_cut (fun G => ∀ j1 (a : Act) (w : World), o3 = j1 → InR .u64 j1 → St Tryd.f22.ntmps F [(0, v1), (1, .bool a2), (5, .int .u64 j1), (6, .int .i64 y1), (7, .int .i64 s1.2)] [Val (Kd.sl (Kd.int .u8)) v1 a1] a w → G a w) 2 ?_ fun J1 => ?_
   ·intro j1 a w ho_ g6 h
    rw [ho_] at G3
    have H := G3
    exact J2 j1 _ _ (som H).symm g6 (h.wk (by rfl) [0] (by decide) (by rfl))
   refine Go.seq ?_
   refine Go.reg ?_
   refine gs h (o_move rfl) rfl fun _ _ _ h => ?_
   refine GoR.done ?_
   by_cases c2 : a2 = true
   ·have H := ifT c2 H
    refine g_t h rfl c2 ?_
    refine Go.reg ?_
    refine gs h (o_move rfl) rfl fun _ _ _ h => ?_
    refine gs h (o_bin rfl rfl rfl) rfl fun _ _ _ h => ?_
    refine gs h (o_move rfl) rfl fun _ _ _ h => ?_
    refine gs h (o_move rfl) rfl fun _ _ _ h => ?_
    obtain ⟨x1, ex1, H⟩ := bindE H
    refine gs h (o_ix rfl rfl (rd_at 0 rfl) ex1 t_v22) rfl fun _ _ _ h => ?_
    have g4 := (rd_inr (rd_at 0 rfl) ex1 h.mem)
    refine gs h (o_lex rfl (rd_at 0 rfl) ex1 X_int t_y5 (by decide)) rfl fun _ _ _ h => ?_
    refine gs h (o_convw rfl t_q5 t_u43 g4 rfl) rfl fun _ _ _ h => ?_
    refine gs h (o_bin rfl rfl rfl) rfl fun _ _ _ h => ?_
    obtain ⟨y2, ey2, H⟩ := ltE H
    refine gs h (o_assign' rfl (congrArg (fun z => Value.int .u64 z) ey2)) rfl fun _ _ _ h => ?_
    refine GoR.done ?_
    refine Go.inBlock ?_
    exact J1 y2 _ _ (som H).symm (ey2 ▸ (wrap_in _ _)) (h.wk (by rfl) [0] (by decide) (by rfl))
   ·have H := ifF c2 H
    refine g_f h rfl c2 ?_
    refine Go.reg ?_
    refine gs h (o_move rfl) rfl fun _ _ _ h => ?_
    refine gs h (o_bin rfl rfl rfl) rfl fun _ _ _ h => ?_
    refine gs h (o_move rfl) rfl fun _ _ _ h => ?_
    refine gs h (o_move rfl) rfl fun _ _ _ h => ?_
    refine gs h (o_bin rfl rfl rfl) rfl fun _ _ _ h => ?_
    refine gs h (o_move rfl) rfl fun _ _ _ h => ?_
    refine gs h (o_bin rfl rfl rfl) rfl fun _ _ _ h => ?_
    obtain ⟨x2, ex2, H⟩ := bindE H
    refine gs h (o_ix rfl rfl (rd_at 0 rfl) ex2 t_v22) rfl fun _ _ _ h => ?_
    have g5 := (rd_inr (rd_at 0 rfl) ex2 h.mem)
    refine gs h (o_lex rfl (rd_at 0 rfl) ex2 X_int t_y5 (by decide)) rfl fun _ _ _ h => ?_
    refine gs h (o_convw rfl t_q5 t_u43 g5 rfl) rfl fun _ _ _ h => ?_
    refine gs h (o_bin rfl rfl rfl) rfl fun _ _ _ h => ?_
    obtain ⟨y3, ey3, H⟩ := ltE H
    refine gs h (o_assign' rfl (congrArg (fun z => Value.int .u64 z) ey3)) rfl fun _ _ _ h => ?_
    refine GoR.done ?_
    refine Go.inBlock ?_
    exact J1 y3 _ _ (som H).symm (ey3 ▸ (wrap_in _ _)) (h.wk (by rfl) [0] (by decide) (by rfl))
  ·have H := ifF c1 H
   refine g_f h rfl c1 ?_
   refine Go.exit rfl ?_
   have e_ := som H; subst e_
   exact J3 s1.1 _ _ (nx_out i1).symm g2 (h.wk (by rfl) [] (by decide) (by rfl))
 ·exact I_ _ _ (show InR .u64 0 by decide) (show InR .i64 0 by decide) (h.wk (by rfl) [0] (by decide) (by rfl))
def ref01_Get.g (k_ : Nat) (a1 : List Int) (a2 : Bool) : Option (Int) :=
  lt (min (a1.length : Int) 8) fun y1 => (loopK k_ (fun s1 => (if decide (s1.2 < y1) = true then (((if a2 = true then (idx a1 s1.2).bind fun x1 => lt (IntKind.u64.wrap ((IntKind.u64.wrap (s1.1 * 256)) + x1)) fun y2 => some (y2) else (idx a1 (IntKind.i64.wrap ((IntKind.i64.wrap (y1 - 1)) - s1.2))).bind fun x2 => lt (IntKind.u64.wrap ((IntKind.u64.wrap (s1.1 * 256)) + x2)) fun y3 => some (y3))).bind (fun j1 => some (j1))).bind (fun j2 => lt (IntKind.i64.wrap (s1.2 + 1)) fun y4 => some (.inl (j2, y4))) else some (.inr (s1.1)))) (0, 0)).bind (fun j3 => some (j3))
theorem ref01_Get.le (k_ : Nat) (a1 : List Int) (a2 : Bool) : Le (ref01_Get.g k_ a1 a2) (ref01_Get.f a1 a2) := by
 unfold ref01_Get.g ref01_Get.f
 repeat' (first | with_reducible refine le_loop fun _ => ?_ | with_reducible refine le_bind ?_ fun _ => ?_ | with_reducible refine le_ite ?_ ?_ | with_reducible refine le_lt fun _ => ?_ | with_reducible refine le_elim (fun _ => ?_) (fun _ => ?_) _ | with_reducible exact le_refl _)
/-! drawbridge/drawbridgeref15.Right -/
noncomputable def ref15_Right.f (a1 : List Int) : Option (Bool) :=
  (ref15_Sum.f a1).bind fun r1 => lt (decide (r1 = 0)) fun y1 => some (y1)
set_option maxRecDepth 100000 in
set_option maxHeartbeats 4000000 in
theorem ref15_Right.spc (v1 : Value) (a1 : List Int) (r : Bool) (H : ref15_Right.f a1 = some r) : Spc Tryd.prog 23 [v1] [Val (Kd.sl (Kd.int .u8)) v1 a1] [] (fun (s : Unit) => .bool r) (fun s => []) := by
 unfold ref15_Right.f at H
 refine Spc.go Tryd.func23 rfl (by kernel_rfl) rfl rfl (all_cons (Val.per Per_sl) all_nil) fun F a w h => ?_
 refine Go.seq ?_
 refine Go.reg ?_
 refine gs h (o_assign rfl) rfl fun _ _ _ h => ?_
 refine GoR.done ?_
 refine Go.seq ?_
 refine Go.reg ?_
 refine gs h (o_move rfl) rfl fun _ _ _ h => ?_
 obtain ⟨r1, er1, H⟩ := bindE H
 refine gs h (o_call (ref15_Sum.spc v1 a1 r1 er1) rfl [0] [] (by decide) rfl rfl) rfl fun _ _ _ h => ?_
 have g1 := h.mem.pur 0 rfl
 refine gs h (o_bin rfl rfl rfl) rfl fun _ _ _ h => ?_
 obtain ⟨y1, ey1, H⟩ := ltE H
 refine gs h (o_assign' rfl (congrArg Value.bool ey1)) rfl fun _ _ _ h => ?_
 refine GoR.done ?_
 rw [← som H]
 exact g_ret (vs := [.bool y1]) h Tryd.func23 ⟨rfl, trivial⟩ ⟨(), rfl, (h.mem.pick [] (by decide) rfl)⟩
def ref15_Right.g (k_ : Nat) (a1 : List Int) : Option (Bool) :=
  (ref15_Sum.g k_ a1).bind fun r1 => lt (decide (r1 = 0)) fun y1 => some (y1)
theorem ref15_Right.le (k_ : Nat) (a1 : List Int) : Le (ref15_Right.g k_ a1) (ref15_Right.f a1) := by
 unfold ref15_Right.g ref15_Right.f
 repeat' (first | with_reducible refine le_loop fun _ => ?_ | with_reducible refine le_bind ?_ fun _ => ?_ | with_reducible refine le_ite ?_ ?_ | with_reducible refine le_lt fun _ => ?_ | with_reducible refine le_elim (fun _ => ?_) (fun _ => ?_) _ | with_reducible apply ref15_Sum.le | with_reducible exact le_refl _)
/-! drawbridge/drawbridgeref18.Get -/
noncomputable def ref18_Get.f (a1 : List Int) (a2 : Int) (a3 : Int) : Option (TUdp × Int) :=
  (if decide ((a1.length : Int) < 8) = true then some (((⟨0, 0, []⟩ : TUdp), 160)) else (cut a1 4 6).bind fun x1 => (ref01_Get.f x1 true).bind fun r1 => lt (IntKind.i64.wrap r1) fun y1 => (if decide (y1 < 8) = true then some (((⟨0, 0, []⟩ : TUdp), 161)) else (if decide ((a1.length : Int) < y1) = true then some (((⟨0, 0, []⟩ : TUdp), 160)) else ((idx a1 6).bind fun x2 => (if (!decide (x2 = 0)) = true then (ref15_Pseudo.f a2 a3 17 y1).bind fun r2 => (cut a1 0 y1).bind fun x3 => (app r2 x3).bind fun x4 => (ref15_Right.f x4).bind fun r3 => some ((!r3)) else (idx a1 7).bind fun x5 => (if (!decide (x5 = 0)) = true then (ref15_Pseudo.f a2 a3 17 y1).bind fun r4 => (cut a1 0 y1).bind fun x6 => (app r4 x6).bind fun x7 => (ref15_Right.f x7).bind fun r5 => some ((!r5)) else some (false)))).bind (fun j1 => (if j1 = true then some (((⟨0, 0, []⟩ : TUdp), 162)) else (cut a1 0 2).bind fun x8 => (ref01_Get.f x8 true).bind fun r6 => (cut a1 2 4).bind fun x9 => (ref01_Get.f x9 true).bind fun r7 => (cut a1 8 y1).bind fun x10 => (app ([] : List Int) x10).bind fun x11 => some (((⟨IntKind.i64.wrap r6, IntKind.i64.wrap r7, x11⟩ : TUdp), 0)))))))
set_option maxRecDepth 100000 in
set_option maxHeartbeats 4000000 in
theorem ref18_Get.spc (v1 : Value) (a1 : List Int) (a2 : Int) (ha2 : InR .u32 a2) (a3 : Int) (ha3 : InR .u32 a3) (r : TUdp × Int) (H : ref18_Get.f a1 a2 a3 = some r) : Spc Tryd.prog 10 [v1, .int .u32 a2, .int .u32 a3] [Val (Kd.sl (Kd.int .u8)) v1 a1] [] (fun (s : Value) => .tuple #[s, .int .i64 r.2]) (fun s => [Ent.pur (InR .i64 r.2), Val KUdp s r.1]) := by
 unfold ref18_Get.f at H
 refine Spc.go Tryd.func10 rfl (by kernel_rfl) rfl rfl (all_cons (Val.per Per_sl) all_nil) fun F a w h => ?_
 refine Go.seq ?_
 refine Go.reg ?_
 refine gs h (o_alloc (K := KUdp) (z := (.agg #[.int .i64 0, .int .i64 0, .slice none 0 0])) rfl ZUdp) rfl fun b1 _ _ h => ?_
 refine gs h (o_assign rfl) rfl fun _ _ _ h => ?_
 refine GoR.done ?_
 refine Go.seq ?_
 refine Go.seq ?_
 refine Go.reg ?_
 refine gs h (o_move rfl) rfl fun _ _ _ h => ?_
 have g1 := (len_at 1 rfl h.mem)
 refine gs h (o_ln rfl (rd_at 1 rfl) t_v22) rfl fun _ _ _ h => ?_
 refine gs h (o_bin rfl rfl rfl) rfl fun _ _ _ h => ?_
 refine GoR.done ?_
 by_cases c1 : decide ((a1.length : Int) < 8) = true
 ·have H := ifT c1 H
  refine g_t h rfl c1 ?_
  refine Go.seq ?_
  refine Go.reg ?_
  refine gs h (o_build (K := KUdp) (x := (⟨0, 0, []⟩ : TUdp)) (ps := []) rfl (zs := zsUdp) rfl t_b24 rfl (show PB (Kd.pair (Kd.int .i64) (Kd.pair (Kd.int .i64) (Kd.last (Kd.sl (Kd.int .u8))))) (0, 0, []) 0 zsUdp _ _ from (pb_zero z_int (pb_zero z_int (pb_lastz z_sl))))) rfl fun v2 _ _ h => ?_
  refine gs0 h (o_st 1 rfl rfl rfl (pv_at PUdp 0 rfl) rfl t_w24) fun _ _ _ h => ?_
  refine gs h (o_assign rfl) rfl fun _ _ _ h => ?_
  refine GoR.done ?_
  obtain ⟨v3, h, u1⟩ := h.peek 1 rfl PUdp t_y24
  rw [← som H]
  exact g_ret (vs := [v3, .int .i64 160]) h Tryd.func10 ⟨⟨_, rfl, u1⟩, ⟨rfl, trivial⟩⟩ ⟨v3, rfl, ((h.mem.pick [0] (by decide) rfl).addpur (show InR .i64 160 by decide))⟩
 ·have H := ifF c1 H
  refine g_f h rfl c1 ?_
  refine Go.skip ?_
  refine Go.seq ?_
  refine Go.reg ?_
  refine gs h (o_move rfl) rfl fun _ _ _ h => ?_
  obtain ⟨x1, ex1, H⟩ := bindE H
  refine gs h (o_cut rfl (pv_at Per_sl 1 rfl) rfl rfl ex1 t_v22) rfl fun v4 _ _ h => ?_
  obtain ⟨r1, er1, H⟩ := bindE H
  refine gs h (o_call (ref01_Get.spc v4 x1 true r1 er1) rfl [0] [] (by decide) rfl rfl) rfl fun _ _ _ h => ?_
  have g2 := h.mem.pur 0 rfl
  refine gs h (o_conv rfl t_q43 t_u3) rfl fun _ _ _ h => ?_
  obtain ⟨y1, ey1, H⟩ := ltE H
  refine gs h (o_assign' rfl (congrArg (fun z => Value.int .i64 z) ey1)) rfl fun _ _ _ h => ?_
  refine GoR.done ?_
  refine Go.seq ?_
  refine Go.seq ?_
  refine Go.reg ?_
  refine gs h (o_move rfl) rfl fun _ _ _ h => ?_
  refine gs h (o_bin rfl rfl rfl) rfl fun _ _ _ h => ?_
  refine GoR.done ?_
  by_cases c2 : decide (y1 < 8) = true
  ·have H := ifT c2 H
   refine g_t h rfl c2 ?_
   refine Go.seq ?_
   refine Go.reg ?_
   refine gs h (o_build (K := KUdp) (x := (⟨0, 0, []⟩ : TUdp)) (ps := []) rfl (zs := zsUdp) rfl t_b24 rfl (show PB (Kd.pair (Kd.int .i64) (Kd.pair (Kd.int .i64) (Kd.last (Kd.sl (Kd.int .u8))))) (0, 0, []) 0 zsUdp _ _ from (pb_zero z_int (pb_zero z_int (pb_lastz z_sl))))) rfl fun v5 _ _ h => ?_
   refine gs0 h (o_st 3 rfl rfl rfl (pv_at PUdp 0 rfl) rfl t_w24) fun _ _ _ h => ?_
   refine gs h (o_assign rfl) rfl fun _ _ _ h => ?_
   refine GoR.done ?_
   obtain ⟨v6, h, u2⟩ := h.peek 3 rfl PUdp t_y24
   rw [← som H]
   exact g_ret (vs := [v6, .int .i64 161]) h Tryd.func10 ⟨⟨_, rfl, u2⟩, ⟨rfl, trivial⟩⟩ ⟨v6, rfl, ((h.mem.pick [0] (by decide) rfl).addpur (show InR .i64 161 by decide))⟩
  ·have H := ifF c2 H
   refine g_f h rfl c2 ?_
   refine Go.skip ?_
   refine Go.seq ?_
   refine Go.seq ?_
   refine Go.reg ?_
   refine gs h (o_move rfl) rfl fun _ _ _ h => ?_
   have g3 := (len_at 3 rfl h.mem)
   refine gs h (o_ln rfl (rd_at 3 rfl) t_v22) rfl fun _ _ _ h => ?_
   refine gs h (o_move rfl) rfl fun _ _ _ h => ?_
   refine gs h (o_bin rfl rfl rfl) rfl fun _ _ _ h => ?_
   refine GoR.done ?_
   by_cases c3 : decide ((a1.length : Int) < y1) = true
   ·have H := ifT c3 H
    refine g_t h rfl c3 ?_
    refine Go.seq ?_
    refine Go.reg ?_
    refine gs h (o_build (K := KUdp) (x := (⟨0, 0, []⟩ : TUdp)) (ps := []) rfl (zs := zsUdp) rfl t_b24 rfl (show PB (Kd.pair (Kd.int .i64) (Kd.pair (Kd.int .i64) (Kd.last (Kd.sl (Kd.int .u8))))) (0, 0, []) 0 zsUdp _ _ from (pb_zero z_int (pb_zero z_int (pb_lastz z_sl))))) rfl fun v7 _ _ h => ?_
    refine gs0 h (o_st 3 rfl rfl rfl (pv_at PUdp 0 rfl) rfl t_w24) fun _ _ _ h => ?_
    refine gs h (o_assign rfl) rfl fun _ _ _ h => ?_
    refine GoR.done ?_
    obtain ⟨v8, h, u3⟩ := h.peek 3 rfl PUdp t_y24
    rw [← som H]
    exact g_ret (vs := [v8, .int .i64 160]) h Tryd.func10 ⟨⟨_, rfl, u3⟩, ⟨rfl, trivial⟩⟩ ⟨v8, rfl, ((h.mem.pick [0] (by decide) rfl).addpur (show InR .i64 160 by decide))⟩
   ·have H := ifF c3 H
    refine g_f h rfl c3 ?_
    refine Go.skip ?_
    refine Go.seq ?_
    refine Go.seq ?_
    replace h := h.wk (E' := [(0, v1), (1, .int .u32 a2), (2, .int .u32 a3), (6, .pointer (some ⟨b1, 0, none⟩)), (7, .int .i64 0), (8, .int .i64 y1)]) (L' := [Ent.pur (InR .u64 r1), Val (Kd.sl (Kd.int .u8)) v4 x1, Fld KUdp b1 0 zUdp, Val (Kd.sl (Kd.int .u8)) v1 a1]) (by rfl) [0, 1, 2, 3] (by decide) (by rfl)
    obtain ⟨o1, H, G1⟩ := bindE H
    refine g_cut (fun G => ∀ j1 (a : Act) (w : World), o1 = j1 → St Tryd.f10.ntmps F [(0, v1), (6, .pointer (some ⟨b1, 0, none⟩)), (8, .int .i64 y1), (46, .bool j1)] [Val (Kd.sl (Kd.int .u8)) v1 a1, Fld KUdp b1 0 zUdp] a w → G a w) 1 ?_ fun J1 => ?_
    ·intro j1 a w ho_ h
     rw [ho_] at G1
     have H := G1
     by_cases c6 : j1 = true
     ·have H := ifT c6 H
      refine g_t h rfl c6 ?_
      refine Go.seq ?_
      refine Go.reg ?_
      refine gs h (o_build (K := KUdp) (x := (⟨0, 0, []⟩ : TUdp)) (ps := []) rfl (zs := zsUdp) rfl t_b24 rfl (show PB (Kd.pair (Kd.int .i64) (Kd.pair (Kd.int .i64) (Kd.last (Kd.sl (Kd.int .u8))))) (0, 0, []) 0 zsUdp _ _ from (pb_zero z_int (pb_zero z_int (pb_lastz z_sl))))) rfl fun v15 _ _ h => ?_
      refine gs0 h (o_st 2 rfl rfl rfl (pv_at PUdp 0 rfl) rfl t_w24) fun _ _ _ h => ?_
      refine gs h (o_assign rfl) rfl fun _ _ _ h => ?_
      refine GoR.done ?_
      obtain ⟨v16, h, u4⟩ := h.peek 2 rfl PUdp t_y24
      rw [← som H]
      exact g_ret (vs := [v16, .int .i64 162]) h Tryd.func10 ⟨⟨_, rfl, u4⟩, ⟨rfl, trivial⟩⟩ ⟨v16, rfl, ((h.mem.pick [0] (by decide) rfl).addpur (show InR .i64 162 by decide))⟩
     ·have H := ifF c6 H
      refine g_f h rfl c6 ?_
      refine Go.skip ?_
      refine Go.seq ?_
      replace h := h.wk (E' := [(0, v1), (6, .pointer (some ⟨b1, 0, none⟩)), (8, .int .i64 y1)]) (L' := [Val (Kd.sl (Kd.int .u8)) v1 a1, Fld KUdp b1 0 zUdp]) (by rfl) [0, 1] (by decide) (by rfl)
      obtain ⟨x8, ex8, H⟩ := bindE H
      obtain ⟨r6, er6, H⟩ := bindE H
      obtain ⟨x9, ex9, H⟩ := bindE H
      obtain ⟨r7, er7, H⟩ := bindE H
      obtain ⟨x10, ex10, H⟩ := bindE H
      obtain ⟨x11, ex11, H⟩ := bindE H
      refine Go.draw (L := [Val (Kd.sl (Kd.int .u8)) v1 a1, Fld KUdp b1 0 zUdp]) h 13 [⟨[], [], [], false, .con (v1), none, fun u => []⟩, ⟨[0], [], [], false, .own, none, fun u => [Val (Kd.sl (Kd.int .u8)) u x8]⟩, ⟨[0, 1], [1], [], false, .con (.int .u64 r6), none, fun u => [Ent.pur (InR .u64 r6)]⟩, ⟨[0, 1, 2], [], [], false, .con (.int .i64 (IntKind.i64.wrap r6)), none, fun u => []⟩, ⟨[], [], [], false, .con (v1), none, fun u => []⟩, ⟨[4], [], [], false, .own, none, fun u => [Val (Kd.sl (Kd.int .u8)) u x9]⟩, ⟨[4, 5], [5], [], false, .con (.int .u64 r7), none, fun u => [Ent.pur (InR .u64 r7)]⟩, ⟨[4, 5, 6], [], [], false, .con (.int .i64 (IntKind.i64.wrap r7)), none, fun u => []⟩, ⟨[], [], [], false, .own, none, fun u => [Val (Kd.osl (Kd.int .u8)) u ([] : List Int)]⟩, ⟨[], [], [], false, .con (v1), none, fun u => []⟩, ⟨[], [], [], false, .con (.int .i64 y1), none, fun u => []⟩, ⟨[9, 10], [], [], false, .own, none, fun u => [Val (Kd.sl (Kd.int .u8)) u x10]⟩, ⟨[8, 9, 10, 11], [8, 11], [8], false, .own, none, fun u => [Val (Kd.osl (Kd.int .u8)) u x11]⟩] rfl t_mxo (by kernel_rfl) (by rfl) ?_ fun f2 _ _ h => ?_
      ·exact obs_cons (ob_con rfl (gok_none rfl) rfl fun f2 => (o_move rfl)) (obs_cons (ob_own rfl (gok_none rfl) rfl fun f2 => (o_cuth rfl (pv_at Per_sl 0 rfl) rfl ex8 t_v22)) (obs_cons (ob_con rfl (gok_none rfl) rfl fun f2 => (o_call (ref01_Get.spc (f2 1) x8 true r6 er6) rfl [0] [] (by decide) rfl rfl)) (obs_cons (ob_con rfl (gok_none rfl) rfl fun f2 => (o_conv rfl t_q43 t_u3)) (obs_cons (ob_con rfl (gok_none rfl) rfl fun f2 => (o_move rfl)) (obs_cons (ob_own rfl (gok_none rfl) rfl fun f2 => (o_cut rfl (pv_at Per_sl 0 rfl) rfl rfl ex9 t_v22)) (obs_cons (ob_con rfl (gok_none rfl) rfl fun f2 => (o_call (ref01_Get.spc (f2 5) x9 true r7 er7) rfl [0] [] (by decide) rfl rfl)) (obs_cons (ob_con rfl (gok_none rfl) rfl fun f2 => (o_conv rfl t_q43 t_u3)) (obs_cons (ob_own rfl (gok_none rfl) rfl fun f2 => (o_bs (K := (Kd.int .u8)) (vs := []) (xs := ([] : List Int)) rfl rfl pvs_nil t_a22 (by decide) (by decide))) (obs_cons (ob_con rfl (gok_none rfl) rfl fun f2 => (o_move rfl)) (obs_cons (ob_con rfl (gok_none rfl) rfl fun f2 => (o_move rfl)) (obs_cons (ob_own rfl (gok_none rfl) rfl fun f2 => (o_cut rfl (pv_at Per_sl 0 rfl) rfl rfl ex10 t_v22)) (obs_cons (ob_own rfl (gok_none rfl) rfl fun f2 => (o_app (K := (Kd.int .u8)) 0 rfl rfl rfl (rd_at 1 rfl) ex11 t_a22 t_n22)) (obs_nil)))))))))))))
      replace h := h.wk (E' := [(6, .pointer (some ⟨b1, 0, none⟩)), (51, .int .i64 (IntKind.i64.wrap r6)), (55, .int .i64 (IntKind.i64.wrap r7)), (60, (f2 12))]) (L' := [Val (Kd.sl (Kd.int .u8)) (f2 1) x8, Ent.pur (InR .u64 r6), Val (Kd.sl (Kd.int .u8)) (f2 5) x9, Ent.pur (InR .u64 r7), Val (Kd.sl (Kd.int .u8)) (f2 11) x10, Val (Kd.osl (Kd.int .u8)) (f2 12) x11, Val (Kd.sl (Kd.int .u8)) v1 a1, Fld KUdp b1 0 zUdp]) (by kernel_rfl) [0, 1, 2, 3, 4, 5, 6, 7] (by decide) (by kernel_rfl)
      replace h := h.mm fun m => m.freeze 5 rfl
      refine gs h (o_build (K := KUdp) (x := (⟨IntKind.i64.wrap r6, IntKind.i64.wrap r7, x11⟩ : TUdp)) (ps := [(0, .int .i64 (IntKind.i64.wrap r6)), (1, .int .i64 (IntKind.i64.wrap r7)), (2, (f2 12))]) rfl (zs := zsUdp) rfl t_b24 rfl (show PB (Kd.pair (Kd.int .i64) (Kd.pair (Kd.int .i64) (Kd.last (Kd.sl (Kd.int .u8))))) (IntKind.i64.wrap r6, IntKind.i64.wrap r7, x11) 0 zsUdp _ _ from (pb_part (pv_int (wrap_in _ _)) rfl (pb_part (pv_int (wrap_in _ _)) rfl (pb_lastp (pv_at Per_sl 5 rfl) rfl))))) rfl fun v22 _ _ h => ?_
      refine gs0 h (o_st 8 rfl rfl rfl (pv_at PUdp 0 rfl) rfl t_w24) fun _ _ _ h => ?_
      refine gs h (o_assign rfl) rfl fun _ _ _ h => ?_
      refine GoR.done ?_
      obtain ⟨v23, h, u5⟩ := h.peek 8 rfl PUdp t_y24
      rw [← som H]
      exact g_ret (vs := [v23, .int .i64 0]) h Tryd.func10 ⟨⟨_, rfl, u5⟩, ⟨rfl, trivial⟩⟩ ⟨v23, rfl, ((h.mem.pick [0] (by decide) rfl).addpur (show InR .i64 0 by decide))⟩
    obtain ⟨x2, ex2, H⟩ := bindE H
    by_cases c4 : (!decide (x2 = 0)) = true
    ·have H := ifT c4 H
     obtain ⟨r2, er2, H⟩ := bindE H
     obtain ⟨x3, ex3, H⟩ := bindE H
     refine Go.draw (L := [Ent.pur (InR .u64 r1), Val (Kd.sl (Kd.int .u8)) v4 x1, Fld KUdp b1 0 zUdp, Val (Kd.sl (Kd.int .u8)) v1 a1]) h 18 [⟨[], [], [], false, .con (v1), none, fun u => []⟩, ⟨[0], [], [], false, .con (elemP v1 ((6 : Int).toNat * Kd.n (Kd.int .u8))), none, fun u => []⟩, ⟨[0, 1], [], [], false, .con (.int .u8 x2), none, fun u => [Ent.pur (InR .u8 x2)]⟩, ⟨[0, 1, 2], [], [], false, .con (.bool (!decide (x2 = 0))), none, fun u => []⟩, ⟨[0, 1, 2, 3], [], [], false, .con (.bool (!decide (x2 = 0))), none, fun u => []⟩, ⟨[4], [], [], true, .con undef, none, fun u => []⟩, ⟨[4], [], [], true, .con undef, none, fun u => []⟩, ⟨[4], [], [], true, .con undef, none, fun u => []⟩, ⟨[4], [], [], true, .con undef, none, fun u => []⟩, ⟨[0, 1, 2, 3, 4, 5, 6, 7, 8], [], [], false, .con (.bool true), none, fun u => []⟩, ⟨[0, 1, 2, 3, 4, 5, 6, 7, 8, 9], [], [], false, .con (.bool true), none, fun u => []⟩, ⟨[0, 1, 2, 3, 4, 5, 6, 7, 8, 9, 10], [], [], false, .con (.int .u32 a2), none, fun u => []⟩, ⟨[0, 1, 2, 3, 4, 5, 6, 7, 8, 9, 10], [], [], false, .con (.int .u32 a3), none, fun u => []⟩, ⟨[0, 1, 2, 3, 4, 5, 6, 7, 8, 9, 10], [], [], false, .con (.int .i64 y1), none, fun u => []⟩, ⟨[0, 1, 2, 3, 4, 5, 6, 7, 8, 9, 10, 11, 12, 13], [], [], false, .own, none, fun u => [Val (Kd.osl (Kd.int .u8)) u r2]⟩, ⟨[0, 1, 2, 3, 4, 5, 6, 7, 8, 9, 10], [], [], false, .con (v1), none, fun u => []⟩, ⟨[0, 1, 2, 3, 4, 5, 6, 7, 8, 9, 10], [], [], false, .con (.int .i64 y1), none, fun u => []⟩, ⟨[0, 1, 2, 3, 4, 5, 6, 7, 8, 9, 10, 15, 16], [], [], false, .own, none, fun u => [Val (Kd.sl (Kd.int .u8)) u x3]⟩] rfl t_mxo (by kernel_rfl) (by rfl) ?_ fun f1 _ _ h => ?_
     ·exact obs_cons (ob_con rfl (gok_none rfl) rfl fun f1 => (o_move rfl)) (obs_cons (ob_con rfl (gok_none rfl) rfl fun f1 => (o_ix rfl rfl (rd_at 3 rfl) ex2 t_v22)) (obs_cons (ob_con rfl (gok_none rfl) rfl fun f1 => (OpS.pur (fun F w m_ => (rd_inr (rd_at 3 rfl) ex2 m_)) (o_lex rfl (rd_at 3 rfl) ex2 X_int t_y5 (by decide)))) (obs_cons (ob_con rfl (gok_none rfl) rfl fun f1 => (o_bin rfl rfl rfl)) (obs_cons (ob_con rfl (gok_none rfl) rfl fun f1 => (o_move rfl)) (obs_cons (ob_skip rfl rfl rfl rfl (fun _ => rfl) (nb_t c4) rfl rfl rfl rfl) (obs_cons (ob_skip rfl rfl rfl rfl (fun _ => rfl) (nb_t c4) rfl rfl rfl rfl) (obs_cons (ob_skip rfl rfl rfl rfl (fun _ => rfl) (nb_t c4) rfl rfl rfl rfl) (obs_cons (ob_skip rfl rfl rfl rfl (fun _ => rfl) (nb_t c4) rfl rfl rfl rfl) (obs_cons (ob_con rfl (gok_none rfl) rfl fun f1 => (o_pickT rfl rfl c4)) (obs_cons (ob_con rfl (gok_none rfl) rfl fun f1 => (o_move rfl)) (obs_cons (ob_con rfl (gok_some rfl rfl rfl (fun _ => rfl) rfl) rfl fun f1 => (o_move rfl)) (obs_cons (ob_con rfl (gok_some rfl rfl rfl (fun _ => rfl) rfl) rfl fun f1 => (o_move rfl)) (obs_cons (ob_con rfl (gok_some rfl rfl rfl (fun _ => rfl) rfl) rfl fun f1 => (o_move rfl)) (obs_cons (ob_own rfl (gok_some rfl rfl rfl (fun _ => rfl) rfl) rfl fun f1 => (o_call (ref15_Pseudo.spc a2 ha2 a3 ha3 17 (show InR .i64 17 by decide) y1 (ey1 ▸ (wrap_in _ _)) r2 er2) rfl [] [] (by decide) rfl rfl)) (obs_cons (ob_con rfl (gok_some rfl rfl rfl (fun _ => rfl) rfl) rfl fun f1 => (o_move rfl)) (obs_cons (ob_con rfl (gok_some rfl rfl rfl (fun _ => rfl) rfl) rfl fun f1 => (o_move rfl)) (obs_cons (ob_own rfl (gok_some rfl rfl rfl (fun _ => rfl) rfl) rfl fun f1 => (o_cuth rfl (pv_at Per_sl 3 rfl) rfl ex3 t_v22)) (obs_nil))))))))))))))))))
     replace h := h.wk (E' := [(0, v1), (6, .pointer (some ⟨b1, 0, none⟩)), (7, .int .i64 0), (8, .int .i64 y1), (35, .bool true), (39, (f1 14)), (42, (f1 17))]) (L' := [Ent.pur (InR .u8 x2), Val (Kd.osl (Kd.int .u8)) (f1 14) r2, Val (Kd.sl (Kd.int .u8)) (f1 17) x3, Ent.pur (InR .u64 r1), Val (Kd.sl (Kd.int .u8)) v4 x1, Fld KUdp b1 0 zUdp, Val (Kd.sl (Kd.int .u8)) v1 a1]) (by kernel_rfl) [0, 1, 2, 3, 4, 5, 6] (by decide) (by kernel_rfl)
     obtain ⟨x4, ex4, H⟩ := bindE H
     refine gg h rfl rfl rfl (o_app (K := (Kd.int .u8)) 1 rfl rfl rfl (rd_at 2 rfl) ex4 t_a22 t_n22) rfl fun v11 _ _ h => ?_
     replace h := h.mm fun m => m.freeze 1 rfl
     obtain ⟨r3, er3, H⟩ := bindE H
     refine gg h rfl rfl rfl (o_call (ref15_Right.spc v11 x4 r3 er3) rfl [1] [] (by decide) rfl rfl) rfl fun _ _ _ h => ?_
     refine gg h rfl rfl rfl (o_not rfl) rfl fun _ _ _ h => ?_
     refine gs h (o_pickT rfl rfl rfl) rfl fun _ _ _ h => ?_
     refine GoR.done ?_
     exact J1 (!r3) _ _ (som H).symm (h.wk (by rfl) [6, 5] (by decide) (by rfl))
    ·have H := ifF c4 H
     obtain ⟨x5, ex5, H⟩ := bindE H
     by_cases c5 : (!decide (x5 = 0)) = true
     ·have H := ifT c5 H
      obtain ⟨r4, er4, H⟩ := bindE H
      obtain ⟨x6, ex6, H⟩ := bindE H
      refine Go.draw (L := [Ent.pur (InR .u64 r1), Val (Kd.sl (Kd.int .u8)) v4 x1, Fld KUdp b1 0 zUdp, Val (Kd.sl (Kd.int .u8)) v1 a1]) h 18 [⟨[], [], [], false, .con (v1), none, fun u => []⟩, ⟨[0], [], [], false, .con (elemP v1 ((6 : Int).toNat * Kd.n (Kd.int .u8))), none, fun u => []⟩, ⟨[0, 1], [], [], false, .con (.int .u8 x2), none, fun u => [Ent.pur (InR .u8 x2)]⟩, ⟨[0, 1, 2], [], [], false, .con (.bool (!decide (x2 = 0))), none, fun u => []⟩, ⟨[0, 1, 2, 3], [], [], false, .con (.bool (!decide (x2 = 0))), none, fun u => []⟩, ⟨[0, 1, 2, 3, 4], [], [], false, .con (v1), none, fun u => []⟩, ⟨[0, 1, 2, 3, 4, 5], [], [], false, .con (elemP v1 ((7 : Int).toNat * Kd.n (Kd.int .u8))), none, fun u => []⟩, ⟨[0, 1, 2, 3, 4, 5, 6], [], [], false, .con (.int .u8 x5), none, fun u => [Ent.pur (InR .u8 x5)]⟩, ⟨[0, 1, 2, 3, 4, 5, 6, 7], [], [], false, .con (.bool (!decide (x5 = 0))), none, fun u => []⟩, ⟨[0, 1, 2, 3, 4, 5, 6, 7, 8], [], [], false, .con (.bool (!decide (x5 = 0))), none, fun u => []⟩, ⟨[0, 1, 2, 3, 4, 5, 6, 7, 8, 9], [], [], false, .con (.bool (!decide (x5 = 0))), none, fun u => []⟩, ⟨[0, 1, 2, 3, 4, 5, 6, 7, 8, 9, 10], [], [], false, .con (.int .u32 a2), none, fun u => []⟩, ⟨[0, 1, 2, 3, 4, 5, 6, 7, 8, 9, 10], [], [], false, .con (.int .u32 a3), none, fun u => []⟩, ⟨[0, 1, 2, 3, 4, 5, 6, 7, 8, 9, 10], [], [], false, .con (.int .i64 y1), none, fun u => []⟩, ⟨[0, 1, 2, 3, 4, 5, 6, 7, 8, 9, 10, 11, 12, 13], [], [], false, .own, none, fun u => [Val (Kd.osl (Kd.int .u8)) u r4]⟩, ⟨[0, 1, 2, 3, 4, 5, 6, 7, 8, 9, 10], [], [], false, .con (v1), none, fun u => []⟩, ⟨[0, 1, 2, 3, 4, 5, 6, 7, 8, 9, 10], [], [], false, .con (.int .i64 y1), none, fun u => []⟩, ⟨[0, 1, 2, 3, 4, 5, 6, 7, 8, 9, 10, 15, 16], [], [], false, .own, none, fun u => [Val (Kd.sl (Kd.int .u8)) u x6]⟩] rfl t_mxo (by kernel_rfl) (by rfl) ?_ fun f1 _ _ h => ?_
      ·exact obs_cons (ob_con rfl (gok_none rfl) rfl fun f1 => (o_move rfl)) (obs_cons (ob_con rfl (gok_none rfl) rfl fun f1 => (o_ix rfl rfl (rd_at 3 rfl) ex2 t_v22)) (obs_cons (ob_con rfl (gok_none rfl) rfl fun f1 => (OpS.pur (fun F w m_ => (rd_inr (rd_at 3 rfl) ex2 m_)) (o_lex rfl (rd_at 3 rfl) ex2 X_int t_y5 (by decide)))) (obs_cons (ob_con rfl (gok_none rfl) rfl fun f1 => (o_bin rfl rfl rfl)) (obs_cons (ob_con rfl (gok_none rfl) rfl fun f1 => (o_move rfl)) (obs_cons (ob_con rfl (gok_some rfl rfl rfl (fun _ => rfl) (nbF c4)) rfl fun f1 => (o_move rfl)) (obs_cons (ob_con rfl (gok_some rfl rfl rfl (fun _ => rfl) (nbF c4)) rfl fun f1 => (o_ix rfl rfl (rd_at 3 rfl) ex5 t_v22)) (obs_cons (ob_con rfl (gok_some rfl rfl rfl (fun _ => rfl) (nbF c4)) rfl fun f1 => (OpS.pur (fun F w m_ => (rd_inr (rd_at 3 rfl) ex5 m_)) (o_lex rfl (rd_at 3 rfl) ex5 X_int t_y5 (by decide)))) (obs_cons (ob_con rfl (gok_some rfl rfl rfl (fun _ => rfl) (nbF c4)) rfl fun f1 => (o_bin rfl rfl rfl)) (obs_cons (ob_con rfl (gok_none rfl) rfl fun f1 => (o_pickF rfl rfl c4)) (obs_cons (ob_con rfl (gok_none rfl) rfl fun f1 => (o_move rfl)) (obs_cons (ob_con rfl (gok_some rfl rfl rfl (fun _ => rfl) c5) rfl fun f1 => (o_move rfl)) (obs_cons (ob_con rfl (gok_some rfl rfl rfl (fun _ => rfl) c5) rfl fun f1 => (o_move rfl)) (obs_cons (ob_con rfl (gok_some rfl rfl rfl (fun _ => rfl) c5) rfl fun f1 => (o_move rfl)) (obs_cons (ob_own rfl (gok_some rfl rfl rfl (fun _ => rfl) c5) rfl fun f1 => (o_call (ref15_Pseudo.spc a2 ha2 a3 ha3 17 (show InR .i64 17 by decide) y1 (ey1 ▸ (wrap_in _ _)) r4 er4) rfl [] [] (by decide) rfl rfl)) (obs_cons (ob_con rfl (gok_some rfl rfl rfl (fun _ => rfl) c5) rfl fun f1 => (o_move rfl)) (obs_cons (ob_con rfl (gok_some rfl rfl rfl (fun _ => rfl) c5) rfl fun f1 => (o_move rfl)) (obs_cons (ob_own rfl (gok_some rfl rfl rfl (fun _ => rfl) c5) rfl fun f1 => (o_cuth rfl (pv_at Per_sl 3 rfl) rfl ex6 t_v22)) (obs_nil))))))))))))))))))
      replace h := h.wk (E' := [(0, v1), (6, .pointer (some ⟨b1, 0, none⟩)), (7, .int .i64 0), (8, .int .i64 y1), (35, .bool (!decide (x5 = 0))), (39, (f1 14)), (42, (f1 17))]) (L' := [Ent.pur (InR .u8 x2), Ent.pur (InR .u8 x5), Val (Kd.osl (Kd.int .u8)) (f1 14) r4, Val (Kd.sl (Kd.int .u8)) (f1 17) x6, Ent.pur (InR .u64 r1), Val (Kd.sl (Kd.int .u8)) v4 x1, Fld KUdp b1 0 zUdp, Val (Kd.sl (Kd.int .u8)) v1 a1]) (by kernel_rfl) [0, 1, 2, 3, 4, 5, 6, 7] (by decide) (by kernel_rfl)
      obtain ⟨x7, ex7, H⟩ := bindE H
      refine gg h rfl rfl c5 (o_app (K := (Kd.int .u8)) 2 rfl rfl rfl (rd_at 3 rfl) ex7 t_a22 t_n22) rfl fun v14 _ _ h => ?_
      replace h := h.mm fun m => m.freeze 2 rfl
      obtain ⟨r5, er5, H⟩ := bindE H
      refine gg h rfl rfl c5 (o_call (ref15_Right.spc v14 x7 r5 er5) rfl [2] [] (by decide) rfl rfl) rfl fun _ _ _ h => ?_
      refine gg h rfl rfl c5 (o_not rfl) rfl fun _ _ _ h => ?_
      refine gs h (o_pickT rfl rfl c5) rfl fun _ _ _ h => ?_
      refine GoR.done ?_
      exact J1 (!r5) _ _ (som H).symm (h.wk (by rfl) [7, 6] (by decide) (by rfl))
     ·have H := ifF c5 H
      refine Go.draw (L := [Ent.pur (InR .u64 r1), Val (Kd.sl (Kd.int .u8)) v4 x1, Fld KUdp b1 0 zUdp, Val (Kd.sl (Kd.int .u8)) v1 a1]) h 18 [⟨[], [], [], false, .con (v1), none, fun u => []⟩, ⟨[0], [], [], false, .con (elemP v1 ((6 : Int).toNat * Kd.n (Kd.int .u8))), none, fun u => []⟩, ⟨[0, 1], [], [], false, .con (.int .u8 x2), none, fun u => [Ent.pur (InR .u8 x2)]⟩, ⟨[0, 1, 2], [], [], false, .con (.bool (!decide (x2 = 0))), none, fun u => []⟩, ⟨[0, 1, 2, 3], [], [], false, .con (.bool (!decide (x2 = 0))), none, fun u => []⟩, ⟨[0, 1, 2, 3, 4], [], [], false, .con (v1), none, fun u => []⟩, ⟨[0, 1, 2, 3, 4, 5], [], [], false, .con (elemP v1 ((7 : Int).toNat * Kd.n (Kd.int .u8))), none, fun u => []⟩, ⟨[0, 1, 2, 3, 4, 5, 6], [], [], false, .con (.int .u8 x5), none, fun u => [Ent.pur (InR .u8 x5)]⟩, ⟨[0, 1, 2, 3, 4, 5, 6, 7], [], [], false, .con (.bool (!decide (x5 = 0))), none, fun u => []⟩, ⟨[0, 1, 2, 3, 4, 5, 6, 7, 8], [], [], false, .con (.bool (!decide (x5 = 0))), none, fun u => []⟩, ⟨[0, 1, 2, 3, 4, 5, 6, 7, 8, 9], [], [], false, .con (.bool (!decide (x5 = 0))), none, fun u => []⟩, ⟨[10], [], [], true, .con undef, none, fun u => []⟩, ⟨[10], [], [], true, .con undef, none, fun u => []⟩, ⟨[10], [], [], true, .con undef, none, fun u => []⟩, ⟨[10], [], [], true, .con undef, none, fun u => []⟩, ⟨[10], [], [], true, .con undef, none, fun u => []⟩, ⟨[10], [], [], true, .con undef, none, fun u => []⟩, ⟨[10], [], [], true, .con undef, none, fun u => []⟩] rfl t_mxo (by kernel_rfl) (by rfl) ?_ fun f1 _ _ h => ?_
      ·exact obs_cons (ob_con rfl (gok_none rfl) rfl fun f1 => (o_move rfl)) (obs_cons (ob_con rfl (gok_none rfl) rfl fun f1 => (o_ix rfl rfl (rd_at 3 rfl) ex2 t_v22)) (obs_cons (ob_con rfl (gok_none rfl) rfl fun f1 => (OpS.pur (fun F w m_ => (rd_inr (rd_at 3 rfl) ex2 m_)) (o_lex rfl (rd_at 3 rfl) ex2 X_int t_y5 (by decide)))) (obs_cons (ob_con rfl (gok_none rfl) rfl fun f1 => (o_bin rfl rfl rfl)) (obs_cons (ob_con rfl (gok_none rfl) rfl fun f1 => (o_move rfl)) (obs_cons (ob_con rfl (gok_some rfl rfl rfl (fun _ => rfl) (nbF c4)) rfl fun f1 => (o_move rfl)) (obs_cons (ob_con rfl (gok_some rfl rfl rfl (fun _ => rfl) (nbF c4)) rfl fun f1 => (o_ix rfl rfl (rd_at 3 rfl) ex5 t_v22)) (obs_cons (ob_con rfl (gok_some rfl rfl rfl (fun _ => rfl) (nbF c4)) rfl fun f1 => (OpS.pur (fun F w m_ => (rd_inr (rd_at 3 rfl) ex5 m_)) (o_lex rfl (rd_at 3 rfl) ex5 X_int t_y5 (by decide)))) (obs_cons (ob_con rfl (gok_some rfl rfl rfl (fun _ => rfl) (nbF c4)) rfl fun f1 => (o_bin rfl rfl rfl)) (obs_cons (ob_con rfl (gok_none rfl) rfl fun f1 => (o_pickF rfl rfl c4)) (obs_cons (ob_con rfl (gok_none rfl) rfl fun f1 => (o_move rfl)) (obs_cons (ob_skip rfl rfl rfl rfl (fun _ => rfl) (nb_f c5) rfl rfl rfl rfl) (obs_cons (ob_skip rfl rfl rfl rfl (fun _ => rfl) (nb_f c5) rfl rfl rfl rfl) (obs_cons (ob_skip rfl rfl rfl rfl (fun _ => rfl) (nb_f c5) rfl rfl rfl rfl) (obs_cons (ob_skip rfl rfl rfl rfl (fun _ => rfl) (nb_f c5) rfl rfl rfl rfl) (obs_cons (ob_skip rfl rfl rfl rfl (fun _ => rfl) (nb_f c5) rfl rfl rfl rfl) (obs_cons (ob_skip rfl rfl rfl rfl (fun _ => rfl) (nb_f c5) rfl rfl rfl rfl) (obs_cons (ob_skip rfl rfl rfl rfl (fun _ => rfl) (nb_f c5) rfl rfl rfl rfl) (obs_nil))))))))))))))))))
      replace h := h.wk (E' := [(0, v1), (6, .pointer (some ⟨b1, 0, none⟩)), (7, .int .i64 0), (8, .int .i64 y1), (35, .bool (!decide (x5 = 0)))]) (L' := [Ent.pur (InR .u8 x2), Ent.pur (InR .u8 x5), Ent.pur (InR .u64 r1), Val (Kd.sl (Kd.int .u8)) v4 x1, Fld KUdp b1 0 zUdp, Val (Kd.sl (Kd.int .u8)) v1 a1]) (by kernel_rfl) [0, 1, 2, 3, 4, 5] (by decide) (by kernel_rfl)
      refine gk h rfl rfl (nb_f c5) rfl fun _ h => ?_
      refine gk h rfl rfl (nb_f c5) rfl fun _ h => ?_
      refine gk h rfl rfl (nb_f c5) rfl fun _ h => ?_
      refine gs h (o_pickF rfl rfl c5) rfl fun _ _ _ h => ?_
      refine GoR.done ?_
      exact J1 false _ _ (som H).symm (h.wk (by rfl) [5, 4] (by decide) (by rfl))
def ref18_Get.g (k_ : Nat) (a1 : List Int) (a2 : Int) (a3 : Int) : Option (TUdp × Int) :=
  (if decide ((a1.length : Int) < 8) = true then some (((⟨0, 0, []⟩ : TUdp), 160)) else (cut a1 4 6).bind fun x1 => (ref01_Get.g k_ x1 true).bind fun r1 => lt (IntKind.i64.wrap r1) fun y1 => (if decide (y1 < 8) = true then some (((⟨0, 0, []⟩ : TUdp), 161)) else (if decide ((a1.length : Int) < y1) = true then some (((⟨0, 0, []⟩ : TUdp), 160)) else ((idx a1 6).bind fun x2 => (if (!decide (x2 = 0)) = true then (ref15_Pseudo.g k_ a2 a3 17 y1).bind fun r2 => (cut a1 0 y1).bind fun x3 => (app r2 x3).bind fun x4 => (ref15_Right.g k_ x4).bind fun r3 => some ((!r3)) else (idx a1 7).bind fun x5 => (if (!decide (x5 = 0)) = true then (ref15_Pseudo.g k_ a2 a3 17 y1).bind fun r4 => (cut a1 0 y1).bind fun x6 => (app r4 x6).bind fun x7 => (ref15_Right.g k_ x7).bind fun r5 => some ((!r5)) else some (false)))).bind (fun j1 => (if j1 = true then some (((⟨0, 0, []⟩ : TUdp), 162)) else (cut a1 0 2).bind fun x8 => (ref01_Get.g k_ x8 true).bind fun r6 => (cut a1 2 4).bind fun x9 => (ref01_Get.g k_ x9 true).bind fun r7 => (cut a1 8 y1).bind fun x10 => (app ([] : List Int) x10).bind fun x11 => some (((⟨IntKind.i64.wrap r6, IntKind.i64.wrap r7, x11⟩ : TUdp), 0)))))))
theorem ref18_Get.le (k_ : Nat) (a1 : List Int) (a2 : Int) (a3 : Int) : Le (ref18_Get.g k_ a1 a2 a3) (ref18_Get.f a1 a2 a3) := by
 unfold ref18_Get.g ref18_Get.f
 repeat' (first | with_reducible refine le_loop fun _ => ?_ | with_reducible refine le_bind ?_ fun _ => ?_ | with_reducible refine le_ite ?_ ?_ | with_reducible refine le_lt fun _ => ?_ | with_reducible refine le_elim (fun _ => ?_) (fun _ => ?_) _ | with_reducible apply ref01_Get.le | with_reducible apply ref15_Pseudo.le | with_reducible apply ref15_Right.le | with_reducible exact le_refl _)
/-! drawbridge/drawbridgeref01.Same -/
noncomputable def ref01_Same.f (a1 : List Int) (a2 : List Int) : Option (Bool) :=
  lt (decide (a1 = a2)) fun y1 => some (y1)
set_option maxRecDepth 100000 in
set_option maxHeartbeats 4000000 in
theorem ref01_Same.spc (v1 : Value) (a1 : List Int) (v2 : Value) (a2 : List Int) (r : Bool) (H : ref01_Same.f a1 a2 = some r) : Spc Tryd.prog 11 [v1, v2] [Val (Kd.sl (Kd.int .u8)) v1 a1, Val (Kd.sl (Kd.int .u8)) v2 a2] [] (fun (s : Unit) => .bool r) (fun s => []) := by
 unfold ref01_Same.f at H
 refine Spc.go Tryd.func11 rfl (by kernel_rfl) rfl rfl (all_cons (Val.per Per_sl) (all_cons (Val.per Per_sl) all_nil)) fun F a w h => ?_
 refine Go.seq ?_
 refine Go.reg ?_
 refine gs h (o_assign rfl) rfl fun _ _ _ h => ?_
 refine GoR.done ?_
 refine Go.seq ?_
 refine Go.reg ?_
 refine gs h (o_move rfl) rfl fun _ _ _ h => ?_
 have g1 := (rd_bs (rd_at 0 rfl) h.mem)
 refine gs h (o_b2s rfl (rd_at 0 rfl) t_u22 t_u5 t_u9) rfl fun _ _ _ h => ?_
 refine gs h (o_move rfl) rfl fun _ _ _ h => ?_
 have g2 := (rd_bs (rd_at 1 rfl) h.mem)
 refine gs h (o_b2s rfl (rd_at 1 rfl) t_u22 t_u5 t_u9) rfl fun _ _ _ h => ?_
 refine gs h (o_eqs rfl rfl g1 g2) rfl fun _ _ _ h => ?_
 obtain ⟨y1, ey1, H⟩ := ltE H
 refine gs h (o_assign' rfl (congrArg Value.bool ey1)) rfl fun _ _ _ h => ?_
 refine GoR.done ?_
 rw [← som H]
 exact g_ret (vs := [.bool y1]) h Tryd.func11 ⟨rfl, trivial⟩ ⟨(), rfl, (h.mem.pick [] (by decide) rfl)⟩
def ref01_Same.g (k_ : Nat) (a1 : List Int) (a2 : List Int) : Option (Bool) :=
  lt (decide (a1 = a2)) fun y1 => some (y1)
theorem ref01_Same.le (k_ : Nat) (a1 : List Int) (a2 : List Int) : Le (ref01_Same.g k_ a1 a2) (ref01_Same.f a1 a2) := by
 unfold ref01_Same.g ref01_Same.f
 repeat' (first | with_reducible refine le_loop fun _ => ?_ | with_reducible refine le_bind ?_ fun _ => ?_ | with_reducible refine le_ite ?_ ?_ | with_reducible refine le_lt fun _ => ?_ | with_reducible refine le_elim (fun _ => ?_) (fun _ => ?_) _ | with_reducible exact le_refl _)
end Go.Proofs.YtfoffhdckcdjdaaDoor.S
