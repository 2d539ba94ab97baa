/- Contracts, printed by a program of this session. -/
import Derived.Test.YtplkiompmjhdlaaT6
namespace Go.Proofs.Ytplkiompmjhdlaa.S
open Go Go.SL Go.RowKit
set_option linter.unusedVariables false
set_option linter.unusedSimpArgs false
/-! drawbridge/drawbridgeref16.Get -/
noncomputable def ref16_Get.f (a1 : List Int) : Option (TFrm × Int) :=
  (if decide ((a1.length : Int) < 14) = true then some (((⟨[], [], 0, []⟩ : TFrm), 160)) else (if decide (1514 < (a1.length : Int)) = true then some (((⟨[], [], 0, []⟩ : TFrm), 161)) else (cut a1 0 6).bind fun x1 => (ref16_own.f x1).bind fun r1 => (cut a1 6 12).bind fun x2 => (ref16_own.f x2).bind fun r2 => (cut a1 12 14).bind fun x3 => (ref01_Get.f x3 true).bind fun r3 => (cut a1 14 (a1.length : Int)).bind fun x4 => (ref16_own.f x4).bind fun r4 => some (((⟨r1, r2, IntKind.i64.wrap r3, r4⟩ : TFrm), 0))))
set_option maxRecDepth 100000 in
set_option maxHeartbeats 4000000 in
theorem ref16_Get.spc (v1 : Value) (a1 : List Int) (r : TFrm × Int) (H : ref16_Get.f a1 = some r) : Spc Try.prog 15 [v1] [Val (Kd.sl (Kd.int .u8)) v1 a1] [] (fun (s : Value) => .tuple #[s, .int .i64 r.2]) (fun s => [Ent.pur (InR .i64 r.2), Val KFrm s r.1]) := by
 unfold ref16_Get.f at H
 refine Spc.go Try.func15 rfl (by kernel_rfl) rfl rfl (all_cons (Val.per Per_sl) all_nil) fun F a w h => ?_
 refine Go.seq ?_
 refine Go.reg ?_
 refine gs h (o_alloc (K := KFrm) (z := (.agg #[.slice none 0 0, .slice none 0 0, .int .i64 0, .slice none 0 0])) rfl ZFrm) rfl fun b1 _ _ h => ?_
 refine gs h (o_assign rfl) rfl fun _ _ _ h => ?_
 refine GoR.done ?_
 refine Go.seq ?_
 refine Go.seq ?_
 refine Go.reg ?_
 refine gs h (o_move rfl) rfl fun _ _ _ h => ?_
 have g1 := (len_at 1 rfl h.mem)
 refine gs h (o_ln rfl (rd_at 1 rfl) t_v22) rfl fun _ _ _ h => ?_
 refine gs h (o_bin rfl rfl rfl) rfl fun _ _ _ h => ?_
 refine GoR.done ?_
 by_cases c1 : decide ((a1.length : Int) < 14) = true
 ·have H := ifT c1 H
  refine g_t h rfl c1 ?_
  refine Go.seq ?_
  refine Go.reg ?_
  refine gs h (o_build (K := KFrm) (x := (⟨[], [], 0, []⟩ : TFrm)) (ps := []) rfl (zs := zsFrm) rfl t_b25 rfl (show PB (Kd.pair (Kd.sl (Kd.int .u8)) (Kd.pair (Kd.sl (Kd.int .u8)) (Kd.pair (Kd.int .i64) (Kd.last (Kd.sl (Kd.int .u8)))))) ([], [], 0, []) 0 zsFrm _ _ from (pb_zero z_sl (pb_zero z_sl (pb_zero z_int (pb_lastz z_sl)))))) rfl fun v2 _ _ h => ?_
  refine gs0 h (o_st 1 rfl rfl rfl (pv_at PFrm 0 rfl) rfl t_w25) fun _ _ _ h => ?_
  refine gs h (o_assign rfl) rfl fun _ _ _ h => ?_
  refine GoR.done ?_
  obtain ⟨v3, h, u1⟩ := h.peek 1 rfl PFrm t_y25
  rw [← som H]
  exact g_ret (vs := [v3, .int .i64 160]) h Try.func15 ⟨⟨_, rfl, u1⟩, ⟨rfl, trivial⟩⟩ ⟨v3, rfl, ((h.mem.pick [0] (by decide) rfl).addpur (show InR .i64 160 by decide))⟩
 ·have H := ifF c1 H
  refine g_f h rfl c1 ?_
  refine Go.skip ?_
  refine Go.seq ?_
  refine Go.seq ?_
  refine Go.reg ?_
  refine gs h (o_move rfl) rfl fun _ _ _ h => ?_
  have g2 := (len_at 1 rfl h.mem)
  refine gs h (o_ln rfl (rd_at 1 rfl) t_v22) rfl fun _ _ _ h => ?_
  refine gs h (o_bin rfl rfl rfl) rfl fun _ _ _ h => ?_
  refine GoR.done ?_
  by_cases c2 : decide (1514 < (a1.length : Int)) = true
  ·have H := ifT c2 H
   refine g_t h rfl c2 ?_
   refine Go.seq ?_
   refine Go.reg ?_
   refine gs h (o_build (K := KFrm) (x := (⟨[], [], 0, []⟩ : TFrm)) (ps := []) rfl (zs := zsFrm) rfl t_b25 rfl (show PB (Kd.pair (Kd.sl (Kd.int .u8)) (Kd.pair (Kd.sl (Kd.int .u8)) (Kd.pair (Kd.int .i64) (Kd.last (Kd.sl (Kd.int .u8)))))) ([], [], 0, []) 0 zsFrm _ _ from (pb_zero z_sl (pb_zero z_sl (pb_zero z_int (pb_lastz z_sl)))))) rfl fun v4 _ _ h => ?_
   refine gs0 h (o_st 1 rfl rfl rfl (pv_at PFrm 0 rfl) rfl t_w25) fun _ _ _ h => ?_
   refine gs h (o_assign rfl) rfl fun _ _ _ h => ?_
   refine GoR.done ?_
   obtain ⟨v5, h, u2⟩ := h.peek 1 rfl PFrm t_y25
   rw [← som H]
   exact g_ret (vs := [v5, .int .i64 161]) h Try.func15 ⟨⟨_, rfl, u2⟩, ⟨rfl, trivial⟩⟩ ⟨v5, rfl, ((h.mem.pick [0] (by decide) rfl).addpur (show InR .i64 161 by decide))⟩
  ·have H := ifF c2 H
   refine g_f h rfl c2 ?_
   refine Go.skip ?_
   refine Go.seq ?_
   replace h := h.wk (E' := [(0, v1), (2, .pointer (some ⟨b1, 0, none⟩)), (3, .int .i64 0)]) (L' := [Fld KFrm b1 0 zFrm, Val (Kd.sl (Kd.int .u8)) v1 a1]) (by rfl) [0, 1] (by decide) (by rfl)
   obtain ⟨x1, ex1, H⟩ := bindE H
   obtain ⟨r1, er1, H⟩ := bindE H
   obtain ⟨x2, ex2, H⟩ := bindE H
   obtain ⟨r2, er2, H⟩ := bindE H
   obtain ⟨x3, ex3, H⟩ := bindE H
   obtain ⟨r3, er3, H⟩ := bindE H
   obtain ⟨x4, ex4, H⟩ := bindE H
   obtain ⟨r4, er4, H⟩ := bindE H
   refine Go.draw (L := [Fld KFrm b1 0 zFrm, Val (Kd.sl (Kd.int .u8)) v1 a1]) h 13 [⟨[], [], [], false, .con (v1), none, fun u => []⟩, ⟨[0], [], [], false, .own, none, fun u => [Val (Kd.sl (Kd.int .u8)) u x1]⟩, ⟨[0, 1], [1], [], false, .own, none, fun u => [Val (Kd.osl (Kd.int .u8)) u r1]⟩, ⟨[], [], [], false, .con (v1), none, fun u => []⟩, ⟨[3], [], [], false, .own, none, fun u => [Val (Kd.sl (Kd.int .u8)) u x2]⟩, ⟨[3, 4], [4], [], false, .own, none, fun u => [Val (Kd.osl (Kd.int .u8)) u r2]⟩, ⟨[], [], [], false, .con (v1), none, fun u => []⟩, ⟨[6], [], [], false, .own, none, fun u => [Val (Kd.sl (Kd.int .u8)) u x3]⟩, ⟨[6, 7], [7], [], false, .con (.int .u64 r3), none, fun u => [Ent.pur (InR .u64 r3)]⟩, ⟨[6, 7, 8], [], [], false, .con (.int .i64 (IntKind.i64.wrap r3)), none, fun u => []⟩, ⟨[], [], [], false, .con (v1), none, fun u => []⟩, ⟨[10], [], [], false, .own, none, fun u => [Val (Kd.sl (Kd.int .u8)) u x4]⟩, ⟨[10, 11], [11], [], false, .own, none, fun u => [Val (Kd.osl (Kd.int .u8)) u r4]⟩] rfl t_mxo (by kernel_rfl) (by rfl) ?_ fun f1 _ _ h => ?_
   ·exact obs_cons (ob_con rfl (gok_none rfl) rfl fun f1 => (o_move rfl)) (obs_cons (ob_own rfl (gok_none rfl) rfl fun f1 => (o_cuth rfl (pv_at Per_sl 1 rfl) rfl ex1 t_v22)) (obs_cons (ob_own rfl (gok_none rfl) rfl fun f1 => (o_call (ref16_own.spc (f1 1) x1 r1 er1) rfl [0] [] (by decide) rfl rfl)) (obs_cons (ob_con rfl (gok_none rfl) rfl fun f1 => (o_move rfl)) (obs_cons (ob_own rfl (gok_none rfl) rfl fun f1 => (o_cut rfl (pv_at Per_sl 1 rfl) rfl rfl ex2 t_v22)) (obs_cons (ob_own rfl (gok_none rfl) rfl fun f1 => (o_call (ref16_own.spc (f1 4) x2 r2 er2) rfl [0] [] (by decide) rfl rfl)) (obs_cons (ob_con rfl (gok_none rfl) rfl fun f1 => (o_move rfl)) (obs_cons (ob_own rfl (gok_none rfl) rfl fun f1 => (o_cut rfl (pv_at Per_sl 1 rfl) rfl rfl ex3 t_v22)) (obs_cons (ob_con rfl (gok_none rfl) rfl fun f1 => (o_call (ref01_Get.spc (f1 7) x3 true r3 er3) rfl [0] [] (by decide) rfl rfl)) (obs_cons (ob_con rfl (gok_none rfl) rfl fun f1 => (o_conv rfl t_q62 t_u3)) (obs_cons (ob_con rfl (gok_none rfl) rfl fun f1 => (o_move rfl)) (obs_cons (ob_own rfl (gok_none rfl) rfl fun f1 => (o_cutl rfl (pv_at Per_sl 1 rfl) rfl ex4 t_v22)) (obs_cons (ob_own rfl (gok_none rfl) rfl fun f1 => (o_call (ref16_own.spc (f1 11) x4 r4 er4) rfl [0] [] (by decide) rfl rfl)) (obs_nil)))))))))))))
   replace h := h.wk (E' := [(2, .pointer (some ⟨b1, 0, none⟩)), (3, .int .i64 0), (14, (f1 2)), (17, (f1 5)), (21, .int .i64 (IntKind.i64.wrap r3)), (24, (f1 12))]) (L' := [Val (Kd.sl (Kd.int .u8)) (f1 1) x1, Val (Kd.osl (Kd.int .u8)) (f1 2) r1, Val (Kd.sl (Kd.int .u8)) (f1 4) x2, Val (Kd.osl (Kd.int .u8)) (f1 5) r2, Val (Kd.sl (Kd.int .u8)) (f1 7) x3, Ent.pur (InR .u64 r3), Val (Kd.sl (Kd.int .u8)) (f1 11) x4, Val (Kd.osl (Kd.int .u8)) (f1 12) r4, Fld KFrm b1 0 zFrm, Val (Kd.sl (Kd.int .u8)) v1 a1]) (by kernel_rfl) [0, 1, 2, 3, 4, 5, 6, 7, 8, 9] (by decide) (by kernel_rfl)
   replace h := h.mm fun m => m.freeze 1 rfl
   replace h := h.mm fun m => m.freeze 3 rfl
   replace h := h.mm fun m => m.freeze 7 rfl
   refine gs h (o_build (K := KFrm) (x := (⟨r1, r2, IntKind.i64.wrap r3, r4⟩ : TFrm)) (ps := [(0, (f1 2)), (1, (f1 5)), (2, .int .i64 (IntKind.i64.wrap r3)), (3, (f1 12))]) rfl (zs := zsFrm) rfl t_b25 rfl (show PB (Kd.pair (Kd.sl (Kd.int .u8)) (Kd.pair (Kd.sl (Kd.int .u8)) (Kd.pair (Kd.int .i64) (Kd.last (Kd.sl (Kd.int .u8)))))) (r1, r2, IntKind.i64.wrap r3, r4) 0 zsFrm _ _ from (pb_part (pv_at Per_sl 1 rfl) rfl (pb_part (pv_at Per_sl 3 rfl) rfl (pb_part (pv_int (wrap_in _ _)) rfl (pb_lastp (pv_at Per_sl 7 rfl) rfl)))))) rfl fun v13 _ _ h => ?_
   refine gs0 h (o_st 9 rfl rfl rfl (pv_at PFrm 0 rfl) rfl t_w25) fun _ _ _ h => ?_
   refine gs h (o_assign rfl) rfl fun _ _ _ h => ?_
   refine GoR.done ?_
   obtain ⟨v14, h, u3⟩ := h.peek 9 rfl PFrm t_y25
   rw [← som H]
   exact g_ret (vs := [v14, .int .i64 0]) h Try.func15 ⟨⟨_, rfl, u3⟩, ⟨rfl, trivial⟩⟩ ⟨v14, rfl, ((h.mem.pick [0] (by decide) rfl).addpur (show InR .i64 0 by decide))⟩
def ref16_Get.g (k_ : Nat) (a1 : List Int) : Option (TFrm × Int) :=
  (if decide ((a1.length : Int) < 14) = true then some (((⟨[], [], 0, []⟩ : TFrm), 160)) else (if decide (1514 < (a1.length : Int)) = true then some (((⟨[], [], 0, []⟩ : TFrm), 161)) else (cut a1 0 6).bind fun x1 => (ref16_own.g k_ x1).bind fun r1 => (cut a1 6 12).bind fun x2 => (ref16_own.g k_ x2).bind fun r2 => (cut a1 12 14).bind fun x3 => (ref01_Get.g k_ x3 true).bind fun r3 => (cut a1 14 (a1.length : Int)).bind fun x4 => (ref16_own.g k_ x4).bind fun r4 => some (((⟨r1, r2, IntKind.i64.wrap r3, r4⟩ : TFrm), 0))))
theorem ref16_Get.le (k_ : Nat) (a1 : List Int) : Le (ref16_Get.g k_ a1) (ref16_Get.f a1) := by
 unfold ref16_Get.g ref16_Get.f
 repeat' (first | with_reducible refine le_loop fun _ => ?_ | with_reducible refine le_bind ?_ fun _ => ?_ | with_reducible refine le_ite ?_ ?_ | with_reducible refine le_lt fun _ => ?_ | with_reducible refine le_elim (fun _ => ?_) (fun _ => ?_) _ | with_reducible apply ref01_Get.le | with_reducible apply ref16_own.le | with_reducible exact le_refl _)
/-! drawbridge/drawbridgeref16.Same -/
noncomputable def ref16_Same.f (a1 : TFrm) (a2 : TFrm) : Option (Bool) :=
  ((if decide (a1.Dst = a2.Dst) = true then (if decide (a1.Src = a2.Src) = true then (if decide (a1.Type_ = a2.Type_) = true then lt (decide (a1.Data = a2.Data)) fun y1 => some (y1) else some (false)) else some (false)) else some (false))).bind (fun j1 => some (j1))
set_option maxRecDepth 100000 in
set_option maxHeartbeats 4000000 in
theorem ref16_Same.spc (v1 : Value) (a1 : TFrm) (v2 : Value) (a2 : TFrm) (r : Bool) (H : ref16_Same.f a1 a2 = some r) : Spc Try.prog 16 [v1, v2] [Val KFrm v1 a1, Val KFrm v2 a2] [] (fun (s : Unit) => .bool r) (fun s => []) := by
 unfold ref16_Same.f at H
 refine Spc.go Try.func16 rfl (by kernel_rfl) rfl rfl (all_cons (Val.per PFrm) (all_cons (Val.per PFrm) all_nil)) fun F a w h => ?_
 refine Go.seq ?_
 refine Go.reg ?_
 refine gs h (o_box (K := KFrm) rfl (pv_at PFrm 0 rfl)) rfl fun b1 _ _ h => ?_
 refine gs h (o_box (K := KFrm) rfl (pv_at PFrm 2 rfl)) rfl fun b2 _ _ h => ?_
 refine gs h (o_assign rfl) rfl fun _ _ _ h => ?_
 refine GoR.done ?_
 refine Go.seq ?_
 obtain ⟨o1, H, G1⟩ := bindE H
 refine g_cut (fun G => ∀ j1 (a : Act) (w : World), o1 = j1 → St Try.f16.ntmps F [(4, .bool j1)] [Fld KFrm b2 0 a2, Fld KFrm b1 0 a1] a w → G a w) 1 ?_ fun J1 => ?_
 ·intro j1 a w ho_ h
  rw [ho_] at G1
  have H := G1
  rw [← som H]
  exact g_ret (vs := [.bool j1]) h Try.func16 ⟨rfl, trivial⟩ ⟨(), rfl, (h.mem.pick [] (by decide) rfl)⟩
 refine Go.reg ?_
 refine gs h (o_fa rfl t_f25_0 rfl rfl) rfl fun _ _ _ h => ?_
 refine gs h (o_lfv 1 rfl rfl sFrm_Dst rfl Per_sl t_y22) rfl fun v3 _ _ h => ?_
 have g1 := (rd_bs (rd_at 0 rfl) h.mem)
 refine gs h (o_b2s rfl (rd_at 0 rfl) t_u22 t_u5 t_u9) rfl fun _ _ _ h => ?_
 refine gs h (o_fa rfl t_f25_0 rfl rfl) rfl fun _ _ _ h => ?_
 refine gs h (o_lfv 1 rfl rfl sFrm_Dst rfl Per_sl t_y22) rfl fun v4 _ _ h => ?_
 have g2 := (rd_bs (rd_at 0 rfl) h.mem)
 refine gs h (o_b2s rfl (rd_at 0 rfl) t_u22 t_u5 t_u9) rfl fun _ _ _ h => ?_
 refine gs h (o_eqs rfl rfl g1 g2) rfl fun _ _ _ h => ?_
 refine gs h (o_move rfl) rfl fun _ _ _ h => ?_
 by_cases c1 : decide (a1.Dst = a2.Dst) = true
 ·have H := ifT c1 H
  refine gg h rfl rfl c1 (o_fa rfl t_f25_1 rfl rfl) rfl fun _ _ _ h => ?_
  refine gg h rfl rfl c1 (o_lfv 3 rfl rfl sFrm_Src rfl Per_sl t_y22) rfl fun v5 _ _ h => ?_
  have g3 := (rd_bs (rd_at 0 rfl) h.mem)
  refine gg h rfl rfl c1 (o_b2s rfl (rd_at 0 rfl) t_u22 t_u5 t_u9) rfl fun _ _ _ h => ?_
  refine gg h rfl rfl c1 (o_fa rfl t_f25_1 rfl rfl) rfl fun _ _ _ h => ?_
  refine gg h rfl rfl c1 (o_lfv 3 rfl rfl sFrm_Src rfl Per_sl t_y22) rfl fun v6 _ _ h => ?_
  have g4 := (rd_bs (rd_at 0 rfl) h.mem)
  refine gg h rfl rfl c1 (o_b2s rfl (rd_at 0 rfl) t_u22 t_u5 t_u9) rfl fun _ _ _ h => ?_
  refine gg h rfl rfl c1 (o_eqs rfl rfl g3 g4) rfl fun _ _ _ h => ?_
  refine gs h (o_pickT rfl rfl c1) rfl fun _ _ _ h => ?_
  refine gs h (o_move rfl) rfl fun _ _ _ h => ?_
  by_cases c2 : decide (a1.Src = a2.Src) = true
  ·have H := ifT c2 H
   refine gg h rfl rfl c2 (o_fa rfl t_f25_2 rfl rfl) rfl fun _ _ _ h => ?_
   have g5 := (in2 (fd_sub sFrm_Type_ 5 rfl h.mem))
   refine gg h rfl rfl c2 (o_lfx 5 rfl rfl sFrm_Type_ rfl X_int t_y3) rfl fun _ _ _ h => ?_
   refine gg h rfl rfl c2 (o_fa rfl t_f25_2 rfl rfl) rfl fun _ _ _ h => ?_
   have g6 := (in2 (fd_sub sFrm_Type_ 4 rfl h.mem))
   refine gg h rfl rfl c2 (o_lfx 4 rfl rfl sFrm_Type_ rfl X_int t_y3) rfl fun _ _ _ h => ?_
   refine gg h rfl rfl c2 (o_bin rfl rfl rfl) rfl fun _ _ _ h => ?_
   refine gs h (o_pickT rfl rfl c2) rfl fun _ _ _ h => ?_
   refine gs h (o_move rfl) rfl fun _ _ _ h => ?_
   by_cases c3 : decide (a1.Type_ = a2.Type_) = true
   ·have H := ifT c3 H
    refine gg h rfl rfl c3 (o_fa rfl t_f25_3 rfl rfl) rfl fun _ _ _ h => ?_
    refine gg h rfl rfl c3 (o_lfv 5 rfl rfl sFrm_Data rfl Per_sl t_y22) rfl fun v7 _ _ h => ?_
    have g7 := (rd_bs (rd_at 0 rfl) h.mem)
    refine gg h rfl rfl c3 (o_b2s rfl (rd_at 0 rfl) t_u22 t_u5 t_u9) rfl fun _ _ _ h => ?_
    refine gg h rfl rfl c3 (o_fa rfl t_f25_3 rfl rfl) rfl fun _ _ _ h => ?_
    refine gg h rfl rfl c3 (o_lfv 5 rfl rfl sFrm_Data rfl Per_sl t_y22) rfl fun v8 _ _ h => ?_
    have g8 := (rd_bs (rd_at 0 rfl) h.mem)
    refine gg h rfl rfl c3 (o_b2s rfl (rd_at 0 rfl) t_u22 t_u5 t_u9) rfl fun _ _ _ h => ?_
    refine gg h rfl rfl c3 (o_eqs rfl rfl g7 g8) rfl fun _ _ _ h => ?_
    refine gs h (o_pickT rfl rfl c3) rfl fun _ _ _ h => ?_
    obtain ⟨y1, ey1, H⟩ := ltE H
    refine gs h (o_assign' rfl (congrArg Value.bool ey1)) rfl fun _ _ _ h => ?_
    refine GoR.done ?_
    exact J1 y1 _ _ (som H).symm (h.wk (by rfl) [6, 7] (by decide) (by rfl))
   ·have H := ifF c3 H
    refine gk h rfl rfl (nb_f c3) rfl fun _ h => ?_
    refine gk h rfl rfl (nb_f c3) rfl fun _ h => ?_
    refine gk h rfl rfl (nb_f c3) rfl fun _ h => ?_
    refine gk h rfl rfl (nb_f c3) rfl fun _ h => ?_
    refine gk h rfl rfl (nb_f c3) rfl fun _ h => ?_
    refine gk h rfl rfl (nb_f c3) rfl fun _ h => ?_
    refine gk h rfl rfl (nb_f c3) rfl fun _ h => ?_
    refine gs h (o_pickF rfl rfl c3) rfl fun _ _ _ h => ?_
    refine gs h (o_assign rfl) rfl fun _ _ _ h => ?_
    refine GoR.done ?_
    exact J1 false _ _ (som H).symm (h.wk (by rfl) [4, 5] (by decide) (by rfl))
  ·have H := ifF c2 H
   refine gk h rfl rfl (nb_f c2) rfl fun _ h => ?_
   refine gk h rfl rfl (nb_f c2) rfl fun _ h => ?_
   refine gk h rfl rfl (nb_f c2) rfl fun _ h => ?_
   refine gk h rfl rfl (nb_f c2) rfl fun _ h => ?_
   refine gk h rfl rfl (nb_f c2) rfl fun _ h => ?_
   refine gs h (o_pickF rfl rfl c2) rfl fun _ _ _ h => ?_
   refine gs h (o_move rfl) rfl fun _ _ _ h => ?_
   refine gk h rfl rfl (nb_f Bool.false_ne_true) rfl fun _ h => ?_
   refine gk h rfl rfl (nb_f Bool.false_ne_true) rfl fun _ h => ?_
   refine gk h rfl rfl (nb_f Bool.false_ne_true) rfl fun _ h => ?_
   refine gk h rfl rfl (nb_f Bool.false_ne_true) rfl fun _ h => ?_
   refine gk h rfl rfl (nb_f Bool.false_ne_true) rfl fun _ h => ?_
   refine gk h rfl rfl (nb_f Bool.false_ne_true) rfl fun _ h => ?_
   refine gk h rfl rfl (nb_f Bool.false_ne_true) rfl fun _ h => ?_
   refine gs h (o_pickF rfl rfl Bool.false_ne_true) rfl fun _ _ _ h => ?_
   refine gs h (o_assign rfl) rfl fun _ _ _ h => ?_
   refine GoR.done ?_
   exact J1 false _ _ (som H).symm (h.wk (by rfl) [4, 5] (by decide) (by rfl))
 ·have H := ifF c1 H
  refine gk h rfl rfl (nb_f c1) rfl fun _ h => ?_
  refine gk h rfl rfl (nb_f c1) rfl fun _ h => ?_
  refine gk h rfl rfl (nb_f c1) rfl fun _ h => ?_
  refine gk h rfl rfl (nb_f c1) rfl fun _ h => ?_
  refine gk h rfl rfl (nb_f c1) rfl fun _ h => ?_
  refine gk h rfl rfl (nb_f c1) rfl fun _ h => ?_
  refine gk h rfl rfl (nb_f c1) rfl fun _ h => ?_
  refine gs h (o_pickF rfl rfl c1) rfl fun _ _ _ h => ?_
  refine gs h (o_move rfl) rfl fun _ _ _ h => ?_
  refine gk h rfl rfl (nb_f Bool.false_ne_true) rfl fun _ h => ?_
  refine gk h rfl rfl (nb_f Bool.false_ne_true) rfl fun _ h => ?_
  refine gk h rfl rfl (nb_f Bool.false_ne_true) rfl fun _ h => ?_
  refine gk h rfl rfl (nb_f Bool.false_ne_true) rfl fun _ h => ?_
  refine gk h rfl rfl (nb_f Bool.false_ne_true) rfl fun _ h => ?_
  refine gs h (o_pickF rfl rfl Bool.false_ne_true) rfl fun _ _ _ h => ?_
  refine gs h (o_move rfl) rfl fun _ _ _ h => ?_
  refine gk h rfl rfl (nb_f Bool.false_ne_true) rfl fun _ h => ?_
  refine gk h rfl rfl (nb_f Bool.false_ne_true) rfl fun _ h => ?_
  refine gk h rfl rfl (nb_f Bool.false_ne_true) rfl fun _ h => ?_
  refine gk h rfl rfl (nb_f Bool.false_ne_true) rfl fun _ h => ?_
  refine gk h rfl rfl (nb_f Bool.false_ne_true) rfl fun _ h => ?_
  refine gk h rfl rfl (nb_f Bool.false_ne_true) rfl fun _ h => ?_
  refine gk h rfl rfl (nb_f Bool.false_ne_true) rfl fun _ h => ?_
  refine gs h (o_pickF rfl rfl Bool.false_ne_true) rfl fun _ _ _ h => ?_
  refine gs h (o_assign rfl) rfl fun _ _ _ h => ?_
  refine GoR.done ?_
  exact J1 false _ _ (som H).symm (h.wk (by rfl) [2, 3] (by decide) (by rfl))
def ref16_Same.g (k_ : Nat) (a1 : TFrm) (a2 : TFrm) : Option (Bool) :=
  ((if decide (a1.Dst = a2.Dst) = true then (if decide (a1.Src = a2.Src) = true then (if decide (a1.Type_ = a2.Type_) = true then lt (decide (a1.Data = a2.Data)) fun y1 => some (y1) else some (false)) else some (false)) else some (false))).bind (fun j1 => some (j1))
theorem ref16_Same.le (k_ : Nat) (a1 : TFrm) (a2 : TFrm) : Le (ref16_Same.g k_ a1 a2) (ref16_Same.f a1 a2) := by
 unfold ref16_Same.g ref16_Same.f
 repeat' (first | with_reducible refine le_loop fun _ => ?_ | with_reducible refine le_bind ?_ fun _ => ?_ | with_reducible refine le_ite ?_ ?_ | with_reducible refine le_lt fun _ => ?_ | with_reducible refine le_elim (fun _ => ?_) (fun _ => ?_) _ | with_reducible exact le_refl _)
/-! drawbridge/drawbridgeref16.PutArp -/
noncomputable def ref16_PutArp.f (a1 : TArp) : Option ((List Int) × Int) :=
  ((if (!decide ((a1.Smac.length : Int) = 6)) = true then some (true) else (if (!decide ((a1.Tmac.length : Int) = 6)) = true then some (true) else (if (!decide (a1.Op = 1)) = true then some ((!decide (a1.Op = 2))) else some (false))))).bind (fun j1 => (if j1 = true then some (([], 2)) else (app ([0, 1, 8, 0, 6, 4, 0, IntKind.u8.wrap a1.Op] : List Int) a1.Smac).bind fun x1 => (ref16_number.f a1.Sip 4).bind fun r1 => (app x1 r1).bind fun x2 => (app x2 a1.Tmac).bind fun x3 => (ref16_number.f a1.Tip 4).bind fun r2 => (app x3 r2).bind fun x4 => some ((x4, 0))))
set_option maxRecDepth 100000 in
set_option maxHeartbeats 4000000 in
theorem ref16_PutArp.spc (v1 : Value) (a1 : TArp) (r : (List Int) × Int) (H : ref16_PutArp.f a1 = some r) : Spc Try.prog 17 [v1] [Val KArp v1 a1] [] (fun (s : Value) => .tuple #[s, .int .i64 r.2]) (fun s => [Ent.pur (InR .i64 r.2), Val (Kd.osl (Kd.int .u8)) s r.1]) := by
 unfold ref16_PutArp.f at H
 refine Spc.go Try.func17 rfl (by kernel_rfl) rfl rfl (all_cons (Val.per PArp) all_nil) fun F a w h => ?_
 refine Go.seq ?_
 refine Go.reg ?_
 refine gs h (o_box (K := KArp) rfl (pv_at PArp 0 rfl)) rfl fun b1 _ _ h => ?_
 refine gs h (o_assign rfl) rfl fun _ _ _ h => ?_
 refine gs h (o_assign rfl) rfl fun _ _ _ h => ?_
 refine GoR.done ?_
 refine Go.seq ?_
 refine Go.seq ?_
 obtain ⟨o1, H, G1⟩ := bindE H
 refine g_cut (fun G => ∀ j1 (a : Act) (w : World), o1 = j1 → St Try.f17.ntmps F [(1, .pointer (some ⟨b1, 0, none⟩)), (24, .bool j1)] [Fld KArp b1 0 a1] a w → G a w) 1 ?_ fun J1 => ?_
 ·intro j1 a w ho_ h
  rw [ho_] at G1
  have H := G1
  by_cases c4 : j1 = true
  ·have H := ifT c4 H
   refine g_t h rfl c4 ?_
   refine Go.seq ?_
   refine Go.reg ?_
   refine gs h (o_assign rfl) rfl fun _ _ _ h => ?_
   refine gs h (o_assign rfl) rfl fun _ _ _ h => ?_
   refine GoR.done ?_
   replace h := h.mm fun m => m.nilo (Kd.int .u8)
   rw [← som H]
   exact g_ret (vs := [.slice none 0 0, .int .i64 2]) h Try.func17 ⟨rfl, ⟨rfl, trivial⟩⟩ ⟨.slice none 0 0, rfl, ((h.mem.pick [0] (by decide) rfl).addpur (show InR .i64 2 by decide))⟩
  ·have H := ifF c4 H
   refine g_f h rfl c4 ?_
   refine Go.skip ?_
   refine Go.seq ?_
   refine Go.reg ?_
   refine gs h (o_fa rfl t_f34_0 rfl rfl) rfl fun _ _ _ h => ?_
   have g5 := (in2 (fd_sub sArp_Op 0 rfl h.mem))
   refine gs h (o_lfx 0 rfl rfl sArp_Op rfl X_int t_y3) rfl fun _ _ _ h => ?_
   refine gs h (o_conv rfl t_q3 t_u5) rfl fun _ _ _ h => ?_
   refine gs h (o_bs (K := (Kd.int .u8)) (vs := [.int .u8 0, .int .u8 1, .int .u8 8, .int .u8 0, .int .u8 6, .int .u8 4, .int .u8 0, .int .u8 (IntKind.u8.wrap a1.Op)]) (xs := ([0, 1, 8, 0, 6, 4, 0, IntKind.u8.wrap a1.Op] : List Int)) rfl rfl (pvs_cons (pv_int (show InR .u8 0 by decide)) (pvs_cons (pv_int (show InR .u8 1 by decide)) (pvs_cons (pv_int (show InR .u8 8 by decide)) (pvs_cons (pv_int (show InR .u8 0 by decide)) (pvs_cons (pv_int (show InR .u8 6 by decide)) (pvs_cons (pv_int (show InR .u8 4 by decide)) (pvs_cons (pv_int (show InR .u8 0 by decide)) (pvs_cons (pv_int (wrap_in _ _)) pvs_nil)))))))) t_a22 (by decide) (by decide)) rfl fun v4 _ _ h => ?_
   refine gs h (o_fa rfl t_f34_1 rfl rfl) rfl fun _ _ _ h => ?_
   refine gs h (o_lfv 1 rfl rfl sArp_Smac rfl Per_sl t_y22) rfl fun v5 _ _ h => ?_
   obtain ⟨x1, ex1, H⟩ := bindE H
   refine gs h (o_app (K := (Kd.int .u8)) 1 rfl rfl rfl (rd_at 0 rfl) ex1 t_a22 t_n22) rfl fun v6 _ _ h => ?_
   refine gs h (o_assign rfl) rfl fun _ _ _ h => ?_
   refine GoR.done ?_
   refine Go.seq ?_
   replace h := h.wk (E' := [(1, .pointer (some ⟨b1, 0, none⟩)), (4, v6)]) (L' := [Val (Kd.osl (Kd.int .u8)) v6 x1, Val (Kd.sl (Kd.int .u8)) v5 a1.Smac, Fld KArp b1 0 a1]) (by rfl) [1, 0, 2] (by decide) (by rfl)
   obtain ⟨r1, er1, H⟩ := bindE H
   obtain ⟨x2, ex2, H⟩ := bindE H
   refine Go.draw (L := [Val (Kd.sl (Kd.int .u8)) v5 a1.Smac, Fld KArp b1 0 a1]) h 8 [⟨[], [], [], false, .con (v6), none, fun u => []⟩, ⟨[], [], [], false, .con (.pointer (some ⟨b1, 2, none⟩)), none, fun u => []⟩, ⟨[1], [], [], false, .con (.int .u32 a1.Sip), none, fun u => [Ent.pur (InR .u32 a1.Sip)]⟩, ⟨[1, 2], [2], [], false, .con (.int .u64 a1.Sip), none, fun u => []⟩, ⟨[1, 2, 3], [2], [], false, .own, none, fun u => [Val (Kd.osl (Kd.int .u8)) u r1]⟩, ⟨[0, 1, 2, 3, 4], [8, 4], [8], false, .own, none, fun u => [Val (Kd.osl (Kd.int .u8)) u x2]⟩, ⟨[], [], [], false, .con (.pointer (some ⟨b1, 3, none⟩)), none, fun u => []⟩, ⟨[6], [], [], false, .own, none, fun u => [Val (Kd.sl (Kd.int .u8)) u a1.Tmac]⟩, ⟨[], [], [], false, .con undef, none, fun u => [Val (Kd.osl (Kd.int .u8)) v6 x1]⟩] rfl t_mxo (by kernel_rfl) (by rfl) ?_ fun f1 _ _ h => ?_
   ·exact obs_cons (ob_con rfl (gok_none rfl) rfl fun f1 => (o_move rfl)) (obs_cons (ob_con rfl (gok_none rfl) rfl fun f1 => (o_fa rfl t_f34_2 rfl rfl)) (obs_cons (ob_con rfl (gok_none rfl) rfl fun f1 => (OpS.pur (fun F w m_ => (in2 (fd_sub sArp_Sip 1 rfl m_))) (o_lfx 1 rfl rfl sArp_Sip rfl X_int t_y32))) (obs_cons (ob_con rfl (gok_none rfl) rfl fun f1 => (OpS.fact (p := InR .u32 a1.Sip) (fun F w m_ => (Mem.pur 0 rfl m_)) fun g6 => (o_convw rfl t_q32 t_u62 g6 rfl))) (obs_cons (ob_own rfl (gok_none rfl) rfl fun f1 => (OpS.fact (p := InR .u64 a1.Sip) (fun F w m_ => (inr_wid (k := .u32) (k' := .u64) (Mem.pur 0 rfl m_) rfl)) fun g7 => (o_call (ref16_number.spc a1.Sip g7 4 (show InR .i64 4 by decide) r1 er1) rfl [] [] (by decide) rfl rfl))) (obs_cons (ob_own rfl (gok_none rfl) rfl fun f1 => (o_app (K := (Kd.int .u8)) 0 rfl rfl rfl (rd_own 1 rfl) ex2 t_a22 t_n22)) (obs_cons (ob_con rfl (gok_none rfl) rfl fun f1 => (o_fa rfl t_f34_3 rfl rfl)) (obs_cons (ob_own rfl (gok_none rfl) rfl fun f1 => (o_lfv 1 rfl rfl sArp_Tmac rfl Per_sl t_y22)) (obs_nil))))))))
   replace h := h.wk (E' := [(1, .pointer (some ⟨b1, 0, none⟩)), (4, v6), (37, (f1 5)), (39, (f1 7))]) (L' := [Ent.pur (InR .u32 a1.Sip), Val (Kd.osl (Kd.int .u8)) (f1 4) r1, Val (Kd.osl (Kd.int .u8)) (f1 5) x2, Val (Kd.sl (Kd.int .u8)) (f1 7) a1.Tmac, Val (Kd.sl (Kd.int .u8)) v5 a1.Smac, Fld KArp b1 0 a1]) (by kernel_rfl) [0, 1, 2, 3, 4, 5] (by decide) (by kernel_rfl)
   obtain ⟨x3, ex3, H⟩ := bindE H
   refine gs h (o_app (K := (Kd.int .u8)) 2 rfl rfl rfl (rd_at 3 rfl) ex3 t_a22 t_n22) rfl fun v10 _ _ h => ?_
   refine gs h (o_assign rfl) rfl fun _ _ _ h => ?_
   refine GoR.done ?_
   refine Go.seq ?_
   refine Go.reg ?_
   refine gs h (o_move rfl) rfl fun _ _ _ h => ?_
   refine gs h (o_fa rfl t_f34_4 rfl rfl) rfl fun _ _ _ h => ?_
   have g8 := (in2 (fd_sub sArp_Tip 5 rfl h.mem))
   refine gs h (o_lfx 5 rfl rfl sArp_Tip rfl X_int t_y32) rfl fun _ _ _ h => ?_
   refine gs h (o_convw rfl t_q32 t_u62 g8 rfl) rfl fun _ _ _ h => ?_
   obtain ⟨r2, er2, H⟩ := bindE H
   refine gs h (o_call (ref16_number.spc a1.Tip (inr_wid (k := .u32) (k' := .u64) g8 rfl) 4 (show InR .i64 4 by decide) r2 er2) rfl [] [] (by decide) rfl rfl) rfl fun v11 _ _ h => ?_
   obtain ⟨x4, ex4, H⟩ := bindE H
   refine gs h (o_app (K := (Kd.int .u8)) 3 rfl rfl rfl (rd_own 0 rfl) ex4 t_a22 t_n22) rfl fun v12 _ _ h => ?_
   refine gs h (o_assign rfl) rfl fun _ _ _ h => ?_
   refine gs h (o_assign rfl) rfl fun _ _ _ h => ?_
   refine GoR.done ?_
   rw [← som H]
   exact g_ret (vs := [v12, .int .i64 0]) h Try.func17 ⟨rfl, ⟨rfl, trivial⟩⟩ ⟨v12, rfl, ((h.mem.pick [3] (by decide) rfl).addpur (show InR .i64 0 by decide))⟩
 refine Go.reg ?_
 refine gs h (o_fa rfl t_f34_1 rfl rfl) rfl fun _ _ _ h => ?_
 refine gs h (o_lfv 0 rfl rfl sArp_Smac rfl Per_sl t_y22) rfl fun v2 _ _ h => ?_
 have g1 := (len_at 0 rfl h.mem)
 refine gs h (o_ln rfl (rd_at 0 rfl) t_v22) rfl fun _ _ _ h => ?_
 refine gs h (o_bin rfl rfl rfl) rfl fun _ _ _ h => ?_
 refine gs h (o_move rfl) rfl fun _ _ _ h => ?_
 by_cases c1 : (!decide ((a1.Smac.length : Int) = 6)) = true
 ·have H := ifT c1 H
  refine gk h rfl rfl (nb_t c1) rfl fun _ h => ?_
  refine gk h rfl rfl (nb_t c1) rfl fun _ h => ?_
  refine gk h rfl rfl (nb_t c1) rfl fun _ h => ?_
  refine gk h rfl rfl (nb_t c1) rfl fun _ h => ?_
  refine gs h (o_pickT rfl rfl c1) rfl fun _ _ _ h => ?_
  refine gs h (o_move rfl) rfl fun _ _ _ h => ?_
  refine gk h rfl rfl (nb_t rfl) rfl fun _ h => ?_
  refine gk h rfl rfl (nb_t rfl) rfl fun _ h => ?_
  refine gk h rfl rfl (nb_t rfl) rfl fun _ h => ?_
  refine gk h rfl rfl (nb_t rfl) rfl fun _ h => ?_
  refine gk h rfl rfl rfl rfl fun _ h => ?_
  refine gk h rfl rfl rfl rfl fun _ h => ?_
  refine gk h rfl rfl rfl rfl fun _ h => ?_
  refine gk h rfl rfl (nb_t rfl) rfl fun _ h => ?_
  refine gs h (o_pickT rfl rfl rfl) rfl fun _ _ _ h => ?_
  refine GoR.done ?_
  exact J1 true _ _ (som H).symm (h.wk (by rfl) [1] (by decide) (by rfl))
 ·have H := ifF c1 H
  refine gg h rfl rfl (nbF c1) (o_fa rfl t_f34_3 rfl rfl) rfl fun _ _ _ h => ?_
  refine gg h rfl rfl (nbF c1) (o_lfv 1 rfl rfl sArp_Tmac rfl Per_sl t_y22) rfl fun v3 _ _ h => ?_
  have g2 := (len_at 0 rfl h.mem)
  refine gg h rfl rfl (nbF c1) (o_ln rfl (rd_at 0 rfl) t_v22) rfl fun _ _ _ h => ?_
  refine gg h rfl rfl (nbF c1) (o_bin rfl rfl rfl) rfl fun _ _ _ h => ?_
  refine gs h (o_pickF rfl rfl c1) rfl fun _ _ _ h => ?_
  refine gs h (o_move rfl) rfl fun _ _ _ h => ?_
  by_cases c2 : (!decide ((a1.Tmac.length : Int) = 6)) = true
  ·have H := ifT c2 H
   refine gk h rfl rfl (nb_t c2) rfl fun _ h => ?_
   refine gk h rfl rfl (nb_t c2) rfl fun _ h => ?_
   refine gk h rfl rfl (nb_t c2) rfl fun _ h => ?_
   refine gk h rfl rfl (nb_t c2) rfl fun _ h => ?_
   refine gk h rfl rfl rfl rfl fun _ h => ?_
   refine gk h rfl rfl rfl rfl fun _ h => ?_
   refine gk h rfl rfl rfl rfl fun _ h => ?_
   refine gk h rfl rfl (nb_t c2) rfl fun _ h => ?_
   refine gs h (o_pickT rfl rfl c2) rfl fun _ _ _ h => ?_
   refine GoR.done ?_
   exact J1 true _ _ (som H).symm (h.wk (by rfl) [2] (by decide) (by rfl))
  ·have H := ifF c2 H
   refine gg h rfl rfl (nbF c2) (o_fa rfl t_f34_0 rfl rfl) rfl fun _ _ _ h => ?_
   have g3 := (in2 (fd_sub sArp_Op 2 rfl h.mem))
   refine gg h rfl rfl (nbF c2) (o_lfx 2 rfl rfl sArp_Op rfl X_int t_y3) rfl fun _ _ _ h => ?_
   refine gg h rfl rfl (nbF c2) (o_bin rfl rfl rfl) rfl fun _ _ _ h => ?_
   refine gg h rfl rfl (nbF c2) (o_move rfl) rfl fun _ _ _ h => ?_
   by_cases c3 : (!decide (a1.Op = 1)) = true
   ·have H := ifT c3 H
    refine gg h rfl rfl c3 (o_fa rfl t_f34_0 rfl rfl) rfl fun _ _ _ h => ?_
    have g4 := (in2 (fd_sub sArp_Op 2 rfl h.mem))
    refine gg h rfl rfl c3 (o_lfx 2 rfl rfl sArp_Op rfl X_int t_y3) rfl fun _ _ _ h => ?_
    refine gg h rfl rfl c3 (o_bin rfl rfl rfl) rfl fun _ _ _ h => ?_
    refine gg h rfl rfl (nbF c2) (o_pickT rfl rfl c3) rfl fun _ _ _ h => ?_
    refine gs h (o_pickF rfl rfl c2) rfl fun _ _ _ h => ?_
    refine GoR.done ?_
    exact J1 (!decide (a1.Op = 2)) _ _ (som H).symm (h.wk (by rfl) [2] (by decide) (by rfl))
   ·have H := ifF c3 H
    refine gk h rfl rfl (nb_f c3) rfl fun _ h => ?_
    refine gk h rfl rfl (nb_f c3) rfl fun _ h => ?_
    refine gk h rfl rfl (nb_f c3) rfl fun _ h => ?_
    refine gg h rfl rfl (nbF c2) (o_pickF rfl rfl c3) rfl fun _ _ _ h => ?_
    refine gs h (o_pickF rfl rfl c2) rfl fun _ _ _ h => ?_
    refine GoR.done ?_
    exact J1 false _ _ (som H).symm (h.wk (by rfl) [2] (by decide) (by rfl))
def ref16_PutArp.g (k_ : Nat) (a1 : TArp) : Option ((List Int) × Int) :=
  ((if (!decide ((a1.Smac.length : Int) = 6)) = true then some (true) else (if (!decide ((a1.Tmac.length : Int) = 6)) = true then some (true) else (if (!decide (a1.Op = 1)) = true then some ((!decide (a1.Op = 2))) else some (false))))).bind (fun j1 => (if j1 = true then some (([], 2)) else (app ([0, 1, 8, 0, 6, 4, 0, IntKind.u8.wrap a1.Op] : List Int) a1.Smac).bind fun x1 => (ref16_number.g k_ a1.Sip 4).bind fun r1 => (app x1 r1).bind fun x2 => (app x2 a1.Tmac).bind fun x3 => (ref16_number.g k_ a1.Tip 4).bind fun r2 => (app x3 r2).bind fun x4 => some ((x4, 0))))
theorem ref16_PutArp.le (k_ : Nat) (a1 : TArp) : Le (ref16_PutArp.g k_ a1) (ref16_PutArp.f a1) := by
 unfold ref16_PutArp.g ref16_PutArp.f
 repeat' (first | with_reducible refine le_loop fun _ => ?_ | with_reducible refine le_bind ?_ fun _ => ?_ | with_reducible refine le_ite ?_ ?_ | with_reducible refine le_lt fun _ => ?_ | with_reducible refine le_elim (fun _ => ?_) (fun _ => ?_) _ | with_reducible apply ref16_number.le | with_reducible exact le_refl _)
/-! drawbridge/drawbridgeref16.GetArp -/
noncomputable def ref16_GetArp.f (a1 : List Int) : Option (TArp × Int) :=
  (if decide ((a1.length : Int) < 28) = true then some (((⟨0, [], 0, [], 0⟩ : TArp), 160)) else (cut a1 6 8).bind fun x11 => (ref01_Get.f x11 true).bind fun r11 => (cut a1 8 14).bind fun x12 => (ref16_own.f x12).bind fun r12 => (cut a1 14 18).bind fun x13 => (ref01_Get.f x13 true).bind fun r13 => (cut a1 18 24).bind fun x14 => (ref16_own.f x14).bind fun r14 => (cut a1 24 28).bind fun x15 => (ref01_Get.f x15 true).bind fun r15 => (ref16_PutArp.f (⟨IntKind.i64.wrap r11, r12, IntKind.u32.wrap r13, r14, IntKind.u32.wrap r15⟩ : TArp)).bind fun r16 => ((if (!decide (r16.2 = 0)) = true then some (true) else (cut a1 0 28).bind fun x16 => (ref01_Same.f r16.1 x16).bind fun r17 => some ((!r17)))).bind (fun j1 => (if j1 = true then some (((⟨0, [], 0, [], 0⟩ : TArp), 161)) else some (((⟨IntKind.i64.wrap r11, r12, IntKind.u32.wrap r13, r14, IntKind.u32.wrap r15⟩ : TArp), 0)))))
set_option maxRecDepth 100000 in
set_option maxHeartbeats 4000000 in
theorem ref16_GetArp.spc (v1 : Value) (a1 : List Int) (r : TArp × Int) (H : ref16_GetArp.f a1 = some r) : Spc Try.prog 18 [v1] [Val (Kd.sl (Kd.int .u8)) v1 a1] [] (fun (s : Value) => .tuple #[s, .int .i64 r.2]) (fun s => [Ent.pur (InR .i64 r.2), Val KArp s r.1]) := by
 unfold ref16_GetArp.f at H
 refine Spc.go Try.func18 rfl (by kernel_rfl) rfl rfl (all_cons (Val.per Per_sl) all_nil) fun F a w h => ?_
 refine Go.seq ?_
 refine Go.reg ?_
 refine gs h (o_alloc (K := KArp) (z := (.agg #[.int .i64 0, .slice none 0 0, .int .u32 0, .slice none 0 0, .int .u32 0])) rfl ZArp) rfl fun b1 _ _ h => ?_
 refine gs h (o_assign rfl) rfl fun _ _ _ h => ?_
 refine GoR.done ?_
 refine Go.seq ?_
 refine Go.seq ?_
 refine Go.reg ?_
 refine gs h (o_move rfl) rfl fun _ _ _ h => ?_
 have g1 := (len_at 1 rfl h.mem)
 refine gs h (o_ln rfl (rd_at 1 rfl) t_v22) rfl fun _ _ _ h => ?_
 refine gs h (o_bin rfl rfl rfl) rfl fun _ _ _ h => ?_
 refine GoR.done ?_
 by_cases c1 : decide ((a1.length : Int) < 28) = true
 ·have H := ifT c1 H
  refine g_t h rfl c1 ?_
  refine Go.seq ?_
  refine Go.reg ?_
  refine gs h (o_build (K := KArp) (x := (⟨0, [], 0, [], 0⟩ : TArp)) (ps := []) rfl (zs := zsArp) rfl t_b34 rfl (show PB (Kd.pair (Kd.int .i64) (Kd.pair (Kd.sl (Kd.int .u8)) (Kd.pair (Kd.int .u32) (Kd.pair (Kd.sl (Kd.int .u8)) (Kd.last (Kd.int .u32)))))) (0, [], 0, [], 0) 0 zsArp _ _ from (pb_zero z_int (pb_zero z_sl (pb_zero z_int (pb_zero z_sl (pb_lastz z_int))))))) rfl fun v2 _ _ h => ?_
  refine gs0 h (o_st 1 rfl rfl rfl (pv_at PArp 0 rfl) rfl t_w34) fun _ _ _ h => ?_
  refine gs h (o_assign rfl) rfl fun _ _ _ h => ?_
  refine GoR.done ?_
  obtain ⟨v3, h, u1⟩ := h.peek 1 rfl PArp t_y34
  rw [← som H]
  exact g_ret (vs := [v3, .int .i64 160]) h Try.func18 ⟨⟨_, rfl, u1⟩, ⟨rfl, trivial⟩⟩ ⟨v3, rfl, ((h.mem.pick [0] (by decide) rfl).addpur (show InR .i64 160 by decide))⟩
 ·have H := ifF c1 H
  refine g_f h rfl c1 ?_
  refine Go.skip ?_
  refine Go.seq ?_
  replace h := h.wk (E' := [(0, v1), (2, .pointer (some ⟨b1, 0, none⟩)), (3, .int .i64 0)]) (L' := [Fld KArp b1 0 zArp, Val (Kd.sl (Kd.int .u8)) v1 a1]) (by rfl) [0, 1] (by decide) (by rfl)
  obtain ⟨x11, ex11, H⟩ := bindE H
  obtain ⟨r11, er11, H⟩ := bindE H
  obtain ⟨x12, ex12, H⟩ := bindE H
  obtain ⟨r12, er12, H⟩ := bindE H
  obtain ⟨x13, ex13, H⟩ := bindE H
  obtain ⟨r13, er13, H⟩ := bindE H
  obtain ⟨x14, ex14, H⟩ := bindE H
  obtain ⟨r14, er14, H⟩ := bindE H
  obtain ⟨x15, ex15, H⟩ := bindE H
  obtain ⟨r15, er15, H⟩ := bindE H
  refine Go.draw (L := [Fld KArp b1 0 zArp, Val (Kd.sl (Kd.int .u8)) v1 a1]) h 20 [⟨[], [], [], false, .con (v1), none, fun u => []⟩, ⟨[0], [], [], false, .own, none, fun u => [Val (Kd.sl (Kd.int .u8)) u x11]⟩, ⟨[0, 1], [1], [], false, .con (.int .u64 r11), none, fun u => [Ent.pur (InR .u64 r11)]⟩, ⟨[0, 1, 2], [], [], false, .con (.int .i64 (IntKind.i64.wrap r11)), none, fun u => []⟩, ⟨[], [], [], false, .con (v1), none, fun u => []⟩, ⟨[4], [], [], false, .own, none, fun u => [Val (Kd.sl (Kd.int .u8)) u x12]⟩, ⟨[4, 5], [5], [], false, .own, none, fun u => [Val (Kd.sl (Kd.int .u8)) u r12]⟩, ⟨[], [], [], false, .con (v1), none, fun u => []⟩, ⟨[7], [], [], false, .own, none, fun u => [Val (Kd.sl (Kd.int .u8)) u x13]⟩, ⟨[7, 8], [8], [], false, .con (.int .u64 r13), none, fun u => [Ent.pur (InR .u64 r13)]⟩, ⟨[7, 8, 9], [], [], false, .con (.int .u32 (IntKind.u32.wrap r13)), none, fun u => []⟩, ⟨[], [], [], false, .con (v1), none, fun u => []⟩, ⟨[11], [], [], false, .own, none, fun u => [Val (Kd.sl (Kd.int .u8)) u x14]⟩, ⟨[11, 12], [12], [], false, .own, none, fun u => [Val (Kd.sl (Kd.int .u8)) u r14]⟩, ⟨[], [], [], false, .con (v1), none, fun u => []⟩, ⟨[14], [], [], false, .own, none, fun u => [Val (Kd.sl (Kd.int .u8)) u x15]⟩, ⟨[14, 15], [15], [], false, .con (.int .u64 r15), none, fun u => [Ent.pur (InR .u64 r15)]⟩, ⟨[14, 15, 16], [], [], false, .con (.int .u32 (IntKind.u32.wrap r15)), none, fun u => []⟩, ⟨[0, 1, 2, 3, 4, 5, 6, 7, 8, 9, 10, 11, 12, 13, 14, 15, 16, 17], [6, 13], [], false, .own, none, fun u => [Val KArp u (⟨IntKind.i64.wrap r11, r12, IntKind.u32.wrap r13, r14, IntKind.u32.wrap r15⟩ : TArp)]⟩, ⟨[], [], [], false, .own, none, fun u => [Ent.pur (u = .pointer (some ⟨blk u, 0, none⟩)), Fld KArp (blk u) 0 zArp]⟩] rfl t_mxo (by kernel_rfl) (by rfl) ?_ fun f3 _ _ h => ?_
  ·exact obs_cons (ob_con rfl (gok_none rfl) rfl fun f3 => (o_move rfl)) (obs_cons (ob_own rfl (gok_none rfl) rfl fun f3 => (o_cut rfl (pv_at Per_sl 1 rfl) rfl rfl ex11 t_v22)) (obs_cons (ob_con rfl (gok_none rfl) rfl fun f3 => (o_call (ref01_Get.spc (f3 1) x11 true r11 er11) rfl [0] [] (by decide) rfl rfl)) (obs_cons (ob_con rfl (gok_none rfl) rfl fun f3 => (o_conv rfl t_q62 t_u3)) (obs_cons (ob_con rfl (gok_none rfl) rfl fun f3 => (o_move rfl)) (obs_cons (ob_own rfl (gok_none rfl) rfl fun f3 => (o_cut rfl (pv_at Per_sl 1 rfl) rfl rfl ex12 t_v22)) (obs_cons (ob_own rfl (gok_none rfl) rfl fun f3 => (OpS.mm (o_call (ref16_own.spc (f3 5) x12 r12 er12) rfl [0] [] (by decide) rfl rfl) (fun _ _ _ m => m.freeze 0 rfl))) (obs_cons (ob_con rfl (gok_none rfl) rfl fun f3 => (o_move rfl)) (obs_cons (ob_own rfl (gok_none rfl) rfl fun f3 => (o_cut rfl (pv_at Per_sl 1 rfl) rfl rfl ex13 t_v22)) (obs_cons (ob_con rfl (gok_none rfl) rfl fun f3 => (o_call (ref01_Get.spc (f3 8) x13 true r13 er13) rfl [0] [] (by decide) rfl rfl)) (obs_cons (ob_con rfl (gok_none rfl) rfl fun f3 => (o_conv rfl t_q62 t_u32)) (obs_cons (ob_con rfl (gok_none rfl) rfl fun f3 => (o_move rfl)) (obs_cons (ob_own rfl (gok_none rfl) rfl fun f3 => (o_cut rfl (pv_at Per_sl 1 rfl) rfl rfl ex14 t_v22)) (obs_cons (ob_own rfl (gok_none rfl) rfl fun f3 => (OpS.mm (o_call (ref16_own.spc (f3 12) x14 r14 er14) rfl [0] [] (by decide) rfl rfl) (fun _ _ _ m => m.freeze 0 rfl))) (obs_cons (ob_con rfl (gok_none rfl) rfl fun f3 => (o_move rfl)) (obs_cons (ob_own rfl (gok_none rfl) rfl fun f3 => (o_cut rfl (pv_at Per_sl 1 rfl) rfl rfl ex15 t_v22)) (obs_cons (ob_con rfl (gok_none rfl) rfl fun f3 => (o_call (ref01_Get.spc (f3 15) x15 true r15 er15) rfl [0] [] (by decide) rfl rfl)) (obs_cons (ob_con rfl (gok_none rfl) rfl fun f3 => (o_conv rfl t_q62 t_u32)) (obs_cons (ob_own rfl (gok_none rfl) rfl fun f3 => (o_build (K := KArp) (x := (⟨IntKind.i64.wrap r11, r12, IntKind.u32.wrap r13, r14, IntKind.u32.wrap r15⟩ : TArp)) (ps := [(0, .int .i64 (IntKind.i64.wrap r11)), (1, (f3 6)), (2, .int .u32 (IntKind.u32.wrap r13)), (3, (f3 13)), (4, .int .u32 (IntKind.u32.wrap r15))]) rfl (zs := zsArp) rfl t_b34 rfl (show PB (Kd.pair (Kd.int .i64) (Kd.pair (Kd.sl (Kd.int .u8)) (Kd.pair (Kd.int .u32) (Kd.pair (Kd.sl (Kd.int .u8)) (Kd.last (Kd.int .u32)))))) (IntKind.i64.wrap r11, r12, IntKind.u32.wrap r13, r14, IntKind.u32.wrap r15) 0 zsArp _ _ from (pb_part (pv_int (wrap_in _ _)) rfl (pb_part (pv_at Per_sl 0 rfl) rfl (pb_part (pv_int (wrap_in _ _)) rfl (pb_part (pv_at Per_sl 1 rfl) rfl (pb_lastp (pv_int (wrap_in _ _)) rfl)))))))) (obs_cons (ob_own rfl (gok_none rfl) rfl fun f3 => (ptr_d (o_alloc (K := KArp) (z := (.agg #[.int .i64 0, .slice none 0 0, .int .u32 0, .slice none 0 0, .int .u32 0])) rfl ZArp))) (obs_nil))))))))))))))))))))
  replace h := h.wk (E' := [(0, v1), (2, .pointer (some ⟨b1, 0, none⟩)), (3, .int .i64 0), (29, (f3 18)), (4, (f3 19))]) (L' := [Val (Kd.sl (Kd.int .u8)) (f3 1) x11, Ent.pur (InR .u64 r11), Val (Kd.sl (Kd.int .u8)) (f3 5) x12, Val (Kd.sl (Kd.int .u8)) (f3 6) r12, Val (Kd.sl (Kd.int .u8)) (f3 8) x13, Ent.pur (InR .u64 r13), Val (Kd.sl (Kd.int .u8)) (f3 12) x14, Val (Kd.sl (Kd.int .u8)) (f3 13) r14, Val (Kd.sl (Kd.int .u8)) (f3 15) x15, Ent.pur (InR .u64 r15), Val KArp (f3 18) (⟨IntKind.i64.wrap r11, r12, IntKind.u32.wrap r13, r14, IntKind.u32.wrap r15⟩ : TArp), Ent.pur ((f3 19) = .pointer (some ⟨blk (f3 19), 0, none⟩)), Fld KArp (blk (f3 19)) 0 zArp, Fld KArp b1 0 zArp, Val (Kd.sl (Kd.int .u8)) v1 a1]) (by kernel_rfl) [0, 1, 2, 3, 4, 5, 6, 7, 8, 9, 10, 11, 12, 13, 14] (by decide) (by kernel_rfl)
  have q_ := h.mem.pur 11 rfl
  generalize blk (f3 19) = b3 at h q_
  rw [q_] at h
  refine gs0 h (o_st 12 rfl rfl rfl (pv_at PArp 10 rfl) rfl t_w34) fun _ _ _ h => ?_
  refine GoR.done ?_
  refine Go.seq ?_
  refine Go.reg ?_
  refine gs h (o_ldv 12 rfl rfl PArp t_y34) rfl fun v26 _ _ h => ?_
  obtain ⟨r16, er16, H⟩ := bindE H
  refine gs h (o_call (ref16_PutArp.spc v26 (⟨IntKind.i64.wrap r11, r12, IntKind.u32.wrap r13, r14, IntKind.u32.wrap r15⟩ : TArp) r16 er16) rfl [0] [] (by decide) rfl rfl) rfl fun v27 _ _ h => ?_
  have g2 := h.mem.pur 0 rfl
  refine gs h (o_move rfl) rfl fun _ _ _ h => ?_
  refine gs h (o_extract rfl rfl) rfl fun _ _ _ h => ?_
  refine gs h (o_extract rfl rfl) rfl fun _ _ _ h => ?_
  refine gs h (o_assign rfl) rfl fun _ _ _ h => ?_
  refine gs h (o_assign rfl) rfl fun _ _ _ h => ?_
  refine GoR.done ?_
  refine Go.seq ?_
  refine Go.seq ?_
  obtain ⟨o1, H, G1⟩ := bindE H
  refine g_cut (fun G => ∀ j1 (a : Act) (w : World), o1 = j1 → St Try.f18.ntmps F [(2, .pointer (some ⟨b1, 0, none⟩)), (4, .pointer (some ⟨b3, 0, none⟩)), (43, .bool j1)] [Fld KArp b3 0 (⟨IntKind.i64.wrap r11, r12, IntKind.u32.wrap r13, r14, IntKind.u32.wrap r15⟩ : TArp), Fld KArp b1 0 zArp] a w → G a w) 1 ?_ fun J1 => ?_
  ·intro j1 a w ho_ h
   rw [ho_] at G1
   have H := G1
   by_cases c3 : j1 = true
   ·have H := ifT c3 H
    refine g_t h rfl c3 ?_
    refine Go.seq ?_
    refine Go.reg ?_
    refine gs h (o_build (K := KArp) (x := (⟨0, [], 0, [], 0⟩ : TArp)) (ps := []) rfl (zs := zsArp) rfl t_b34 rfl (show PB (Kd.pair (Kd.int .i64) (Kd.pair (Kd.sl (Kd.int .u8)) (Kd.pair (Kd.int .u32) (Kd.pair (Kd.sl (Kd.int .u8)) (Kd.last (Kd.int .u32)))))) (0, [], 0, [], 0) 0 zsArp _ _ from (pb_zero z_int (pb_zero z_sl (pb_zero z_int (pb_zero z_sl (pb_lastz z_int))))))) rfl fun v29 _ _ h => ?_
    refine gs0 h (o_st 2 rfl rfl rfl (pv_at PArp 0 rfl) rfl t_w34) fun _ _ _ h => ?_
    refine gs h (o_assign rfl) rfl fun _ _ _ h => ?_
    refine GoR.done ?_
    obtain ⟨v30, h, u2⟩ := h.peek 2 rfl PArp t_y34
    rw [← som H]
    exact g_ret (vs := [v30, .int .i64 161]) h Try.func18 ⟨⟨_, rfl, u2⟩, ⟨rfl, trivial⟩⟩ ⟨v30, rfl, ((h.mem.pick [0] (by decide) rfl).addpur (show InR .i64 161 by decide))⟩
   ·have H := ifF c3 H
    refine g_f h rfl c3 ?_
    refine Go.skip ?_
    refine Go.seq ?_
    refine Go.reg ?_
    refine gs h (o_ldv 0 rfl rfl PArp t_y34) rfl fun v31 _ _ h => ?_
    refine gs0 h (o_st 2 rfl rfl rfl (pv_at PArp 0 rfl) rfl t_w34) fun _ _ _ h => ?_
    refine gs h (o_assign rfl) rfl fun _ _ _ h => ?_
    refine GoR.done ?_
    obtain ⟨v32, h, u3⟩ := h.peek 2 rfl PArp t_y34
    rw [← som H]
    exact g_ret (vs := [v32, .int .i64 0]) h Try.func18 ⟨⟨_, rfl, u3⟩, ⟨rfl, trivial⟩⟩ ⟨v32, rfl, ((h.mem.pick [0] (by decide) rfl).addpur (show InR .i64 0 by decide))⟩
  refine Go.reg ?_
  refine gs h (o_move rfl) rfl fun _ _ _ h => ?_
  refine gs h (o_bin rfl rfl rfl) rfl fun _ _ _ h => ?_
  refine gs h (o_move rfl) rfl fun _ _ _ h => ?_
  by_cases c2 : (!decide (r16.2 = 0)) = true
  ·have H := ifT c2 H
   refine gk h rfl rfl (nb_t c2) rfl fun _ h => ?_
   refine gk h rfl rfl (nb_t c2) rfl fun _ h => ?_
   refine gk h rfl rfl (nb_t c2) rfl fun _ h => ?_
   refine gk h rfl rfl (nb_t c2) rfl fun _ h => ?_
   refine gk h rfl rfl (nb_t c2) rfl fun _ h => ?_
   refine gs h (o_pickT rfl rfl c2) rfl fun _ _ _ h => ?_
   refine GoR.done ?_
   exact J1 true _ _ (som H).symm (h.wk (by rfl) [15, 16] (by decide) (by rfl))
  ·have H := ifF c2 H
   refine gg h rfl rfl (nbF c2) (o_move rfl) rfl fun _ _ _ h => ?_
   refine gg h rfl rfl (nbF c2) (o_move rfl) rfl fun _ _ _ h => ?_
   obtain ⟨x16, ex16, H⟩ := bindE H
   refine gg h rfl rfl (nbF c2) (o_cuth rfl (pv_at Per_sl 17 rfl) rfl ex16 t_v22) rfl fun v28 _ _ h => ?_
   replace h := h.mm fun m => m.freeze 2 rfl
   obtain ⟨r17, er17, H⟩ := bindE H
   refine gg h rfl rfl (nbF c2) (o_call (ref01_Same.spc v27 r16.1 v28 x16 r17 er17) rfl [2, 0] [] (by decide) rfl rfl) rfl fun _ _ _ h => ?_
   refine gg h rfl rfl (nbF c2) (o_not rfl) rfl fun _ _ _ h => ?_
   refine gs h (o_pickF rfl rfl c2) rfl fun _ _ _ h => ?_
   refine GoR.done ?_
   exact J1 (!r17) _ _ (som H).symm (h.wk (by rfl) [16, 17] (by decide) (by rfl))
def ref16_GetArp.g (k_ : Nat) (a1 : List Int) : Option (TArp × Int) :=
  (if decide ((a1.length : Int) < 28) = true then some (((⟨0, [], 0, [], 0⟩ : TArp), 160)) else (cut a1 6 8).bind fun x11 => (ref01_Get.g k_ x11 true).bind fun r11 => (cut a1 8 14).bind fun x12 => (ref16_own.g k_ x12).bind fun r12 => (cut a1 14 18).bind fun x13 => (ref01_Get.g k_ x13 true).bind fun r13 => (cut a1 18 24).bind fun x14 => (ref16_own.g k_ x14).bind fun r14 => (cut a1 24 28).bind fun x15 => (ref01_Get.g k_ x15 true).bind fun r15 => (ref16_PutArp.g k_ (⟨IntKind.i64.wrap r11, r12, IntKind.u32.wrap r13, r14, IntKind.u32.wrap r15⟩ : TArp)).bind fun r16 => ((if (!decide (r16.2 = 0)) = true then some (true) else (cut a1 0 28).bind fun x16 => (ref01_Same.g k_ r16.1 x16).bind fun r17 => some ((!r17)))).bind (fun j1 => (if j1 = true then some (((⟨0, [], 0, [], 0⟩ : TArp), 161)) else some (((⟨IntKind.i64.wrap r11, r12, IntKind.u32.wrap r13, r14, IntKind.u32.wrap r15⟩ : TArp), 0)))))
theorem ref16_GetArp.le (k_ : Nat) (a1 : List Int) : Le (ref16_GetArp.g k_ a1) (ref16_GetArp.f a1) := by
 unfold ref16_GetArp.g ref16_GetArp.f
 repeat' (first | with_reducible refine le_loop fun _ => ?_ | with_reducible refine le_bind ?_ fun _ => ?_ | with_reducible refine le_ite ?_ ?_ | with_reducible refine le_lt fun _ => ?_ | with_reducible refine le_elim (fun _ => ?_) (fun _ => ?_) _ | with_reducible apply ref01_Get.le | with_reducible apply ref01_Same.le | with_reducible apply ref16_PutArp.le | with_reducible apply ref16_own.le | with_reducible exact le_refl _)
/-! drawbridge/drawbridgeref16.Answer -/
noncomputable def ref16_Answer.f (a1 : TArp) (a2 : List Int) (a3 : Int) : Option (TArp × Bool) :=
  ((if (!decide (a1.Op = 1)) = true then some (true) else (if (!decide (a1.Tip = a3)) = true then some (true) else some ((!decide ((a2.length : Int) = 6)))))).bind (fun j1 => (if j1 = true then some (((⟨0, [], 0, [], 0⟩ : TArp), false)) else (ref16_own.f a2).bind fun r1 => (ref16_own.f a1.Smac).bind fun r2 => some (((⟨2, r1, a3, r2, a1.Sip⟩ : TArp), true))))
set_option maxRecDepth 100000 in
set_option maxHeartbeats 4000000 in
theorem ref16_Answer.spc (v1 : Value) (a1 : TArp) (v2 : Value) (a2 : List Int) (a3 : Int) (ha3 : InR .u32 a3) (r : TArp × Bool) (H : ref16_Answer.f a1 a2 a3 = some r) : Spc Try.prog 20 [v1, v2, .int .u32 a3] [Val KArp v1 a1, Val (Kd.sl (Kd.int .u8)) v2 a2] [] (fun (s : Value) => .tuple #[s, .bool r.2]) (fun s => [Val KArp s r.1]) := by
 unfold ref16_Answer.f at H
 refine Spc.go Try.func20 rfl (by kernel_rfl) rfl rfl (all_cons (Val.per PArp) (all_cons (Val.per Per_sl) all_nil)) fun F a w h => ?_
 refine Go.seq ?_
 refine Go.reg ?_
 refine gs h (o_box (K := KArp) rfl (pv_at PArp 0 rfl)) rfl fun b1 _ _ h => ?_
 refine gs h (o_alloc (K := KArp) (z := (.agg #[.int .i64 0, .slice none 0 0, .int .u32 0, .slice none 0 0, .int .u32 0])) rfl ZArp) rfl fun b2 _ _ h => ?_
 refine gs h (o_assign rfl) rfl fun _ _ _ h => ?_
 refine GoR.done ?_
 refine Go.seq ?_
 refine Go.seq ?_
 obtain ⟨o1, H, G1⟩ := bindE H
 refine g_cut (fun G => ∀ j1 (a : Act) (w : World), o1 = j1 → St Try.f20.ntmps F [(1, v2), (2, .int .u32 a3), (3, .pointer (some ⟨b1, 0, none⟩)), (6, .pointer (some ⟨b2, 0, none⟩)), (21, .bool j1)] [Val (Kd.sl (Kd.int .u8)) v2 a2, Fld KArp b2 0 zArp, Fld KArp b1 0 a1] a w → G a w) 1 ?_ fun J1 => ?_
 ·intro j1 a w ho_ h
  rw [ho_] at G1
  have H := G1
  by_cases c3 : j1 = true
  ·have H := ifT c3 H
   refine g_t h rfl c3 ?_
   refine Go.seq ?_
   refine Go.reg ?_
   refine gs h (o_build (K := KArp) (x := (⟨0, [], 0, [], 0⟩ : TArp)) (ps := []) rfl (zs := zsArp) rfl t_b34 rfl (show PB (Kd.pair (Kd.int .i64) (Kd.pair (Kd.sl (Kd.int .u8)) (Kd.pair (Kd.int .u32) (Kd.pair (Kd.sl (Kd.int .u8)) (Kd.last (Kd.int .u32)))))) (0, [], 0, [], 0) 0 zsArp _ _ from (pb_zero z_int (pb_zero z_sl (pb_zero z_int (pb_zero z_sl (pb_lastz z_int))))))) rfl fun v3 _ _ h => ?_
   refine gs0 h (o_st 2 rfl rfl rfl (pv_at PArp 0 rfl) rfl t_w34) fun _ _ _ h => ?_
   refine gs h (o_assign rfl) rfl fun _ _ _ h => ?_
   refine GoR.done ?_
   obtain ⟨v4, h, u1⟩ := h.peek 2 rfl PArp t_y34
   rw [← som H]
   exact g_ret (vs := [v4, .bool false]) h Try.func20 ⟨⟨_, rfl, u1⟩, ⟨rfl, trivial⟩⟩ ⟨v4, rfl, (h.mem.pick [0] (by decide) rfl)⟩
  ·have H := ifF c3 H
   refine g_f h rfl c3 ?_
   refine Go.skip ?_
   refine Go.seq ?_
   replace h := h.wk (E' := [(1, v2), (2, .int .u32 a3), (3, .pointer (some ⟨b1, 0, none⟩)), (6, .pointer (some ⟨b2, 0, none⟩))]) (L' := [Val (Kd.sl (Kd.int .u8)) v2 a2, Fld KArp b2 0 zArp, Fld KArp b1 0 a1]) (by rfl) [0, 1, 2] (by decide) (by rfl)
   obtain ⟨r1, er1, H⟩ := bindE H
   obtain ⟨r2, er2, H⟩ := bindE H
   refine Go.draw (L := [Val (Kd.sl (Kd.int .u8)) v2 a2, Fld KArp b2 0 zArp, Fld KArp b1 0 a1]) h 8 [⟨[], [], [], false, .con (v2), none, fun u => []⟩, ⟨[0], [], [], false, .own, none, fun u => [Val (Kd.osl (Kd.int .u8)) u r1]⟩, ⟨[], [], [], false, .con (.int .u32 a3), none, fun u => []⟩, ⟨[], [], [], false, .con (.pointer (some ⟨b1, 1, none⟩)), none, fun u => []⟩, ⟨[3], [], [], false, .own, none, fun u => [Val (Kd.sl (Kd.int .u8)) u a1.Smac]⟩, ⟨[3, 4], [4], [], false, .own, none, fun u => [Val (Kd.osl (Kd.int .u8)) u r2]⟩, ⟨[], [], [], false, .con (.pointer (some ⟨b1, 2, none⟩)), none, fun u => []⟩, ⟨[6], [], [], false, .con (.int .u32 a1.Sip), none, fun u => [Ent.pur (InR .u32 a1.Sip)]⟩] rfl t_mxo (by kernel_rfl) (by rfl) ?_ fun f1 _ _ h => ?_
   ·exact obs_cons (ob_con rfl (gok_none rfl) rfl fun f1 => (o_move rfl)) (obs_cons (ob_own rfl (gok_none rfl) rfl fun f1 => (o_call (ref16_own.spc v2 a2 r1 er1) rfl [0] [] (by decide) rfl rfl)) (obs_cons (ob_con rfl (gok_none rfl) rfl fun f1 => (o_move rfl)) (obs_cons (ob_con rfl (gok_none rfl) rfl fun f1 => (o_fa rfl t_f34_1 rfl rfl)) (obs_cons (ob_own rfl (gok_none rfl) rfl fun f1 => (o_lfv 2 rfl rfl sArp_Smac rfl Per_sl t_y22)) (obs_cons (ob_own rfl (gok_none rfl) rfl fun f1 => (o_call (ref16_own.spc (f1 4) a1.Smac r2 er2) rfl [0] [] (by decide) rfl rfl)) (obs_cons (ob_con rfl (gok_none rfl) rfl fun f1 => (o_fa rfl t_f34_2 rfl rfl)) (obs_cons (ob_con rfl (gok_none rfl) rfl fun f1 => (OpS.pur (fun F w m_ => (in2 (fd_sub sArp_Sip 2 rfl m_))) (o_lfx 2 rfl rfl sArp_Sip rfl X_int t_y32))) (obs_nil))))))))
   replace h := h.wk (E' := [(6, .pointer (some ⟨b2, 0, none⟩)), (24, (f1 1)), (25, .int .u32 a3), (28, (f1 5)), (30, .int .u32 a1.Sip)]) (L' := [Val (Kd.osl (Kd.int .u8)) (f1 1) r1, Val (Kd.sl (Kd.int .u8)) (f1 4) a1.Smac, Val (Kd.osl (Kd.int .u8)) (f1 5) r2, Ent.pur (InR .u32 a1.Sip), Val (Kd.sl (Kd.int .u8)) v2 a2, Fld KArp b2 0 zArp, Fld KArp b1 0 a1]) (by kernel_rfl) [0, 1, 2, 3, 4, 5, 6] (by decide) (by kernel_rfl)
   replace h := h.mm fun m => m.freeze 0 rfl
   replace h := h.mm fun m => m.freeze 2 rfl
   have g4 := (fun m_ => (Mem.pur 3 rfl m_)) h.mem
   refine gs h (o_build (K := KArp) (x := (⟨2, r1, a3, r2, a1.Sip⟩ : TArp)) (ps := [(0, .int .i64 2), (1, (f1 1)), (2, .int .u32 a3), (3, (f1 5)), (4, .int .u32 a1.Sip)]) rfl (zs := zsArp) rfl t_b34 rfl (show PB (Kd.pair (Kd.int .i64) (Kd.pair (Kd.sl (Kd.int .u8)) (Kd.pair (Kd.int .u32) (Kd.pair (Kd.sl (Kd.int .u8)) (Kd.last (Kd.int .u32)))))) (2, r1, a3, r2, a1.Sip) 0 zsArp _ _ from (pb_part (pv_int (show InR .i64 2 by decide)) rfl (pb_part (pv_at Per_sl 0 rfl) rfl (pb_part (pv_int ha3) rfl (pb_part (pv_at Per_sl 2 rfl) rfl (pb_lastp (pv_int g4) rfl))))))) rfl fun v8 _ _ h => ?_
   refine gs0 h (o_st 6 rfl rfl rfl (pv_at PArp 0 rfl) rfl t_w34) fun _ _ _ h => ?_
   refine gs h (o_assign rfl) rfl fun _ _ _ h => ?_
   refine GoR.done ?_
   obtain ⟨v9, h, u2⟩ := h.peek 6 rfl PArp t_y34
   rw [← som H]
   exact g_ret (vs := [v9, .bool true]) h Try.func20 ⟨⟨_, rfl, u2⟩, ⟨rfl, trivial⟩⟩ ⟨v9, rfl, (h.mem.pick [0] (by decide) rfl)⟩
 refine Go.reg ?_
 refine gs h (o_fa rfl t_f34_0 rfl rfl) rfl fun _ _ _ h => ?_
 have g1 := (in2 (fd_sub sArp_Op 1 rfl h.mem))
 refine gs h (o_lfx 1 rfl rfl sArp_Op rfl X_int t_y3) rfl fun _ _ _ h => ?_
 refine gs h (o_bin rfl rfl rfl) rfl fun _ _ _ h => ?_
 refine gs h (o_move rfl) rfl fun _ _ _ h => ?_
 by_cases c1 : (!decide (a1.Op = 1)) = true
 ·have H := ifT c1 H
  refine gk h rfl rfl (nb_t c1) rfl fun _ h => ?_
  refine gk h rfl rfl (nb_t c1) rfl fun _ h => ?_
  refine gk h rfl rfl (nb_t c1) rfl fun _ h => ?_
  refine gk h rfl rfl (nb_t c1) rfl fun _ h => ?_
  refine gs h (o_pickT rfl rfl c1) rfl fun _ _ _ h => ?_
  refine gs h (o_move rfl) rfl fun _ _ _ h => ?_
  refine gk h rfl rfl (nb_t rfl) rfl fun _ h => ?_
  refine gk h rfl rfl (nb_t rfl) rfl fun _ h => ?_
  refine gk h rfl rfl (nb_t rfl) rfl fun _ h => ?_
  refine gs h (o_pickT rfl rfl rfl) rfl fun _ _ _ h => ?_
  refine GoR.done ?_
  exact J1 true _ _ (som H).symm (h.wk (by rfl) [3, 0, 1] (by decide) (by rfl))
 ·have H := ifF c1 H
  refine gg h rfl rfl (nbF c1) (o_fa rfl t_f34_4 rfl rfl) rfl fun _ _ _ h => ?_
  have g2 := (in2 (fd_sub sArp_Tip 1 rfl h.mem))
  refine gg h rfl rfl (nbF c1) (o_lfx 1 rfl rfl sArp_Tip rfl X_int t_y32) rfl fun _ _ _ h => ?_
  refine gg h rfl rfl (nbF c1) (o_move rfl) rfl fun _ _ _ h => ?_
  refine gg h rfl rfl (nbF c1) (o_bin rfl rfl rfl) rfl fun _ _ _ h => ?_
  refine gs h (o_pickF rfl rfl c1) rfl fun _ _ _ h => ?_
  refine gs h (o_move rfl) rfl fun _ _ _ h => ?_
  by_cases c2 : (!decide (a1.Tip = a3)) = true
  ·have H := ifT c2 H
   refine gk h rfl rfl (nb_t c2) rfl fun _ h => ?_
   refine gk h rfl rfl (nb_t c2) rfl fun _ h => ?_
   refine gk h rfl rfl (nb_t c2) rfl fun _ h => ?_
   refine gs h (o_pickT rfl rfl c2) rfl fun _ _ _ h => ?_
   refine GoR.done ?_
   exact J1 true _ _ (som H).symm (h.wk (by rfl) [3, 0, 1] (by decide) (by rfl))
  ·have H := ifF c2 H
   refine gg h rfl rfl (nbF c2) (o_move rfl) rfl fun _ _ _ h => ?_
   have g3 := (len_at 3 rfl h.mem)
   refine gg h rfl rfl (nbF c2) (o_ln rfl (rd_at 3 rfl) t_v22) rfl fun _ _ _ h => ?_
   refine gg h rfl rfl (nbF c2) (o_bin rfl rfl rfl) rfl fun _ _ _ h => ?_
   refine gs h (o_pickF rfl rfl c2) rfl fun _ _ _ h => ?_
   refine GoR.done ?_
   exact J1 (!decide ((a2.length : Int) = 6)) _ _ (som H).symm (h.wk (by rfl) [3, 0, 1] (by decide) (by rfl))
def ref16_Answer.g (k_ : Nat) (a1 : TArp) (a2 : List Int) (a3 : Int) : Option (TArp × Bool) :=
  ((if (!decide (a1.Op = 1)) = true then some (true) else (if (!decide (a1.Tip = a3)) = true then some (true) else some ((!decide ((a2.length : Int) = 6)))))).bind (fun j1 => (if j1 = true then some (((⟨0, [], 0, [], 0⟩ : TArp), false)) else (ref16_own.g k_ a2).bind fun r1 => (ref16_own.g k_ a1.Smac).bind fun r2 => some (((⟨2, r1, a3, r2, a1.Sip⟩ : TArp), true))))
theorem ref16_Answer.le (k_ : Nat) (a1 : TArp) (a2 : List Int) (a3 : Int) : Le (ref16_Answer.g k_ a1 a2 a3) (ref16_Answer.f a1 a2 a3) := by
 unfold ref16_Answer.g ref16_Answer.f
 repeat' (first | with_reducible refine le_loop fun _ => ?_ | with_reducible refine le_bind ?_ fun _ => ?_ | with_reducible refine le_ite ?_ ?_ | with_reducible refine le_lt fun _ => ?_ | with_reducible refine le_elim (fun _ => ?_) (fun _ => ?_) _ | with_reducible apply ref16_own.le | with_reducible exact le_refl _)
end Go.Proofs.Ytplkiompmjhdlaa.S
