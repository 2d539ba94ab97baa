/- Contracts, printed by a program of this session. -/
import Derived.Test.YtplkiompmjhdlaaT1
namespace Go.Proofs.Ytplkiompmjhdlaa.S
open Go Go.SL Go.RowKit
set_option linter.unusedVariables false
set_option linter.unusedSimpArgs false
/-! drawbridge/ether.Put -/
noncomputable def ether_Put.f (a1 : TFrm) : Option ((List Int) × Int) :=
  ((if (!decide ((a1.Dst.length : Int) = 6)) = true then some (true) else (if (!decide ((a1.Src.length : Int) = 6)) = true then some (true) else (if (!decide ((ishr .i64 a1.Type_ 16) = 0)) = true then some (true) else some (decide (1500 < (a1.Data.length : Int))))))).bind (fun j1 => (if j1 = true then some (([], 2)) else (bits_Put.f (IntKind.u64.wrap a1.Type_) 2 true).bind fun r1 => (slices_Concat_s_byte_byte.f ([a1.Dst, a1.Src, r1, a1.Data] : List (List Int))).bind fun r2 => some ((r2, 0))))
set_option maxRecDepth 100000 in
set_option maxHeartbeats 4000000 in
theorem ether_Put.spc (v1 : Value) (a1 : TFrm) (r : (List Int) × Int) (H : ether_Put.f a1 = some r) : Spc Try.prog 10 [v1] [Val KFrm v1 a1] [] (fun (s : Value) => .tuple #[s, .int .i64 r.2]) (fun s => [Ent.pur (InR .i64 r.2), Val (Kd.osl (Kd.int .u8)) s r.1]) := by
 unfold ether_Put.f at H
 refine Spc.go Try.func10 rfl (by kernel_rfl) rfl rfl (all_cons (Val.per PFrm) all_nil) fun F a w h => ?_
 refine Go.seq ?_
 refine Go.reg ?_
 refine gs h (o_box (K := KFrm) rfl (pv_at PFrm 0 rfl)) rfl fun b1 _ _ h => ?_
 refine gs h (o_assign rfl) rfl fun _ _ _ h => ?_
 refine gs h (o_assign rfl) rfl fun _ _ _ h => ?_
 refine GoR.done ?_
 refine Go.seq ?_
 refine Go.seq ?_
 obtain ⟨o1, H, G1⟩ := bindE H
 refine g_cut (fun G => ∀ j1 (a : Act) (w : World), o1 = j1 → St Try.f10.ntmps F [(1, .pointer (some ⟨b1, 0, none⟩)), (25, .bool j1)] [Fld KFrm b1 0 a1] a w → G a w) 1 ?_ fun J1 => ?_
 ·intro j1 a w ho_ h
  rw [ho_] at G1
  have H := G1
  by_cases c4 : j1 = true
  ·have H := ifT c4 H
   refine g_t h rfl c4 ?_
   refine Go.seq ?_
   refine Go.reg ?_
   refine gs h (o_assign rfl) rfl fun _ _ _ h => ?_
   refine gs h (o_assign rfl) rfl fun _ _ _ h => ?_
   refine GoR.done ?_
   replace h := h.mm fun m => m.nilo (Kd.int .u8)
   rw [← som H]
   exact g_ret (vs := [.slice none 0 0, .int .i64 2]) h Try.func10 ⟨rfl, ⟨rfl, trivial⟩⟩ ⟨.slice none 0 0, rfl, ((h.mem.pick [0] (by decide) rfl).addpur (show InR .i64 2 by decide))⟩
  ·have H := ifF c4 H
   refine g_f h rfl c4 ?_
   refine Go.skip ?_
   refine Go.seq ?_
   replace h := h.wk (E' := [(1, .pointer (some ⟨b1, 0, none⟩))]) (L' := [Fld KFrm b1 0 a1]) (by rfl) [0] (by decide) (by rfl)
   obtain ⟨r1, er1, H⟩ := bindE H
   refine Go.draw (L := [Fld KFrm b1 0 a1]) h 10 [⟨[], [], [], false, .con (.pointer (some ⟨b1, 0, none⟩)), none, fun u => []⟩, ⟨[0], [], [], false, .own, none, fun u => [Val (Kd.sl (Kd.int .u8)) u a1.Dst]⟩, ⟨[], [], [], false, .con (.pointer (some ⟨b1, 1, none⟩)), none, fun u => []⟩, ⟨[2], [], [], false, .own, none, fun u => [Val (Kd.sl (Kd.int .u8)) u a1.Src]⟩, ⟨[], [], [], false, .con (.pointer (some ⟨b1, 2, none⟩)), none, fun u => []⟩, ⟨[4], [], [], false, .con (.int .i64 a1.Type_), none, fun u => [Ent.pur (InR .i64 a1.Type_)]⟩, ⟨[4, 5], [], [], false, .con (.int .u64 (IntKind.u64.wrap a1.Type_)), none, fun u => []⟩, ⟨[4, 5, 6], [], [], false, .own, none, fun u => [Val (Kd.osl (Kd.int .u8)) u r1]⟩, ⟨[], [], [], false, .con (.pointer (some ⟨b1, 3, none⟩)), none, fun u => []⟩, ⟨[8], [], [], false, .own, none, fun u => [Val (Kd.sl (Kd.int .u8)) u a1.Data]⟩] rfl t_mxo (by kernel_rfl) (by rfl) ?_ fun f1 _ _ h => ?_
   ·exact obs_cons (ob_con rfl (gok_none rfl) rfl fun f1 => (o_fa rfl t_f25_0 rfl rfl)) (obs_cons (ob_own rfl (gok_none rfl) rfl fun f1 => (o_lfv 0 rfl rfl sFrm_Dst rfl Per_sl t_y22)) (obs_cons (ob_con rfl (gok_none rfl) rfl fun f1 => (o_fa rfl t_f25_1 rfl rfl)) (obs_cons (ob_own rfl (gok_none rfl) rfl fun f1 => (o_lfv 0 rfl rfl sFrm_Src rfl Per_sl t_y22)) (obs_cons (ob_con rfl (gok_none rfl) rfl fun f1 => (o_fa rfl t_f25_2 rfl rfl)) (obs_cons (ob_con rfl (gok_none rfl) rfl fun f1 => (OpS.pur (fun F w m_ => (in2 (fd_sub sFrm_Type_ 0 rfl m_))) (o_lfx 0 rfl rfl sFrm_Type_ rfl X_int t_y3))) (obs_cons (ob_con rfl (gok_none rfl) rfl fun f1 => (o_conv rfl t_q3 t_u62)) (obs_cons (ob_own rfl (gok_none rfl) rfl fun f1 => (o_call (bits_Put.spc (IntKind.u64.wrap a1.Type_) (wrap_in _ _) 2 (show InR .i64 2 by decide) true r1 er1) rfl [] [] (by decide) rfl rfl)) (obs_cons (ob_con rfl (gok_none rfl) rfl fun f1 => (o_fa rfl t_f25_3 rfl rfl)) (obs_cons (ob_own rfl (gok_none rfl) rfl fun f1 => (o_lfv 0 rfl rfl sFrm_Data rfl Per_sl t_y22)) (obs_nil))))))))))
   replace h := h.wk (E' := [(27, (f1 1)), (29, (f1 3)), (33, (f1 7)), (35, (f1 9))]) (L' := [Val (Kd.sl (Kd.int .u8)) (f1 1) a1.Dst, Val (Kd.sl (Kd.int .u8)) (f1 3) a1.Src, Ent.pur (InR .i64 a1.Type_), Val (Kd.osl (Kd.int .u8)) (f1 7) r1, Val (Kd.sl (Kd.int .u8)) (f1 9) a1.Data, Fld KFrm b1 0 a1]) (by kernel_rfl) [0, 1, 2, 3, 4, 5] (by decide) (by kernel_rfl)
   replace h := h.mm fun m => m.freeze 3 rfl
   refine gs h (o_bs (K := (Kd.sl (Kd.int .u8))) (vs := [(f1 1), (f1 3), (f1 7), (f1 9)]) (xs := ([a1.Dst, a1.Src, r1, a1.Data] : List (List Int))) rfl rfl (pvs_cons (pv_at Per_sl 0 rfl) (pvs_cons (pv_at Per_sl 1 rfl) (pvs_cons (pv_at Per_sl 3 rfl) (pvs_cons (pv_at Per_sl 4 rfl) pvs_nil)))) t_a77 (by decide) (by decide)) rfl fun v9 _ _ h => ?_
   replace h := h.mm fun m => m.freeze 0 rfl
   obtain ⟨r2, er2, H⟩ := bindE H
   refine gs h (o_call (slices_Concat_s_byte_byte.spc v9 ([a1.Dst, a1.Src, r1, a1.Data] : List (List Int)) r2 er2) rfl [0] [] (by decide) rfl rfl) rfl fun v10 _ _ h => ?_
   refine gs h (o_assign rfl) rfl fun _ _ _ h => ?_
   refine gs h (o_assign rfl) rfl fun _ _ _ h => ?_
   refine GoR.done ?_
   rw [← som H]
   exact g_ret (vs := [v10, .int .i64 0]) h Try.func10 ⟨rfl, ⟨rfl, trivial⟩⟩ ⟨v10, rfl, ((h.mem.pick [0] (by decide) rfl).addpur (show InR .i64 0 by decide))⟩
 refine Go.reg ?_
 refine gs h (o_fa rfl t_f25_0 rfl rfl) rfl fun _ _ _ h => ?_
 refine gs h (o_lfv 0 rfl rfl sFrm_Dst rfl Per_sl t_y22) rfl fun v2 _ _ h => ?_
 have g1 := (len_at 0 rfl h.mem)
 refine gs h (o_ln rfl (rd_at 0 rfl) t_v22) rfl fun _ _ _ h => ?_
 refine gs h (o_bin rfl rfl rfl) rfl fun _ _ _ h => ?_
 refine gs h (o_move rfl) rfl fun _ _ _ h => ?_
 by_cases c1 : (!decide ((a1.Dst.length : Int) = 6)) = true
 ·have H := ifT c1 H
  refine gk h rfl rfl (nb_t c1) rfl fun _ h => ?_
  refine gk h rfl rfl (nb_t c1) rfl fun _ h => ?_
  refine gk h rfl rfl (nb_t c1) rfl fun _ h => ?_
  refine gk h rfl rfl (nb_t c1) rfl fun _ h => ?_
  refine gs h (o_pickT rfl rfl c1) rfl fun _ _ _ h => ?_
  refine gs h (o_move rfl) rfl fun _ _ _ h => ?_
  refine gk h rfl rfl (nb_t rfl) rfl fun _ h => ?_
  refine gk h rfl rfl (nb_t rfl) rfl fun _ h => ?_
  refine gk h rfl rfl (nb_t rfl) rfl fun _ h => ?_
  refine gk h rfl rfl (nb_t rfl) rfl fun _ h => ?_
  refine gs h (o_pickT rfl rfl rfl) rfl fun _ _ _ h => ?_
  refine gs h (o_move rfl) rfl fun _ _ _ h => ?_
  refine gk h rfl rfl (nb_t rfl) rfl fun _ h => ?_
  refine gk h rfl rfl (nb_t rfl) rfl fun _ h => ?_
  refine gk h rfl rfl (nb_t rfl) rfl fun _ h => ?_
  refine gk h rfl rfl (nb_t rfl) rfl fun _ h => ?_
  refine gs h (o_pickT rfl rfl rfl) rfl fun _ _ _ h => ?_
  refine GoR.done ?_
  exact J1 true _ _ (som H).symm (h.wk (by rfl) [1] (by decide) (by rfl))
 ·have H := ifF c1 H
  refine gg h rfl rfl (nbF c1) (o_fa rfl t_f25_1 rfl rfl) rfl fun _ _ _ h => ?_
  refine gg h rfl rfl (nbF c1) (o_lfv 1 rfl rfl sFrm_Src rfl Per_sl t_y22) rfl fun v3 _ _ h => ?_
  have g2 := (len_at 0 rfl h.mem)
  refine gg h rfl rfl (nbF c1) (o_ln rfl (rd_at 0 rfl) t_v22) rfl fun _ _ _ h => ?_
  refine gg h rfl rfl (nbF c1) (o_bin rfl rfl rfl) rfl fun _ _ _ h => ?_
  refine gs h (o_pickF rfl rfl c1) rfl fun _ _ _ h => ?_
  refine gs h (o_move rfl) rfl fun _ _ _ h => ?_
  by_cases c2 : (!decide ((a1.Src.length : Int) = 6)) = true
  ·have H := ifT c2 H
   refine gk h rfl rfl (nb_t c2) rfl fun _ h => ?_
   refine gk h rfl rfl (nb_t c2) rfl fun _ h => ?_
   refine gk h rfl rfl (nb_t c2) rfl fun _ h => ?_
   refine gk h rfl rfl (nb_t c2) rfl fun _ h => ?_
   refine gs h (o_pickT rfl rfl c2) rfl fun _ _ _ h => ?_
   refine gs h (o_move rfl) rfl fun _ _ _ h => ?_
   refine gk h rfl rfl (nb_t rfl) rfl fun _ h => ?_
   refine gk h rfl rfl (nb_t rfl) rfl fun _ h => ?_
   refine gk h rfl rfl (nb_t rfl) rfl fun _ h => ?_
   refine gk h rfl rfl (nb_t rfl) rfl fun _ h => ?_
   refine gs h (o_pickT rfl rfl rfl) rfl fun _ _ _ h => ?_
   refine GoR.done ?_
   exact J1 true _ _ (som H).symm (h.wk (by rfl) [2] (by decide) (by rfl))
  ·have H := ifF c2 H
   refine gg h rfl rfl (nbF c2) (o_fa rfl t_f25_2 rfl rfl) rfl fun _ _ _ h => ?_
   have g3 := (in2 (fd_sub sFrm_Type_ 2 rfl h.mem))
   refine gg h rfl rfl (nbF c2) (o_lfx 2 rfl rfl sFrm_Type_ rfl X_int t_y3) rfl fun _ _ _ h => ?_
   refine gg h rfl rfl (nbF c2) (o_shr rfl rfl (show (0 : Int) ≤ 16 by decide)) rfl fun _ _ _ h => ?_
   refine gg h rfl rfl (nbF c2) (o_bin rfl rfl rfl) rfl fun _ _ _ h => ?_
   refine gs h (o_pickF rfl rfl c2) rfl fun _ _ _ h => ?_
   refine gs h (o_move rfl) rfl fun _ _ _ h => ?_
   by_cases c3 : (!decide ((ishr .i64 a1.Type_ 16) = 0)) = true
   ·have H := ifT c3 H
    refine gk h rfl rfl (nb_t c3) rfl fun _ h => ?_
    refine gk h rfl rfl (nb_t c3) rfl fun _ h => ?_
    refine gk h rfl rfl (nb_t c3) rfl fun _ h => ?_
    refine gk h rfl rfl (nb_t c3) rfl fun _ h => ?_
    refine gs h (o_pickT rfl rfl c3) rfl fun _ _ _ h => ?_
    refine GoR.done ?_
    exact J1 true _ _ (som H).symm (h.wk (by rfl) [2] (by decide) (by rfl))
   ·have H := ifF c3 H
    refine gg h rfl rfl (nbF c3) (o_fa rfl t_f25_3 rfl rfl) rfl fun _ _ _ h => ?_
    refine gg h rfl rfl (nbF c3) (o_lfv 2 rfl rfl sFrm_Data rfl Per_sl t_y22) rfl fun v4 _ _ h => ?_
    have g4 := (len_at 0 rfl h.mem)
    refine gg h rfl rfl (nbF c3) (o_ln rfl (rd_at 0 rfl) t_v22) rfl fun _ _ _ h => ?_
    refine gg h rfl rfl (nbF c3) (o_bin rfl rfl rfl) rfl fun _ _ _ h => ?_
    refine gs h (o_pickF rfl rfl c3) rfl fun _ _ _ h => ?_
    refine GoR.done ?_
    exact J1 (decide (1500 < (a1.Data.length : Int))) _ _ (som H).symm (h.wk (by rfl) [3] (by decide) (by rfl))
def ether_Put.g (k_ : Nat) (a1 : TFrm) : Option ((List Int) × Int) :=
  ((if (!decide ((a1.Dst.length : Int) = 6)) = true then some (true) else (if (!decide ((a1.Src.length : Int) = 6)) = true then some (true) else (if (!decide ((ishr .i64 a1.Type_ 16) = 0)) = true then some (true) else some (decide (1500 < (a1.Data.length : Int))))))).bind (fun j1 => (if j1 = true then some (([], 2)) else (bits_Put.g k_ (IntKind.u64.wrap a1.Type_) 2 true).bind fun r1 => (slices_Concat_s_byte_byte.g k_ ([a1.Dst, a1.Src, r1, a1.Data] : List (List Int))).bind fun r2 => some ((r2, 0))))
theorem ether_Put.le (k_ : Nat) (a1 : TFrm) : Le (ether_Put.g k_ a1) (ether_Put.f a1) := by
 unfold ether_Put.g ether_Put.f
 repeat' (first | with_reducible refine le_loop fun _ => ?_ | with_reducible refine le_bind ?_ fun _ => ?_ | with_reducible refine le_ite ?_ ?_ | with_reducible refine le_lt fun _ => ?_ | with_reducible refine le_elim (fun _ => ?_) (fun _ => ?_) _ | with_reducible apply bits_Put.le | with_reducible apply slices_Concat_s_byte_byte.le | with_reducible exact le_refl _)
/-! drawbridge/ether.beside -/
noncomputable def ether_beside.f (a1 : List Int) (a2 : Int) (a3 : Int) : Option ((Option Trefusal)) :=
  lt (a1.length : Int) fun y1 => lt (decide (y1 < a2)) fun y2 => (if y2 = true then some ((some (⟨y1, 160⟩ : Trefusal))) else lt (decide (a3 < y1)) fun y3 => (if y3 = true then some ((some (⟨y1, 161⟩ : Trefusal))) else some (none)))
set_option maxRecDepth 100000 in
set_option maxHeartbeats 4000000 in
theorem ether_beside.spc (v1 : Value) (a1 : List Int) (a2 : Int) (ha2 : InR .i64 a2) (a3 : Int) (ha3 : InR .i64 a3) (r : (Option Trefusal)) (H : ether_beside.f a1 a2 a3 = some r) : Spc Try.prog 22 [v1, .int .i64 a2, .int .i64 a3] [Val (Kd.sl (Kd.int .u8)) v1 a1] [] (fun (s : Value) => s) (fun s => [Val (Kd.erp 71 Krefusal) s r]) := by
 unfold ether_beside.f at H
 refine Spc.go Try.func22 rfl (by kernel_rfl) rfl rfl (all_cons (Val.per Per_sl) all_nil) fun F a w h => ?_
 refine Go.seq ?_
 refine Go.reg ?_
 refine gs h (o_assign rfl) rfl fun _ _ _ h => ?_
 refine GoR.done ?_
 refine Go.seq ?_
 refine Go.seq ?_
 refine Go.reg ?_
 refine gs h (o_move rfl) rfl fun _ _ _ h => ?_
 have g1 := (len_at 0 rfl h.mem)
 refine gs h (o_ln rfl (rd_at 0 rfl) t_v22) rfl fun _ _ _ h => ?_
 obtain ⟨y1, ey1, H⟩ := ltE H
 refine gs h (o_assign' rfl (congrArg (fun z => Value.int .i64 z) ey1)) rfl fun _ _ _ h => ?_
 refine GoR.done ?_
 refine Go.block ?_
 refine Go.seq ?_
 refine Go.reg ?_
 refine gs h (o_move rfl) rfl fun _ _ _ h => ?_
 refine gs h (o_move rfl) rfl fun _ _ _ h => ?_
 refine gs h (o_bin rfl rfl rfl) rfl fun _ _ _ h => ?_
 obtain ⟨y2, ey2, H⟩ := ltE H
 refine gs h (o_assign' rfl (congrArg Value.bool ey2)) rfl fun _ _ _ h => ?_
 refine GoR.done ?_
 by_cases c1 : y2 = true
 ·have H := ifT c1 H
  refine g_t h rfl c1 ?_
  refine Go.seq ?_
  refine Go.reg ?_
  refine gs h (o_move rfl) rfl fun _ _ _ h => ?_
  refine gs h (o_build (K := Krefusal) (x := (⟨y1, 160⟩ : Trefusal)) (ps := [(0, .int .i64 y1), (1, .int .i64 160)]) rfl (zs := zsrefusal) rfl t_b74 rfl (show PB (Kd.pair (Kd.int .i64) (Kd.last (Kd.int .i64))) (y1, 160) 0 zsrefusal _ _ from (pb_part (pv_int (ey1 ▸ g1)) rfl (pb_lastp (pv_int (show InR .i64 160 by decide)) rfl)))) rfl fun v2 _ _ h => ?_
  refine gs h (o_box (K := Krefusal) rfl (pv_at Prefusal 0 rfl)) rfl fun b1 _ _ h => ?_
  replace h := h.mm fun m => m.frz Prefusal 0 rfl
  refine gs h (o_ifc rfl (by kernel_rfl)) rfl fun _ _ _ h => ?_
  refine gs h (o_assign rfl) rfl fun _ _ _ h => ?_
  refine GoR.done ?_
  replace h := h.mm fun m => (pv_ers 0 rfl (T := 71)).ent m
  rw [← som H]
  exact g_ret (vs := [.iface 71 (.pointer (some ⟨b1, 0, none⟩))]) h Try.func22 ⟨rfl, trivial⟩ ⟨.iface 71 (.pointer (some ⟨b1, 0, none⟩)), rfl, (h.mem.pick [0] (by decide) rfl)⟩
 ·have H := ifF c1 H
  refine g_f h rfl c1 ?_
  refine Go.seq ?_
  refine Go.reg ?_
  refine gs h (o_move rfl) rfl fun _ _ _ h => ?_
  refine gs h (o_move rfl) rfl fun _ _ _ h => ?_
  refine gs h (o_bin rfl rfl rfl) rfl fun _ _ _ h => ?_
  obtain ⟨y3, ey3, H⟩ := ltE H
  refine gs h (o_assign' rfl (congrArg Value.bool ey3)) rfl fun _ _ _ h => ?_
  refine GoR.done ?_
  by_cases c2 : y3 = true
  ·have H := ifT c2 H
   refine g_t h rfl c2 ?_
   refine Go.seq ?_
   refine Go.reg ?_
   refine gs h (o_move rfl) rfl fun _ _ _ h => ?_
   refine gs h (o_build (K := Krefusal) (x := (⟨y1, 161⟩ : Trefusal)) (ps := [(0, .int .i64 y1), (1, .int .i64 161)]) rfl (zs := zsrefusal) rfl t_b74 rfl (show PB (Kd.pair (Kd.int .i64) (Kd.last (Kd.int .i64))) (y1, 161) 0 zsrefusal _ _ from (pb_part (pv_int (ey1 ▸ g1)) rfl (pb_lastp (pv_int (show InR .i64 161 by decide)) rfl)))) rfl fun v3 _ _ h => ?_
   refine gs h (o_box (K := Krefusal) rfl (pv_at Prefusal 0 rfl)) rfl fun b2 _ _ h => ?_
   replace h := h.mm fun m => m.frz Prefusal 0 rfl
   refine gs h (o_ifc rfl (by kernel_rfl)) rfl fun _ _ _ h => ?_
   refine gs h (o_assign rfl) rfl fun _ _ _ h => ?_
   refine GoR.done ?_
   replace h := h.mm fun m => (pv_ers 0 rfl (T := 71)).ent m
   rw [← som H]
   exact g_ret (vs := [.iface 71 (.pointer (some ⟨b2, 0, none⟩))]) h Try.func22 ⟨rfl, trivial⟩ ⟨.iface 71 (.pointer (some ⟨b2, 0, none⟩)), rfl, (h.mem.pick [0] (by decide) rfl)⟩
  ·have H := ifF c2 H
   refine g_f h rfl c2 ?_
   refine Go.skip ?_
   refine Go.inBlock ?_
   refine Go.seq ?_
   refine Go.reg ?_
   refine gs h (o_assign rfl) rfl fun _ _ _ h => ?_
   refine GoR.done ?_
   replace h := h.mm fun m => (pv_ern (T := 71) (K := Krefusal)).ent m
   rw [← som H]
   exact g_ret (vs := [.nilIface]) h Try.func22 ⟨rfl, trivial⟩ ⟨.nilIface, rfl, (h.mem.pick [0] (by decide) rfl)⟩
def ether_beside.g (k_ : Nat) (a1 : List Int) (a2 : Int) (a3 : Int) : Option ((Option Trefusal)) :=
  lt (a1.length : Int) fun y1 => lt (decide (y1 < a2)) fun y2 => (if y2 = true then some ((some (⟨y1, 160⟩ : Trefusal))) else lt (decide (a3 < y1)) fun y3 => (if y3 = true then some ((some (⟨y1, 161⟩ : Trefusal))) else some (none)))
theorem ether_beside.le (k_ : Nat) (a1 : List Int) (a2 : Int) (a3 : Int) : Le (ether_beside.g k_ a1 a2 a3) (ether_beside.f a1 a2 a3) := by
 unfold ether_beside.g ether_beside.f
 repeat' (first | with_reducible refine le_loop fun _ => ?_ | with_reducible refine le_bind ?_ fun _ => ?_ | with_reducible refine le_ite ?_ ?_ | with_reducible refine le_lt fun _ => ?_ | with_reducible refine le_elim (fun _ => ?_) (fun _ => ?_) _ | with_reducible exact le_refl _)
end Go.Proofs.Ytplkiompmjhdlaa.S
