/- Contracts, printed by a program of this session. -/
import Derived.Test.YtplkiompmjhdlaaT0
namespace Go.Proofs.Ytplkiompmjhdlaa.S
open Go Go.SL Go.RowKit
set_option linter.unusedVariables false
set_option linter.unusedSimpArgs false
/-! slices.Clone[[]byte,byte] -/
noncomputable def slices_Clone_s_byte_byte.f (a1 : List Int) : Option ((List Int)) :=
  (app1 ([] : List Int) a1).bind fun x1 => some (x1)
set_option maxRecDepth 100000 in
set_option maxHeartbeats 4000000 in
theorem slices_Clone_s_byte_byte.spc (v1 : Value) (a1 : List Int) (r : (List Int)) (H : slices_Clone_s_byte_byte.f a1 = some r) : Spc Try.prog 33 [v1] [Val (Kd.sl (Kd.int .u8)) v1 a1] [] (fun (s : Value) => s) (fun s => [Val (Kd.osl (Kd.int .u8)) s r]) := by
 unfold slices_Clone_s_byte_byte.f at H
 refine Spc.go Try.func33 rfl (by kernel_rfl) rfl rfl (all_cons (Val.per Per_sl) all_nil) fun F a w h => ?_
 refine Go.seq ?_
 refine Go.reg ?_
 refine gs h (o_assign rfl) rfl fun _ _ _ h => ?_
 refine GoR.done ?_
 refine Go.seq ?_
 refine Go.seq ?_
 refine Go.reg ?_
 refine gs h (o_move rfl) rfl fun _ _ _ h => ?_
 refine gs h (o_eqn rfl rfl (rd_at 0 rfl) t_v22) rfl fun t1 _ _ h => ?_
 refine GoR.done ?_
 by_cases c1 : t1 = true
 ·have q_ := h.mem.pur 0 rfl c1
  have H : (some ([])) = some r := by rw [q_] at H; simpa [app, app1] using H
  refine g_t h rfl c1 ?_
  refine Go.seq ?_
  refine Go.reg ?_
  refine gs h (o_assign rfl) rfl fun _ _ _ h => ?_
  refine GoR.done ?_
  replace h := h.mm fun m => m.nilo (Kd.int .u8)
  rw [← som H]
  exact g_ret (vs := [.slice none 0 0]) h Try.func33 ⟨rfl, trivial⟩ ⟨.slice none 0 0, rfl, (h.mem.pick [0] (by decide) rfl)⟩
 ·refine g_f h rfl c1 ?_
  refine Go.skip ?_
  refine Go.seq ?_
  refine Go.reg ?_
  refine gs h (o_bs (K := (Kd.int .u8)) (vs := []) (xs := ([] : List Int)) rfl rfl pvs_nil t_a22 (by decide) (by decide)) rfl fun v2 _ _ h => ?_
  refine gs h (o_move rfl) rfl fun _ _ _ h => ?_
  obtain ⟨x1, ex1, H⟩ := bindE H
  refine gs h (o_app1 (K := (Kd.int .u8)) 0 rfl rfl rfl (rd_at 2 rfl) ex1 t_a22 t_b22 t_n22) rfl fun v3 _ _ h => ?_
  refine gs h (o_assign rfl) rfl fun _ _ _ h => ?_
  refine GoR.done ?_
  rw [← som H]
  exact g_ret (vs := [v3]) h Try.func33 ⟨rfl, trivial⟩ ⟨v3, rfl, (h.mem.pick [0] (by decide) rfl)⟩
def slices_Clone_s_byte_byte.g (k_ : Nat) (a1 : List Int) : Option ((List Int)) :=
  (app1 ([] : List Int) a1).bind fun x1 => some (x1)
theorem slices_Clone_s_byte_byte.le (k_ : Nat) (a1 : List Int) : Le (slices_Clone_s_byte_byte.g k_ a1) (slices_Clone_s_byte_byte.f a1) := by
 unfold slices_Clone_s_byte_byte.g slices_Clone_s_byte_byte.f
 repeat' (first | with_reducible refine le_loop fun _ => ?_ | with_reducible refine le_bind ?_ fun _ => ?_ | with_reducible refine le_ite ?_ ?_ | with_reducible refine le_lt fun _ => ?_ | with_reducible refine le_elim (fun _ => ?_) (fun _ => ?_) _ | with_reducible exact le_refl _)
/-! drawbridge/ether.Answer -/
noncomputable def ether_Answer.f (a1 : TArp) (a2 : List Int) (a3 : Int) : Option (TArp × Bool) :=
  ((if (!decide (a1.Op = 1)) = true then some (true) else (if (!decide (a1.Tip = a3)) = true then some (true) else some ((!decide ((a2.length : Int) = 6)))))).bind (fun j1 => (if j1 = true then some (((⟨0, [], 0, [], 0⟩ : TArp), false)) else (slices_Clone_s_byte_byte.f a2).bind fun r1 => (slices_Clone_s_byte_byte.f a1.Smac).bind fun r2 => some (((⟨2, r1, a3, r2, a1.Sip⟩ : TArp), true))))
set_option maxRecDepth 100000 in
set_option maxHeartbeats 4000000 in
theorem ether_Answer.spc (v1 : Value) (a1 : TArp) (v2 : Value) (a2 : List Int) (a3 : Int) (ha3 : InR .u32 a3) (r : TArp × Bool) (H : ether_Answer.f a1 a2 a3 = some r) : Spc Try.prog 19 [v1, v2, .int .u32 a3] [Val KArp v1 a1, Val (Kd.sl (Kd.int .u8)) v2 a2] [] (fun (s : Value) => .tuple #[s, .bool r.2]) (fun s => [Val KArp s r.1]) := by
 unfold ether_Answer.f at H
 refine Spc.go Try.func19 rfl (by kernel_rfl) rfl rfl (all_cons (Val.per PArp) (all_cons (Val.per Per_sl) all_nil)) fun F a w h => ?_
 refine Go.seq ?_
 refine Go.reg ?_
 refine gs h (o_box (K := KArp) rfl (pv_at PArp 0 rfl)) rfl fun b1 _ _ h => ?_
 refine gs h (o_alloc (K := KArp) (z := (.agg #[.int .i64 0, .slice none 0 0, .int .u32 0, .slice none 0 0, .int .u32 0])) rfl ZArp) rfl fun b2 _ _ h => ?_
 refine gs h (o_assign rfl) rfl fun _ _ _ h => ?_
 refine GoR.done ?_
 refine Go.seq ?_
 refine Go.seq ?_
 obtain ⟨o1, H, G1⟩ := bindE H
 refine g_cut (fun G => ∀ j1 (a : Act) (w : World), o1 = j1 → St Try.f19.ntmps F [(1, v2), (2, .int .u32 a3), (3, .pointer (some ⟨b1, 0, none⟩)), (6, .pointer (some ⟨b2, 0, none⟩)), (21, .bool j1)] [Val (Kd.sl (Kd.int .u8)) v2 a2, Fld KArp b2 0 zArp, Fld KArp b1 0 a1] a w → G a w) 1 ?_ fun J1 => ?_
 ·intro j1 a w ho_ h
  rw [ho_] at G1
  have H := G1
  by_cases c3 : j1 = true
  ·have H := ifT c3 H
   refine g_t h rfl c3 ?_
   refine Go.seq ?_
   refine Go.reg ?_
   refine gs h (o_build (K := KArp) (x := (⟨0, [], 0, [], 0⟩ : TArp)) (ps := []) rfl (zs := zsArp) rfl t_b34 rfl (show PB (Kd.pair (Kd.int .i64) (Kd.pair (Kd.sl (Kd.int .u8)) (Kd.pair (Kd.int .u32) (Kd.pair (Kd.sl (Kd.int .u8)) (Kd.last (Kd.int .u32)))))) (0, [], 0, [], 0) 0 zsArp _ _ from (pb_zero z_int (pb_zero z_sl (pb_zero z_int (pb_zero z_sl (pb_lastz z_int))))))) rfl fun v3 _ _ h => ?_
   refine gs0 h (o_st 2 rfl rfl rfl (pv_at PArp 0 rfl) rfl t_w34) fun _ _ _ h => ?_
   refine gs h (o_assign rfl) rfl fun _ _ _ h => ?_
   refine GoR.done ?_
   obtain ⟨v4, h, u1⟩ := h.peek 2 rfl PArp t_y34
   rw [← som H]
   exact g_ret (vs := [v4, .bool false]) h Try.func19 ⟨⟨_, rfl, u1⟩, ⟨rfl, trivial⟩⟩ ⟨v4, rfl, (h.mem.pick [0] (by decide) rfl)⟩
  ·have H := ifF c3 H
   refine g_f h rfl c3 ?_
   refine Go.skip ?_
   refine Go.seq ?_
   replace h := h.wk (E' := [(1, v2), (2, .int .u32 a3), (3, .pointer (some ⟨b1, 0, none⟩)), (6, .pointer (some ⟨b2, 0, none⟩))]) (L' := [Val (Kd.sl (Kd.int .u8)) v2 a2, Fld KArp b2 0 zArp, Fld KArp b1 0 a1]) (by rfl) [0, 1, 2] (by decide) (by rfl)
   obtain ⟨r1, er1, H⟩ := bindE H
   obtain ⟨r2, er2, H⟩ := bindE H
   refine Go.draw (L := [Val (Kd.sl (Kd.int .u8)) v2 a2, Fld KArp b2 0 zArp, Fld KArp b1 0 a1]) h 8 [⟨[], [], [], false, .con (v2), none, fun u => []⟩, ⟨[0], [], [], false, .own, none, fun u => [Val (Kd.osl (Kd.int .u8)) u r1]⟩, ⟨[], [], [], false, .con (.int .u32 a3), none, fun u => []⟩, ⟨[], [], [], false, .con (.pointer (some ⟨b1, 1, none⟩)), none, fun u => []⟩, ⟨[3], [], [], false, .own, none, fun u => [Val (Kd.sl (Kd.int .u8)) u a1.Smac]⟩, ⟨[3, 4], [4], [], false, .own, none, fun u => [Val (Kd.osl (Kd.int .u8)) u r2]⟩, ⟨[], [], [], false, .con (.pointer (some ⟨b1, 2, none⟩)), none, fun u => []⟩, ⟨[6], [], [], false, .con (.int .u32 a1.Sip), none, fun u => [Ent.pur (InR .u32 a1.Sip)]⟩] rfl t_mxo (by kernel_rfl) (by rfl) ?_ fun f1 _ _ h => ?_
   ·exact obs_cons (ob_con rfl (gok_none rfl) rfl fun f1 => (o_move rfl)) (obs_cons (ob_own rfl (gok_none rfl) rfl fun f1 => (o_call (slices_Clone_s_byte_byte.spc v2 a2 r1 er1) rfl [0] [] (by decide) rfl rfl)) (obs_cons (ob_con rfl (gok_none rfl) rfl fun f1 => (o_move rfl)) (obs_cons (ob_con rfl (gok_none rfl) rfl fun f1 => (o_fa rfl t_f34_1 rfl rfl)) (obs_cons (ob_own rfl (gok_none rfl) rfl fun f1 => (o_lfv 2 rfl rfl sArp_Smac rfl Per_sl t_y22)) (obs_cons (ob_own rfl (gok_none rfl) rfl fun f1 => (o_call (slices_Clone_s_byte_byte.spc (f1 4) a1.Smac r2 er2) rfl [0] [] (by decide) rfl rfl)) (obs_cons (ob_con rfl (gok_none rfl) rfl fun f1 => (o_fa rfl t_f34_2 rfl rfl)) (obs_cons (ob_con rfl (gok_none rfl) rfl fun f1 => (OpS.pur (fun F w m_ => (in2 (fd_sub sArp_Sip 2 rfl m_))) (o_lfx 2 rfl rfl sArp_Sip rfl X_int t_y32))) (obs_nil))))))))
   replace h := h.wk (E' := [(6, .pointer (some ⟨b2, 0, none⟩)), (24, (f1 1)), (25, .int .u32 a3), (28, (f1 5)), (30, .int .u32 a1.Sip)]) (L' := [Val (Kd.osl (Kd.int .u8)) (f1 1) r1, Val (Kd.sl (Kd.int .u8)) (f1 4) a1.Smac, Val (Kd.osl (Kd.int .u8)) (f1 5) r2, Ent.pur (InR .u32 a1.Sip), Val (Kd.sl (Kd.int .u8)) v2 a2, Fld KArp b2 0 zArp, Fld KArp b1 0 a1]) (by kernel_rfl) [0, 1, 2, 3, 4, 5, 6] (by decide) (by kernel_rfl)
   replace h := h.mm fun m => m.freeze 0 rfl
   replace h := h.mm fun m => m.freeze 2 rfl
   have g4 := (fun m_ => (Mem.pur 3 rfl m_)) h.mem
   refine gs h (o_build (K := KArp) (x := (⟨2, r1, a3, r2, a1.Sip⟩ : TArp)) (ps := [(0, .int .i64 2), (1, (f1 1)), (2, .int .u32 a3), (3, (f1 5)), (4, .int .u32 a1.Sip)]) rfl (zs := zsArp) rfl t_b34 rfl (show PB (Kd.pair (Kd.int .i64) (Kd.pair (Kd.sl (Kd.int .u8)) (Kd.pair (Kd.int .u32) (Kd.pair (Kd.sl (Kd.int .u8)) (Kd.last (Kd.int .u32)))))) (2, r1, a3, r2, a1.Sip) 0 zsArp _ _ from (pb_part (pv_int (show InR .i64 2 by decide)) rfl (pb_part (pv_at Per_sl 0 rfl) rfl (pb_part (pv_int ha3) rfl (pb_part (pv_at Per_sl 2 rfl) rfl (pb_lastp (pv_int g4) rfl))))))) rfl fun v8 _ _ h => ?_
   refine gs0 h (o_st 6 rfl rfl rfl (pv_at PArp 0 rfl) rfl t_w34) fun _ _ _ h => ?_
   refine gs h (o_assign rfl) rfl fun _ _ _ h => ?_
   refine GoR.done ?_
   obtain ⟨v9, h, u2⟩ := h.peek 6 rfl PArp t_y34
   rw [← som H]
   exact g_ret (vs := [v9, .bool true]) h Try.func19 ⟨⟨_, rfl, u2⟩, ⟨rfl, trivial⟩⟩ ⟨v9, rfl, (h.mem.pick [0] (by decide) rfl)⟩
 refine Go.reg ?_
 refine gs h (o_fa rfl t_f34_0 rfl rfl) rfl fun _ _ _ h => ?_
 have g1 := (in2 (fd_sub sArp_Op 1 rfl h.mem))
 refine gs h (o_lfx 1 rfl rfl sArp_Op rfl X_int t_y3) rfl fun _ _ _ h => ?_
 refine gs h (o_bin rfl rfl rfl) rfl fun _ _ _ h => ?_
 refine gs h (o_move rfl) rfl fun _ _ _ h => ?_
 by_cases c1 : (!decide (a1.Op = 1)) = true
 ·have H := ifT c1 H
  refine gk h rfl rfl (nb_t c1) rfl fun _ h => ?_
  refine gk h rfl rfl (nb_t c1) rfl fun _ h => ?_
  refine gk h rfl rfl (nb_t c1) rfl fun _ h => ?_
  refine gk h rfl rfl (nb_t c1) rfl fun _ h => ?_
  refine gs h (o_pickT rfl rfl c1) rfl fun _ _ _ h => ?_
  refine gs h (o_move rfl) rfl fun _ _ _ h => ?_
  refine gk h rfl rfl (nb_t rfl) rfl fun _ h => ?_
  refine gk h rfl rfl (nb_t rfl) rfl fun _ h => ?_
  refine gk h rfl rfl (nb_t rfl) rfl fun _ h => ?_
  refine gs h (o_pickT rfl rfl rfl) rfl fun _ _ _ h => ?_
  refine GoR.done ?_
  exact J1 true _ _ (som H).symm (h.wk (by rfl) [3, 0, 1] (by decide) (by rfl))
 ·have H := ifF c1 H
  refine gg h rfl rfl (nbF c1) (o_fa rfl t_f34_4 rfl rfl) rfl fun _ _ _ h => ?_
  have g2 := (in2 (fd_sub sArp_Tip 1 rfl h.mem))
  refine gg h rfl rfl (nbF c1) (o_lfx 1 rfl rfl sArp_Tip rfl X_int t_y32) rfl fun _ _ _ h => ?_
  refine gg h rfl rfl (nbF c1) (o_move rfl) rfl fun _ _ _ h => ?_
  refine gg h rfl rfl (nbF c1) (o_bin rfl rfl rfl) rfl fun _ _ _ h => ?_
  refine gs h (o_pickF rfl rfl c1) rfl fun _ _ _ h => ?_
  refine gs h (o_move rfl) rfl fun _ _ _ h => ?_
  by_cases c2 : (!decide (a1.Tip = a3)) = true
  ·have H := ifT c2 H
   refine gk h rfl rfl (nb_t c2) rfl fun _ h => ?_
   refine gk h rfl rfl (nb_t c2) rfl fun _ h => ?_
   refine gk h rfl rfl (nb_t c2) rfl fun _ h => ?_
   refine gs h (o_pickT rfl rfl c2) rfl fun _ _ _ h => ?_
   refine GoR.done ?_
   exact J1 true _ _ (som H).symm (h.wk (by rfl) [3, 0, 1] (by decide) (by rfl))
  ·have H := ifF c2 H
   refine gg h rfl rfl (nbF c2) (o_move rfl) rfl fun _ _ _ h => ?_
   have g3 := (len_at 3 rfl h.mem)
   refine gg h rfl rfl (nbF c2) (o_ln rfl (rd_at 3 rfl) t_v22) rfl fun _ _ _ h => ?_
   refine gg h rfl rfl (nbF c2) (o_bin rfl rfl rfl) rfl fun _ _ _ h => ?_
   refine gs h (o_pickF rfl rfl c2) rfl fun _ _ _ h => ?_
   refine GoR.done ?_
   exact J1 (!decide ((a2.length : Int) = 6)) _ _ (som H).symm (h.wk (by rfl) [3, 0, 1] (by decide) (by rfl))
def ether_Answer.g (k_ : Nat) (a1 : TArp) (a2 : List Int) (a3 : Int) : Option (TArp × Bool) :=
  ((if (!decide (a1.Op = 1)) = true then some (true) else (if (!decide (a1.Tip = a3)) = true then some (true) else some ((!decide ((a2.length : Int) = 6)))))).bind (fun j1 => (if j1 = true then some (((⟨0, [], 0, [], 0⟩ : TArp), false)) else (slices_Clone_s_byte_byte.g k_ a2).bind fun r1 => (slices_Clone_s_byte_byte.g k_ a1.Smac).bind fun r2 => some (((⟨2, r1, a3, r2, a1.Sip⟩ : TArp), true))))
theorem ether_Answer.le (k_ : Nat) (a1 : TArp) (a2 : List Int) (a3 : Int) : Le (ether_Answer.g k_ a1 a2 a3) (ether_Answer.f a1 a2 a3) := by
 unfold ether_Answer.g ether_Answer.f
 repeat' (first | with_reducible refine le_loop fun _ => ?_ | with_reducible refine le_bind ?_ fun _ => ?_ | with_reducible refine le_ite ?_ ?_ | with_reducible refine le_lt fun _ => ?_ | with_reducible refine le_elim (fun _ => ?_) (fun _ => ?_) _ | with_reducible apply slices_Clone_s_byte_byte.le | with_reducible exact le_refl _)
/-! drawbridge/drawbridgeref16.Arps -/
noncomputable def ref16_Arps.f (a1 : TArp) (a2 : TArp) : Option (Bool) :=
  ((if decide (a1.Op = a2.Op) = true then (if decide (a1.Smac = a2.Smac) = true then (if decide (a1.Sip = a2.Sip) = true then (if decide (a1.Tmac = a2.Tmac) = true then lt (decide (a1.Tip = a2.Tip)) fun y1 => some (y1) else some (false)) else some (false)) else some (false)) else some (false))).bind (fun j1 => some (j1))
set_option maxRecDepth 100000 in
set_option maxHeartbeats 4000000 in
theorem ref16_Arps.spc (v1 : Value) (a1 : TArp) (v2 : Value) (a2 : TArp) (r : Bool) (H : ref16_Arps.f a1 a2 = some r) : Spc Try.prog 21 [v1, v2] [Val KArp v1 a1, Val KArp v2 a2] [] (fun (s : Unit) => .bool r) (fun s => []) := by
 unfold ref16_Arps.f at H
 refine Spc.go Try.func21 rfl (by kernel_rfl) rfl rfl (all_cons (Val.per PArp) (all_cons (Val.per PArp) all_nil)) fun F a w h => ?_
 refine Go.seq ?_
 refine Go.reg ?_
 refine gs h (o_box (K := KArp) rfl (pv_at PArp 0 rfl)) rfl fun b1 _ _ h => ?_
 refine gs h (o_box (K := KArp) rfl (pv_at PArp 2 rfl)) rfl fun b2 _ _ h => ?_
 refine gs h (o_assign rfl) rfl fun _ _ _ h => ?_
 refine GoR.done ?_
 refine Go.seq ?_
 obtain ⟨o1, H, G1⟩ := bindE H
 refine g_cut (fun G => ∀ j1 (a : Act) (w : World), o1 = j1 → St Try.f21.ntmps F [(4, .bool j1)] [Fld KArp b2 0 a2, Fld KArp b1 0 a1] a w → G a w) 1 ?_ fun J1 => ?_
 ·intro j1 a w ho_ h
  rw [ho_] at G1
  have H := G1
  rw [← som H]
  exact g_ret (vs := [.bool j1]) h Try.func21 ⟨rfl, trivial⟩ ⟨(), rfl, (h.mem.pick [] (by decide) rfl)⟩
 refine Go.reg ?_
 refine gs h (o_fa rfl t_f34_0 rfl rfl) rfl fun _ _ _ h => ?_
 have g1 := (in2 (fd_sub sArp_Op 1 rfl h.mem))
 refine gs h (o_lfx 1 rfl rfl sArp_Op rfl X_int t_y3) rfl fun _ _ _ h => ?_
 refine gs h (o_fa rfl t_f34_0 rfl rfl) rfl fun _ _ _ h => ?_
 have g2 := (in2 (fd_sub sArp_Op 0 rfl h.mem))
 refine gs h (o_lfx 0 rfl rfl sArp_Op rfl X_int t_y3) rfl fun _ _ _ h => ?_
 refine gs h (o_bin rfl rfl rfl) rfl fun _ _ _ h => ?_
 refine gs h (o_move rfl) rfl fun _ _ _ h => ?_
 by_cases c1 : decide (a1.Op = a2.Op) = true
 ·have H := ifT c1 H
  refine gg h rfl rfl c1 (o_fa rfl t_f34_1 rfl rfl) rfl fun _ _ _ h => ?_
  refine gg h rfl rfl c1 (o_lfv 1 rfl rfl sArp_Smac rfl Per_sl t_y22) rfl fun v3 _ _ h => ?_
  have g3 := (rd_bs (rd_at 0 rfl) h.mem)
  refine gg h rfl rfl c1 (o_b2s rfl (rd_at 0 rfl) t_u22 t_u5 t_u9) rfl fun _ _ _ h => ?_
  refine gg h rfl rfl c1 (o_fa rfl t_f34_1 rfl rfl) rfl fun _ _ _ h => ?_
  refine gg h rfl rfl c1 (o_lfv 1 rfl rfl sArp_Smac rfl Per_sl t_y22) rfl fun v4 _ _ h => ?_
  have g4 := (rd_bs (rd_at 0 rfl) h.mem)
  refine gg h rfl rfl c1 (o_b2s rfl (rd_at 0 rfl) t_u22 t_u5 t_u9) rfl fun _ _ _ h => ?_
  refine gg h rfl rfl c1 (o_eqs rfl rfl g3 g4) rfl fun _ _ _ h => ?_
  refine gs h (o_pickT rfl rfl c1) rfl fun _ _ _ h => ?_
  refine gs h (o_move rfl) rfl fun _ _ _ h => ?_
  by_cases c2 : decide (a1.Smac = a2.Smac) = true
  ·have H := ifT c2 H
   refine gg h rfl rfl c2 (o_fa rfl t_f34_2 rfl rfl) rfl fun _ _ _ h => ?_
   have g5 := (in2 (fd_sub sArp_Sip 3 rfl h.mem))
   refine gg h rfl rfl c2 (o_lfx 3 rfl rfl sArp_Sip rfl X_int t_y32) rfl fun _ _ _ h => ?_
   refine gg h rfl rfl c2 (o_fa rfl t_f34_2 rfl rfl) rfl fun _ _ _ h => ?_
   have g6 := (in2 (fd_sub sArp_Sip 2 rfl h.mem))
   refine gg h rfl rfl c2 (o_lfx 2 rfl rfl sArp_Sip rfl X_int t_y32) rfl fun _ _ _ h => ?_
   refine gg h rfl rfl c2 (o_bin rfl rfl rfl) rfl fun _ _ _ h => ?_
   refine gs h (o_pickT rfl rfl c2) rfl fun _ _ _ h => ?_
   refine gs h (o_move rfl) rfl fun _ _ _ h => ?_
   by_cases c3 : decide (a1.Sip = a2.Sip) = true
   ·have H := ifT c3 H
    refine gg h rfl rfl c3 (o_fa rfl t_f34_3 rfl rfl) rfl fun _ _ _ h => ?_
    refine gg h rfl rfl c3 (o_lfv 3 rfl rfl sArp_Tmac rfl Per_sl t_y22) rfl fun v5 _ _ h => ?_
    have g7 := (rd_bs (rd_at 0 rfl) h.mem)
    refine gg h rfl rfl c3 (o_b2s rfl (rd_at 0 rfl) t_u22 t_u5 t_u9) rfl fun _ _ _ h => ?_
    refine gg h rfl rfl c3 (o_fa rfl t_f34_3 rfl rfl) rfl fun _ _ _ h => ?_
    refine gg h rfl rfl c3 (o_lfv 3 rfl rfl sArp_Tmac rfl Per_sl t_y22) rfl fun v6 _ _ h => ?_
    have g8 := (rd_bs (rd_at 0 rfl) h.mem)
    refine gg h rfl rfl c3 (o_b2s rfl (rd_at 0 rfl) t_u22 t_u5 t_u9) rfl fun _ _ _ h => ?_
    refine gg h rfl rfl c3 (o_eqs rfl rfl g7 g8) rfl fun _ _ _ h => ?_
    refine gs h (o_pickT rfl rfl c3) rfl fun _ _ _ h => ?_
    refine gs h (o_move rfl) rfl fun _ _ _ h => ?_
    by_cases c4 : decide (a1.Tmac = a2.Tmac) = true
    ·have H := ifT c4 H
     refine gg h rfl rfl c4 (o_fa rfl t_f34_4 rfl rfl) rfl fun _ _ _ h => ?_
     have g9 := (in2 (fd_sub sArp_Tip 5 rfl h.mem))
     refine gg h rfl rfl c4 (o_lfx 5 rfl rfl sArp_Tip rfl X_int t_y32) rfl fun _ _ _ h => ?_
     refine gg h rfl rfl c4 (o_fa rfl t_f34_4 rfl rfl) rfl fun _ _ _ h => ?_
     have g10 := (in2 (fd_sub sArp_Tip 4 rfl h.mem))
     refine gg h rfl rfl c4 (o_lfx 4 rfl rfl sArp_Tip rfl X_int t_y32) rfl fun _ _ _ h => ?_
     refine gg h rfl rfl c4 (o_bin rfl rfl rfl) rfl fun _ _ _ h => ?_
     refine gs h (o_pickT rfl rfl c4) rfl fun _ _ _ h => ?_
     obtain ⟨y1, ey1, H⟩ := ltE H
     refine gs h (o_assign' rfl (congrArg Value.bool ey1)) rfl fun _ _ _ h => ?_
     refine GoR.done ?_
     exact J1 y1 _ _ (som H).symm (h.wk (by rfl) [4, 5] (by decide) (by rfl))
    ·have H := ifF c4 H
     refine gk h rfl rfl (nb_f c4) rfl fun _ h => ?_
     refine gk h rfl rfl (nb_f c4) rfl fun _ h => ?_
     refine gk h rfl rfl (nb_f c4) rfl fun _ h => ?_
     refine gk h rfl rfl (nb_f c4) rfl fun _ h => ?_
     refine gk h rfl rfl (nb_f c4) rfl fun _ h => ?_
     refine gs h (o_pickF rfl rfl c4) rfl fun _ _ _ h => ?_
     refine gs h (o_assign rfl) rfl fun _ _ _ h => ?_
     refine GoR.done ?_
     exact J1 false _ _ (som H).symm (h.wk (by rfl) [4, 5] (by decide) (by rfl))
   ·have H := ifF c3 H
    refine gk h rfl rfl (nb_f c3) rfl fun _ h => ?_
    refine gk h rfl rfl (nb_f c3) rfl fun _ h => ?_
    refine gk h rfl rfl (nb_f c3) rfl fun _ h => ?_
    refine gk h rfl rfl (nb_f c3) rfl fun _ h => ?_
    refine gk h rfl rfl (nb_f c3) rfl fun _ h => ?_
    refine gk h rfl rfl (nb_f c3) rfl fun _ h => ?_
    refine gk h rfl rfl (nb_f c3) rfl fun _ h => ?_
    refine gs h (o_pickF rfl rfl c3) rfl fun _ _ _ h => ?_
    refine gs h (o_move rfl) rfl fun _ _ _ h => ?_
    refine gk h rfl rfl (nb_f Bool.false_ne_true) rfl fun _ h => ?_
    refine gk h rfl rfl (nb_f Bool.false_ne_true) rfl fun _ h => ?_
    refine gk h rfl rfl (nb_f Bool.false_ne_true) rfl fun _ h => ?_
    refine gk h rfl rfl (nb_f Bool.false_ne_true) rfl fun _ h => ?_
    refine gk h rfl rfl (nb_f Bool.false_ne_true) rfl fun _ h => ?_
    refine gs h (o_pickF rfl rfl Bool.false_ne_true) rfl fun _ _ _ h => ?_
    refine gs h (o_assign rfl) rfl fun _ _ _ h => ?_
    refine GoR.done ?_
    exact J1 false _ _ (som H).symm (h.wk (by rfl) [2, 3] (by decide) (by rfl))
  ·have H := ifF c2 H
   refine gk h rfl rfl (nb_f c2) rfl fun _ h => ?_
   refine gk h rfl rfl (nb_f c2) rfl fun _ h => ?_
   refine gk h rfl rfl (nb_f c2) rfl fun _ h => ?_
   refine gk h rfl rfl (nb_f c2) rfl fun _ h => ?_
   refine gk h rfl rfl (nb_f c2) rfl fun _ h => ?_
   refine gs h (o_pickF rfl rfl c2) rfl fun _ _ _ h => ?_
   refine gs h (o_move rfl) rfl fun _ _ _ h => ?_
   refine gk h rfl rfl (nb_f Bool.false_ne_true) rfl fun _ h => ?_
   refine gk h rfl rfl (nb_f Bool.false_ne_true) rfl fun _ h => ?_
   refine gk h rfl rfl (nb_f Bool.false_ne_true) rfl fun _ h => ?_
   refine gk h rfl rfl (nb_f Bool.false_ne_true) rfl fun _ h => ?_
   refine gk h rfl rfl (nb_f Bool.false_ne_true) rfl fun _ h => ?_
   refine gk h rfl rfl (nb_f Bool.false_ne_true) rfl fun _ h => ?_
   refine gk h rfl rfl (nb_f Bool.false_ne_true) rfl fun _ h => ?_
   refine gs h (o_pickF rfl rfl Bool.false_ne_true) rfl fun _ _ _ h => ?_
   refine gs h (o_move rfl) rfl fun _ _ _ h => ?_
   refine gk h rfl rfl (nb_f Bool.false_ne_true) rfl fun _ h => ?_
   refine gk h rfl rfl (nb_f Bool.false_ne_true) rfl fun _ h => ?_
   refine gk h rfl rfl (nb_f Bool.false_ne_true) rfl fun _ h => ?_
   refine gk h rfl rfl (nb_f Bool.false_ne_true) rfl fun _ h => ?_
   refine gk h rfl rfl (nb_f Bool.false_ne_true) rfl fun _ h => ?_
   refine gs h (o_pickF rfl rfl Bool.false_ne_true) rfl fun _ _ _ h => ?_
   refine gs h (o_assign rfl) rfl fun _ _ _ h => ?_
   refine GoR.done ?_
   exact J1 false _ _ (som H).symm (h.wk (by rfl) [2, 3] (by decide) (by rfl))
 ·have H := ifF c1 H
  refine gk h rfl rfl (nb_f c1) rfl fun _ h => ?_
  refine gk h rfl rfl (nb_f c1) rfl fun _ h => ?_
  refine gk h rfl rfl (nb_f c1) rfl fun _ h => ?_
  refine gk h rfl rfl (nb_f c1) rfl fun _ h => ?_
  refine gk h rfl rfl (nb_f c1) rfl fun _ h => ?_
  refine gk h rfl rfl (nb_f c1) rfl fun _ h => ?_
  refine gk h rfl rfl (nb_f c1) rfl fun _ h => ?_
  refine gs h (o_pickF rfl rfl c1) rfl fun _ _ _ h => ?_
  refine gs h (o_move rfl) rfl fun _ _ _ h => ?_
  refine gk h rfl rfl (nb_f Bool.false_ne_true) rfl fun _ h => ?_
  refine gk h rfl rfl (nb_f Bool.false_ne_true) rfl fun _ h => ?_
  refine gk h rfl rfl (nb_f Bool.false_ne_true) rfl fun _ h => ?_
  refine gk h rfl rfl (nb_f Bool.false_ne_true) rfl fun _ h => ?_
  refine gk h rfl rfl (nb_f Bool.false_ne_true) rfl fun _ h => ?_
  refine gs h (o_pickF rfl rfl Bool.false_ne_true) rfl fun _ _ _ h => ?_
  refine gs h (o_move rfl) rfl fun _ _ _ h => ?_
  refine gk h rfl rfl (nb_f Bool.false_ne_true) rfl fun _ h => ?_
  refine gk h rfl rfl (nb_f Bool.false_ne_true) rfl fun _ h => ?_
  refine gk h rfl rfl (nb_f Bool.false_ne_true) rfl fun _ h => ?_
  refine gk h rfl rfl (nb_f Bool.false_ne_true) rfl fun _ h => ?_
  refine gk h rfl rfl (nb_f Bool.false_ne_true) rfl fun _ h => ?_
  refine gk h rfl rfl (nb_f Bool.false_ne_true) rfl fun _ h => ?_
  refine gk h rfl rfl (nb_f Bool.false_ne_true) rfl fun _ h => ?_
  refine gs h (o_pickF rfl rfl Bool.false_ne_true) rfl fun _ _ _ h => ?_
  refine gs h (o_move rfl) rfl fun _ _ _ h => ?_
  refine gk h rfl rfl (nb_f Bool.false_ne_true) rfl fun _ h => ?_
  refine gk h rfl rfl (nb_f Bool.false_ne_true) rfl fun _ h => ?_
  refine gk h rfl rfl (nb_f Bool.false_ne_true) rfl fun _ h => ?_
  refine gk h rfl rfl (nb_f Bool.false_ne_true) rfl fun _ h => ?_
  refine gk h rfl rfl (nb_f Bool.false_ne_true) rfl fun _ h => ?_
  refine gs h (o_pickF rfl rfl Bool.false_ne_true) rfl fun _ _ _ h => ?_
  refine gs h (o_assign rfl) rfl fun _ _ _ h => ?_
  refine GoR.done ?_
  exact J1 false _ _ (som H).symm (h.wk (by rfl) [0, 1] (by decide) (by rfl))
def ref16_Arps.g (k_ : Nat) (a1 : TArp) (a2 : TArp) : Option (Bool) :=
  ((if decide (a1.Op = a2.Op) = true then (if decide (a1.Smac = a2.Smac) = true then (if decide (a1.Sip = a2.Sip) = true then (if decide (a1.Tmac = a2.Tmac) = true then lt (decide (a1.Tip = a2.Tip)) fun y1 => some (y1) else some (false)) else some (false)) else some (false)) else some (false))).bind (fun j1 => some (j1))
theorem ref16_Arps.le (k_ : Nat) (a1 : TArp) (a2 : TArp) : Le (ref16_Arps.g k_ a1 a2) (ref16_Arps.f a1 a2) := by
 unfold ref16_Arps.g ref16_Arps.f
 repeat' (first | with_reducible refine le_loop fun _ => ?_ | with_reducible refine le_bind ?_ fun _ => ?_ | with_reducible refine le_ite ?_ ?_ | with_reducible refine le_lt fun _ => ?_ | with_reducible refine le_elim (fun _ => ?_) (fun _ => ?_) _ | with_reducible exact le_refl _)
/-! slices.Reverse[[]byte,byte] -/
noncomputable def slices_Reverse_s_byte_byte.f (a1 : List Int) : Option ((List Int)) :=
  lt (IntKind.i64.wrap ((a1.length : Int) - 1)) fun y1 => (loop (fun s1 => (if decide (s1.2.1 < s1.2.2) = true then (idx s1.1 s1.2.2).bind fun x1 => (idx s1.1 s1.2.1).bind fun x2 => (idx s1.1 s1.2.1).bind fun x3 => (idx (s1.1.set s1.2.1.toNat x1) s1.2.2).bind fun x4 => lt ((s1.1.set s1.2.1.toNat x1).set s1.2.2.toNat x2) fun y2 => lt (IntKind.i64.wrap (s1.2.1 + 1)) fun y3 => lt (IntKind.i64.wrap (s1.2.2 - 1)) fun y4 => some (.inl (y2, y3, y4)) else some (.inr (s1.1)))) (a1, 0, y1)).bind (fun z_ => some (z_))
set_option maxRecDepth 100000 in
set_option maxHeartbeats 4000000 in
theorem slices_Reverse_s_byte_byte.spc (v1 : Value) (a1 : List Int) (r : (List Int)) (H : slices_Reverse_s_byte_byte.f a1 = some r) : Spc Try.prog 37 [v1] [] [Val (Kd.osl (Kd.int .u8)) v1 a1] (fun (s : Unit) => .tuple #[]) (fun s => [Val (Kd.osl (Kd.int .u8)) v1 r]) := by
 unfold slices_Reverse_s_byte_byte.f at H
 refine Spc.go Try.func37 rfl (by kernel_rfl) rfl rfl all_nil fun F a w h => ?_
 refine Go.seq ?_
 refine Go.reg ?_
 refine gs h (o_move rfl) rfl fun _ _ _ h => ?_
 have g1 := (len_own 0 rfl h.mem)
 refine gs h (o_ln rfl (rd_own 0 rfl) t_v22) rfl fun _ _ _ h => ?_
 refine gs h (o_bin rfl rfl rfl) rfl fun _ _ _ h => ?_
 refine gs h (o_assign rfl) rfl fun _ _ _ h => ?_
 obtain ⟨y1, ey1, H⟩ := ltE H
 refine gs h (o_assign' rfl (congrArg (fun z => Value.int .i64 z) ey1)) rfl fun _ _ _ h => ?_
 refine GoR.done ?_
 refine Go.block ?_
 obtain ⟨o1, hl, G1⟩ := bindE H
 refine g_loop (fun s1 G => ∀  (a : Act) (w : World), InR .i64 s1.2.1 → InR .i64 s1.2.2 → St Try.f37.ntmps F [(0, v1), (2, .int .i64 s1.2.1), (3, .int .i64 s1.2.2)] [Val (Kd.osl (Kd.int .u8)) v1 s1.1] a w → G a w) hl (fun s1 p1 H i1 => ?_) fun I_ => ?_
 ·intro  a w g2 g3 h
  refine Go.seq ?_
  refine Go.seq ?_
  refine Go.reg ?_
  refine gs h (o_move rfl) rfl fun _ _ _ h => ?_
  refine gs h (o_move rfl) rfl fun _ _ _ h => ?_
  refine gs h (o_bin rfl rfl rfl) rfl fun _ _ _ h => ?_
  refine GoR.done ?_
  by_cases c1 : decide (s1.2.1 < s1.2.2) = true
  ·have H := ifT c1 H
   refine g_t h rfl c1 ?_
   refine Go.skip ?_
   refine Go.seq ?_
   refine Go.block ?_
   replace h := h.wk (E' := [(0, v1), (2, .int .i64 s1.2.1), (3, .int .i64 s1.2.2)]) (L' := [Val (Kd.osl (Kd.int .u8)) v1 s1.1]) (by rfl) [0] (by decide) (by rfl)
   obtain ⟨x1, ex1, H⟩ := bindE H
   obtain ⟨x2, ex2, H⟩ := bindE H
   obtain ⟨x3, ex3, H⟩ := bindE H
   refine Go.draw (L := []) h 14 [⟨[], [], [], false, .con (v1), none, fun u => []⟩, ⟨[], [], [], false, .con (.int .i64 s1.2.1), none, fun u => []⟩, ⟨[], [], [], false, .con (v1), none, fun u => []⟩, ⟨[], [], [], false, .con (.int .i64 s1.2.2), none, fun u => []⟩, ⟨[], [], [], false, .con (v1), none, fun u => []⟩, ⟨[], [], [], false, .con (.int .i64 s1.2.2), none, fun u => []⟩, ⟨[4, 5], [14], [], false, .con (elemP v1 (s1.2.2.toNat * Kd.n (Kd.int .u8))), none, fun u => []⟩, ⟨[4, 5, 6], [14], [], false, .con (.int .u8 x1), none, fun u => [Ent.pur (InR .u8 x1)]⟩, ⟨[], [], [], false, .con (v1), none, fun u => []⟩, ⟨[], [], [], false, .con (.int .i64 s1.2.1), none, fun u => []⟩, ⟨[8, 9], [14], [], false, .con (elemP v1 (s1.2.1.toNat * Kd.n (Kd.int .u8))), none, fun u => []⟩, ⟨[8, 9, 10], [14], [], false, .con (.int .u8 x2), none, fun u => [Ent.pur (InR .u8 x2)]⟩, ⟨[0, 1], [14], [], false, .con (elemP v1 (s1.2.1.toNat * Kd.n (Kd.int .u8))), none, fun u => []⟩, ⟨[0, 1, 4, 5, 6, 7, 12], [14, 7], [14], false, .con (undef), none, fun u => [Val (Kd.osl (Kd.int .u8)) v1 (s1.1.set s1.2.1.toNat x1)]⟩, ⟨[], [], [], false, .con undef, none, fun u => [Val (Kd.osl (Kd.int .u8)) v1 s1.1]⟩] rfl t_mxo (by kernel_rfl) (by rfl) ?_ fun f1 _ _ h => ?_
   ·exact obs_cons (ob_con rfl (gok_none rfl) rfl fun f1 => (o_move rfl)) (obs_cons (ob_con rfl (gok_none rfl) rfl fun f1 => (o_move rfl)) (obs_cons (ob_con rfl (gok_none rfl) rfl fun f1 => (o_move rfl)) (obs_cons (ob_con rfl (gok_none rfl) rfl fun f1 => (o_move rfl)) (obs_cons (ob_con rfl (gok_none rfl) rfl fun f1 => (o_move rfl)) (obs_cons (ob_con rfl (gok_none rfl) rfl fun f1 => (o_move rfl)) (obs_cons (ob_con rfl (gok_none rfl) rfl fun f1 => (o_ix rfl rfl (rd_own 0 rfl) ex1 t_v22)) (obs_cons (ob_con rfl (gok_none rfl) rfl fun f1 => (OpS.pur (fun F w m_ => (rd_inr (rd_own 0 rfl) ex1 m_)) (o_lex rfl (rd_own 0 rfl) ex1 X_int t_y5 (by decide)))) (obs_cons (ob_con rfl (gok_none rfl) rfl fun f1 => (o_move rfl)) (obs_cons (ob_con rfl (gok_none rfl) rfl fun f1 => (o_move rfl)) (obs_cons (ob_con rfl (gok_none rfl) rfl fun f1 => (o_ix rfl rfl (rd_own 0 rfl) ex2 t_v22)) (obs_cons (ob_con rfl (gok_none rfl) rfl fun f1 => (OpS.pur (fun F w m_ => (rd_inr (rd_own 0 rfl) ex2 m_)) (o_lex rfl (rd_own 0 rfl) ex2 X_int t_y5 (by decide)))) (obs_cons (ob_con rfl (gok_none rfl) rfl fun f1 => (o_ix rfl rfl (rd_own 0 rfl) ex3 t_v22)) (obs_cons (ob_con rfl (gok_none rfl) rfl fun f1 => (OpS.fact (p := InR .u8 x1) (fun F w m_ => (Mem.pur 1 rfl m_)) fun g4 => (o_ste 0 rfl rfl rfl (pv_int g4) ex3 t_w5 (by decide)))) (obs_nil))))))))))))))
   replace h := h.wk (E' := [(0, v1), (2, .int .i64 s1.2.1), (3, .int .i64 s1.2.2), (16, v1), (17, .int .i64 s1.2.2), (25, .int .u8 x2)]) (L' := [Ent.pur (InR .u8 x1), Ent.pur (InR .u8 x2), Val (Kd.osl (Kd.int .u8)) v1 (s1.1.set s1.2.1.toNat x1)]) (by kernel_rfl) [0, 1, 2] (by decide) (by kernel_rfl)
   obtain ⟨x4, ex4, H⟩ := bindE H
   refine gs h (o_ix rfl rfl (rd_own 2 rfl) ex4 t_v22) rfl fun _ _ _ h => ?_
   have g5 := (fun m_ => (Mem.pur 1 rfl m_)) h.mem
   obtain ⟨y2, ey2, H⟩ := ltE H
   refine gs0 h (o_ste 2 rfl rfl rfl (pv_int g5) ex4 t_w5 (by decide)) fun _ _ _ h => ?_
   rw [ey2] at h
   refine GoR.done ?_
   refine Go.inBlock ?_
   refine Go.reg ?_
   refine gs h (o_move rfl) rfl fun _ _ _ h => ?_
   refine gs h (o_bin rfl rfl rfl) rfl fun _ _ _ h => ?_
   refine gs h (o_move rfl) rfl fun _ _ _ h => ?_
   refine gs h (o_bin rfl rfl rfl) rfl fun _ _ _ h => ?_
   obtain ⟨y3, ey3, H⟩ := ltE H
   refine gs h (o_assign' rfl (congrArg (fun z => Value.int .i64 z) ey3)) rfl fun _ _ _ h => ?_
   obtain ⟨y4, ey4, H⟩ := ltE H
   refine gs h (o_assign' rfl (congrArg (fun z => Value.int .i64 z) ey4)) rfl fun _ _ _ h => ?_
   refine GoR.done ?_
   have e_ := som H; subst e_
   exact Go.inLoop (nx_in i1 _ _ (ey3 ▸ (wrap_in _ _)) (ey4 ▸ (wrap_in _ _)) (h.wk (by rfl) [2] (by decide) (by rfl)))
  ·have H := ifF c1 H
   refine g_f h rfl c1 ?_
   refine Go.exit rfl ?_
   have e_ := som H; subst e_
   rw [← nx_out i1] at G1
   have H := G1
   rw [← som H]
   exact g_fin (vs := []) h Try.func37 trivial ⟨(), rfl, (h.mem.pick [0] (by decide) rfl)⟩
 ·exact I_ _ _ (show InR .i64 0 by decide) (ey1 ▸ (wrap_in _ _)) (h.wk (by rfl) [0] (by decide) (by rfl))
def slices_Reverse_s_byte_byte.g (k_ : Nat) (a1 : List Int) : Option ((List Int)) :=
  lt (IntKind.i64.wrap ((a1.length : Int) - 1)) fun y1 => (loopK k_ (fun s1 => (if decide (s1.2.1 < s1.2.2) = true then (idx s1.1 s1.2.2).bind fun x1 => (idx s1.1 s1.2.1).bind fun x2 => (idx s1.1 s1.2.1).bind fun x3 => (idx (s1.1.set s1.2.1.toNat x1) s1.2.2).bind fun x4 => lt ((s1.1.set s1.2.1.toNat x1).set s1.2.2.toNat x2) fun y2 => lt (IntKind.i64.wrap (s1.2.1 + 1)) fun y3 => lt (IntKind.i64.wrap (s1.2.2 - 1)) fun y4 => some (.inl (y2, y3, y4)) else some (.inr (s1.1)))) (a1, 0, y1)).bind (fun z_ => some (z_))
theorem slices_Reverse_s_byte_byte.le (k_ : Nat) (a1 : List Int) : Le (slices_Reverse_s_byte_byte.g k_ a1) (slices_Reverse_s_byte_byte.f a1) := by
 unfold slices_Reverse_s_byte_byte.g slices_Reverse_s_byte_byte.f
 repeat' (first | with_reducible refine le_loop fun _ => ?_ | with_reducible refine le_bind ?_ fun _ => ?_ | with_reducible refine le_ite ?_ ?_ | with_reducible refine le_lt fun _ => ?_ | with_reducible refine le_elim (fun _ => ?_) (fun _ => ?_) _ | with_reducible exact le_refl _)
/-! drawbridge/bits.Put -/
noncomputable def bits_Put.f (a1 : Int) (a2 : Int) (a3 : Bool) : Option ((List Int)) :=
  (mk (max 0 (min a2 8)) 0).bind fun x1 => (loop (fun s1 => (if decide (s1.2 < (x1.length : Int)) = true then if 0 ≤ (IntKind.i64.wrap (8 * s1.2)) then ((idx s1.1 s1.2).bind fun x2 => lt (s1.1.set s1.2.toNat (IntKind.u8.wrap (ishr .u64 a1 (IntKind.i64.wrap (8 * s1.2))))) fun y1 => some (.inl (y1, IntKind.i64.wrap (s1.2 + 1)))) else none else some (.inr (s1.1)))) (x1, 0)).bind (fun j1 => ((if a3 = true then (slices_Reverse_s_byte_byte.f j1).bind fun r1 => some (r1) else some (j1))).bind (fun j2 => some (j2)))
set_option maxRecDepth 100000 in
set_option maxHeartbeats 4000000 in
theorem bits_Put.spc (a1 : Int) (ha1 : InR .u64 a1) (a2 : Int) (ha2 : InR .i64 a2) (a3 : Bool) (r : (List Int)) (H : bits_Put.f a1 a2 a3 = some r) : Spc Try.prog 27 [.int .u64 a1, .int .i64 a2, .bool a3] [] [] (fun (s : Value) => s) (fun s => [Val (Kd.osl (Kd.int .u8)) s r]) := by
 unfold bits_Put.f at H
 refine Spc.go Try.func27 rfl (by kernel_rfl) rfl rfl all_nil fun F a w h => ?_
 refine Go.seq ?_
 refine Go.reg ?_
 refine gs h (o_assign rfl) rfl fun _ _ _ h => ?_
 refine GoR.done ?_
 refine Go.seq ?_
 refine Go.reg ?_
 refine gs h (o_move rfl) rfl fun _ _ _ h => ?_
 refine gs h (o_min rfl rfl) rfl fun _ _ _ h => ?_
 refine gs h (o_max rfl rfl) rfl fun _ _ _ h => ?_
 obtain ⟨x1, ex1, H⟩ := bindE H
 refine gs h (o_mk (K := (Kd.int .u8)) rfl rfl ex1 t_a22 (by decide) (fun e he => ⟨[.int .u8 0], by cases he; exact t_zc5, z_int⟩)) rfl fun v1 _ _ h => ?_
 refine gs h (o_assign rfl) rfl fun _ _ _ h => ?_
 refine GoR.done ?_
 refine Go.seq ?_
 refine Go.seq ?_
 refine Go.reg ?_
 refine gs h (o_move rfl) rfl fun _ _ _ h => ?_
 have g1 := (len_own 0 rfl h.mem)
 refine gs h (o_ln rfl (rd_own 0 rfl) t_v22) rfl fun _ _ _ h => ?_
 refine gs h (o_move rfl) rfl fun _ _ _ h => ?_
 refine GoR.done ?_
 refine Go.block ?_
 obtain ⟨o1, hl, G1⟩ := bindE H
 refine g_cut (fun G => ∀ j1 (v2 : Value) (a : Act) (w : World), o1 = j1 → St Try.f27.ntmps F [(2, .bool a3), (7, v2)] [Val (Kd.osl (Kd.int .u8)) v2 j1] a w → G a w) 2 ?_ fun J1 => ?_
 ·intro j1 v2 a w ho_ h
  rw [ho_] at G1
  have H := G1
  refine Go.seq ?_
  obtain ⟨o2, H, G2⟩ := bindE H
  refine g_cut (fun G => ∀ j2 (a : Act) (w : World), o2 = j2 → St Try.f27.ntmps F [(7, v2)] [Val (Kd.osl (Kd.int .u8)) v2 j2] a w → G a w) 1 ?_ fun J2 => ?_
  ·intro j2 a w ho_ h
   rw [ho_] at G2
   have H := G2
   refine Go.seq ?_
   refine Go.reg ?_
   refine gs h (o_move rfl) rfl fun _ _ _ h => ?_
   refine gs h (o_assign rfl) rfl fun _ _ _ h => ?_
   refine GoR.done ?_
   rw [← som H]
   exact g_ret (vs := [v2]) h Try.func27 ⟨rfl, trivial⟩ ⟨v2, rfl, (h.mem.pick [0] (by decide) rfl)⟩
  refine Go.seq ?_
  refine Go.reg ?_
  refine gs h (o_move rfl) rfl fun _ _ _ h => ?_
  refine GoR.done ?_
  by_cases c2 : a3 = true
  ·have H := ifT c2 H
   refine g_t h rfl c2 ?_
   refine Go.reg ?_
   refine gs h (o_move rfl) rfl fun _ _ _ h => ?_
   obtain ⟨r1, er1, H⟩ := bindE H
   refine gs h (o_call (slices_Reverse_s_byte_byte.spc v2 j1 r1 er1) rfl [] [0] (by decide) rfl rfl) rfl fun _ _ _ h => ?_
   refine GoR.done ?_
   exact J2 r1 _ _ (som H).symm (h.wk (by rfl) [0] (by decide) (by rfl))
  ·have H := ifF c2 H
   refine g_f h rfl c2 ?_
   refine Go.skip ?_
   exact J2 j1 _ _ (som H).symm (h.wk (by rfl) [0] (by decide) (by rfl))
 refine g_loop (fun s1 G => ∀  (a : Act) (w : World), InR .i64 s1.2 → St Try.f27.ntmps F [(0, .int .u64 a1), (2, .bool a3), (7, v1), (14, .int .i64 (x1.length : Int)), (15, .int .i64 s1.2)] [Val (Kd.osl (Kd.int .u8)) v1 s1.1] a w → G a w) hl (fun s1 p1 H i1 => ?_) fun I_ => ?_
 ·intro  a w g2 h
  refine Go.seq ?_
  refine Go.reg ?_
  refine gs h (o_bin rfl rfl rfl) rfl fun _ _ _ h => ?_
  refine GoR.done ?_
  refine Go.seq ?_
  by_cases c1 : decide (s1.2 < (x1.length : Int)) = true
  ·have H := ifT c1 H
   refine g_t h rfl c1 ?_
   refine Go.skip ?_
   refine Go.seq ?_
   refine Go.block ?_
   refine Go.seq ?_
   refine Go.reg ?_
   refine gs h (o_move rfl) rfl fun _ _ _ h => ?_
   refine gs h (o_assign rfl) rfl fun _ _ _ h => ?_
   refine GoR.done ?_
   refine Go.reg ?_
   refine gs h (o_move rfl) rfl fun _ _ _ h => ?_
   refine gs h (o_move rfl) rfl fun _ _ _ h => ?_
   refine gs h (o_move rfl) rfl fun _ _ _ h => ?_
   refine gs h (o_move rfl) rfl fun _ _ _ h => ?_
   refine gs h (o_bin rfl rfl rfl) rfl fun _ _ _ h => ?_
   obtain ⟨q1, H⟩ := ifS H
   refine gs h (o_shr rfl rfl q1) rfl fun _ _ _ h => ?_
   refine gs h (o_conv rfl t_q62 t_u5) rfl fun _ _ _ h => ?_
   obtain ⟨x2, ex2, H⟩ := bindE H
   refine gs h (o_ix rfl rfl (rd_own 0 rfl) ex2 t_v22) rfl fun _ _ _ h => ?_
   obtain ⟨y1, ey1, H⟩ := ltE H
   refine gs0 h (o_ste 0 rfl rfl rfl (pv_int (wrap_in _ _)) ex2 t_w5 (by decide)) fun _ _ _ h => ?_
   rw [ey1] at h
   refine GoR.done ?_
   refine Go.inBlock ?_
   refine Go.reg ?_
   refine gs h (o_bin rfl rfl rfl) rfl fun _ _ _ h => ?_
   refine gs h (o_move rfl) rfl fun _ _ _ h => ?_
   refine GoR.done ?_
   have e_ := som H; subst e_
   exact Go.inLoop (nx_in i1 _ _ (wrap_in _ _) (h.wk (by rfl) [0] (by decide) (by rfl)))
  ·have H := ifF c1 H
   refine g_f h rfl c1 ?_
   refine Go.exit rfl ?_
   have e_ := som H; subst e_
   exact J1 s1.1 v1 _ _ (nx_out i1).symm (h.wk (by rfl) [0] (by decide) (by rfl))
 ·exact I_ _ _ (show InR .i64 0 by decide) (h.wk (by rfl) [0] (by decide) (by rfl))
def bits_Put.g (k_ : Nat) (a1 : Int) (a2 : Int) (a3 : Bool) : Option ((List Int)) :=
  (mk (max 0 (min a2 8)) 0).bind fun x1 => (loopK k_ (fun s1 => (if decide (s1.2 < (x1.length : Int)) = true then if 0 ≤ (IntKind.i64.wrap (8 * s1.2)) then ((idx s1.1 s1.2).bind fun x2 => lt (s1.1.set s1.2.toNat (IntKind.u8.wrap (ishr .u64 a1 (IntKind.i64.wrap (8 * s1.2))))) fun y1 => some (.inl (y1, IntKind.i64.wrap (s1.2 + 1)))) else none else some (.inr (s1.1)))) (x1, 0)).bind (fun j1 => ((if a3 = true then (slices_Reverse_s_byte_byte.g k_ j1).bind fun r1 => some (r1) else some (j1))).bind (fun j2 => some (j2)))
theorem bits_Put.le (k_ : Nat) (a1 : Int) (a2 : Int) (a3 : Bool) : Le (bits_Put.g k_ a1 a2 a3) (bits_Put.f a1 a2 a3) := by
 unfold bits_Put.g bits_Put.f
 repeat' (first | with_reducible refine le_loop fun _ => ?_ | with_reducible refine le_bind ?_ fun _ => ?_ | with_reducible refine le_ite ?_ ?_ | with_reducible refine le_lt fun _ => ?_ | with_reducible refine le_elim (fun _ => ?_) (fun _ => ?_) _ | with_reducible apply slices_Reverse_s_byte_byte.le | with_reducible exact le_refl _)
/-! slices.Grow[[]byte,byte] -/
noncomputable def slices_Grow_s_byte_byte.f (a1 : Int) : Option ((List Int)) :=
  (if decide (a1 < 0) = true then none else (lt (IntKind.i64.wrap (a1 - (IntKind.i64.wrap (0 - 0)))) fun y1 => (if decide (0 < y1) = true then (mk y1 0).bind fun x1 => (cut x1 0 0).bind fun x2 => some (x2) else some ([]))).bind (fun j1 => some (j1)))
set_option maxRecDepth 100000 in
set_option maxHeartbeats 4000000 in
theorem slices_Grow_s_byte_byte.spc (a1 : Int) (ha1 : InR .i64 a1) (r : (List Int)) (H : slices_Grow_s_byte_byte.f a1 = some r) : Spc Try.prog 36 [.slice none 0 0, .int .i64 a1] [] [] (fun (s : Value) => s) (fun s => [Val (Kd.osl (Kd.int .u8)) s r]) := by
 unfold slices_Grow_s_byte_byte.f at H
 refine Spc.go Try.func36 rfl (by kernel_rfl) rfl rfl all_nil fun F a w h => ?_
 refine Go.seq ?_
 refine Go.reg ?_
 refine gs h (o_assign rfl) rfl fun _ _ _ h => ?_
 refine GoR.done ?_
 refine Go.seq ?_
 refine Go.seq ?_
 refine Go.reg ?_
 refine gs h (o_move rfl) rfl fun _ _ _ h => ?_
 refine gs h (o_bin rfl rfl rfl) rfl fun _ _ _ h => ?_
 refine GoR.done ?_
 by_cases c1 : decide (a1 < 0) = true
 ·have H := ifT c1 H
  refine g_t h rfl c1 ?_
  cases H
 ·have H := ifF c1 H
  refine g_f h rfl c1 ?_
  refine Go.skip ?_
  refine Go.seq ?_
  obtain ⟨o1, H, G1⟩ := bindE H
  refine g_cut (fun G => ∀ j1 (v2 : Value) (a : Act) (w : World), o1 = j1 → St Try.f36.ntmps F [(0, v2)] [Val (Kd.osl (Kd.int .u8)) v2 j1] a w → G a w) 1 ?_ fun J1 => ?_
  ·intro j1 v2 a w ho_ h
   rw [ho_] at G1
   have H := G1
   refine Go.seq ?_
   refine Go.reg ?_
   refine gs h (o_move rfl) rfl fun _ _ _ h => ?_
   refine gs h (o_assign rfl) rfl fun _ _ _ h => ?_
   refine GoR.done ?_
   rw [← som H]
   exact g_ret (vs := [v2]) h Try.func36 ⟨rfl, trivial⟩ ⟨v2, rfl, (h.mem.pick [0] (by decide) rfl)⟩
  refine Go.seq ?_
  refine Go.reg ?_
  refine gs h (o_move rfl) rfl fun _ _ _ h => ?_
  refine gs h (o_move rfl) rfl fun _ _ _ h => ?_
  refine gs h (o_capn rfl t_v22) rfl fun _ _ _ h => ?_
  refine gs h (o_move rfl) rfl fun _ _ _ h => ?_
  refine gs h (o_ln (K := (Kd.int .u8)) rfl (rd_pv pv_nil) t_v22) rfl fun _ _ _ h => ?_
  refine gs h (o_bin rfl rfl rfl) rfl fun _ _ _ h => ?_
  refine gs h (o_bin rfl rfl rfl) rfl fun _ _ _ h => ?_
  obtain ⟨y1, ey1, H⟩ := ltE H
  refine gs h (o_assign' rfl (congrArg (fun z => Value.int .i64 z) ey1)) rfl fun _ _ _ h => ?_
  refine GoR.done ?_
  refine Go.seq ?_
  refine Go.reg ?_
  refine gs h (o_move rfl) rfl fun _ _ _ h => ?_
  refine gs h (o_bin rfl rfl rfl) rfl fun _ _ _ h => ?_
  refine GoR.done ?_
  by_cases c2 : decide (0 < y1) = true
  ·have H := ifT c2 H
   refine g_t h rfl c2 ?_
   refine Go.reg ?_
   refine gs h (o_move rfl) rfl fun _ _ _ h => ?_
   refine gs h (o_move rfl) rfl fun _ _ _ h => ?_
   refine gs h (o_capn rfl t_v22) rfl fun _ _ _ h => ?_
   refine gs h (o_nilh rfl rfl t_v22) rfl fun _ _ _ h => ?_
   refine gs h (o_move rfl) rfl fun _ _ _ h => ?_
   obtain ⟨x1, ex1, H⟩ := bindE H
   refine gs h (o_appz (K := (Kd.int .u8)) rfl rfl ex1 t_a22 t_u3 (by decide) (fun e he => ⟨[.int .u8 0], by cases he; exact t_zc5, z_int⟩)) rfl fun v1 _ _ h => ?_
   refine gs h (o_move rfl) rfl fun _ _ _ h => ?_
   refine gs h (o_ln (K := (Kd.int .u8)) rfl (rd_pv pv_nil) t_v22) rfl fun _ _ _ h => ?_
   obtain ⟨x2, ex2, H⟩ := bindE H
   refine gs h (o_subh 0 rfl rfl rfl ex2 t_v22) rfl fun _ _ _ h => ?_
   refine gs h (o_assign rfl) rfl fun _ _ _ h => ?_
   refine GoR.done ?_
   exact J1 x2 (subV v1 (0 : Int).toNat (0 : Int).toNat (Kd.n (Kd.int .u8))) _ _ (som H).symm (h.wk (by rfl) [0] (by decide) (by rfl))
  ·have H := ifF c2 H
   refine g_f h rfl c2 ?_
   refine Go.skip ?_
   replace h := h.mm fun m => m.nilo (Kd.int .u8)
   exact J1 [] (.slice none 0 0) _ _ (som H).symm (h.wk (by rfl) [0] (by decide) (by rfl))
def slices_Grow_s_byte_byte.g (k_ : Nat) (a1 : Int) : Option ((List Int)) :=
  (if decide (a1 < 0) = true then none else (lt (IntKind.i64.wrap (a1 - (IntKind.i64.wrap (0 - 0)))) fun y1 => (if decide (0 < y1) = true then (mk y1 0).bind fun x1 => (cut x1 0 0).bind fun x2 => some (x2) else some ([]))).bind (fun j1 => some (j1)))
theorem slices_Grow_s_byte_byte.le (k_ : Nat) (a1 : Int) : Le (slices_Grow_s_byte_byte.g k_ a1) (slices_Grow_s_byte_byte.f a1) := by
 unfold slices_Grow_s_byte_byte.g slices_Grow_s_byte_byte.f
 repeat' (first | with_reducible refine le_loop fun _ => ?_ | with_reducible refine le_bind ?_ fun _ => ?_ | with_reducible refine le_ite ?_ ?_ | with_reducible refine le_lt fun _ => ?_ | with_reducible refine le_elim (fun _ => ?_) (fun _ => ?_) _ | with_reducible exact le_refl _)
/-! slices.Concat[[]byte,byte] -/
noncomputable def slices_Concat_s_byte_byte.f (a1 : List (List Int)) : Option ((List Int)) :=
  (loop (fun s1 => (if decide (s1.2 < (a1.length : Int)) = true then (idx a1 s1.2).bind fun x1 => lt (IntKind.i64.wrap (s1.1 + (x1.length : Int))) fun y1 => (if decide (y1 < 0) = true then none else some (.inl (y1, IntKind.i64.wrap (s1.2 + 1)))) else some (.inr (s1.1)))) (0, 0)).bind (fun j1 => (slices_Grow_s_byte_byte.f j1).bind fun r1 => (loop (fun s2 => (if decide (s2.2 < (a1.length : Int)) = true then (idx a1 s2.2).bind fun x2 => (app s2.1 x2).bind fun x3 => some (.inl (x3, IntKind.i64.wrap (s2.2 + 1))) else some (.inr (s2.1)))) (r1, 0)).bind (fun j2 => some (j2)))
set_option maxRecDepth 100000 in
set_option maxHeartbeats 4000000 in
theorem slices_Concat_s_byte_byte.spc (v1 : Value) (a1 : List (List Int)) (r : (List Int)) (H : slices_Concat_s_byte_byte.f a1 = some r) : Spc Try.prog 26 [v1] [Val (Kd.sl (Kd.sl (Kd.int .u8))) v1 a1] [] (fun (s : Value) => s) (fun s => [Val (Kd.osl (Kd.int .u8)) s r]) := by
 unfold slices_Concat_s_byte_byte.f at H
 refine Spc.go Try.func26 rfl (by kernel_rfl) rfl rfl (all_cons (Val.per Per_sl) all_nil) fun F a w h => ?_
 refine Go.seq ?_
 refine Go.reg ?_
 refine gs h (o_assign rfl) rfl fun _ _ _ h => ?_
 refine GoR.done ?_
 refine Go.seq ?_
 refine Go.reg ?_
 refine gs h (o_assign rfl) rfl fun _ _ _ h => ?_
 refine GoR.done ?_
 refine Go.seq ?_
 refine Go.seq ?_
 refine Go.reg ?_
 refine gs h (o_move rfl) rfl fun _ _ _ h => ?_
 have g1 := (len_at 0 rfl h.mem)
 refine gs h (o_ln rfl (rd_at 0 rfl) t_v77) rfl fun _ _ _ h => ?_
 refine gs h (o_move rfl) rfl fun _ _ _ h => ?_
 refine GoR.done ?_
 refine Go.block ?_
 obtain ⟨o1, hl, G1⟩ := bindE H
 refine g_cut (fun G => ∀ j1 (a : Act) (w : World), o1 = j1 → InR .i64 j1 → St Try.f26.ntmps F [(0, v1), (3, .int .i64 j1)] [Val (Kd.sl (Kd.sl (Kd.int .u8))) v1 a1] a w → G a w) 2 ?_ fun J1 => ?_
 ·intro j1 a w ho_ g5 h
  rw [ho_] at G1
  have H := G1
  refine Go.seq ?_
  refine Go.reg ?_
  refine gs h (o_move rfl) rfl fun _ _ _ h => ?_
  obtain ⟨r1, er1, H⟩ := bindE H
  refine gs h (o_call (slices_Grow_s_byte_byte.spc j1 g5 r1 er1) rfl [] [] (by decide) rfl rfl) rfl fun v3 _ _ h => ?_
  refine gs h (o_assign rfl) rfl fun _ _ _ h => ?_
  refine GoR.done ?_
  refine Go.seq ?_
  refine Go.seq ?_
  refine Go.reg ?_
  refine gs h (o_move rfl) rfl fun _ _ _ h => ?_
  have g6 := (len_at 1 rfl h.mem)
  refine gs h (o_ln rfl (rd_at 1 rfl) t_v77) rfl fun _ _ _ h => ?_
  refine gs h (o_move rfl) rfl fun _ _ _ h => ?_
  refine GoR.done ?_
  refine Go.block ?_
  obtain ⟨o2, hl, G2⟩ := bindE H
  refine g_cut (fun G => ∀ j2 (v7 : Value) (a : Act) (w : World), o2 = j2 → St Try.f26.ntmps F [(6, v7)] [Val (Kd.osl (Kd.int .u8)) v7 j2] a w → G a w) 2 ?_ fun J2 => ?_
  ·intro j2 v7 a w ho_ h
   rw [ho_] at G2
   have H := G2
   refine Go.seq ?_
   refine Go.reg ?_
   refine gs h (o_move rfl) rfl fun _ _ _ h => ?_
   refine gs h (o_assign rfl) rfl fun _ _ _ h => ?_
   refine GoR.done ?_
   rw [← som H]
   exact g_ret (vs := [v7]) h Try.func26 ⟨rfl, trivial⟩ ⟨v7, rfl, (h.mem.pick [0] (by decide) rfl)⟩
  refine g_loop (fun s2 G => ∀ (v4 : Value) (a : Act) (w : World), InR .i64 s2.2 → St Try.f26.ntmps F [(6, v4), (25, v1), (26, .int .i64 (a1.length : Int)), (27, .int .i64 s2.2)] [Val (Kd.osl (Kd.int .u8)) v4 s2.1, Val (Kd.sl (Kd.sl (Kd.int .u8))) v1 a1] a w → G a w) hl (fun s2 p2 H i2 => ?_) fun I_ => ?_
  ·intro v4 a w g7 h
   refine Go.seq ?_
   refine Go.reg ?_
   refine gs h (o_bin rfl rfl rfl) rfl fun _ _ _ h => ?_
   refine GoR.done ?_
   refine Go.seq ?_
   by_cases c3 : decide (s2.2 < (a1.length : Int)) = true
   ·have H := ifT c3 H
    refine g_t h rfl c3 ?_
    refine Go.skip ?_
    refine Go.seq ?_
    refine Go.block ?_
    refine Go.seq ?_
    refine Go.reg ?_
    obtain ⟨x2, ex2, H⟩ := bindE H
    refine gs h (o_ix rfl rfl (rd_at 1 rfl) ex2 t_v77) rfl fun _ _ _ h => ?_
    refine gs h (o_lev rfl (rd_at 1 rfl) ex2 t_y22 (by decide)) rfl fun v5 _ _ h => ?_
    refine gs h (o_assign rfl) rfl fun _ _ _ h => ?_
    refine GoR.done ?_
    refine Go.reg ?_
    refine gs h (o_move rfl) rfl fun _ _ _ h => ?_
    refine gs h (o_move rfl) rfl fun _ _ _ h => ?_
    obtain ⟨x3, ex3, H⟩ := bindE H
    refine gs h (o_app (K := (Kd.int .u8)) 1 rfl rfl rfl (rd_at 0 rfl) ex3 t_a22 t_n22) rfl fun v6 _ _ h => ?_
    refine gs h (o_assign rfl) rfl fun _ _ _ h => ?_
    refine GoR.done ?_
    refine Go.inBlock ?_
    refine Go.reg ?_
    refine gs h (o_bin rfl rfl rfl) rfl fun _ _ _ h => ?_
    refine gs h (o_move rfl) rfl fun _ _ _ h => ?_
    refine GoR.done ?_
    have e_ := som H; subst e_
    exact Go.inLoop (nx_in i2 v6 _ _ (wrap_in _ _) (h.wk (by rfl) [1, 2] (by decide) (by rfl)))
   ·have H := ifF c3 H
    refine g_f h rfl c3 ?_
    refine Go.exit rfl ?_
    have e_ := som H; subst e_
    exact J2 s2.1 v4 _ _ (nx_out i2).symm (h.wk (by rfl) [0] (by decide) (by rfl))
  ·exact I_ v3 _ _ (show InR .i64 0 by decide) (h.wk (by rfl) [0, 1] (by decide) (by rfl))
 refine g_loop (fun s1 G => ∀  (a : Act) (w : World), InR .i64 s1.1 → InR .i64 s1.2 → St Try.f26.ntmps F [(0, v1), (3, .int .i64 s1.1), (9, v1), (10, .int .i64 (a1.length : Int)), (11, .int .i64 s1.2)] [Val (Kd.sl (Kd.sl (Kd.int .u8))) v1 a1] a w → G a w) hl (fun s1 p1 H i1 => ?_) fun I_ => ?_
 ·intro  a w g2 g3 h
  refine Go.seq ?_
  refine Go.reg ?_
  refine gs h (o_bin rfl rfl rfl) rfl fun _ _ _ h => ?_
  refine GoR.done ?_
  refine Go.seq ?_
  by_cases c1 : decide (s1.2 < (a1.length : Int)) = true
  ·have H := ifT c1 H
   refine g_t h rfl c1 ?_
   refine Go.skip ?_
   refine Go.seq ?_
   refine Go.block ?_
   refine Go.seq ?_
   refine Go.reg ?_
   obtain ⟨x1, ex1, H⟩ := bindE H
   refine gs h (o_ix rfl rfl (rd_at 0 rfl) ex1 t_v77) rfl fun _ _ _ h => ?_
   refine gs h (o_lev rfl (rd_at 0 rfl) ex1 t_y22 (by decide)) rfl fun v2 _ _ h => ?_
   refine gs h (o_assign rfl) rfl fun _ _ _ h => ?_
   refine GoR.done ?_
   refine Go.seq ?_
   refine Go.reg ?_
   refine gs h (o_move rfl) rfl fun _ _ _ h => ?_
   refine gs h (o_move rfl) rfl fun _ _ _ h => ?_
   have g4 := (len_at 0 rfl h.mem)
   refine gs h (o_ln rfl (rd_at 0 rfl) t_v22) rfl fun _ _ _ h => ?_
   refine gs h (o_bin rfl rfl rfl) rfl fun _ _ _ h => ?_
   obtain ⟨y1, ey1, H⟩ := ltE H
   refine gs h (o_assign' rfl (congrArg (fun z => Value.int .i64 z) ey1)) rfl fun _ _ _ h => ?_
   refine GoR.done ?_
   refine Go.seq ?_
   refine Go.reg ?_
   refine gs h (o_move rfl) rfl fun _ _ _ h => ?_
   refine gs h (o_bin rfl rfl rfl) rfl fun _ _ _ h => ?_
   refine GoR.done ?_
   by_cases c2 : decide (y1 < 0) = true
   ·have H := ifT c2 H
    refine g_t h rfl c2 ?_
    cases H
   ·have H := ifF c2 H
    refine g_f h rfl c2 ?_
    refine Go.skip ?_
    refine Go.inBlock ?_
    refine Go.reg ?_
    refine gs h (o_bin rfl rfl rfl) rfl fun _ _ _ h => ?_
    refine gs h (o_move rfl) rfl fun _ _ _ h => ?_
    refine GoR.done ?_
    have e_ := som H; subst e_
    exact Go.inLoop (nx_in i1 _ _ (ey1 ▸ (wrap_in _ _)) (wrap_in _ _) (h.wk (by rfl) [1] (by decide) (by rfl)))
  ·have H := ifF c1 H
   refine g_f h rfl c1 ?_
   refine Go.exit rfl ?_
   have e_ := som H; subst e_
   exact J1 s1.1 _ _ (nx_out i1).symm g2 (h.wk (by rfl) [0] (by decide) (by rfl))
 ·exact I_ _ _ (show InR .i64 0 by decide) (show InR .i64 0 by decide) (h.wk (by rfl) [0] (by decide) (by rfl))
def slices_Concat_s_byte_byte.g (k_ : Nat) (a1 : List (List Int)) : Option ((List Int)) :=
  (loopK k_ (fun s1 => (if decide (s1.2 < (a1.length : Int)) = true then (idx a1 s1.2).bind fun x1 => lt (IntKind.i64.wrap (s1.1 + (x1.length : Int))) fun y1 => (if decide (y1 < 0) = true then none else some (.inl (y1, IntKind.i64.wrap (s1.2 + 1)))) else some (.inr (s1.1)))) (0, 0)).bind (fun j1 => (slices_Grow_s_byte_byte.g k_ j1).bind fun r1 => (loopK k_ (fun s2 => (if decide (s2.2 < (a1.length : Int)) = true then (idx a1 s2.2).bind fun x2 => (app s2.1 x2).bind fun x3 => some (.inl (x3, IntKind.i64.wrap (s2.2 + 1))) else some (.inr (s2.1)))) (r1, 0)).bind (fun j2 => some (j2)))
theorem slices_Concat_s_byte_byte.le (k_ : Nat) (a1 : List (List Int)) : Le (slices_Concat_s_byte_byte.g k_ a1) (slices_Concat_s_byte_byte.f a1) := by
 unfold slices_Concat_s_byte_byte.g slices_Concat_s_byte_byte.f
 repeat' (first | with_reducible refine le_loop fun _ => ?_ | with_reducible refine le_bind ?_ fun _ => ?_ | with_reducible refine le_ite ?_ ?_ | with_reducible refine le_lt fun _ => ?_ | with_reducible refine le_elim (fun _ => ?_) (fun _ => ?_) _ | with_reducible apply slices_Grow_s_byte_byte.le | with_reducible exact le_refl _)
end Go.Proofs.Ytplkiompmjhdlaa.S
