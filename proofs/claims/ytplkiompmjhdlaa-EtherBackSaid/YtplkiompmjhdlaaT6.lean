/- Contracts, printed by a program of this session. -/
import Derived.Test.YtplkiompmjhdlaaT1
import Derived.Test.YtplkiompmjhdlaaT3
import Derived.Test.YtplkiompmjhdlaaT4
import Derived.Test.YtplkiompmjhdlaaT5
namespace Go.Proofs.Ytplkiompmjhdlaa.S
open Go Go.SL Go.RowKit
set_option linter.unusedVariables false
set_option linter.unusedSimpArgs false
/-! drawbridge/drawbridgeref16.Arps -/
noncomputable def ref16_Arps.f (a1 : TArp) (a2 : TArp) : Option (Bool) :=
  ((if decide (a1.Op = a2.Op) = true then (if decide (a1.Smac = a2.Smac) = true then (if decide (a1.Sip = a2.Sip) = true then (if decide (a1.Tmac = a2.Tmac) = true then lt (decide (a1.Tip = a2.Tip)) fun y1 => some (y1) else some (false)) else some (false)) else some (false)) else some (false))).bind (fun j1 => some (j1))
set_option maxRecDepth 100000 in
set_option maxHeartbeats 4000000 in
theorem ref16_Arps.spc (v1 : Value) (a1 : TArp) (v2 : Value) (a2 : TArp) (r : Bool) (H : ref16_Arps.f a1 a2 = some r) : Spc Try.prog 21 [v1, v2] [Val KArp v1 a1, Val KArp v2 a2] [] (fun (s : Unit) => .bool r) (fun s => []) := by
 unfold ref16_Arps.f at H
 refine Spc.go Try.func21 rfl (by kernel_rfl) rfl rfl (all_cons (Val.per PArp) (all_cons (Val.per PArp) all_nil)) fun F a w h => ?_
 refine Go.seq ?_
 refine Go.reg ?_
 refine gs h (o_box (K := KArp) rfl (pv_at PArp 0 rfl)) rfl fun b1 _ _ h => ?_
 refine gs h (o_box (K := KArp) rfl (pv_at PArp 2 rfl)) rfl fun b2 _ _ h => ?_
 refine gs h (o_assign rfl) rfl fun _ _ _ h => ?_
 refine GoR.done ?_
 refine Go.seq ?_
 obtain ⟨o1, H, G1⟩ := bindE H
 refine g_cut (fun G => ∀ j1 (a : Act) (w : World), o1 = j1 → St Try.f21.ntmps F [(4, .bool j1)] [Fld KArp b2 0 a2, Fld KArp b1 0 a1] a w → G a w) 1 ?_ fun J1 => ?_
 ·intro j1 a w ho_ h
  rw [ho_] at G1
  have H := G1
  rw [← som H]
  exact g_ret (vs := [.bool j1]) h Try.func21 ⟨rfl, trivial⟩ ⟨(), rfl, (h.mem.pick [] (by decide) rfl)⟩
 refine Go.reg ?_
 refine gs h (o_fa rfl t_f34_0 rfl rfl) rfl fun _ _ _ h => ?_
 have g1 := (in2 (fd_sub sArp_Op 1 rfl h.mem))
 refine gs h (o_lfx 1 rfl rfl sArp_Op rfl X_int t_y3) rfl fun _ _ _ h => ?_
 refine gs h (o_fa rfl t_f34_0 rfl rfl) rfl fun _ _ _ h => ?_
 have g2 := (in2 (fd_sub sArp_Op 0 rfl h.mem))
 refine gs h (o_lfx 0 rfl rfl sArp_Op rfl X_int t_y3) rfl fun _ _ _ h => ?_
 refine gs h (o_bin rfl rfl rfl) rfl fun _ _ _ h => ?_
 refine gs h (o_move rfl) rfl fun _ _ _ h => ?_
 by_cases c1 : decide (a1.Op = a2.Op) = true
 ·have H := ifT c1 H
  refine gg h rfl rfl c1 (o_fa rfl t_f34_1 rfl rfl) rfl fun _ _ _ h => ?_
  refine gg h rfl rfl c1 (o_lfv 1 rfl rfl sArp_Smac rfl Per_sl t_y22) rfl fun v3 _ _ h => ?_
  have g3 := (rd_bs (rd_at 0 rfl) h.mem)
  refine gg h rfl rfl c1 (o_b2s rfl (rd_at 0 rfl) t_u22 t_u5 t_u9) rfl fun _ _ _ h => ?_
  refine gg h rfl rfl c1 (o_fa rfl t_f34_1 rfl rfl) rfl fun _ _ _ h => ?_
  refine gg h rfl rfl c1 (o_lfv 1 rfl rfl sArp_Smac rfl Per_sl t_y22) rfl fun v4 _ _ h => ?_
  have g4 := (rd_bs (rd_at 0 rfl) h.mem)
  refine gg h rfl rfl c1 (o_b2s rfl (rd_at 0 rfl) t_u22 t_u5 t_u9) rfl fun _ _ _ h => ?_
  refine gg h rfl rfl c1 (o_eqs rfl rfl g3 g4) rfl fun _ _ _ h => ?_
  refine gs h (o_pickT rfl rfl c1) rfl fun _ _ _ h => ?_
  refine gs h (o_move rfl) rfl fun _ _ _ h => ?_
  by_cases c2 : decide (a1.Smac = a2.Smac) = true
  ·have H := ifT c2 H
   refine gg h rfl rfl c2 (o_fa rfl t_f34_2 rfl rfl) rfl fun _ _ _ h => ?_
   have g5 := (in2 (fd_sub sArp_Sip 3 rfl h.mem))
   refine gg h rfl rfl c2 (o_lfx 3 rfl rfl sArp_Sip rfl X_int t_y32) rfl fun _ _ _ h => ?_
   refine gg h rfl rfl c2 (o_fa rfl t_f34_2 rfl rfl) rfl fun _ _ _ h => ?_
   have g6 := (in2 (fd_sub sArp_Sip 2 rfl h.mem))
   refine gg h rfl rfl c2 (o_lfx 2 rfl rfl sArp_Sip rfl X_int t_y32) rfl fun _ _ _ h => ?_
   refine gg h rfl rfl c2 (o_bin rfl rfl rfl) rfl fun _ _ _ h => ?_
   refine gs h (o_pickT rfl rfl c2) rfl fun _ _ _ h => ?_
   refine gs h (o_move rfl) rfl fun _ _ _ h => ?_
   by_cases c3 : decide (a1.Sip = a2.Sip) = true
   ·have H := ifT c3 H
    refine gg h rfl rfl c3 (o_fa rfl t_f34_3 rfl rfl) rfl fun _ _ _ h => ?_
    refine gg h rfl rfl c3 (o_lfv 3 rfl rfl sArp_Tmac rfl Per_sl t_y22) rfl fun v5 _ _ h => ?_
    have g7 := (rd_bs (rd_at 0 rfl) h.mem)
    refine gg h rfl rfl c3 (o_b2s rfl (rd_at 0 rfl) t_u22 t_u5 t_u9) rfl fun _ _ _ h => ?_
    refine gg h rfl rfl c3 (o_fa rfl t_f34_3 rfl rfl) rfl fun _ _ _ h => ?_
    refine gg h rfl rfl c3 (o_lfv 3 rfl rfl sArp_Tmac rfl Per_sl t_y22) rfl fun v6 _ _ h => ?_
    have g8 := (rd_bs (rd_at 0 rfl) h.mem)
    refine gg h rfl rfl c3 (o_b2s rfl (rd_at 0 rfl) t_u22 t_u5 t_u9) rfl fun _ _ _ h => ?_
    refine gg h rfl rfl c3 (o_eqs rfl rfl g7 g8) rfl fun _ _ _ h => ?_
    refine gs h (o_pickT rfl rfl c3) rfl fun _ _ _ h => ?_
    refine gs h (o_move rfl) rfl fun _ _ _ h => ?_
    by_cases c4 : decide (a1.Tmac = a2.Tmac) = true
    ·have H := ifT c4 H
     refine gg h rfl rfl c4 (o_fa rfl t_f34_4 rfl rfl) rfl fun _ _ _ h => ?_
     have g9 := (in2 (fd_sub sArp_Tip 5 rfl h.mem))
     refine gg h rfl rfl c4 (o_lfx 5 rfl rfl sArp_Tip rfl X_int t_y32) rfl fun _ _ _ h => ?_
     refine gg h rfl rfl c4 (o_fa rfl t_f34_4 rfl rfl) rfl fun _ _ _ h => ?_
     have g10 := (in2 (fd_sub sArp_Tip 4 rfl h.mem))
     refine gg h rfl rfl c4 (o_lfx 4 rfl rfl sArp_Tip rfl X_int t_y32) rfl fun _ _ _ h => ?_
     refine gg h rfl rfl c4 (o_bin rfl rfl rfl) rfl fun _ _ _ h => ?_
     refine gs h (o_pickT rfl rfl c4) rfl fun _ _ _ h => ?_
     obtain ⟨y1, ey1, H⟩ := ltE H
     refine gs h (o_assign' rfl (congrArg Value.bool ey1)) rfl fun _ _ _ h => ?_
     refine GoR.done ?_
     exact J1 y1 _ _ (som H).symm (h.wk (by rfl) [4, 5] (by decide) (by rfl))
    ·have H := ifF c4 H
     refine gk h rfl rfl (nb_f c4) rfl fun _ h => ?_
     refine gk h rfl rfl (nb_f c4) rfl fun _ h => ?_
     refine gk h rfl rfl (nb_f c4) rfl fun _ h => ?_
     refine gk h rfl rfl (nb_f c4) rfl fun _ h => ?_
     refine gk h rfl rfl (nb_f c4) rfl fun _ h => ?_
     refine gs h (o_pickF rfl rfl c4) rfl fun _ _ _ h => ?_
     refine gs h (o_assign rfl) rfl fun _ _ _ h => ?_
     refine GoR.done ?_
     exact J1 false _ _ (som H).symm (h.wk (by rfl) [4, 5] (by decide) (by rfl))
   ·have H := ifF c3 H
    refine gk h rfl rfl (nb_f c3) rfl fun _ h => ?_
    refine gk h rfl rfl (nb_f c3) rfl fun _ h => ?_
    refine gk h rfl rfl (nb_f c3) rfl fun _ h => ?_
    refine gk h rfl rfl (nb_f c3) rfl fun _ h => ?_
    refine gk h rfl rfl (nb_f c3) rfl fun _ h => ?_
    refine gk h rfl rfl (nb_f c3) rfl fun _ h => ?_
    refine gk h rfl rfl (nb_f c3) rfl fun _ h => ?_
    refine gs h (o_pickF rfl rfl c3) rfl fun _ _ _ h => ?_
    refine gs h (o_move rfl) rfl fun _ _ _ h => ?_
    refine gk h rfl rfl (nb_f Bool.false_ne_true) rfl fun _ h => ?_
    refine gk h rfl rfl (nb_f Bool.false_ne_true) rfl fun _ h => ?_
    refine gk h rfl rfl (nb_f Bool.false_ne_true) rfl fun _ h => ?_
    refine gk h rfl rfl (nb_f Bool.false_ne_true) rfl fun _ h => ?_
    refine gk h rfl rfl (nb_f Bool.false_ne_true) rfl fun _ h => ?_
    refine gs h (o_pickF rfl rfl Bool.false_ne_true) rfl fun _ _ _ h => ?_
    refine gs h (o_assign rfl) rfl fun _ _ _ h => ?_
    refine GoR.done ?_
    exact J1 false _ _ (som H).symm (h.wk (by rfl) [2, 3] (by decide) (by rfl))
  ·have H := ifF c2 H
   refine gk h rfl rfl (nb_f c2) rfl fun _ h => ?_
   refine gk h rfl rfl (nb_f c2) rfl fun _ h => ?_
   refine gk h rfl rfl (nb_f c2) rfl fun _ h => ?_
   refine gk h rfl rfl (nb_f c2) rfl fun _ h => ?_
   refine gk h rfl rfl (nb_f c2) rfl fun _ h => ?_
   refine gs h (o_pickF rfl rfl c2) rfl fun _ _ _ h => ?_
   refine gs h (o_move rfl) rfl fun _ _ _ h => ?_
   refine gk h rfl rfl (nb_f Bool.false_ne_true) rfl fun _ h => ?_
   refine gk h rfl rfl (nb_f Bool.false_ne_true) rfl fun _ h => ?_
   refine gk h rfl rfl (nb_f Bool.false_ne_true) rfl fun _ h => ?_
   refine gk h rfl rfl (nb_f Bool.false_ne_true) rfl fun _ h => ?_
   refine gk h rfl rfl (nb_f Bool.false_ne_true) rfl fun _ h => ?_
   refine gk h rfl rfl (nb_f Bool.false_ne_true) rfl fun _ h => ?_
   refine gk h rfl rfl (nb_f Bool.false_ne_true) rfl fun _ h => ?_
   refine gs h (o_pickF rfl rfl Bool.false_ne_true) rfl fun _ _ _ h => ?_
   refine gs h (o_move rfl) rfl fun _ _ _ h => ?_
   refine gk h rfl rfl (nb_f Bool.false_ne_true) rfl fun _ h => ?_
   refine gk h rfl rfl (nb_f Bool.false_ne_true) rfl fun _ h => ?_
   refine gk h rfl rfl (nb_f Bool.false_ne_true) rfl fun _ h => ?_
   refine gk h rfl rfl (nb_f Bool.false_ne_true) rfl fun _ h => ?_
   refine gk h rfl rfl (nb_f Bool.false_ne_true) rfl fun _ h => ?_
   refine gs h (o_pickF rfl rfl Bool.false_ne_true) rfl fun _ _ _ h => ?_
   refine gs h (o_assign rfl) rfl fun _ _ _ h => ?_
   refine GoR.done ?_
   exact J1 false _ _ (som H).symm (h.wk (by rfl) [2, 3] (by decide) (by rfl))
 ·have H := ifF c1 H
  refine gk h rfl rfl (nb_f c1) rfl fun _ h => ?_
  refine gk h rfl rfl (nb_f c1) rfl fun _ h => ?_
  refine gk h rfl rfl (nb_f c1) rfl fun _ h => ?_
  refine gk h rfl rfl (nb_f c1) rfl fun _ h => ?_
  refine gk h rfl rfl (nb_f c1) rfl fun _ h => ?_
  refine gk h rfl rfl (nb_f c1) rfl fun _ h => ?_
  refine gk h rfl rfl (nb_f c1) rfl fun _ h => ?_
  refine gs h (o_pickF rfl rfl c1) rfl fun _ _ _ h => ?_
  refine gs h (o_move rfl) rfl fun _ _ _ h => ?_
  refine gk h rfl rfl (nb_f Bool.false_ne_true) rfl fun _ h => ?_
  refine gk h rfl rfl (nb_f Bool.false_ne_true) rfl fun _ h => ?_
  refine gk h rfl rfl (nb_f Bool.false_ne_true) rfl fun _ h => ?_
  refine gk h rfl rfl (nb_f Bool.false_ne_true) rfl fun _ h => ?_
  refine gk h rfl rfl (nb_f Bool.false_ne_true) rfl fun _ h => ?_
  refine gs h (o_pickF rfl rfl Bool.false_ne_true) rfl fun _ _ _ h => ?_
  refine gs h (o_move rfl) rfl fun _ _ _ h => ?_
  refine gk h rfl rfl (nb_f Bool.false_ne_true) rfl fun _ h => ?_
  refine gk h rfl rfl (nb_f Bool.false_ne_true) rfl fun _ h => ?_
  refine gk h rfl rfl (nb_f Bool.false_ne_true) rfl fun _ h => ?_
  refine gk h rfl rfl (nb_f Bool.false_ne_true) rfl fun _ h => ?_
  refine gk h rfl rfl (nb_f Bool.false_ne_true) rfl fun _ h => ?_
  refine gk h rfl rfl (nb_f Bool.false_ne_true) rfl fun _ h => ?_
  refine gk h rfl rfl (nb_f Bool.false_ne_true) rfl fun _ h => ?_
  refine gs h (o_pickF rfl rfl Bool.false_ne_true) rfl fun _ _ _ h => ?_
  refine gs h (o_move rfl) rfl fun _ _ _ h => ?_
  refine gk h rfl rfl (nb_f Bool.false_ne_true) rfl fun _ h => ?_
  refine gk h rfl rfl (nb_f Bool.false_ne_true) rfl fun _ h => ?_
  refine gk h rfl rfl (nb_f Bool.false_ne_true) rfl fun _ h => ?_
  refine gk h rfl rfl (nb_f Bool.false_ne_true) rfl fun _ h => ?_
  refine gk h rfl rfl (nb_f Bool.false_ne_true) rfl fun _ h => ?_
  refine gs h (o_pickF rfl rfl Bool.false_ne_true) rfl fun _ _ _ h => ?_
  refine gs h (o_assign rfl) rfl fun _ _ _ h => ?_
  refine GoR.done ?_
  exact J1 false _ _ (som H).symm (h.wk (by rfl) [0, 1] (by decide) (by rfl))
def ref16_Arps.g (k_ : Nat) (a1 : TArp) (a2 : TArp) : Option (Bool) :=
  ((if decide (a1.Op = a2.Op) = true then (if decide (a1.Smac = a2.Smac) = true then (if decide (a1.Sip = a2.Sip) = true then (if decide (a1.Tmac = a2.Tmac) = true then lt (decide (a1.Tip = a2.Tip)) fun y1 => some (y1) else some (false)) else some (false)) else some (false)) else some (false))).bind (fun j1 => some (j1))
theorem ref16_Arps.le (k_ : Nat) (a1 : TArp) (a2 : TArp) : Le (ref16_Arps.g k_ a1 a2) (ref16_Arps.f a1 a2) := by
 unfold ref16_Arps.g ref16_Arps.f
 repeat' (first | with_reducible refine le_loop fun _ => ?_ | with_reducible refine le_bind ?_ fun _ => ?_ | with_reducible refine le_ite ?_ ?_ | with_reducible refine le_lt fun _ => ?_ | with_reducible refine le_elim (fun _ => ?_) (fun _ => ?_) _ | with_reducible exact le_refl _)
/-! drawbridge/drawbridgelaw16.EtherBack -/
noncomputable def law16_EtherBack.f (a1 : TFrm) (a2 : TArp) (a3 : List Int) : Option (Bool) :=
  ((if decide (3000 < (a1.Data.length : Int)) = true then some (true) else some (decide (100 < (a3.length : Int))))).bind (fun j1 => (if j1 = true then (law16_heads.f).bind fun r1 => some (r1) else (ether_Put.f a1).bind fun r2 => ((if decide (r2.2 = 0) = true then (ether_Get.f r2.1).bind fun r3 => ((if (!decide (r3.2 = 0)) = true then some (true) else (ref16_Same.f r3.1 a1).bind fun r4 => (if (!r4) = true then some (true) else some ((!decide ((r2.1.length : Int) = (IntKind.i64.wrap (14 + (a1.Data.length : Int))))))))).bind (fun j2 => (if j2 = true then some (.inr (false)) else some (.inl (())))) else some (.inl (())))).bind (Sum.elim (fun j3 => (ether_PutArp.f a2).bind fun r5 => ((if decide (r5.2 = 0) = true then (app ([] : List Int) r5.1).bind fun x1 => (app x1 a3).bind fun x2 => (ether_GetArp.f x2).bind fun r6 => ((if (!decide (r6.2 = 0)) = true then some (true) else (ref16_Arps.f r6.1 a2).bind fun r7 => some ((!r7)))).bind (fun j4 => (if j4 = true then some (.inr (false)) else some (.inl (())))) else some (.inl (())))).bind (Sum.elim (fun j5 => (law16_heads.f).bind fun r8 => some (r8)) (fun z_ => some (z_)))) (fun z_ => some (z_)))))
set_option maxRecDepth 100000 in
set_option maxHeartbeats 4000000 in
theorem law16_EtherBack.spc (v1 : Value) (a1 : TFrm) (v2 : Value) (a2 : TArp) (v3 : Value) (a3 : List Int) (r : Bool) (H : law16_EtherBack.f a1 a2 a3 = some r) : Spc Try.prog 6 [v1, v2, v3] [Val KFrm v1 a1, Val KArp v2 a2, Val (Kd.sl (Kd.int .u8)) v3 a3] [] (fun (s : Unit) => .bool r) (fun s => []) := by
 unfold law16_EtherBack.f at H
 refine Spc.go Try.func6 rfl (by kernel_rfl) rfl rfl (all_cons (Val.per PFrm) (all_cons (Val.per PArp) (all_cons (Val.per Per_sl) all_nil))) fun F a w h => ?_
 refine Go.seq ?_
 refine Go.reg ?_
 refine gs h (o_box (K := KFrm) rfl (pv_at PFrm 0 rfl)) rfl fun b1 _ _ h => ?_
 refine gs h (o_box (K := KArp) rfl (pv_at PArp 2 rfl)) rfl fun b2 _ _ h => ?_
 refine gs h (o_assign rfl) rfl fun _ _ _ h => ?_
 refine GoR.done ?_
 refine Go.seq ?_
 refine Go.seq ?_
 obtain ⟨o1, H, G1⟩ := bindE H
 refine g_cut (fun G => ∀ j1 (a : Act) (w : World), o1 = j1 → St Try.f6.ntmps F [(2, v3), (3, .pointer (some ⟨b1, 0, none⟩)), (4, .pointer (some ⟨b2, 0, none⟩)), (22, .bool j1)] [Val (Kd.sl (Kd.int .u8)) v3 a3, Fld KArp b2 0 a2, Fld KFrm b1 0 a1] a w → G a w) 1 ?_ fun J1 => ?_
 ·intro j1 a w ho_ h
  rw [ho_] at G1
  have H := G1
  by_cases c2 : j1 = true
  ·have H := ifT c2 H
   refine g_t h rfl c2 ?_
   refine Go.seq ?_
   refine Go.reg ?_
   obtain ⟨r1, er1, H⟩ := bindE H
   refine gs h (o_call (law16_heads.spc  r1 er1) rfl [] [] (by decide) rfl rfl) rfl fun _ _ _ h => ?_
   refine gs h (o_assign rfl) rfl fun _ _ _ h => ?_
   refine GoR.done ?_
   rw [← som H]
   exact g_ret (vs := [.bool r1]) h Try.func6 ⟨rfl, trivial⟩ ⟨(), rfl, (h.mem.pick [] (by decide) rfl)⟩
  ·have H := ifF c2 H
   refine g_f h rfl c2 ?_
   refine Go.skip ?_
   refine Go.seq ?_
   refine Go.reg ?_
   refine gs h (o_ldv 2 rfl rfl PFrm t_y25) rfl fun v5 _ _ h => ?_
   obtain ⟨r2, er2, H⟩ := bindE H
   refine gs h (o_call (ether_Put.spc v5 a1 r2 er2) rfl [0] [] (by decide) rfl rfl) rfl fun v6 _ _ h => ?_
   have g3 := h.mem.pur 0 rfl
   refine gs h (o_move rfl) rfl fun _ _ _ h => ?_
   refine gs h (o_extract rfl rfl) rfl fun _ _ _ h => ?_
   refine gs h (o_extract rfl rfl) rfl fun _ _ _ h => ?_
   refine gs h (o_assign rfl) rfl fun _ _ _ h => ?_
   refine gs h (o_assign rfl) rfl fun _ _ _ h => ?_
   refine GoR.done ?_
   refine Go.seq ?_
   obtain ⟨o2, H, G2⟩ := bindE H
   refine g_cut (fun G => ∀ j3 (a : Act) (w : World), o2 = .inl (j3) → St Try.f6.ntmps F [(2, v3), (4, .pointer (some ⟨b2, 0, none⟩))] [Val (Kd.sl (Kd.int .u8)) v3 a3, Fld KArp b2 0 a2, Fld KFrm b1 0 a1] a w → G a w) 1 ?_ fun J3 => ?_
   ·intro j3 a w ho_ h
    rw [ho_] at G2
    have H := G2
    refine Go.seq ?_
    refine Go.reg ?_
    refine gs h (o_ldv 1 rfl rfl PArp t_y34) rfl fun v11 _ _ h => ?_
    obtain ⟨r5, er5, H⟩ := bindE H
    refine gs h (o_call (ether_PutArp.spc v11 a2 r5 er5) rfl [0] [] (by decide) rfl rfl) rfl fun v12 _ _ h => ?_
    have g7 := h.mem.pur 0 rfl
    refine gs h (o_move rfl) rfl fun _ _ _ h => ?_
    refine gs h (o_extract rfl rfl) rfl fun _ _ _ h => ?_
    refine gs h (o_extract rfl rfl) rfl fun _ _ _ h => ?_
    refine gs h (o_assign rfl) rfl fun _ _ _ h => ?_
    refine gs h (o_assign rfl) rfl fun _ _ _ h => ?_
    refine GoR.done ?_
    refine Go.seq ?_
    obtain ⟨o4, H, G4⟩ := bindE H
    refine g_cut (fun G => ∀ j5 (a : Act) (w : World), o4 = .inl (j5) → St Try.f6.ntmps F [] [Fld KArp b2 0 a2, Fld KFrm b1 0 a1] a w → G a w) 1 ?_ fun J5 => ?_
    ·intro j5 a w ho_ h
     rw [ho_] at G4
     have H := G4
     refine Go.seq ?_
     refine Go.reg ?_
     obtain ⟨r8, er8, H⟩ := bindE H
     refine gs h (o_call (law16_heads.spc  r8 er8) rfl [] [] (by decide) rfl rfl) rfl fun _ _ _ h => ?_
     refine gs h (o_assign rfl) rfl fun _ _ _ h => ?_
     refine GoR.done ?_
     rw [← som H]
     exact g_ret (vs := [.bool r8]) h Try.func6 ⟨rfl, trivial⟩ ⟨(), rfl, (h.mem.pick [] (by decide) rfl)⟩
    refine Go.seq ?_
    refine Go.reg ?_
    refine gs h (o_move rfl) rfl fun _ _ _ h => ?_
    refine gs h (o_bin rfl rfl rfl) rfl fun _ _ _ h => ?_
    refine GoR.done ?_
    by_cases c7 : decide (r5.2 = 0) = true
    ·have H := ifT c7 H
     refine g_t h rfl c7 ?_
     refine Go.seq ?_
     refine Go.reg ?_
     refine gs h (o_bs (K := (Kd.int .u8)) (vs := []) (xs := ([] : List Int)) rfl rfl pvs_nil t_a22 (by decide) (by decide)) rfl fun v13 _ _ h => ?_
     refine gs h (o_move rfl) rfl fun _ _ _ h => ?_
     obtain ⟨x1, ex1, H⟩ := bindE H
     refine gs h (o_app (K := (Kd.int .u8)) 0 rfl rfl rfl (rd_own 2 rfl) ex1 t_a22 t_n22) rfl fun v14 _ _ h => ?_
     refine gs h (o_move rfl) rfl fun _ _ _ h => ?_
     obtain ⟨x2, ex2, H⟩ := bindE H
     refine gs h (o_app (K := (Kd.int .u8)) 0 rfl rfl rfl (rd_at 4 rfl) ex2 t_a22 t_n22) rfl fun v15 _ _ h => ?_
     replace h := h.mm fun m => m.freeze 0 rfl
     obtain ⟨r6, er6, H⟩ := bindE H
     refine gs h (o_call (ether_GetArp.spc v15 x2 r6 er6) rfl [0] [] (by decide) rfl rfl) rfl fun v16 _ _ h => ?_
     have g8 := h.mem.pur 0 rfl
     refine gs h (o_move rfl) rfl fun _ _ _ h => ?_
     refine gs h (o_extract rfl rfl) rfl fun _ _ _ h => ?_
     refine gs h (o_extract rfl rfl) rfl fun _ _ _ h => ?_
     refine gs h (o_alloc (K := KArp) (z := (.agg #[.int .i64 0, .slice none 0 0, .int .u32 0, .slice none 0 0, .int .u32 0])) rfl ZArp) rfl fun b4 _ _ h => ?_
     refine gs0 h (o_st 0 rfl rfl rfl (pv_at PArp 2 rfl) rfl t_w34) fun _ _ _ h => ?_
     refine gs h (o_assign rfl) rfl fun _ _ _ h => ?_
     refine GoR.done ?_
     refine Go.seq ?_
     obtain ⟨o5, H, G5⟩ := bindE H
     refine g_cut (fun G => ∀ j4 (a : Act) (w : World), o5 = j4 → St Try.f6.ntmps F [(76, .bool j4)] [Fld KArp b4 0 r6.1, Fld KArp b2 0 a2, Fld KFrm b1 0 a1] a w → G a w) 1 ?_ fun J4 => ?_
     ·intro j4 a w ho_ h
      rw [ho_] at G5
      have H := G5
      by_cases c9 : j4 = true
      ·have H := ifT c9 H
       refine g_t h rfl c9 ?_
       refine Go.seq ?_
       refine Go.reg ?_
       refine gs h (o_assign rfl) rfl fun _ _ _ h => ?_
       refine GoR.done ?_
       rw [← som H] at G4
       have H := G4
       rw [← som H]
       exact g_ret (vs := [.bool false]) h Try.func6 ⟨rfl, trivial⟩ ⟨(), rfl, (h.mem.pick [] (by decide) rfl)⟩
      ·have H := ifF c9 H
       refine g_f h rfl c9 ?_
       refine Go.skip ?_
       exact J5 () _ _ (som H).symm (h.wk (by rfl) [1, 2] (by decide) (by rfl))
     refine Go.reg ?_
     refine gs h (o_move rfl) rfl fun _ _ _ h => ?_
     refine gs h (o_bin rfl rfl rfl) rfl fun _ _ _ h => ?_
     refine gs h (o_move rfl) rfl fun _ _ _ h => ?_
     by_cases c8 : (!decide (r6.2 = 0)) = true
     ·have H := ifT c8 H
      refine gk h rfl rfl (nb_t c8) rfl fun _ h => ?_
      refine gk h rfl rfl (nb_t c8) rfl fun _ h => ?_
      refine gk h rfl rfl (nb_t c8) rfl fun _ h => ?_
      refine gk h rfl rfl (nb_t c8) rfl fun _ h => ?_
      refine gs h (o_pickT rfl rfl c8) rfl fun _ _ _ h => ?_
      refine GoR.done ?_
      exact J4 true _ _ (som H).symm (h.wk (by rfl) [0, 8, 9] (by decide) (by rfl))
     ·have H := ifF c8 H
      refine gg h rfl rfl (nbF c8) (o_ldv 0 rfl rfl PArp t_y34) rfl fun v17 _ _ h => ?_
      refine gg h rfl rfl (nbF c8) (o_ldv 9 rfl rfl PArp t_y34) rfl fun v18 _ _ h => ?_
      obtain ⟨r7, er7, H⟩ := bindE H
      refine gg h rfl rfl (nbF c8) (o_call (ref16_Arps.spc v17 r6.1 v18 a2 r7 er7) rfl [1, 0] [] (by decide) rfl rfl) rfl fun _ _ _ h => ?_
      refine gg h rfl rfl (nbF c8) (o_not rfl) rfl fun _ _ _ h => ?_
      refine gs h (o_pickF rfl rfl c8) rfl fun _ _ _ h => ?_
      refine GoR.done ?_
      exact J4 (!r7) _ _ (som H).symm (h.wk (by rfl) [2, 10, 11] (by decide) (by rfl))
    ·have H := ifF c7 H
     refine g_f h rfl c7 ?_
     refine Go.skip ?_
     exact J5 () _ _ (som H).symm (h.wk (by rfl) [4, 5] (by decide) (by rfl))
   refine Go.seq ?_
   refine Go.reg ?_
   refine gs h (o_move rfl) rfl fun _ _ _ h => ?_
   refine gs h (o_bin rfl rfl rfl) rfl fun _ _ _ h => ?_
   refine GoR.done ?_
   by_cases c3 : decide (r2.2 = 0) = true
   ·have H := ifT c3 H
    refine g_t h rfl c3 ?_
    refine Go.seq ?_
    refine Go.reg ?_
    refine gs h (o_move rfl) rfl fun _ _ _ h => ?_
    replace h := h.mm fun m => m.freeze 1 rfl
    obtain ⟨r3, er3, H⟩ := bindE H
    refine gs h (o_call (ether_Get.spc v6 r2.1 r3 er3) rfl [1] [] (by decide) rfl rfl) rfl fun v7 _ _ h => ?_
    have g4 := h.mem.pur 0 rfl
    refine gs h (o_move rfl) rfl fun _ _ _ h => ?_
    refine gs h (o_extract rfl rfl) rfl fun _ _ _ h => ?_
    refine gs h (o_extract rfl rfl) rfl fun _ _ _ h => ?_
    refine gs h (o_alloc (K := KFrm) (z := (.agg #[.slice none 0 0, .slice none 0 0, .int .i64 0, .slice none 0 0])) rfl ZFrm) rfl fun b3 _ _ h => ?_
    refine gs0 h (o_st 0 rfl rfl rfl (pv_at PFrm 2 rfl) rfl t_w25) fun _ _ _ h => ?_
    refine gs h (o_assign rfl) rfl fun _ _ _ h => ?_
    refine GoR.done ?_
    refine Go.seq ?_
    obtain ⟨o3, H, G3⟩ := bindE H
    refine g_cut (fun G => ∀ j2 (a : Act) (w : World), o3 = j2 → St Try.f6.ntmps F [(2, v3), (4, .pointer (some ⟨b2, 0, none⟩)), (52, .bool j2)] [Val (Kd.sl (Kd.int .u8)) v3 a3, Fld KFrm b3 0 r3.1, Fld KArp b2 0 a2, Fld KFrm b1 0 a1] a w → G a w) 1 ?_ fun J2 => ?_
    ·intro j2 a w ho_ h
     rw [ho_] at G3
     have H := G3
     by_cases c6 : j2 = true
     ·have H := ifT c6 H
      refine g_t h rfl c6 ?_
      refine Go.seq ?_
      refine Go.reg ?_
      refine gs h (o_assign rfl) rfl fun _ _ _ h => ?_
      refine GoR.done ?_
      rw [← som H] at G2
      have H := G2
      rw [← som H]
      exact g_ret (vs := [.bool false]) h Try.func6 ⟨rfl, trivial⟩ ⟨(), rfl, (h.mem.pick [] (by decide) rfl)⟩
     ·have H := ifF c6 H
      refine g_f h rfl c6 ?_
      refine Go.skip ?_
      exact J3 () _ _ (som H).symm (h.wk (by rfl) [0, 2, 3] (by decide) (by rfl))
    refine Go.reg ?_
    refine gs h (o_move rfl) rfl fun _ _ _ h => ?_
    refine gs h (o_bin rfl rfl rfl) rfl fun _ _ _ h => ?_
    refine gs h (o_move rfl) rfl fun _ _ _ h => ?_
    by_cases c4 : (!decide (r3.2 = 0)) = true
    ·have H := ifT c4 H
     refine gk h rfl rfl (nb_t c4) rfl fun _ h => ?_
     refine gk h rfl rfl (nb_t c4) rfl fun _ h => ?_
     refine gk h rfl rfl (nb_t c4) rfl fun _ h => ?_
     refine gk h rfl rfl (nb_t c4) rfl fun _ h => ?_
     refine gs h (o_pickT rfl rfl c4) rfl fun _ _ _ h => ?_
     refine gs h (o_move rfl) rfl fun _ _ _ h => ?_
     refine gk h rfl rfl (nb_t rfl) rfl fun _ h => ?_
     refine gk h rfl rfl (nb_t rfl) rfl fun _ h => ?_
     refine gk h rfl rfl (nb_t rfl) rfl fun _ h => ?_
     refine gk h rfl rfl (nb_t rfl) rfl fun _ h => ?_
     refine gk h rfl rfl (nb_t rfl) rfl fun _ h => ?_
     refine gk h rfl rfl (nb_t rfl) rfl fun _ h => ?_
     refine gk h rfl rfl (nb_t rfl) rfl fun _ h => ?_
     refine gs h (o_pickT rfl rfl rfl) rfl fun _ _ _ h => ?_
     refine GoR.done ?_
     exact J2 true _ _ (som H).symm (h.wk (by rfl) [6, 0, 7, 8] (by decide) (by rfl))
    ·have H := ifF c4 H
     refine gg h rfl rfl (nbF c4) (o_ldv 0 rfl rfl PFrm t_y25) rfl fun v8 _ _ h => ?_
     refine gg h rfl rfl (nbF c4) (o_ldv 9 rfl rfl PFrm t_y25) rfl fun v9 _ _ h => ?_
     obtain ⟨r4, er4, H⟩ := bindE H
     refine gg h rfl rfl (nbF c4) (o_call (ref16_Same.spc v8 r3.1 v9 a1 r4 er4) rfl [1, 0] [] (by decide) rfl rfl) rfl fun _ _ _ h => ?_
     refine gg h rfl rfl (nbF c4) (o_not rfl) rfl fun _ _ _ h => ?_
     refine gs h (o_pickF rfl rfl c4) rfl fun _ _ _ h => ?_
     refine gs h (o_move rfl) rfl fun _ _ _ h => ?_
     by_cases c5 : (!r4) = true
     ·have H := ifT c5 H
      refine gk h rfl rfl (nb_t c5) rfl fun _ h => ?_
      refine gk h rfl rfl (nb_t c5) rfl fun _ h => ?_
      refine gk h rfl rfl (nb_t c5) rfl fun _ h => ?_
      refine gk h rfl rfl (nb_t c5) rfl fun _ h => ?_
      refine gk h rfl rfl (nb_t c5) rfl fun _ h => ?_
      refine gk h rfl rfl (nb_t c5) rfl fun _ h => ?_
      refine gk h rfl rfl (nb_t c5) rfl fun _ h => ?_
      refine gs h (o_pickT rfl rfl c5) rfl fun _ _ _ h => ?_
      refine GoR.done ?_
      exact J2 true _ _ (som H).symm (h.wk (by rfl) [8, 2, 9, 10] (by decide) (by rfl))
     ·have H := ifF c5 H
      refine gg h rfl rfl (nbF c5) (o_move rfl) rfl fun _ _ _ h => ?_
      have g5 := (len_at 6 rfl h.mem)
      refine gg h rfl rfl (nbF c5) (o_ln rfl (rd_at 6 rfl) t_v22) rfl fun _ _ _ h => ?_
      refine gg h rfl rfl (nbF c5) (o_fa rfl t_f25_3 rfl rfl) rfl fun _ _ _ h => ?_
      refine gg h rfl rfl (nbF c5) (o_lfv 10 rfl rfl sFrm_Data rfl Per_sl t_y22) rfl fun v10 _ _ h => ?_
      have g6 := (len_at 0 rfl h.mem)
      refine gg h rfl rfl (nbF c5) (o_ln rfl (rd_at 0 rfl) t_v22) rfl fun _ _ _ h => ?_
      refine gg h rfl rfl (nbF c5) (o_bin rfl rfl rfl) rfl fun _ _ _ h => ?_
      refine gg h rfl rfl (nbF c5) (o_bin rfl rfl rfl) rfl fun _ _ _ h => ?_
      refine gs h (o_pickF rfl rfl c5) rfl fun _ _ _ h => ?_
      refine GoR.done ?_
      exact J2 (!decide ((r2.1.length : Int) = (IntKind.i64.wrap (14 + (a1.Data.length : Int))))) _ _ (som H).symm (h.wk (by rfl) [9, 3, 10, 11] (by decide) (by rfl))
   ·have H := ifF c3 H
    refine g_f h rfl c3 ?_
    refine Go.skip ?_
    exact J3 () _ _ (som H).symm (h.wk (by rfl) [3, 4, 5] (by decide) (by rfl))
 refine Go.reg ?_
 refine gs h (o_fa rfl t_f25_3 rfl rfl) rfl fun _ _ _ h => ?_
 refine gs h (o_lfv 1 rfl rfl sFrm_Data rfl Per_sl t_y22) rfl fun v4 _ _ h => ?_
 have g1 := (len_at 0 rfl h.mem)
 refine gs h (o_ln rfl (rd_at 0 rfl) t_v22) rfl fun _ _ _ h => ?_
 refine gs h (o_bin rfl rfl rfl) rfl fun _ _ _ h => ?_
 refine gs h (o_move rfl) rfl fun _ _ _ h => ?_
 by_cases c1 : decide (3000 < (a1.Data.length : Int)) = true
 ·have H := ifT c1 H
  refine gk h rfl rfl (nb_t c1) rfl fun _ h => ?_
  refine gk h rfl rfl (nb_t c1) rfl fun _ h => ?_
  refine gk h rfl rfl (nb_t c1) rfl fun _ h => ?_
  refine gs h (o_pickT rfl rfl c1) rfl fun _ _ _ h => ?_
  refine GoR.done ?_
  exact J1 true _ _ (som H).symm (h.wk (by rfl) [5, 1, 2] (by decide) (by rfl))
 ·have H := ifF c1 H
  refine gg h rfl rfl (nbF c1) (o_move rfl) rfl fun _ _ _ h => ?_
  have g2 := (len_at 5 rfl h.mem)
  refine gg h rfl rfl (nbF c1) (o_ln rfl (rd_at 5 rfl) t_v22) rfl fun _ _ _ h => ?_
  refine gg h rfl rfl (nbF c1) (o_bin rfl rfl rfl) rfl fun _ _ _ h => ?_
  refine gs h (o_pickF rfl rfl c1) rfl fun _ _ _ h => ?_
  refine GoR.done ?_
  exact J1 (decide (100 < (a3.length : Int))) _ _ (som H).symm (h.wk (by rfl) [5, 1, 2] (by decide) (by rfl))
def law16_EtherBack.g (k_ : Nat) (a1 : TFrm) (a2 : TArp) (a3 : List Int) : Option (Bool) :=
  ((if decide (3000 < (a1.Data.length : Int)) = true then some (true) else some (decide (100 < (a3.length : Int))))).bind (fun j1 => (if j1 = true then (law16_heads.g k_).bind fun r1 => some (r1) else (ether_Put.g k_ a1).bind fun r2 => ((if decide (r2.2 = 0) = true then (ether_Get.g k_ r2.1).bind fun r3 => ((if (!decide (r3.2 = 0)) = true then some (true) else (ref16_Same.g k_ r3.1 a1).bind fun r4 => (if (!r4) = true then some (true) else some ((!decide ((r2.1.length : Int) = (IntKind.i64.wrap (14 + (a1.Data.length : Int))))))))).bind (fun j2 => (if j2 = true then some (.inr (false)) else some (.inl (())))) else some (.inl (())))).bind (Sum.elim (fun j3 => (ether_PutArp.g k_ a2).bind fun r5 => ((if decide (r5.2 = 0) = true then (app ([] : List Int) r5.1).bind fun x1 => (app x1 a3).bind fun x2 => (ether_GetArp.g k_ x2).bind fun r6 => ((if (!decide (r6.2 = 0)) = true then some (true) else (ref16_Arps.g k_ r6.1 a2).bind fun r7 => some ((!r7)))).bind (fun j4 => (if j4 = true then some (.inr (false)) else some (.inl (())))) else some (.inl (())))).bind (Sum.elim (fun j5 => (law16_heads.g k_).bind fun r8 => some (r8)) (fun z_ => some (z_)))) (fun z_ => some (z_)))))
theorem law16_EtherBack.le (k_ : Nat) (a1 : TFrm) (a2 : TArp) (a3 : List Int) : Le (law16_EtherBack.g k_ a1 a2 a3) (law16_EtherBack.f a1 a2 a3) := by
 unfold law16_EtherBack.g law16_EtherBack.f
 repeat' (first | with_reducible refine le_loop fun _ => ?_ | with_reducible refine le_bind ?_ fun _ => ?_ | with_reducible refine le_ite ?_ ?_ | with_reducible refine le_lt fun _ => ?_ | with_reducible refine le_elim (fun _ => ?_) (fun _ => ?_) _ | with_reducible apply ether_Get.le | with_reducible apply ether_GetArp.le | with_reducible apply ether_Put.le | with_reducible apply ether_PutArp.le | with_reducible apply law16_heads.le | with_reducible apply ref16_Arps.le | with_reducible apply ref16_Same.le | with_reducible exact le_refl _)
/-! drawbridge/drawbridgeref01.Get -/
noncomputable def ref01_Get.f (a1 : List Int) (a2 : Bool) : Option (Int) :=
  lt (min (a1.length : Int) 8) fun y1 => (loop (fun s1 => (if decide (s1.2 < y1) = true then (((if a2 = true then (idx a1 s1.2).bind fun x1 => lt (IntKind.u64.wrap ((IntKind.u64.wrap (s1.1 * 256)) + x1)) fun y2 => some (y2) else (idx a1 (IntKind.i64.wrap ((IntKind.i64.wrap (y1 - 1)) - s1.2))).bind fun x2 => lt (IntKind.u64.wrap ((IntKind.u64.wrap (s1.1 * 256)) + x2)) fun y3 => some (y3))).bind (fun j1 => some (j1))).bind (fun j2 => lt (IntKind.i64.wrap (s1.2 + 1)) fun y4 => some (.inl (j2, y4))) else some (.inr (s1.1)))) (0, 0)).bind (fun j3 => some (j3))
set_option maxRecDepth 100000 in
set_option maxHeartbeats 4000000 in
theorem ref01_Get.spc (v1 : Value) (a1 : List Int) (a2 : Bool) (r : Int) (H : ref01_Get.f a1 a2 = some r) : Spc Try.prog 32 [v1, .bool a2] [Val (Kd.sl (Kd.int .u8)) v1 a1] [] (fun (s : Unit) => .int .u64 r) (fun s => [Ent.pur (InR .u64 r)]) := by
 unfold ref01_Get.f at H
 refine Spc.go Try.func32 rfl (by kernel_rfl) rfl rfl (all_cons (Val.per Per_sl) all_nil) fun F a w h => ?_
 refine Go.seq ?_
 refine Go.reg ?_
 refine gs h (o_assign rfl) rfl fun _ _ _ h => ?_
 refine GoR.done ?_
 refine Go.seq ?_
 refine Go.reg ?_
 refine gs h (o_assign rfl) rfl fun _ _ _ h => ?_
 refine GoR.done ?_
 refine Go.seq ?_
 refine Go.reg ?_
 refine gs h (o_move rfl) rfl fun _ _ _ h => ?_
 have g1 := (len_at 0 rfl h.mem)
 refine gs h (o_ln rfl (rd_at 0 rfl) t_v22) rfl fun _ _ _ h => ?_
 refine gs h (o_min rfl rfl) rfl fun _ _ _ h => ?_
 obtain ⟨y1, ey1, H⟩ := ltE H
 refine gs h (o_assign' rfl (congrArg (fun z => Value.int .i64 z) ey1)) rfl fun _ _ _ h => ?_
 refine GoR.done ?_
 refine Go.seq ?_
 refine Go.seq ?_
 refine Go.reg ?_
 refine gs h (o_assign rfl) rfl fun _ _ _ h => ?_
 refine GoR.done ?_
 refine Go.block ?_
 obtain ⟨o1, hl, G1⟩ := bindE H
 refine g_cut (fun G => ∀ j3 (a : Act) (w : World), o1 = j3 → InR .u64 j3 → St Try.f32.ntmps F [(5, .int .u64 j3)] [] a w → G a w) 2 ?_ fun J3 => ?_
 ·intro j3 a w ho_ g8 h
  rw [ho_] at G1
  have H := G1
  refine Go.seq ?_
  refine Go.reg ?_
  refine gs h (o_move rfl) rfl fun _ _ _ h => ?_
  refine gs h (o_assign rfl) rfl fun _ _ _ h => ?_
  refine GoR.done ?_
  rw [← som H]
  exact g_ret (vs := [.int .u64 j3]) h Try.func32 ⟨rfl, trivial⟩ ⟨(), rfl, ((h.mem.pick [] (by decide) rfl).addpur g8)⟩
 refine g_loop (fun s1 G => ∀  (a : Act) (w : World), InR .u64 s1.1 → InR .i64 s1.2 → St Try.f32.ntmps F [(0, v1), (1, .bool a2), (5, .int .u64 s1.1), (6, .int .i64 y1), (7, .int .i64 s1.2)] [Val (Kd.sl (Kd.int .u8)) v1 a1] a w → G a w) hl (fun s1 p1 H i1 => ?_) fun I_ => ?_
 ·intro  a w g2 g3 h
  refine Go.seq ?_
  refine Go.seq ?_
  refine Go.reg ?_
  refine gs h (o_move rfl) rfl fun _ _ _ h => ?_
  refine gs h (o_move rfl) rfl fun _ _ _ h => ?_
  refine gs h (o_bin rfl rfl rfl) rfl fun _ _ _ h => ?_
  refine GoR.done ?_
  by_cases c1 : decide (s1.2 < y1) = true
  ·have H := ifT c1 H
   refine g_t h rfl c1 ?_
   refine Go.skip ?_
   refine Go.seq ?_
   obtain ⟨o2, H, G2⟩ := bindE H
   refine g_cut (fun G => ∀ j2 (a : Act) (w : World), o2 = j2 → InR .u64 j2 → St Try.f32.ntmps F [(0, v1), (1, .bool a2), (5, .int .u64 j2), (6, .int .i64 y1), (7, .int .i64 s1.2)] [Val (Kd.sl (Kd.int .u8)) v1 a1] a w → G a w) 1 ?_ fun J2 => ?_
   ·intro j2 a w ho_ g7 h
    rw [ho_] at G2
    have H := G2
    refine Go.reg ?_
    refine gs h (o_move rfl) rfl fun _ _ _ h => ?_
    refine gs h (o_bin rfl rfl rfl) rfl fun _ _ _ h => ?_
    obtain ⟨y4, ey4, H⟩ := ltE H
    refine gs h (o_assign' rfl (congrArg (fun z => Value.int .i64 z) ey4)) rfl fun _ _ _ h => ?_
    refine GoR.done ?_
    have e_ := som H; subst e_
    exact Go.inLoop (nx_in i1 _ _ g7 (ey4 ▸ (wrap_in _ _)) (h.wk (by rfl) [0] (by decide) (by rfl)))
   refine Go.block ?_
   obtain ⟨o3, H, G3⟩ := bindE H
   refine g_cut (fun G => ∀ j1 (a : Act) (w : World), o3 = j1 → InR .u64 j1 → St Try.f32.ntmps F [(0, v1), (1, .bool a2), (5, .int .u64 j1), (6, .int .i64 y1), (7, .int .i64 s1.2)] [Val (Kd.sl (Kd.int .u8)) v1 a1] a w → G a w) 2 ?_ fun J1 => ?_
   ·intro j1 a w ho_ g6 h
    rw [ho_] at G3
    have H := G3
    exact J2 j1 _ _ (som H).symm g6 (h.wk (by rfl) [0] (by decide) (by rfl))
   refine Go.seq ?_
   refine Go.reg ?_
   refine gs h (o_move rfl) rfl fun _ _ _ h => ?_
   refine GoR.done ?_
   by_cases c2 : a2 = true
   ·have H := ifT c2 H
    refine g_t h rfl c2 ?_
    refine Go.reg ?_
    refine gs h (o_move rfl) rfl fun _ _ _ h => ?_
    refine gs h (o_bin rfl rfl rfl) rfl fun _ _ _ h => ?_
    refine gs h (o_move rfl) rfl fun _ _ _ h => ?_
    refine gs h (o_move rfl) rfl fun _ _ _ h => ?_
    obtain ⟨x1, ex1, H⟩ := bindE H
    refine gs h (o_ix rfl rfl (rd_at 0 rfl) ex1 t_v22) rfl fun _ _ _ h => ?_
    have g4 := (rd_inr (rd_at 0 rfl) ex1 h.mem)
    refine gs h (o_lex rfl (rd_at 0 rfl) ex1 X_int t_y5 (by decide)) rfl fun _ _ _ h => ?_
    refine gs h (o_convw rfl t_q5 t_u62 g4 rfl) rfl fun _ _ _ h => ?_
    refine gs h (o_bin rfl rfl rfl) rfl fun _ _ _ h => ?_
    obtain ⟨y2, ey2, H⟩ := ltE H
    refine gs h (o_assign' rfl (congrArg (fun z => Value.int .u64 z) ey2)) rfl fun _ _ _ h => ?_
    refine GoR.done ?_
    refine Go.inBlock ?_
    exact J1 y2 _ _ (som H).symm (ey2 ▸ (wrap_in _ _)) (h.wk (by rfl) [0] (by decide) (by rfl))
   ·have H := ifF c2 H
    refine g_f h rfl c2 ?_
    refine Go.reg ?_
    refine gs h (o_move rfl) rfl fun _ _ _ h => ?_
    refine gs h (o_bin rfl rfl rfl) rfl fun _ _ _ h => ?_
    refine gs h (o_move rfl) rfl fun _ _ _ h => ?_
    refine gs h (o_move rfl) rfl fun _ _ _ h => ?_
    refine gs h (o_bin rfl rfl rfl) rfl fun _ _ _ h => ?_
    refine gs h (o_move rfl) rfl fun _ _ _ h => ?_
    refine gs h (o_bin rfl rfl rfl) rfl fun _ _ _ h => ?_
    obtain ⟨x2, ex2, H⟩ := bindE H
    refine gs h (o_ix rfl rfl (rd_at 0 rfl) ex2 t_v22) rfl fun _ _ _ h => ?_
    have g5 := (rd_inr (rd_at 0 rfl) ex2 h.mem)
    refine gs h (o_lex rfl (rd_at 0 rfl) ex2 X_int t_y5 (by decide)) rfl fun _ _ _ h => ?_
    refine gs h (o_convw rfl t_q5 t_u62 g5 rfl) rfl fun _ _ _ h => ?_
    refine gs h (o_bin rfl rfl rfl) rfl fun _ _ _ h => ?_
    obtain ⟨y3, ey3, H⟩ := ltE H
    refine gs h (o_assign' rfl (congrArg (fun z => Value.int .u64 z) ey3)) rfl fun _ _ _ h => ?_
    refine GoR.done ?_
    refine Go.inBlock ?_
    exact J1 y3 _ _ (som H).symm (ey3 ▸ (wrap_in _ _)) (h.wk (by rfl) [0] (by decide) (by rfl))
  ·have H := ifF c1 H
   refine g_f h rfl c1 ?_
   refine Go.exit rfl ?_
   have e_ := som H; subst e_
   exact J3 s1.1 _ _ (nx_out i1).symm g2 (h.wk (by rfl) [] (by decide) (by rfl))
 ·exact I_ _ _ (show InR .u64 0 by decide) (show InR .i64 0 by decide) (h.wk (by rfl) [0] (by decide) (by rfl))
def ref01_Get.g (k_ : Nat) (a1 : List Int) (a2 : Bool) : Option (Int) :=
  lt (min (a1.length : Int) 8) fun y1 => (loopK k_ (fun s1 => (if decide (s1.2 < y1) = true then (((if a2 = true then (idx a1 s1.2).bind fun x1 => lt (IntKind.u64.wrap ((IntKind.u64.wrap (s1.1 * 256)) + x1)) fun y2 => some (y2) else (idx a1 (IntKind.i64.wrap ((IntKind.i64.wrap (y1 - 1)) - s1.2))).bind fun x2 => lt (IntKind.u64.wrap ((IntKind.u64.wrap (s1.1 * 256)) + x2)) fun y3 => some (y3))).bind (fun j1 => some (j1))).bind (fun j2 => lt (IntKind.i64.wrap (s1.2 + 1)) fun y4 => some (.inl (j2, y4))) else some (.inr (s1.1)))) (0, 0)).bind (fun j3 => some (j3))
theorem ref01_Get.le (k_ : Nat) (a1 : List Int) (a2 : Bool) : Le (ref01_Get.g k_ a1 a2) (ref01_Get.f a1 a2) := by
 unfold ref01_Get.g ref01_Get.f
 repeat' (first | with_reducible refine le_loop fun _ => ?_ | with_reducible refine le_bind ?_ fun _ => ?_ | with_reducible refine le_ite ?_ ?_ | with_reducible refine le_lt fun _ => ?_ | with_reducible refine le_elim (fun _ => ?_) (fun _ => ?_) _ | with_reducible exact le_refl _)
/-! drawbridge/drawbridgeref01.Put -/
noncomputable def ref01_Put.f (a1 : Int) (a2 : Int) (a3 : Bool) : Option ((List Int)) :=
  (loop (fun s1 => ((if decide (s1.2 < a2) = true then some (decide (s1.2 < 8)) else some (false))).bind (fun j1 => (if j1 = true then ((if 0 ≤ (IntKind.u64.wrap (IntKind.i64.wrap (8 * s1.2))) then (lt (IntKind.u8.wrap (ishr .u64 a1 (IntKind.u64.wrap (IntKind.i64.wrap (8 * s1.2))))) fun y1 => (if a3 = true then (app ([y1] : List Int) s1.1).bind fun x1 => some (x1) else (app s1.1 ([y1] : List Int)).bind fun x2 => some (x2))) else none).bind (fun j2 => some (j2))).bind (fun j3 => lt (IntKind.i64.wrap (s1.2 + 1)) fun y2 => some (.inl (j3, y2))) else some (.inr (s1.1))))) (([] : List Int), 0)).bind (fun j4 => some (j4))
set_option maxRecDepth 100000 in
set_option maxHeartbeats 4000000 in
theorem ref01_Put.spc (a1 : Int) (ha1 : InR .u64 a1) (a2 : Int) (ha2 : InR .i64 a2) (a3 : Bool) (r : (List Int)) (H : ref01_Put.f a1 a2 a3 = some r) : Spc Try.prog 39 [.int .u64 a1, .int .i64 a2, .bool a3] [] [] (fun (s : Value) => s) (fun s => [Val (Kd.osl (Kd.int .u8)) s r]) := by
 unfold ref01_Put.f at H
 refine Spc.go Try.func39 rfl (by kernel_rfl) rfl rfl all_nil fun F a w h => ?_
 refine Go.seq ?_
 refine Go.reg ?_
 refine gs h (o_assign rfl) rfl fun _ _ _ h => ?_
 refine GoR.done ?_
 refine Go.seq ?_
 refine Go.reg ?_
 refine gs h (o_assign rfl) rfl fun _ _ _ h => ?_
 refine GoR.done ?_
 refine Go.seq ?_
 refine Go.seq ?_
 refine Go.reg ?_
 refine gs h (o_assign rfl) rfl fun _ _ _ h => ?_
 refine GoR.done ?_
 refine Go.block ?_
 obtain ⟨o1, hl, G1⟩ := bindE H
 refine g_cut (fun G => ∀ j4 (v8 : Value) (a : Act) (w : World), o1 = j4 → St Try.f39.ntmps F [(7, v8)] [Val (Kd.osl (Kd.int .u8)) v8 j4] a w → G a w) 2 ?_ fun J4 => ?_
 ·intro j4 v8 a w ho_ h
  rw [ho_] at G1
  have H := G1
  refine Go.seq ?_
  refine Go.reg ?_
  refine gs h (o_move rfl) rfl fun _ _ _ h => ?_
  refine gs h (o_assign rfl) rfl fun _ _ _ h => ?_
  refine GoR.done ?_
  rw [← som H]
  exact g_ret (vs := [v8]) h Try.func39 ⟨rfl, trivial⟩ ⟨v8, rfl, (h.mem.pick [0] (by decide) rfl)⟩
 refine g_loop (fun s1 G => ∀ (v1 : Value) (a : Act) (w : World), InR .i64 s1.2 → St Try.f39.ntmps F [(0, .int .u64 a1), (1, .int .i64 a2), (2, .bool a3), (7, v1), (8, .int .i64 s1.2)] [Val (Kd.osl (Kd.int .u8)) v1 s1.1] a w → G a w) hl (fun s1 p1 H i1 => ?_) fun I_ => ?_
 ·intro v1 a w g1 h
  refine Go.seq ?_
  refine Go.seq ?_
  obtain ⟨o2, H, G2⟩ := bindE H
  refine g_cut (fun G => ∀ j1 (a : Act) (w : World), o2 = j1 → St Try.f39.ntmps F [(0, .int .u64 a1), (1, .int .i64 a2), (2, .bool a3), (7, v1), (8, .int .i64 s1.2), (16, .bool j1)] [Val (Kd.osl (Kd.int .u8)) v1 s1.1] a w → G a w) 1 ?_ fun J1 => ?_
  ·intro j1 a w ho_ h
   rw [ho_] at G2
   have H := G2
   by_cases c2 : j1 = true
   ·have H := ifT c2 H
    refine g_t h rfl c2 ?_
    refine Go.skip ?_
    refine Go.seq ?_
    obtain ⟨o3, H, G3⟩ := bindE H
    refine g_cut (fun G => ∀ j3 (v7 : Value) (a : Act) (w : World), o3 = j3 → St Try.f39.ntmps F [(0, .int .u64 a1), (1, .int .i64 a2), (2, .bool a3), (7, v7), (8, .int .i64 s1.2)] [Val (Kd.osl (Kd.int .u8)) v7 j3] a w → G a w) 1 ?_ fun J3 => ?_
    ·intro j3 v7 a w ho_ h
     rw [ho_] at G3
     have H := G3
     refine Go.reg ?_
     refine gs h (o_move rfl) rfl fun _ _ _ h => ?_
     refine gs h (o_bin rfl rfl rfl) rfl fun _ _ _ h => ?_
     obtain ⟨y2, ey2, H⟩ := ltE H
     refine gs h (o_assign' rfl (congrArg (fun z => Value.int .i64 z) ey2)) rfl fun _ _ _ h => ?_
     refine GoR.done ?_
     have e_ := som H; subst e_
     exact Go.inLoop (nx_in i1 v7 _ _ (ey2 ▸ (wrap_in _ _)) (h.wk (by rfl) [0] (by decide) (by rfl)))
    refine Go.block ?_
    obtain ⟨o4, H, G4⟩ := bindE H
    refine g_cut (fun G => ∀ j2 (v6 : Value) (a : Act) (w : World), o4 = j2 → St Try.f39.ntmps F [(0, .int .u64 a1), (1, .int .i64 a2), (2, .bool a3), (7, v6), (8, .int .i64 s1.2)] [Val (Kd.osl (Kd.int .u8)) v6 j2] a w → G a w) 2 ?_ fun J2 => ?_
    ·intro j2 v6 a w ho_ h
     rw [ho_] at G4
     have H := G4
     exact J3 j2 v6 _ _ (som H).symm (h.wk (by rfl) [0] (by decide) (by rfl))
    refine Go.seq ?_
    refine Go.reg ?_
    refine gs h (o_move rfl) rfl fun _ _ _ h => ?_
    refine gs h (o_move rfl) rfl fun _ _ _ h => ?_
    refine gs h (o_bin rfl rfl rfl) rfl fun _ _ _ h => ?_
    refine gs h (o_conv rfl t_q3 t_u64) rfl fun _ _ _ h => ?_
    obtain ⟨q1, H⟩ := ifS H
    refine gs h (o_shr rfl rfl q1) rfl fun _ _ _ h => ?_
    refine gs h (o_conv rfl t_q62 t_u5) rfl fun _ _ _ h => ?_
    obtain ⟨y1, ey1, H⟩ := ltE H
    refine gs h (o_assign' rfl (congrArg (fun z => Value.int .u8 z) ey1)) rfl fun _ _ _ h => ?_
    refine GoR.done ?_
    refine Go.seq ?_
    refine Go.reg ?_
    refine gs h (o_move rfl) rfl fun _ _ _ h => ?_
    refine GoR.done ?_
    by_cases c3 : a3 = true
    ·have H := ifT c3 H
     refine g_t h rfl c3 ?_
     refine Go.reg ?_
     refine gs h (o_move rfl) rfl fun _ _ _ h => ?_
     refine gs h (o_bs (K := (Kd.int .u8)) (vs := [.int .u8 y1]) (xs := ([y1] : List Int)) rfl rfl (pvs_cons (pv_int (ey1 ▸ (wrap_in _ _))) pvs_nil) t_a22 (by decide) (by decide)) rfl fun v2 _ _ h => ?_
     refine gs h (o_move rfl) rfl fun _ _ _ h => ?_
     obtain ⟨x1, ex1, H⟩ := bindE H
     refine gs h (o_app (K := (Kd.int .u8)) 0 rfl rfl rfl (rd_own 1 rfl) ex1 t_a22 t_n22) rfl fun v3 _ _ h => ?_
     refine gs h (o_assign rfl) rfl fun _ _ _ h => ?_
     refine GoR.done ?_
     refine Go.inBlock ?_
     exact J2 x1 v3 _ _ (som H).symm (h.wk (by rfl) [0] (by decide) (by rfl))
    ·have H := ifF c3 H
     refine g_f h rfl c3 ?_
     refine Go.reg ?_
     refine gs h (o_move rfl) rfl fun _ _ _ h => ?_
     refine gs h (o_move rfl) rfl fun _ _ _ h => ?_
     refine gs h (o_bs (K := (Kd.int .u8)) (vs := [.int .u8 y1]) (xs := ([y1] : List Int)) rfl rfl (pvs_cons (pv_int (ey1 ▸ (wrap_in _ _))) pvs_nil) t_a22 (by decide) (by decide)) rfl fun v4 _ _ h => ?_
     obtain ⟨x2, ex2, H⟩ := bindE H
     refine gs h (o_app (K := (Kd.int .u8)) 1 rfl rfl rfl (rd_own 0 rfl) ex2 t_a22 t_n22) rfl fun v5 _ _ h => ?_
     refine gs h (o_assign rfl) rfl fun _ _ _ h => ?_
     refine GoR.done ?_
     refine Go.inBlock ?_
     exact J2 x2 v5 _ _ (som H).symm (h.wk (by rfl) [1] (by decide) (by rfl))
   ·have H := ifF c2 H
    refine g_f h rfl c2 ?_
    refine Go.exit rfl ?_
    have e_ := som H; subst e_
    exact J4 s1.1 v1 _ _ (nx_out i1).symm (h.wk (by rfl) [0] (by decide) (by rfl))
  refine Go.reg ?_
  refine gs h (o_move rfl) rfl fun _ _ _ h => ?_
  refine gs h (o_move rfl) rfl fun _ _ _ h => ?_
  refine gs h (o_bin rfl rfl rfl) rfl fun _ _ _ h => ?_
  refine gs h (o_move rfl) rfl fun _ _ _ h => ?_
  by_cases c1 : decide (s1.2 < a2) = true
  ·have H := ifT c1 H
   refine gg h rfl rfl c1 (o_move rfl) rfl fun _ _ _ h => ?_
   refine gg h rfl rfl c1 (o_bin rfl rfl rfl) rfl fun _ _ _ h => ?_
   refine gs h (o_pickT rfl rfl c1) rfl fun _ _ _ h => ?_
   refine GoR.done ?_
   exact J1 (decide (s1.2 < 8)) _ _ (som H).symm (h.wk (by rfl) [0] (by decide) (by rfl))
  ·have H := ifF c1 H
   refine gk h rfl rfl (nb_f c1) rfl fun _ h => ?_
   refine gk h rfl rfl (nb_f c1) rfl fun _ h => ?_
   refine gs h (o_pickF rfl rfl c1) rfl fun _ _ _ h => ?_
   refine GoR.done ?_
   exact J1 false _ _ (som H).symm (h.wk (by rfl) [0] (by decide) (by rfl))
 ·replace h := h.mm fun m => m.nilo (Kd.int .u8)
  exact I_ (.slice none 0 0) _ _ (show InR .i64 0 by decide) (h.wk (by rfl) [0] (by decide) (by rfl))
def ref01_Put.g (k_ : Nat) (a1 : Int) (a2 : Int) (a3 : Bool) : Option ((List Int)) :=
  (loopK k_ (fun s1 => ((if decide (s1.2 < a2) = true then some (decide (s1.2 < 8)) else some (false))).bind (fun j1 => (if j1 = true then ((if 0 ≤ (IntKind.u64.wrap (IntKind.i64.wrap (8 * s1.2))) then (lt (IntKind.u8.wrap (ishr .u64 a1 (IntKind.u64.wrap (IntKind.i64.wrap (8 * s1.2))))) fun y1 => (if a3 = true then (app ([y1] : List Int) s1.1).bind fun x1 => some (x1) else (app s1.1 ([y1] : List Int)).bind fun x2 => some (x2))) else none).bind (fun j2 => some (j2))).bind (fun j3 => lt (IntKind.i64.wrap (s1.2 + 1)) fun y2 => some (.inl (j3, y2))) else some (.inr (s1.1))))) (([] : List Int), 0)).bind (fun j4 => some (j4))
theorem ref01_Put.le (k_ : Nat) (a1 : Int) (a2 : Int) (a3 : Bool) : Le (ref01_Put.g k_ a1 a2 a3) (ref01_Put.f a1 a2 a3) := by
 unfold ref01_Put.g ref01_Put.f
 repeat' (first | with_reducible refine le_loop fun _ => ?_ | with_reducible refine le_bind ?_ fun _ => ?_ | with_reducible refine le_ite ?_ ?_ | with_reducible refine le_lt fun _ => ?_ | with_reducible refine le_elim (fun _ => ?_) (fun _ => ?_) _ | with_reducible exact le_refl _)
/-! drawbridge/drawbridgeref01.Same -/
noncomputable def ref01_Same.f (a1 : List Int) (a2 : List Int) : Option (Bool) :=
  lt (decide (a1 = a2)) fun y1 => some (y1)
set_option maxRecDepth 100000 in
set_option maxHeartbeats 4000000 in
theorem ref01_Same.spc (v1 : Value) (a1 : List Int) (v2 : Value) (a2 : List Int) (r : Bool) (H : ref01_Same.f a1 a2 = some r) : Spc Try.prog 11 [v1, v2] [Val (Kd.sl (Kd.int .u8)) v1 a1, Val (Kd.sl (Kd.int .u8)) v2 a2] [] (fun (s : Unit) => .bool r) (fun s => []) := by
 unfold ref01_Same.f at H
 refine Spc.go Try.func11 rfl (by kernel_rfl) rfl rfl (all_cons (Val.per Per_sl) (all_cons (Val.per Per_sl) all_nil)) fun F a w h => ?_
 refine Go.seq ?_
 refine Go.reg ?_
 refine gs h (o_assign rfl) rfl fun _ _ _ h => ?_
 refine GoR.done ?_
 refine Go.seq ?_
 refine Go.reg ?_
 refine gs h (o_move rfl) rfl fun _ _ _ h => ?_
 have g1 := (rd_bs (rd_at 0 rfl) h.mem)
 refine gs h (o_b2s rfl (rd_at 0 rfl) t_u22 t_u5 t_u9) rfl fun _ _ _ h => ?_
 refine gs h (o_move rfl) rfl fun _ _ _ h => ?_
 have g2 := (rd_bs (rd_at 1 rfl) h.mem)
 refine gs h (o_b2s rfl (rd_at 1 rfl) t_u22 t_u5 t_u9) rfl fun _ _ _ h => ?_
 refine gs h (o_eqs rfl rfl g1 g2) rfl fun _ _ _ h => ?_
 obtain ⟨y1, ey1, H⟩ := ltE H
 refine gs h (o_assign' rfl (congrArg Value.bool ey1)) rfl fun _ _ _ h => ?_
 refine GoR.done ?_
 rw [← som H]
 exact g_ret (vs := [.bool y1]) h Try.func11 ⟨rfl, trivial⟩ ⟨(), rfl, (h.mem.pick [] (by decide) rfl)⟩
def ref01_Same.g (k_ : Nat) (a1 : List Int) (a2 : List Int) : Option (Bool) :=
  lt (decide (a1 = a2)) fun y1 => some (y1)
theorem ref01_Same.le (k_ : Nat) (a1 : List Int) (a2 : List Int) : Le (ref01_Same.g k_ a1 a2) (ref01_Same.f a1 a2) := by
 unfold ref01_Same.g ref01_Same.f
 repeat' (first | with_reducible refine le_loop fun _ => ?_ | with_reducible refine le_bind ?_ fun _ => ?_ | with_reducible refine le_ite ?_ ?_ | with_reducible refine le_lt fun _ => ?_ | with_reducible refine le_elim (fun _ => ?_) (fun _ => ?_) _ | with_reducible exact le_refl _)
/-! drawbridge/drawbridgeref16.own -/
noncomputable def ref16_own.f (a1 : List Int) : Option ((List Int)) :=
  (app ([] : List Int) a1).bind fun x1 => some (x1)
set_option maxRecDepth 100000 in
set_option maxHeartbeats 4000000 in
theorem ref16_own.spc (v1 : Value) (a1 : List Int) (r : (List Int)) (H : ref16_own.f a1 = some r) : Spc Try.prog 30 [v1] [Val (Kd.sl (Kd.int .u8)) v1 a1] [] (fun (s : Value) => s) (fun s => [Val (Kd.osl (Kd.int .u8)) s r]) := by
 unfold ref16_own.f at H
 refine Spc.go Try.func30 rfl (by kernel_rfl) rfl rfl (all_cons (Val.per Per_sl) all_nil) fun F a w h => ?_
 refine Go.seq ?_
 refine Go.reg ?_
 refine gs h (o_assign rfl) rfl fun _ _ _ h => ?_
 refine GoR.done ?_
 refine Go.seq ?_
 refine Go.reg ?_
 refine gs h (o_bs (K := (Kd.int .u8)) (vs := []) (xs := ([] : List Int)) rfl rfl pvs_nil t_a22 (by decide) (by decide)) rfl fun v2 _ _ h => ?_
 refine gs h (o_move rfl) rfl fun _ _ _ h => ?_
 obtain ⟨x1, ex1, H⟩ := bindE H
 refine gs h (o_app (K := (Kd.int .u8)) 0 rfl rfl rfl (rd_at 1 rfl) ex1 t_a22 t_n22) rfl fun v3 _ _ h => ?_
 refine gs h (o_assign rfl) rfl fun _ _ _ h => ?_
 refine GoR.done ?_
 rw [← som H]
 exact g_ret (vs := [v3]) h Try.func30 ⟨rfl, trivial⟩ ⟨v3, rfl, (h.mem.pick [0] (by decide) rfl)⟩
def ref16_own.g (k_ : Nat) (a1 : List Int) : Option ((List Int)) :=
  (app ([] : List Int) a1).bind fun x1 => some (x1)
theorem ref16_own.le (k_ : Nat) (a1 : List Int) : Le (ref16_own.g k_ a1) (ref16_own.f a1) := by
 unfold ref16_own.g ref16_own.f
 repeat' (first | with_reducible refine le_loop fun _ => ?_ | with_reducible refine le_bind ?_ fun _ => ?_ | with_reducible refine le_ite ?_ ?_ | with_reducible refine le_lt fun _ => ?_ | with_reducible refine le_elim (fun _ => ?_) (fun _ => ?_) _ | with_reducible exact le_refl _)
/-! drawbridge/drawbridgeref16.number -/
noncomputable def ref16_number.f (a1 : Int) (a2 : Int) : Option ((List Int)) :=
  (ref01_Put.f a1 a2 true).bind fun r1 => some (r1)
set_option maxRecDepth 100000 in
set_option maxHeartbeats 4000000 in
theorem ref16_number.spc (a1 : Int) (ha1 : InR .u64 a1) (a2 : Int) (ha2 : InR .i64 a2) (r : (List Int)) (H : ref16_number.f a1 a2 = some r) : Spc Try.prog 31 [.int .u64 a1, .int .i64 a2] [] [] (fun (s : Value) => s) (fun s => [Val (Kd.osl (Kd.int .u8)) s r]) := by
 unfold ref16_number.f at H
 refine Spc.go Try.func31 rfl (by kernel_rfl) rfl rfl all_nil fun F a w h => ?_
 refine Go.seq ?_
 refine Go.reg ?_
 refine gs h (o_assign rfl) rfl fun _ _ _ h => ?_
 refine GoR.done ?_
 refine Go.seq ?_
 refine Go.reg ?_
 refine gs h (o_move rfl) rfl fun _ _ _ h => ?_
 refine gs h (o_move rfl) rfl fun _ _ _ h => ?_
 obtain ⟨r1, er1, H⟩ := bindE H
 refine gs h (o_call (ref01_Put.spc a1 ha1 a2 ha2 true r1 er1) rfl [] [] (by decide) rfl rfl) rfl fun v1 _ _ h => ?_
 refine gs h (o_assign rfl) rfl fun _ _ _ h => ?_
 refine GoR.done ?_
 rw [← som H]
 exact g_ret (vs := [v1]) h Try.func31 ⟨rfl, trivial⟩ ⟨v1, rfl, (h.mem.pick [0] (by decide) rfl)⟩
def ref16_number.g (k_ : Nat) (a1 : Int) (a2 : Int) : Option ((List Int)) :=
  (ref01_Put.g k_ a1 a2 true).bind fun r1 => some (r1)
theorem ref16_number.le (k_ : Nat) (a1 : Int) (a2 : Int) : Le (ref16_number.g k_ a1 a2) (ref16_number.f a1 a2) := by
 unfold ref16_number.g ref16_number.f
 repeat' (first | with_reducible refine le_loop fun _ => ?_ | with_reducible refine le_bind ?_ fun _ => ?_ | with_reducible refine le_ite ?_ ?_ | with_reducible refine le_lt fun _ => ?_ | with_reducible refine le_elim (fun _ => ?_) (fun _ => ?_) _ | with_reducible apply ref01_Put.le | with_reducible exact le_refl _)
end Go.Proofs.Ytplkiompmjhdlaa.S
