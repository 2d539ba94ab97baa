/- Contracts, printed by a program of this session. -/
import Derived.Test.YtfoffhdckcdjdaaDoorT2
import Derived.Test.YtfoffhdckcdjdaaDoorT4
import Derived.Test.YtfoffhdckcdjdaaDoorT5
namespace Go.Proofs.YtfoffhdckcdjdaaDoor.S
open Go Go.SL Go.RowKit
set_option linter.unusedVariables false
set_option linter.unusedSimpArgs false
/-! drawbridge/drawbridgeref18.Same -/
noncomputable def ref18_Same.f (a1 : TUdp) (a2 : TUdp) : Option (Bool) :=
  ((if decide (a1.Src = a2.Src) = true then (if decide (a1.Dst = a2.Dst) = true then lt (decide (a1.Data = a2.Data)) fun y1 => some (y1) else some (false)) else some (false))).bind (fun j1 => some (j1))
set_option maxRecDepth 100000 in
set_option maxHeartbeats 4000000 in
theorem ref18_Same.spc (v1 : Value) (a1 : TUdp) (v2 : Value) (a2 : TUdp) (r : Bool) (H : ref18_Same.f a1 a2 = some r) : Spc Tryd.prog 12 [v1, v2] [Val KUdp v1 a1, Val KUdp v2 a2] [] (fun (s : Unit) => .bool r) (fun s => []) := by
 unfold ref18_Same.f at H
 refine Spc.go Tryd.func12 rfl (by kernel_rfl) rfl rfl (all_cons (Val.per PUdp) (all_cons (Val.per PUdp) all_nil)) fun F a w h => ?_
 refine Go.seq ?_
 refine Go.reg ?_
 refine gs h (o_box (K := KUdp) rfl (pv_at PUdp 0 rfl)) rfl fun b1 _ _ h => ?_
 refine gs h (o_box (K := KUdp) rfl (pv_at PUdp 2 rfl)) rfl fun b2 _ _ h => ?_
 refine gs h (o_assign rfl) rfl fun _ _ _ h => ?_
 refine GoR.done ?_
 refine Go.seq ?_
 obtain ⟨o1, H, G1⟩ := bindE H
 refine g_cut (fun G => ∀ j1 (a : Act) (w : World), o1 = j1 → St Tryd.f12.ntmps F [(4, .bool j1)] [Fld KUdp b2 0 a2, Fld KUdp b1 0 a1] a w → G a w) 1 ?_ fun J1 => ?_
 ·intro j1 a w ho_ h
  rw [ho_] at G1
  have H := G1
  rw [← som H]
  exact g_ret (vs := [.bool j1]) h Tryd.func12 ⟨rfl, trivial⟩ ⟨(), rfl, (h.mem.pick [] (by decide) rfl)⟩
 refine Go.reg ?_
 refine gs h (o_fa rfl t_f24_0 rfl rfl) rfl fun _ _ _ h => ?_
 have g1 := (in2 (fd_sub sUdp_Src 1 rfl h.mem))
 refine gs h (o_lfx 1 rfl rfl sUdp_Src rfl X_int t_y3) rfl fun _ _ _ h => ?_
 refine gs h (o_fa rfl t_f24_0 rfl rfl) rfl fun _ _ _ h => ?_
 have g2 := (in2 (fd_sub sUdp_Src 0 rfl h.mem))
 refine gs h (o_lfx 0 rfl rfl sUdp_Src rfl X_int t_y3) rfl fun _ _ _ h => ?_
 refine gs h (o_bin rfl rfl rfl) rfl fun _ _ _ h => ?_
 refine gs h (o_move rfl) rfl fun _ _ _ h => ?_
 by_cases c1 : decide (a1.Src = a2.Src) = true
 ·have H := ifT c1 H
  refine gg h rfl rfl c1 (o_fa rfl t_f24_1 rfl rfl) rfl fun _ _ _ h => ?_
  have g3 := (in2 (fd_sub sUdp_Dst 1 rfl h.mem))
  refine gg h rfl rfl c1 (o_lfx 1 rfl rfl sUdp_Dst rfl X_int t_y3) rfl fun _ _ _ h => ?_
  refine gg h rfl rfl c1 (o_fa rfl t_f24_1 rfl rfl) rfl fun _ _ _ h => ?_
  have g4 := (in2 (fd_sub sUdp_Dst 0 rfl h.mem))
  refine gg h rfl rfl c1 (o_lfx 0 rfl rfl sUdp_Dst rfl X_int t_y3) rfl fun _ _ _ h => ?_
  refine gg h rfl rfl c1 (o_bin rfl rfl rfl) rfl fun _ _ _ h => ?_
  refine gs h (o_pickT rfl rfl c1) rfl fun _ _ _ h => ?_
  refine gs h (o_move rfl) rfl fun _ _ _ h => ?_
  by_cases c2 : decide (a1.Dst = a2.Dst) = true
  ·have H := ifT c2 H
   refine gg h rfl rfl c2 (o_fa rfl t_f24_2 rfl rfl) rfl fun _ _ _ h => ?_
   refine gg h rfl rfl c2 (o_lfv 1 rfl rfl sUdp_Data rfl Per_sl t_y22) rfl fun v3 _ _ h => ?_
   have g5 := (rd_bs (rd_at 0 rfl) h.mem)
   refine gg h rfl rfl c2 (o_b2s rfl (rd_at 0 rfl) t_u22 t_u5 t_u9) rfl fun _ _ _ h => ?_
   refine gg h rfl rfl c2 (o_fa rfl t_f24_2 rfl rfl) rfl fun _ _ _ h => ?_
   refine gg h rfl rfl c2 (o_lfv 1 rfl rfl sUdp_Data rfl Per_sl t_y22) rfl fun v4 _ _ h => ?_
   have g6 := (rd_bs (rd_at 0 rfl) h.mem)
   refine gg h rfl rfl c2 (o_b2s rfl (rd_at 0 rfl) t_u22 t_u5 t_u9) rfl fun _ _ _ h => ?_
   refine gg h rfl rfl c2 (o_eqs rfl rfl g5 g6) rfl fun _ _ _ h => ?_
   refine gs h (o_pickT rfl rfl c2) rfl fun _ _ _ h => ?_
   obtain ⟨y1, ey1, H⟩ := ltE H
   refine gs h (o_assign' rfl (congrArg Value.bool ey1)) rfl fun _ _ _ h => ?_
   refine GoR.done ?_
   exact J1 y1 _ _ (som H).symm (h.wk (by rfl) [2, 3] (by decide) (by rfl))
  ·have H := ifF c2 H
   refine gk h rfl rfl (nb_f c2) rfl fun _ h => ?_
   refine gk h rfl rfl (nb_f c2) rfl fun _ h => ?_
   refine gk h rfl rfl (nb_f c2) rfl fun _ h => ?_
   refine gk h rfl rfl (nb_f c2) rfl fun _ h => ?_
   refine gk h rfl rfl (nb_f c2) rfl fun _ h => ?_
   refine gk h rfl rfl (nb_f c2) rfl fun _ h => ?_
   refine gk h rfl rfl (nb_f c2) rfl fun _ h => ?_
   refine gs h (o_pickF rfl rfl c2) rfl fun _ _ _ h => ?_
   refine gs h (o_assign rfl) rfl fun _ _ _ h => ?_
   refine GoR.done ?_
   exact J1 false _ _ (som H).symm (h.wk (by rfl) [0, 1] (by decide) (by rfl))
 ·have H := ifF c1 H
  refine gk h rfl rfl (nb_f c1) rfl fun _ h => ?_
  refine gk h rfl rfl (nb_f c1) rfl fun _ h => ?_
  refine gk h rfl rfl (nb_f c1) rfl fun _ h => ?_
  refine gk h rfl rfl (nb_f c1) rfl fun _ h => ?_
  refine gk h rfl rfl (nb_f c1) rfl fun _ h => ?_
  refine gs h (o_pickF rfl rfl c1) rfl fun _ _ _ h => ?_
  refine gs h (o_move rfl) rfl fun _ _ _ h => ?_
  refine gk h rfl rfl (nb_f Bool.false_ne_true) rfl fun _ h => ?_
  refine gk h rfl rfl (nb_f Bool.false_ne_true) rfl fun _ h => ?_
  refine gk h rfl rfl (nb_f Bool.false_ne_true) rfl fun _ h => ?_
  refine gk h rfl rfl (nb_f Bool.false_ne_true) rfl fun _ h => ?_
  refine gk h rfl rfl (nb_f Bool.false_ne_true) rfl fun _ h => ?_
  refine gk h rfl rfl (nb_f Bool.false_ne_true) rfl fun _ h => ?_
  refine gk h rfl rfl (nb_f Bool.false_ne_true) rfl fun _ h => ?_
  refine gs h (o_pickF rfl rfl Bool.false_ne_true) rfl fun _ _ _ h => ?_
  refine gs h (o_assign rfl) rfl fun _ _ _ h => ?_
  refine GoR.done ?_
  exact J1 false _ _ (som H).symm (h.wk (by rfl) [0, 1] (by decide) (by rfl))
def ref18_Same.g (k_ : Nat) (a1 : TUdp) (a2 : TUdp) : Option (Bool) :=
  ((if decide (a1.Src = a2.Src) = true then (if decide (a1.Dst = a2.Dst) = true then lt (decide (a1.Data = a2.Data)) fun y1 => some (y1) else some (false)) else some (false))).bind (fun j1 => some (j1))
theorem ref18_Same.le (k_ : Nat) (a1 : TUdp) (a2 : TUdp) : Le (ref18_Same.g k_ a1 a2) (ref18_Same.f a1 a2) := by
 unfold ref18_Same.g ref18_Same.f
 repeat' (first | with_reducible refine le_loop fun _ => ?_ | with_reducible refine le_bind ?_ fun _ => ?_ | with_reducible refine le_ite ?_ ?_ | with_reducible refine le_lt fun _ => ?_ | with_reducible refine le_elim (fun _ => ?_) (fun _ => ?_) _ | with_reducible exact le_refl _)
/-! drawbridge/drawbridgelaw18.UdpTells -/
noncomputable def law18_UdpTells.f (a1 : TUdp) (a2 : Int) (a3 : Int) (a4 : List Int) : Option (Bool) :=
  ((if decide (70000 < (a4.length : Int)) = true then some (true) else some (decide (70000 < (a1.Data.length : Int))))).bind (fun j1 => (if j1 = true then (law18_heads.f).bind fun r1 => some (r1) else (udp_Put.f a1 a2 a3).bind fun r2 => (ref18_Put.f a1 a2 a3).bind fun r3 => (udp_Get.f a4 a2 a3).bind fun r4 => (ref18_Get.f a4 a2 a3).bind fun r5 => ((ref01_Same.f r2.1 r3.1).bind fun r6 => (if r6 = true then (if decide (r2.2 = r3.2) = true then (ref18_Same.f r4.1 r5.1).bind fun r7 => (if r7 = true then (if decide (r4.2 = r5.2) = true then (law18_heads.f).bind fun r8 => some (r8) else some (false)) else some (false)) else some (false)) else some (false))).bind (fun j2 => some (j2))))
set_option maxRecDepth 100000 in
set_option maxHeartbeats 4000000 in
theorem law18_UdpTells.spc (v1 : Value) (a1 : TUdp) (a2 : Int) (ha2 : InR .u32 a2) (a3 : Int) (ha3 : InR .u32 a3) (v2 : Value) (a4 : List Int) (r : Bool) (H : law18_UdpTells.f a1 a2 a3 a4 = some r) : Spc Tryd.prog 3 [v1, .int .u32 a2, .int .u32 a3, v2] [Val KUdp v1 a1, Val (Kd.sl (Kd.int .u8)) v2 a4, Pfl (Kd.eq gv0) 0 0 ()] [] (fun (s : Unit) => .bool r) (fun s => []) := by
 unfold law18_UdpTells.f at H
 refine Spc.go Tryd.func3 rfl (by kernel_rfl) rfl rfl (all_cons (Val.per PUdp) (all_cons (Val.per Per_sl) (all_cons Per_pfl all_nil))) fun F a w h => ?_
 refine Go.seq ?_
 refine Go.reg ?_
 refine gs h (o_box (K := KUdp) rfl (pv_at PUdp 0 rfl)) rfl fun b1 _ _ h => ?_
 refine gs h (o_assign rfl) rfl fun _ _ _ h => ?_
 refine GoR.done ?_
 refine Go.seq ?_
 refine Go.seq ?_
 obtain ⟨o1, H, G1⟩ := bindE H
 refine g_cut (fun G => ∀ j1 (a : Act) (w : World), o1 = j1 → St Tryd.f3.ntmps F [(1, .int .u32 a2), (2, .int .u32 a3), (3, v2), (4, .pointer (some ⟨b1, 0, none⟩)), (25, .bool j1)] [Val (Kd.sl (Kd.int .u8)) v2 a4, Fld KUdp b1 0 a1, Pfl (Kd.eq gv0) 0 0 ()] a w → G a w) 1 ?_ fun J1 => ?_
 ·intro j1 a w ho_ h
  rw [ho_] at G1
  have H := G1
  by_cases c2 : j1 = true
  ·have H := ifT c2 H
   refine g_t h rfl c2 ?_
   refine Go.seq ?_
   refine Go.reg ?_
   obtain ⟨r1, er1, H⟩ := bindE H
   refine gs h (o_call (law18_heads.spc  r1 er1) rfl [2] [] (by decide) rfl rfl) rfl fun _ _ _ h => ?_
   refine gs h (o_assign rfl) rfl fun _ _ _ h => ?_
   refine GoR.done ?_
   rw [← som H]
   exact g_ret (vs := [.bool r1]) h Tryd.func3 ⟨rfl, trivial⟩ ⟨(), rfl, (h.mem.pick [] (by decide) rfl)⟩
  ·have H := ifF c2 H
   refine g_f h rfl c2 ?_
   refine Go.skip ?_
   refine Go.seq ?_
   refine Go.reg ?_
   refine gs h (o_ldv 1 rfl rfl PUdp t_y24) rfl fun v4 _ _ h => ?_
   refine gs h (o_move rfl) rfl fun _ _ _ h => ?_
   refine gs h (o_move rfl) rfl fun _ _ _ h => ?_
   obtain ⟨r2, er2, H⟩ := bindE H
   refine gs h (o_call (udp_Put.spc v4 a1 a2 ha2 a3 ha3 r2 er2) rfl [0] [] (by decide) rfl rfl) rfl fun v5 _ _ h => ?_
   have g3 := h.mem.pur 0 rfl
   refine gs h (o_move rfl) rfl fun _ _ _ h => ?_
   refine gs h (o_extract rfl rfl) rfl fun _ _ _ h => ?_
   refine gs h (o_extract rfl rfl) rfl fun _ _ _ h => ?_
   refine gs h (o_assign rfl) rfl fun _ _ _ h => ?_
   refine gs h (o_assign rfl) rfl fun _ _ _ h => ?_
   refine GoR.done ?_
   refine Go.seq ?_
   refine Go.reg ?_
   refine gs h (o_ldv 4 rfl rfl PUdp t_y24) rfl fun v6 _ _ h => ?_
   refine gs h (o_move rfl) rfl fun _ _ _ h => ?_
   refine gs h (o_move rfl) rfl fun _ _ _ h => ?_
   obtain ⟨r3, er3, H⟩ := bindE H
   refine gs h (o_call (ref18_Put.spc v6 a1 a2 ha2 a3 ha3 r3 er3) rfl [0] [] (by decide) rfl rfl) rfl fun v7 _ _ h => ?_
   have g4 := h.mem.pur 0 rfl
   refine gs h (o_move rfl) rfl fun _ _ _ h => ?_
   refine gs h (o_extract rfl rfl) rfl fun _ _ _ h => ?_
   refine gs h (o_extract rfl rfl) rfl fun _ _ _ h => ?_
   refine gs h (o_assign rfl) rfl fun _ _ _ h => ?_
   refine gs h (o_assign rfl) rfl fun _ _ _ h => ?_
   refine GoR.done ?_
   refine Go.seq ?_
   refine Go.reg ?_
   refine gs h (o_move rfl) rfl fun _ _ _ h => ?_
   refine gs h (o_move rfl) rfl fun _ _ _ h => ?_
   refine gs h (o_move rfl) rfl fun _ _ _ h => ?_
   obtain ⟨r4, er4, H⟩ := bindE H
   refine gs h (o_call (udp_Get.spc v2 a4 a2 ha2 a3 ha3 r4 er4) rfl [6, 8] [] (by decide) rfl rfl) rfl fun v8 _ _ h => ?_
   have g5 := h.mem.pur 0 rfl
   refine gs h (o_move rfl) rfl fun _ _ _ h => ?_
   refine gs h (o_extract rfl rfl) rfl fun _ _ _ h => ?_
   refine gs h (o_extract rfl rfl) rfl fun _ _ _ h => ?_
   refine gs h (o_alloc (K := KUdp) (z := (.agg #[.int .i64 0, .int .i64 0, .slice none 0 0])) rfl ZUdp) rfl fun b2 _ _ h => ?_
   refine gs0 h (o_st 0 rfl rfl rfl (pv_at PUdp 2 rfl) rfl t_w24) fun _ _ _ h => ?_
   refine gs h (o_assign rfl) rfl fun _ _ _ h => ?_
   refine GoR.done ?_
   refine Go.seq ?_
   refine Go.reg ?_
   refine gs h (o_move rfl) rfl fun _ _ _ h => ?_
   refine gs h (o_move rfl) rfl fun _ _ _ h => ?_
   refine gs h (o_move rfl) rfl fun _ _ _ h => ?_
   obtain ⟨r5, er5, H⟩ := bindE H
   refine gs h (o_call (ref18_Get.spc v2 a4 a2 ha2 a3 ha3 r5 er5) rfl [9] [] (by decide) rfl rfl) rfl fun v9 _ _ h => ?_
   have g6 := h.mem.pur 0 rfl
   refine gs h (o_move rfl) rfl fun _ _ _ h => ?_
   refine gs h (o_extract rfl rfl) rfl fun _ _ _ h => ?_
   refine gs h (o_extract rfl rfl) rfl fun _ _ _ h => ?_
   refine gs h (o_alloc (K := KUdp) (z := (.agg #[.int .i64 0, .int .i64 0, .slice none 0 0])) rfl ZUdp) rfl fun b3 _ _ h => ?_
   refine gs0 h (o_st 0 rfl rfl rfl (pv_at PUdp 2 rfl) rfl t_w24) fun _ _ _ h => ?_
   refine gs h (o_assign rfl) rfl fun _ _ _ h => ?_
   refine GoR.done ?_
   refine Go.seq ?_
   obtain ⟨o2, H, G2⟩ := bindE H
   refine g_cut (fun G => ∀ j2 (a : Act) (w : World), o2 = j2 → St Tryd.f3.ntmps F [(8, .bool j2)] [Fld KUdp b3 0 r5.1, Fld KUdp b2 0 r4.1, Fld KUdp b1 0 a1, Pfl (Kd.eq gv0) 0 0 ()] a w → G a w) 1 ?_ fun J2 => ?_
   ·intro j2 a w ho_ h
    rw [ho_] at G2
    have H := G2
    rw [← som H]
    exact g_ret (vs := [.bool j2]) h Tryd.func3 ⟨rfl, trivial⟩ ⟨(), rfl, (h.mem.pick [] (by decide) rfl)⟩
   refine Go.reg ?_
   refine gs h (o_move rfl) rfl fun _ _ _ h => ?_
   refine gs h (o_move rfl) rfl fun _ _ _ h => ?_
   replace h := h.mm fun m => m.freeze 10 rfl
   replace h := h.mm fun m => m.freeze 7 rfl
   obtain ⟨r6, er6, H⟩ := bindE H
   refine gs h (o_call (ref01_Same.spc v5 r2.1 v7 r3.1 r6 er6) rfl [10, 7] [] (by decide) rfl rfl) rfl fun _ _ _ h => ?_
   refine gs h (o_move rfl) rfl fun _ _ _ h => ?_
   by_cases c3 : r6 = true
   ·have H := ifT c3 H
    refine gg h rfl rfl c3 (o_move rfl) rfl fun _ _ _ h => ?_
    refine gg h rfl rfl c3 (o_move rfl) rfl fun _ _ _ h => ?_
    refine gg h rfl rfl c3 (o_bin rfl rfl rfl) rfl fun _ _ _ h => ?_
    refine gs h (o_pickT rfl rfl c3) rfl fun _ _ _ h => ?_
    refine gs h (o_move rfl) rfl fun _ _ _ h => ?_
    by_cases c4 : decide (r2.2 = r3.2) = true
    ·have H := ifT c4 H
     refine gg h rfl rfl c4 (o_ldv 3 rfl rfl PUdp t_y24) rfl fun v10 _ _ h => ?_
     refine gg h rfl rfl c4 (o_ldv 1 rfl rfl PUdp t_y24) rfl fun v11 _ _ h => ?_
     obtain ⟨r7, er7, H⟩ := bindE H
     refine gg h rfl rfl c4 (o_call (ref18_Same.spc v10 r4.1 v11 r5.1 r7 er7) rfl [1, 0] [] (by decide) rfl rfl) rfl fun _ _ _ h => ?_
     refine gs h (o_pickT rfl rfl c4) rfl fun _ _ _ h => ?_
     refine gs h (o_move rfl) rfl fun _ _ _ h => ?_
     by_cases c5 : r7 = true
     ·have H := ifT c5 H
      refine gg h rfl rfl c5 (o_move rfl) rfl fun _ _ _ h => ?_
      refine gg h rfl rfl c5 (o_move rfl) rfl fun _ _ _ h => ?_
      refine gg h rfl rfl c5 (o_bin rfl rfl rfl) rfl fun _ _ _ h => ?_
      refine gs h (o_pickT rfl rfl c5) rfl fun _ _ _ h => ?_
      refine gs h (o_move rfl) rfl fun _ _ _ h => ?_
      by_cases c6 : decide (r4.2 = r5.2) = true
      ·have H := ifT c6 H
       obtain ⟨r8, er8, H⟩ := bindE H
       refine gg h rfl rfl c6 (o_call (law18_heads.spc  r8 er8) rfl [16] [] (by decide) rfl rfl) rfl fun _ _ _ h => ?_
       refine gs h (o_pickT rfl rfl c6) rfl fun _ _ _ h => ?_
       refine gs h (o_assign rfl) rfl fun _ _ _ h => ?_
       refine GoR.done ?_
       exact J2 r8 _ _ (som H).symm (h.wk (by rfl) [2, 5, 15, 16] (by decide) (by rfl))
      ·have H := ifF c6 H
       refine gk h rfl rfl (nb_f c6) rfl fun _ h => ?_
       refine gs h (o_pickF rfl rfl c6) rfl fun _ _ _ h => ?_
       refine gs h (o_assign rfl) rfl fun _ _ _ h => ?_
       refine GoR.done ?_
       exact J2 false _ _ (som H).symm (h.wk (by rfl) [2, 5, 15, 16] (by decide) (by rfl))
     ·have H := ifF c5 H
      refine gk h rfl rfl (nb_f c5) rfl fun _ h => ?_
      refine gk h rfl rfl (nb_f c5) rfl fun _ h => ?_
      refine gk h rfl rfl (nb_f c5) rfl fun _ h => ?_
      refine gs h (o_pickF rfl rfl c5) rfl fun _ _ _ h => ?_
      refine gs h (o_move rfl) rfl fun _ _ _ h => ?_
      refine gk h rfl rfl (nb_f Bool.false_ne_true) rfl fun _ h => ?_
      refine gs h (o_pickF rfl rfl Bool.false_ne_true) rfl fun _ _ _ h => ?_
      refine gs h (o_assign rfl) rfl fun _ _ _ h => ?_
      refine GoR.done ?_
      exact J2 false _ _ (som H).symm (h.wk (by rfl) [2, 5, 15, 16] (by decide) (by rfl))
    ·have H := ifF c4 H
     refine gk h rfl rfl (nb_f c4) rfl fun _ h => ?_
     refine gk h rfl rfl (nb_f c4) rfl fun _ h => ?_
     refine gk h rfl rfl (nb_f c4) rfl fun _ h => ?_
     refine gs h (o_pickF rfl rfl c4) rfl fun _ _ _ h => ?_
     refine gs h (o_move rfl) rfl fun _ _ _ h => ?_
     refine gk h rfl rfl (nb_f Bool.false_ne_true) rfl fun _ h => ?_
     refine gk h rfl rfl (nb_f Bool.false_ne_true) rfl fun _ h => ?_
     refine gk h rfl rfl (nb_f Bool.false_ne_true) rfl fun _ h => ?_
     refine gs h (o_pickF rfl rfl Bool.false_ne_true) rfl fun _ _ _ h => ?_
     refine gs h (o_move rfl) rfl fun _ _ _ h => ?_
     refine gk h rfl rfl (nb_f Bool.false_ne_true) rfl fun _ h => ?_
     refine gs h (o_pickF rfl rfl Bool.false_ne_true) rfl fun _ _ _ h => ?_
     refine gs h (o_assign rfl) rfl fun _ _ _ h => ?_
     refine GoR.done ?_
     exact J2 false _ _ (som H).symm (h.wk (by rfl) [0, 3, 13, 14] (by decide) (by rfl))
   ·have H := ifF c3 H
    refine gk h rfl rfl (nb_f c3) rfl fun _ h => ?_
    refine gk h rfl rfl (nb_f c3) rfl fun _ h => ?_
    refine gk h rfl rfl (nb_f c3) rfl fun _ h => ?_
    refine gs h (o_pickF rfl rfl c3) rfl fun _ _ _ h => ?_
    refine gs h (o_move rfl) rfl fun _ _ _ h => ?_
    refine gk h rfl rfl (nb_f Bool.false_ne_true) rfl fun _ h => ?_
    refine gk h rfl rfl (nb_f Bool.false_ne_true) rfl fun _ h => ?_
    refine gk h rfl rfl (nb_f Bool.false_ne_true) rfl fun _ h => ?_
    refine gs h (o_pickF rfl rfl Bool.false_ne_true) rfl fun _ _ _ h => ?_
    refine gs h (o_move rfl) rfl fun _ _ _ h => ?_
    refine gk h rfl rfl (nb_f Bool.false_ne_true) rfl fun _ h => ?_
    refine gk h rfl rfl (nb_f Bool.false_ne_true) rfl fun _ h => ?_
    refine gk h rfl rfl (nb_f Bool.false_ne_true) rfl fun _ h => ?_
    refine gs h (o_pickF rfl rfl Bool.false_ne_true) rfl fun _ _ _ h => ?_
    refine gs h (o_move rfl) rfl fun _ _ _ h => ?_
    refine gk h rfl rfl (nb_f Bool.false_ne_true) rfl fun _ h => ?_
    refine gs h (o_pickF rfl rfl Bool.false_ne_true) rfl fun _ _ _ h => ?_
    refine gs h (o_assign rfl) rfl fun _ _ _ h => ?_
    refine GoR.done ?_
    exact J2 false _ _ (som H).symm (h.wk (by rfl) [0, 3, 13, 14] (by decide) (by rfl))
 refine Go.reg ?_
 refine gs h (o_move rfl) rfl fun _ _ _ h => ?_
 have g1 := (len_at 2 rfl h.mem)
 refine gs h (o_ln rfl (rd_at 2 rfl) t_v22) rfl fun _ _ _ h => ?_
 refine gs h (o_bin rfl rfl rfl) rfl fun _ _ _ h => ?_
 refine gs h (o_move rfl) rfl fun _ _ _ h => ?_
 by_cases c1 : decide (70000 < (a4.length : Int)) = true
 ·have H := ifT c1 H
  refine gk h rfl rfl (nb_t c1) rfl fun _ h => ?_
  refine gk h rfl rfl (nb_t c1) rfl fun _ h => ?_
  refine gk h rfl rfl (nb_t c1) rfl fun _ h => ?_
  refine gk h rfl rfl (nb_t c1) rfl fun _ h => ?_
  refine gs h (o_pickT rfl rfl c1) rfl fun _ _ _ h => ?_
  refine GoR.done ?_
  exact J1 true _ _ (som H).symm (h.wk (by rfl) [2, 0, 3] (by decide) (by rfl))
 ·have H := ifF c1 H
  refine gg h rfl rfl (nbF c1) (o_fa rfl t_f24_2 rfl rfl) rfl fun _ _ _ h => ?_
  refine gg h rfl rfl (nbF c1) (o_lfv 0 rfl rfl sUdp_Data rfl Per_sl t_y22) rfl fun v3 _ _ h => ?_
  have g2 := (len_at 0 rfl h.mem)
  refine gg h rfl rfl (nbF c1) (o_ln rfl (rd_at 0 rfl) t_v22) rfl fun _ _ _ h => ?_
  refine gg h rfl rfl (nbF c1) (o_bin rfl rfl rfl) rfl fun _ _ _ h => ?_
  refine gs h (o_pickF rfl rfl c1) rfl fun _ _ _ h => ?_
  refine GoR.done ?_
  exact J1 (decide (70000 < (a1.Data.length : Int))) _ _ (som H).symm (h.wk (by rfl) [3, 1, 4] (by decide) (by rfl))
def law18_UdpTells.g (k_ : Nat) (a1 : TUdp) (a2 : Int) (a3 : Int) (a4 : List Int) : Option (Bool) :=
  ((if decide (70000 < (a4.length : Int)) = true then some (true) else some (decide (70000 < (a1.Data.length : Int))))).bind (fun j1 => (if j1 = true then (law18_heads.g k_).bind fun r1 => some (r1) else (udp_Put.g k_ a1 a2 a3).bind fun r2 => (ref18_Put.g k_ a1 a2 a3).bind fun r3 => (udp_Get.g k_ a4 a2 a3).bind fun r4 => (ref18_Get.g k_ a4 a2 a3).bind fun r5 => ((ref01_Same.g k_ r2.1 r3.1).bind fun r6 => (if r6 = true then (if decide (r2.2 = r3.2) = true then (ref18_Same.g k_ r4.1 r5.1).bind fun r7 => (if r7 = true then (if decide (r4.2 = r5.2) = true then (law18_heads.g k_).bind fun r8 => some (r8) else some (false)) else some (false)) else some (false)) else some (false))).bind (fun j2 => some (j2))))
theorem law18_UdpTells.le (k_ : Nat) (a1 : TUdp) (a2 : Int) (a3 : Int) (a4 : List Int) : Le (law18_UdpTells.g k_ a1 a2 a3 a4) (law18_UdpTells.f a1 a2 a3 a4) := by
 unfold law18_UdpTells.g law18_UdpTells.f
 repeat' (first | with_reducible refine le_loop fun _ => ?_ | with_reducible refine le_bind ?_ fun _ => ?_ | with_reducible refine le_ite ?_ ?_ | with_reducible refine le_lt fun _ => ?_ | with_reducible refine le_elim (fun _ => ?_) (fun _ => ?_) _ | with_reducible apply law18_heads.le | with_reducible apply ref01_Same.le | with_reducible apply ref18_Get.le | with_reducible apply ref18_Put.le | with_reducible apply ref18_Same.le | with_reducible apply udp_Get.le | with_reducible apply udp_Put.le | with_reducible exact le_refl _)
end Go.Proofs.YtfoffhdckcdjdaaDoor.S
