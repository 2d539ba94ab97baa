/- Contracts, printed by a program of this session. -/
import Derived.Test.YtfoffhdckcdjdaaDoorT2
import Derived.Test.YtfoffhdckcdjdaaDoorT3
namespace Go.Proofs.YtfoffhdckcdjdaaDoor.S
open Go Go.SL Go.RowKit
set_option linter.unusedVariables false
set_option linter.unusedSimpArgs false
/-! drawbridge/udp.Get -/
noncomputable def udp_Get.f (a1 : List Int) (a2 : Int) (a3 : Int) : Option (TUdp × Int) :=
  (udp_get.f a1 a2 a3).bind fun r1 => (udp_errno.f r1.2).bind fun r2 => some ((r1.1, r2))
set_option maxRecDepth 100000 in
set_option maxHeartbeats 4000000 in
theorem udp_Get.spc (v1 : Value) (a1 : List Int) (a2 : Int) (ha2 : InR .u32 a2) (a3 : Int) (ha3 : InR .u32 a3) (r : TUdp × Int) (H : udp_Get.f a1 a2 a3 = some r) : Spc Tryd.prog 9 [v1, .int .u32 a2, .int .u32 a3] [Val (Kd.sl (Kd.int .u8)) v1 a1, Pfl (Kd.eq gv0) 0 0 ()] [] (fun (s : Value) => .tuple #[s, .int .i64 r.2]) (fun s => [Ent.pur (InR .i64 r.2), Val KUdp s r.1]) := by
 unfold udp_Get.f at H
 refine Spc.go Tryd.func9 rfl (by kernel_rfl) rfl rfl (all_cons (Val.per Per_sl) (all_cons Per_pfl all_nil)) fun F a w h => ?_
 refine Go.seq ?_
 refine Go.reg ?_
 refine gs h (o_alloc (K := KUdp) (z := (.agg #[.int .i64 0, .int .i64 0, .slice none 0 0])) rfl ZUdp) rfl fun b1 _ _ h => ?_
 refine gs h (o_assign rfl) rfl fun _ _ _ h => ?_
 refine GoR.done ?_
 refine Go.seq ?_
 refine Go.reg ?_
 refine gs h (o_move rfl) rfl fun _ _ _ h => ?_
 refine gs h (o_move rfl) rfl fun _ _ _ h => ?_
 refine gs h (o_move rfl) rfl fun _ _ _ h => ?_
 obtain ⟨r1, er1, H⟩ := bindE H
 refine gs h (o_call (udp_get.spc v1 a1 a2 ha2 a3 ha3 r1 er1) rfl [1] [] (by decide) rfl rfl) rfl fun s_ _ _ h => ?_
 obtain ⟨v2, v3⟩ := s_
 refine gs h (o_move rfl) rfl fun _ _ _ h => ?_
 refine gs h (o_extract rfl rfl) rfl fun _ _ _ h => ?_
 refine gs h (o_extract rfl rfl) rfl fun _ _ _ h => ?_
 refine gs h (o_alloc (K := KUdp) (z := (.agg #[.int .i64 0, .int .i64 0, .slice none 0 0])) rfl ZUdp) rfl fun b2 _ _ h => ?_
 refine gs0 h (o_st 0 rfl rfl rfl (pv_at PUdp 1 rfl) rfl t_w24) fun _ _ _ h => ?_
 refine gs h (o_assign rfl) rfl fun _ _ _ h => ?_
 refine GoR.done ?_
 refine Go.seq ?_
 replace h := h.wk (E' := [(6, .pointer (some ⟨b1, 0, none⟩)), (7, .int .i64 0), (8, .pointer (some ⟨b2, 0, none⟩)), (9, v3)]) (L' := [Fld KUdp b2 0 r1.1, Val KUdp v2 r1.1, Val (Kd.erp 58 Kfault) v3 r1.2, Fld KUdp b1 0 zUdp, Val (Kd.sl (Kd.int .u8)) v1 a1, Pfl (Kd.eq gv0) 0 0 ()]) (by rfl) [0, 1, 2, 3, 4, 5] (by decide) (by rfl)
 obtain ⟨r2, er2, H⟩ := bindE H
 refine Go.draw (L := [Fld KUdp b2 0 r1.1, Val KUdp v2 r1.1, Val (Kd.erp 58 Kfault) v3 r1.2, Fld KUdp b1 0 zUdp, Val (Kd.sl (Kd.int .u8)) v1 a1, Pfl (Kd.eq gv0) 0 0 ()]) h 3 [⟨[], [], [], false, .own, none, fun u => [Val KUdp u r1.1]⟩, ⟨[], [], [], false, .con (v3), none, fun u => []⟩, ⟨[1], [], [], false, .con (.int .i64 r2), none, fun u => [Ent.pur (InR .i64 r2)]⟩] rfl t_mxo (by kernel_rfl) (by rfl) ?_ fun f1 _ _ h => ?_
 ·exact obs_cons (ob_own rfl (gok_none rfl) rfl fun f1 => (o_ldv 0 rfl rfl PUdp t_y24)) (obs_cons (ob_con rfl (gok_none rfl) rfl fun f1 => (o_move rfl)) (obs_cons (ob_con rfl (gok_none rfl) rfl fun f1 => (o_call (udp_errno.spc v3 r1.2 r2 er2) rfl [2, 5] [] (by decide) rfl rfl)) (obs_nil)))
 replace h := h.wk (E' := [(6, .pointer (some ⟨b1, 0, none⟩)), (7, .int .i64 0), (17, (f1 0)), (19, .int .i64 r2)]) (L' := [Val KUdp (f1 0) r1.1, Ent.pur (InR .i64 r2), Fld KUdp b2 0 r1.1, Val KUdp v2 r1.1, Val (Kd.erp 58 Kfault) v3 r1.2, Fld KUdp b1 0 zUdp, Val (Kd.sl (Kd.int .u8)) v1 a1, Pfl (Kd.eq gv0) 0 0 ()]) (by kernel_rfl) [0, 1, 2, 3, 4, 5, 6, 7] (by decide) (by kernel_rfl)
 refine gs0 h (o_st 5 rfl rfl rfl (pv_at PUdp 0 rfl) rfl t_w24) fun _ _ _ h => ?_
 refine gs h (o_assign rfl) rfl fun _ _ _ h => ?_
 refine GoR.done ?_
 obtain ⟨v5, h, u1⟩ := h.peek 5 rfl PUdp t_y24
 rw [← som H]
 have g1 := (fun m_ => (Mem.pur 2 rfl m_)) h.mem
 exact g_ret (vs := [v5, .int .i64 r2]) h Tryd.func9 ⟨⟨_, rfl, u1⟩, ⟨rfl, trivial⟩⟩ ⟨v5, rfl, ((h.mem.pick [0] (by decide) rfl).addpur g1)⟩
def udp_Get.g (k_ : Nat) (a1 : List Int) (a2 : Int) (a3 : Int) : Option (TUdp × Int) :=
  (udp_get.g k_ a1 a2 a3).bind fun r1 => (udp_errno.g k_ r1.2).bind fun r2 => some ((r1.1, r2))
theorem udp_Get.le (k_ : Nat) (a1 : List Int) (a2 : Int) (a3 : Int) : Le (udp_Get.g k_ a1 a2 a3) (udp_Get.f a1 a2 a3) := by
 unfold udp_Get.g udp_Get.f
 repeat' (first | with_reducible refine le_loop fun _ => ?_ | with_reducible refine le_bind ?_ fun _ => ?_ | with_reducible refine le_ite ?_ ?_ | with_reducible refine le_lt fun _ => ?_ | with_reducible refine le_elim (fun _ => ?_) (fun _ => ?_) _ | with_reducible apply udp_errno.le | with_reducible apply udp_get.le | with_reducible exact le_refl _)
/-! drawbridge/drawbridgelaw18.heads -/
noncomputable def law18_heads.f  : Option (Bool) :=
  (udp_Put.f (⟨53, 1024, []⟩ : TUdp) 1 2).bind fun r1 => (app ([] : List Int) r1.1).bind fun x1 => (app x1 ([7] : List Int)).bind fun x2 => (udp_Get.f x2 1 2).bind fun r2 => (udp_Get.f r1.1 1 3).bind fun r3 => (udp_Put.f (⟨(-1), 0, []⟩ : TUdp) 0 0).bind fun r4 => (cut r1.1 0 (IntKind.i64.wrap (Int.tdiv (r1.1.length : Int) 2))).bind fun x3 => (udp_Get.f x3 1 2).bind fun r5 => ((if decide (r1.2 = 0) = true then (if decide ((r1.1.length : Int) = 8) = true then (if decide (r2.2 = 0) = true then (if decide (r2.1.Src = 53) = true then (if decide (r2.1.Dst = 1024) = true then (if decide (r3.2 = 162) = true then (if decide (r4.2 = 2) = true then lt (decide (r5.2 = 160)) fun y1 => some (y1) else some (false)) else some (false)) else some (false)) else some (false)) else some (false)) else some (false)) else some (false))).bind (fun j1 => some (j1))
set_option maxRecDepth 100000 in
set_option maxHeartbeats 4000000 in
theorem law18_heads.spc  (r : Bool) (H : law18_heads.f  = some r) : Spc Tryd.prog 6 [] [Pfl (Kd.eq gv0) 0 0 ()] [] (fun (s : Unit) => .bool r) (fun s => []) := by
 unfold law18_heads.f at H
 refine Spc.go Tryd.func6 rfl (by kernel_rfl) rfl rfl (all_cons Per_pfl all_nil) fun F a w h => ?_
 refine Go.seq ?_
 refine Go.reg ?_
 refine gs h (o_assign rfl) rfl fun _ _ _ h => ?_
 refine GoR.done ?_
 refine Go.seq ?_
 refine Go.reg ?_
 refine gs h (o_build (K := KUdp) (x := (⟨53, 1024, []⟩ : TUdp)) (ps := [(0, .int .i64 53), (1, .int .i64 1024)]) rfl (zs := zsUdp) rfl t_b24 rfl (show PB (Kd.pair (Kd.int .i64) (Kd.pair (Kd.int .i64) (Kd.last (Kd.sl (Kd.int .u8))))) (53, 1024, []) 0 zsUdp _ _ from (pb_part (pv_int (show InR .i64 53 by decide)) rfl (pb_part (pv_int (show InR .i64 1024 by decide)) rfl (pb_lastz z_sl))))) rfl fun v1 _ _ h => ?_
 obtain ⟨r1, er1, H⟩ := bindE H
 refine gs h (o_call (udp_Put.spc v1 (⟨53, 1024, []⟩ : TUdp) 1 (show InR .u32 1 by decide) 2 (show InR .u32 2 by decide) r1 er1) rfl [0] [] (by decide) rfl rfl) rfl fun v2 _ _ h => ?_
 have g1 := h.mem.pur 0 rfl
 refine gs h (o_move rfl) rfl fun _ _ _ h => ?_
 refine gs h (o_extract rfl rfl) rfl fun _ _ _ h => ?_
 refine gs h (o_extract rfl rfl) rfl fun _ _ _ h => ?_
 refine gs h (o_assign rfl) rfl fun _ _ _ h => ?_
 refine gs h (o_assign rfl) rfl fun _ _ _ h => ?_
 refine GoR.done ?_
 refine Go.seq ?_
 refine Go.reg ?_
 refine gs h (o_bs (K := (Kd.int .u8)) (vs := []) (xs := ([] : List Int)) rfl rfl pvs_nil t_a22 (by decide) (by decide)) rfl fun v3 _ _ h => ?_
 refine gs h (o_move rfl) rfl fun _ _ _ h => ?_
 obtain ⟨x1, ex1, H⟩ := bindE H
 refine gs h (o_app (K := (Kd.int .u8)) 0 rfl rfl rfl (rd_own 2 rfl) ex1 t_a22 t_n22) rfl fun v4 _ _ h => ?_
 refine gs h (o_bs (K := (Kd.int .u8)) (vs := [.int .u8 7]) (xs := ([7] : List Int)) rfl rfl (pvs_cons (pv_int (show InR .u8 7 by decide)) pvs_nil) t_a22 (by decide) (by decide)) rfl fun v5 _ _ h => ?_
 obtain ⟨x2, ex2, H⟩ := bindE H
 refine gs h (o_app (K := (Kd.int .u8)) 1 rfl rfl rfl (rd_own 0 rfl) ex2 t_a22 t_n22) rfl fun v6 _ _ h => ?_
 replace h := h.mm fun m => m.freeze 1 rfl
 obtain ⟨r2, er2, H⟩ := bindE H
 refine gs h (o_call (udp_Get.spc v6 x2 1 (show InR .u32 1 by decide) 2 (show InR .u32 2 by decide) r2 er2) rfl [1, 5] [] (by decide) rfl rfl) rfl fun v7 _ _ h => ?_
 have g2 := h.mem.pur 0 rfl
 refine gs h (o_move rfl) rfl fun _ _ _ h => ?_
 refine gs h (o_extract rfl rfl) rfl fun _ _ _ h => ?_
 refine gs h (o_extract rfl rfl) rfl fun _ _ _ h => ?_
 refine gs h (o_alloc (K := KUdp) (z := (.agg #[.int .i64 0, .int .i64 0, .slice none 0 0])) rfl ZUdp) rfl fun b1 _ _ h => ?_
 refine gs0 h (o_st 0 rfl rfl rfl (pv_at PUdp 2 rfl) rfl t_w24) fun _ _ _ h => ?_
 refine gs h (o_assign rfl) rfl fun _ _ _ h => ?_
 refine GoR.done ?_
 refine Go.seq ?_
 refine Go.reg ?_
 refine gs h (o_move rfl) rfl fun _ _ _ h => ?_
 replace h := h.mm fun m => m.freeze 6 rfl
 obtain ⟨r3, er3, H⟩ := bindE H
 refine gs h (o_call (udp_Get.spc v2 r1.1 1 (show InR .u32 1 by decide) 3 (show InR .u32 3 by decide) r3 er3) rfl [6, 8] [] (by decide) rfl rfl) rfl fun v8 _ _ h => ?_
 have g3 := h.mem.pur 0 rfl
 refine gs h (o_move rfl) rfl fun _ _ _ h => ?_
 refine gs h (o_extract rfl rfl) rfl fun _ _ _ h => ?_
 refine gs h (o_extract rfl rfl) rfl fun _ _ _ h => ?_
 refine gs h (o_alloc (K := KUdp) (z := (.agg #[.int .i64 0, .int .i64 0, .slice none 0 0])) rfl ZUdp) rfl fun b2 _ _ h => ?_
 refine gs0 h (o_st 0 rfl rfl rfl (pv_at PUdp 2 rfl) rfl t_w24) fun _ _ _ h => ?_
 refine gs h (o_assign rfl) rfl fun _ _ _ h => ?_
 refine GoR.done ?_
 refine Go.seq ?_
 refine Go.reg ?_
 refine gs h (o_build (K := KUdp) (x := (⟨(-1), 0, []⟩ : TUdp)) (ps := [(0, .int .i64 (-1))]) rfl (zs := zsUdp) rfl t_b24 rfl (show PB (Kd.pair (Kd.int .i64) (Kd.pair (Kd.int .i64) (Kd.last (Kd.sl (Kd.int .u8))))) ((-1), 0, []) 0 zsUdp _ _ from (pb_part (pv_int (show InR .i64 (-1) by decide)) rfl (pb_zero z_int (pb_lastz z_sl))))) rfl fun v9 _ _ h => ?_
 obtain ⟨r4, er4, H⟩ := bindE H
 refine gs h (o_call (udp_Put.spc v9 (⟨(-1), 0, []⟩ : TUdp) 0 (show InR .u32 0 by decide) 0 (show InR .u32 0 by decide) r4 er4) rfl [0] [] (by decide) rfl rfl) rfl fun v10 _ _ h => ?_
 have g4 := h.mem.pur 0 rfl
 refine gs h (o_move rfl) rfl fun _ _ _ h => ?_
 refine gs h (o_extract rfl rfl) rfl fun _ _ _ h => ?_
 refine gs h (o_extract rfl rfl) rfl fun _ _ _ h => ?_
 refine gs h (o_assign rfl) rfl fun _ _ _ h => ?_
 refine gs h (o_assign rfl) rfl fun _ _ _ h => ?_
 refine GoR.done ?_
 refine Go.seq ?_
 refine Go.reg ?_
 refine gs h (o_move rfl) rfl fun _ _ _ h => ?_
 refine gs h (o_move rfl) rfl fun _ _ _ h => ?_
 have g5 := (len_at 12 rfl h.mem)
 refine gs h (o_ln rfl (rd_at 12 rfl) t_v22) rfl fun _ _ _ h => ?_
 refine gs h (o_quo rfl rfl (show (2 : Int) ≠ 0 by decide)) rfl fun _ _ _ h => ?_
 obtain ⟨x3, ex3, H⟩ := bindE H
 refine gs h (o_cuth rfl (pv_at Per_sl 12 rfl) rfl ex3 t_v22) rfl fun v11 _ _ h => ?_
 obtain ⟨r5, er5, H⟩ := bindE H
 refine gs h (o_call (udp_Get.spc v11 x3 1 (show InR .u32 1 by decide) 2 (show InR .u32 2 by decide) r5 er5) rfl [0, 15] [] (by decide) rfl rfl) rfl fun v12 _ _ h => ?_
 have g6 := h.mem.pur 0 rfl
 refine gs h (o_move rfl) rfl fun _ _ _ h => ?_
 refine gs h (o_extract rfl rfl) rfl fun _ _ _ h => ?_
 refine gs h (o_extract rfl rfl) rfl fun _ _ _ h => ?_
 refine gs h (o_alloc (K := KUdp) (z := (.agg #[.int .i64 0, .int .i64 0, .slice none 0 0])) rfl ZUdp) rfl fun b3 _ _ h => ?_
 refine gs0 h (o_st 0 rfl rfl rfl (pv_at PUdp 2 rfl) rfl t_w24) fun _ _ _ h => ?_
 refine gs h (o_assign rfl) rfl fun _ _ _ h => ?_
 refine GoR.done ?_
 refine Go.seq ?_
 obtain ⟨o1, H, G1⟩ := bindE H
 refine g_cut (fun G => ∀ j1 (a : Act) (w : World), o1 = j1 → St Tryd.f6.ntmps F [(0, .bool j1)] [Fld KUdp b3 0 r5.1, Fld KUdp b2 0 r3.1, Fld KUdp b1 0 r2.1, Pfl (Kd.eq gv0) 0 0 ()] a w → G a w) 1 ?_ fun J1 => ?_
 ·intro j1 a w ho_ h
  rw [ho_] at G1
  have H := G1
  rw [← som H]
  exact g_ret (vs := [.bool j1]) h Tryd.func6 ⟨rfl, trivial⟩ ⟨(), rfl, (h.mem.pick [] (by decide) rfl)⟩
 refine Go.reg ?_
 refine gs h (o_move rfl) rfl fun _ _ _ h => ?_
 refine gs h (o_bin rfl rfl rfl) rfl fun _ _ _ h => ?_
 refine gs h (o_move rfl) rfl fun _ _ _ h => ?_
 by_cases c1 : decide (r1.2 = 0) = true
 ·have H := ifT c1 H
  refine gg h rfl rfl c1 (o_move rfl) rfl fun _ _ _ h => ?_
  have g7 := (len_at 16 rfl h.mem)
  refine gg h rfl rfl c1 (o_ln rfl (rd_at 16 rfl) t_v22) rfl fun _ _ _ h => ?_
  refine gg h rfl rfl c1 (o_bin rfl rfl rfl) rfl fun _ _ _ h => ?_
  refine gs h (o_pickT rfl rfl c1) rfl fun _ _ _ h => ?_
  refine gs h (o_move rfl) rfl fun _ _ _ h => ?_
  by_cases c2 : decide ((r1.1.length : Int) = 8) = true
  ·have H := ifT c2 H
   refine gg h rfl rfl c2 (o_move rfl) rfl fun _ _ _ h => ?_
   refine gg h rfl rfl c2 (o_bin rfl rfl rfl) rfl fun _ _ _ h => ?_
   refine gs h (o_pickT rfl rfl c2) rfl fun _ _ _ h => ?_
   refine gs h (o_move rfl) rfl fun _ _ _ h => ?_
   by_cases c3 : decide (r2.2 = 0) = true
   ·have H := ifT c3 H
    refine gg h rfl rfl c3 (o_fa rfl t_f24_0 rfl rfl) rfl fun _ _ _ h => ?_
    have g8 := (in2 (fd_sub sUdp_Src 10 rfl h.mem))
    refine gg h rfl rfl c3 (o_lfx 10 rfl rfl sUdp_Src rfl X_int t_y3) rfl fun _ _ _ h => ?_
    refine gg h rfl rfl c3 (o_bin rfl rfl rfl) rfl fun _ _ _ h => ?_
    refine gs h (o_pickT rfl rfl c3) rfl fun _ _ _ h => ?_
    refine gs h (o_move rfl) rfl fun _ _ _ h => ?_
    by_cases c4 : decide (r2.1.Src = 53) = true
    ·have H := ifT c4 H
     refine gg h rfl rfl c4 (o_fa rfl t_f24_1 rfl rfl) rfl fun _ _ _ h => ?_
     have g9 := (in2 (fd_sub sUdp_Dst 10 rfl h.mem))
     refine gg h rfl rfl c4 (o_lfx 10 rfl rfl sUdp_Dst rfl X_int t_y3) rfl fun _ _ _ h => ?_
     refine gg h rfl rfl c4 (o_bin rfl rfl rfl) rfl fun _ _ _ h => ?_
     refine gs h (o_pickT rfl rfl c4) rfl fun _ _ _ h => ?_
     refine gs h (o_move rfl) rfl fun _ _ _ h => ?_
     by_cases c5 : decide (r2.1.Dst = 1024) = true
     ·have H := ifT c5 H
      refine gg h rfl rfl c5 (o_move rfl) rfl fun _ _ _ h => ?_
      refine gg h rfl rfl c5 (o_bin rfl rfl rfl) rfl fun _ _ _ h => ?_
      refine gs h (o_pickT rfl rfl c5) rfl fun _ _ _ h => ?_
      refine gs h (o_move rfl) rfl fun _ _ _ h => ?_
      by_cases c6 : decide (r3.2 = 162) = true
      ·have H := ifT c6 H
       refine gg h rfl rfl c6 (o_move rfl) rfl fun _ _ _ h => ?_
       refine gg h rfl rfl c6 (o_bin rfl rfl rfl) rfl fun _ _ _ h => ?_
       refine gs h (o_pickT rfl rfl c6) rfl fun _ _ _ h => ?_
       refine gs h (o_move rfl) rfl fun _ _ _ h => ?_
       by_cases c7 : decide (r4.2 = 2) = true
       ·have H := ifT c7 H
        refine gg h rfl rfl c7 (o_move rfl) rfl fun _ _ _ h => ?_
        refine gg h rfl rfl c7 (o_bin rfl rfl rfl) rfl fun _ _ _ h => ?_
        refine gs h (o_pickT rfl rfl c7) rfl fun _ _ _ h => ?_
        obtain ⟨y1, ey1, H⟩ := ltE H
        refine gs h (o_assign' rfl (congrArg Value.bool ey1)) rfl fun _ _ _ h => ?_
        refine GoR.done ?_
        exact J1 y1 _ _ (som H).symm (h.wk (by rfl) [0, 7, 10, 18] (by decide) (by rfl))
       ·have H := ifF c7 H
        refine gk h rfl rfl (nb_f c7) rfl fun _ h => ?_
        refine gk h rfl rfl (nb_f c7) rfl fun _ h => ?_
        refine gs h (o_pickF rfl rfl c7) rfl fun _ _ _ h => ?_
        refine gs h (o_assign rfl) rfl fun _ _ _ h => ?_
        refine GoR.done ?_
        exact J1 false _ _ (som H).symm (h.wk (by rfl) [0, 7, 10, 18] (by decide) (by rfl))
      ·have H := ifF c6 H
       refine gk h rfl rfl (nb_f c6) rfl fun _ h => ?_
       refine gk h rfl rfl (nb_f c6) rfl fun _ h => ?_
       refine gs h (o_pickF rfl rfl c6) rfl fun _ _ _ h => ?_
       refine gs h (o_move rfl) rfl fun _ _ _ h => ?_
       refine gk h rfl rfl (nb_f Bool.false_ne_true) rfl fun _ h => ?_
       refine gk h rfl rfl (nb_f Bool.false_ne_true) rfl fun _ h => ?_
       refine gs h (o_pickF rfl rfl Bool.false_ne_true) rfl fun _ _ _ h => ?_
       refine gs h (o_assign rfl) rfl fun _ _ _ h => ?_
       refine GoR.done ?_
       exact J1 false _ _ (som H).symm (h.wk (by rfl) [0, 7, 10, 18] (by decide) (by rfl))
     ·have H := ifF c5 H
      refine gk h rfl rfl (nb_f c5) rfl fun _ h => ?_
      refine gk h rfl rfl (nb_f c5) rfl fun _ h => ?_
      refine gs h (o_pickF rfl rfl c5) rfl fun _ _ _ h => ?_
      refine gs h (o_move rfl) rfl fun _ _ _ h => ?_
      refine gk h rfl rfl (nb_f Bool.false_ne_true) rfl fun _ h => ?_
      refine gk h rfl rfl (nb_f Bool.false_ne_true) rfl fun _ h => ?_
      refine gs h (o_pickF rfl rfl Bool.false_ne_true) rfl fun _ _ _ h => ?_
      refine gs h (o_move rfl) rfl fun _ _ _ h => ?_
      refine gk h rfl rfl (nb_f Bool.false_ne_true) rfl fun _ h => ?_
      refine gk h rfl rfl (nb_f Bool.false_ne_true) rfl fun _ h => ?_
      refine gs h (o_pickF rfl rfl Bool.false_ne_true) rfl fun _ _ _ h => ?_
      refine gs h (o_assign rfl) rfl fun _ _ _ h => ?_
      refine GoR.done ?_
      exact J1 false _ _ (som H).symm (h.wk (by rfl) [0, 7, 10, 18] (by decide) (by rfl))
    ·have H := ifF c4 H
     refine gk h rfl rfl (nb_f c4) rfl fun _ h => ?_
     refine gk h rfl rfl (nb_f c4) rfl fun _ h => ?_
     refine gk h rfl rfl (nb_f c4) rfl fun _ h => ?_
     refine gs h (o_pickF rfl rfl c4) rfl fun _ _ _ h => ?_
     refine gs h (o_move rfl) rfl fun _ _ _ h => ?_
     refine gk h rfl rfl (nb_f Bool.false_ne_true) rfl fun _ h => ?_
     refine gk h rfl rfl (nb_f Bool.false_ne_true) rfl fun _ h => ?_
     refine gs h (o_pickF rfl rfl Bool.false_ne_true) rfl fun _ _ _ h => ?_
     refine gs h (o_move rfl) rfl fun _ _ _ h => ?_
     refine gk h rfl rfl (nb_f Bool.false_ne_true) rfl fun _ h => ?_
     refine gk h rfl rfl (nb_f Bool.false_ne_true) rfl fun _ h => ?_
     refine gs h (o_pickF rfl rfl Bool.false_ne_true) rfl fun _ _ _ h => ?_
     refine gs h (o_move rfl) rfl fun _ _ _ h => ?_
     refine gk h rfl rfl (nb_f Bool.false_ne_true) rfl fun _ h => ?_
     refine gk h rfl rfl (nb_f Bool.false_ne_true) rfl fun _ h => ?_
     refine gs h (o_pickF rfl rfl Bool.false_ne_true) rfl fun _ _ _ h => ?_
     refine gs h (o_assign rfl) rfl fun _ _ _ h => ?_
     refine GoR.done ?_
     exact J1 false _ _ (som H).symm (h.wk (by rfl) [0, 7, 10, 18] (by decide) (by rfl))
   ·have H := ifF c3 H
    refine gk h rfl rfl (nb_f c3) rfl fun _ h => ?_
    refine gk h rfl rfl (nb_f c3) rfl fun _ h => ?_
    refine gk h rfl rfl (nb_f c3) rfl fun _ h => ?_
    refine gs h (o_pickF rfl rfl c3) rfl fun _ _ _ h => ?_
    refine gs h (o_move rfl) rfl fun _ _ _ h => ?_
    refine gk h rfl rfl (nb_f Bool.false_ne_true) rfl fun _ h => ?_
    refine gk h rfl rfl (nb_f Bool.false_ne_true) rfl fun _ h => ?_
    refine gk h rfl rfl (nb_f Bool.false_ne_true) rfl fun _ h => ?_
    refine gs h (o_pickF rfl rfl Bool.false_ne_true) rfl fun _ _ _ h => ?_
    refine gs h (o_move rfl) rfl fun _ _ _ h => ?_
    refine gk h rfl rfl (nb_f Bool.false_ne_true) rfl fun _ h => ?_
    refine gk h rfl rfl (nb_f Bool.false_ne_true) rfl fun _ h => ?_
    refine gs h (o_pickF rfl rfl Bool.false_ne_true) rfl fun _ _ _ h => ?_
    refine gs h (o_move rfl) rfl fun _ _ _ h => ?_
    refine gk h rfl rfl (nb_f Bool.false_ne_true) rfl fun _ h => ?_
    refine gk h rfl rfl (nb_f Bool.false_ne_true) rfl fun _ h => ?_
    refine gs h (o_pickF rfl rfl Bool.false_ne_true) rfl fun _ _ _ h => ?_
    refine gs h (o_move rfl) rfl fun _ _ _ h => ?_
    refine gk h rfl rfl (nb_f Bool.false_ne_true) rfl fun _ h => ?_
    refine gk h rfl rfl (nb_f Bool.false_ne_true) rfl fun _ h => ?_
    refine gs h (o_pickF rfl rfl Bool.false_ne_true) rfl fun _ _ _ h => ?_
    refine gs h (o_assign rfl) rfl fun _ _ _ h => ?_
    refine GoR.done ?_
    exact J1 false _ _ (som H).symm (h.wk (by rfl) [0, 7, 10, 18] (by decide) (by rfl))
  ·have H := ifF c2 H
   refine gk h rfl rfl (nb_f c2) rfl fun _ h => ?_
   refine gk h rfl rfl (nb_f c2) rfl fun _ h => ?_
   refine gs h (o_pickF rfl rfl c2) rfl fun _ _ _ h => ?_
   refine gs h (o_move rfl) rfl fun _ _ _ h => ?_
   refine gk h rfl rfl (nb_f Bool.false_ne_true) rfl fun _ h => ?_
   refine gk h rfl rfl (nb_f Bool.false_ne_true) rfl fun _ h => ?_
   refine gk h rfl rfl (nb_f Bool.false_ne_true) rfl fun _ h => ?_
   refine gs h (o_pickF rfl rfl Bool.false_ne_true) rfl fun _ _ _ h => ?_
   refine gs h (o_move rfl) rfl fun _ _ _ h => ?_
   refine gk h rfl rfl (nb_f Bool.false_ne_true) rfl fun _ h => ?_
   refine gk h rfl rfl (nb_f Bool.false_ne_true) rfl fun _ h => ?_
   refine gk h rfl rfl (nb_f Bool.false_ne_true) rfl fun _ h => ?_
   refine gs h (o_pickF rfl rfl Bool.false_ne_true) rfl fun _ _ _ h => ?_
   refine gs h (o_move rfl) rfl fun _ _ _ h => ?_
   refine gk h rfl rfl (nb_f Bool.false_ne_true) rfl fun _ h => ?_
   refine gk h rfl rfl (nb_f Bool.false_ne_true) rfl fun _ h => ?_
   refine gs h (o_pickF rfl rfl Bool.false_ne_true) rfl fun _ _ _ h => ?_
   refine gs h (o_move rfl) rfl fun _ _ _ h => ?_
   refine gk h rfl rfl (nb_f Bool.false_ne_true) rfl fun _ h => ?_
   refine gk h rfl rfl (nb_f Bool.false_ne_true) rfl fun _ h => ?_
   refine gs h (o_pickF rfl rfl Bool.false_ne_true) rfl fun _ _ _ h => ?_
   refine gs h (o_move rfl) rfl fun _ _ _ h => ?_
   refine gk h rfl rfl (nb_f Bool.false_ne_true) rfl fun _ h => ?_
   refine gk h rfl rfl (nb_f Bool.false_ne_true) rfl fun _ h => ?_
   refine gs h (o_pickF rfl rfl Bool.false_ne_true) rfl fun _ _ _ h => ?_
   refine gs h (o_assign rfl) rfl fun _ _ _ h => ?_
   refine GoR.done ?_
   exact J1 false _ _ (som H).symm (h.wk (by rfl) [0, 7, 10, 18] (by decide) (by rfl))
 ·have H := ifF c1 H
  refine gk h rfl rfl (nb_f c1) rfl fun _ h => ?_
  refine gk h rfl rfl (nb_f c1) rfl fun _ h => ?_
  refine gk h rfl rfl (nb_f c1) rfl fun _ h => ?_
  refine gs h (o_pickF rfl rfl c1) rfl fun _ _ _ h => ?_
  refine gs h (o_move rfl) rfl fun _ _ _ h => ?_
  refine gk h rfl rfl (nb_f Bool.false_ne_true) rfl fun _ h => ?_
  refine gk h rfl rfl (nb_f Bool.false_ne_true) rfl fun _ h => ?_
  refine gs h (o_pickF rfl rfl Bool.false_ne_true) rfl fun _ _ _ h => ?_
  refine gs h (o_move rfl) rfl fun _ _ _ h => ?_
  refine gk h rfl rfl (nb_f Bool.false_ne_true) rfl fun _ h => ?_
  refine gk h rfl rfl (nb_f Bool.false_ne_true) rfl fun _ h => ?_
  refine gk h rfl rfl (nb_f Bool.false_ne_true) rfl fun _ h => ?_
  refine gs h (o_pickF rfl rfl Bool.false_ne_true) rfl fun _ _ _ h => ?_
  refine gs h (o_move rfl) rfl fun _ _ _ h => ?_
  refine gk h rfl rfl (nb_f Bool.false_ne_true) rfl fun _ h => ?_
  refine gk h rfl rfl (nb_f Bool.false_ne_true) rfl fun _ h => ?_
  refine gk h rfl rfl (nb_f Bool.false_ne_true) rfl fun _ h => ?_
  refine gs h (o_pickF rfl rfl Bool.false_ne_true) rfl fun _ _ _ h => ?_
  refine gs h (o_move rfl) rfl fun _ _ _ h => ?_
  refine gk h rfl rfl (nb_f Bool.false_ne_true) rfl fun _ h => ?_
  refine gk h rfl rfl (nb_f Bool.false_ne_true) rfl fun _ h => ?_
  refine gs h (o_pickF rfl rfl Bool.false_ne_true) rfl fun _ _ _ h => ?_
  refine gs h (o_move rfl) rfl fun _ _ _ h => ?_
  refine gk h rfl rfl (nb_f Bool.false_ne_true) rfl fun _ h => ?_
  refine gk h rfl rfl (nb_f Bool.false_ne_true) rfl fun _ h => ?_
  refine gs h (o_pickF rfl rfl Bool.false_ne_true) rfl fun _ _ _ h => ?_
  refine gs h (o_move rfl) rfl fun _ _ _ h => ?_
  refine gk h rfl rfl (nb_f Bool.false_ne_true) rfl fun _ h => ?_
  refine gk h rfl rfl (nb_f Bool.false_ne_true) rfl fun _ h => ?_
  refine gs h (o_pickF rfl rfl Bool.false_ne_true) rfl fun _ _ _ h => ?_
  refine gs h (o_assign rfl) rfl fun _ _ _ h => ?_
  refine GoR.done ?_
  exact J1 false _ _ (som H).symm (h.wk (by rfl) [0, 7, 10, 18] (by decide) (by rfl))
def law18_heads.g (k_ : Nat)  : Option (Bool) :=
  (udp_Put.g k_ (⟨53, 1024, []⟩ : TUdp) 1 2).bind fun r1 => (app ([] : List Int) r1.1).bind fun x1 => (app x1 ([7] : List Int)).bind fun x2 => (udp_Get.g k_ x2 1 2).bind fun r2 => (udp_Get.g k_ r1.1 1 3).bind fun r3 => (udp_Put.g k_ (⟨(-1), 0, []⟩ : TUdp) 0 0).bind fun r4 => (cut r1.1 0 (IntKind.i64.wrap (Int.tdiv (r1.1.length : Int) 2))).bind fun x3 => (udp_Get.g k_ x3 1 2).bind fun r5 => ((if decide (r1.2 = 0) = true then (if decide ((r1.1.length : Int) = 8) = true then (if decide (r2.2 = 0) = true then (if decide (r2.1.Src = 53) = true then (if decide (r2.1.Dst = 1024) = true then (if decide (r3.2 = 162) = true then (if decide (r4.2 = 2) = true then lt (decide (r5.2 = 160)) fun y1 => some (y1) else some (false)) else some (false)) else some (false)) else some (false)) else some (false)) else some (false)) else some (false))).bind (fun j1 => some (j1))
theorem law18_heads.le (k_ : Nat)  : Le (law18_heads.g k_ ) (law18_heads.f ) := by
 unfold law18_heads.g law18_heads.f
 repeat' (first | with_reducible refine le_loop fun _ => ?_ | with_reducible refine le_bind ?_ fun _ => ?_ | with_reducible refine le_ite ?_ ?_ | with_reducible refine le_lt fun _ => ?_ | with_reducible refine le_elim (fun _ => ?_) (fun _ => ?_) _ | with_reducible apply udp_Get.le | with_reducible apply udp_Put.le | with_reducible exact le_refl _)
/-! drawbridge/drawbridgelaw18.UdpTurned -/
noncomputable def law18_UdpTurned.f (a1 : TUdp) (a2 : Int) (a3 : Int) (a4 : Int) : Option (Bool) :=
  ((if decide (3000 < (a1.Data.length : Int)) = true then some (true) else some (decide ((a1.Data.length : Int) = 0)))).bind (fun j1 => (if j1 = true then (law18_heads.f).bind fun r1 => some (r1) else (udp_Put.f a1 a2 a3).bind fun r2 => (if (!decide (r2.2 = 0)) = true then (law18_heads.f).bind fun r3 => some (r3) else (udp_Get.f r2.1 a3 a2).bind fun r4 => (app ([] : List Int) r2.1).bind fun x1 => if (IntKind.u64.wrap (IntKind.i64.wrap (8 * (a1.Data.length : Int)))) ≠ 0 then (lt (IntKind.i64.wrap (Int.tmod (IntKind.u64.wrap a4) (IntKind.u64.wrap (IntKind.i64.wrap (8 * (a1.Data.length : Int)))))) fun y1 => (if (!decide ((x1.length : Int) = (IntKind.i64.wrap (8 + (a1.Data.length : Int))))) = true then some (false) else (idx x1 (IntKind.i64.wrap (8 + (IntKind.i64.wrap (Int.tdiv y1 8))))).bind fun x2 => if 0 ≤ (IntKind.u64.wrap (Int.tmod y1 8)) then ((idx x1 (IntKind.i64.wrap (8 + (IntKind.i64.wrap (Int.tdiv y1 8))))).bind fun x3 => lt (x1.set (IntKind.i64.wrap (8 + (IntKind.i64.wrap (Int.tdiv y1 8)))).toNat (bits .xor .u8 x2 (ishl .u8 1 (IntKind.u64.wrap (Int.tmod y1 8))))) fun y2 => (udp_Get.f y2 a2 a3).bind fun r5 => ((if decide (r4.2 = 0) = true then (if decide (r5.2 = 162) = true then (law18_heads.f).bind fun r6 => some (r6) else some (false)) else some (false))).bind (fun j2 => some (j2))) else none)) else none)))
set_option maxRecDepth 100000 in
set_option maxHeartbeats 4000000 in
theorem law18_UdpTurned.spc (v1 : Value) (a1 : TUdp) (a2 : Int) (ha2 : InR .u32 a2) (a3 : Int) (ha3 : InR .u32 a3) (a4 : Int) (ha4 : InR .i64 a4) (r : Bool) (H : law18_UdpTurned.f a1 a2 a3 a4 = some r) : Spc Tryd.prog 5 [v1, .int .u32 a2, .int .u32 a3, .int .i64 a4] [Val KUdp v1 a1, Pfl (Kd.eq gv0) 0 0 ()] [] (fun (s : Unit) => .bool r) (fun s => []) := by
 unfold law18_UdpTurned.f at H
 refine Spc.go Tryd.func5 rfl (by kernel_rfl) rfl rfl (all_cons (Val.per PUdp) (all_cons Per_pfl all_nil)) fun F a w h => ?_
 refine Go.seq ?_
 refine Go.reg ?_
 refine gs h (o_box (K := KUdp) rfl (pv_at PUdp 0 rfl)) rfl fun b1 _ _ h => ?_
 refine gs h (o_assign rfl) rfl fun _ _ _ h => ?_
 refine GoR.done ?_
 refine Go.seq ?_
 refine Go.seq ?_
 obtain ⟨o1, H, G1⟩ := bindE H
 refine g_cut (fun G => ∀ j1 (a : Act) (w : World), o1 = j1 → St Tryd.f5.ntmps F [(1, .int .u32 a2), (2, .int .u32 a3), (3, .int .i64 a4), (4, .pointer (some ⟨b1, 0, none⟩)), (26, .bool j1)] [Fld KUdp b1 0 a1, Pfl (Kd.eq gv0) 0 0 ()] a w → G a w) 1 ?_ fun J1 => ?_
 ·intro j1 a w ho_ h
  rw [ho_] at G1
  have H := G1
  by_cases c2 : j1 = true
  ·have H := ifT c2 H
   refine g_t h rfl c2 ?_
   refine Go.seq ?_
   refine Go.reg ?_
   obtain ⟨r1, er1, H⟩ := bindE H
   refine gs h (o_call (law18_heads.spc  r1 er1) rfl [1] [] (by decide) rfl rfl) rfl fun _ _ _ h => ?_
   refine gs h (o_assign rfl) rfl fun _ _ _ h => ?_
   refine GoR.done ?_
   rw [← som H]
   exact g_ret (vs := [.bool r1]) h Tryd.func5 ⟨rfl, trivial⟩ ⟨(), rfl, (h.mem.pick [] (by decide) rfl)⟩
  ·have H := ifF c2 H
   refine g_f h rfl c2 ?_
   refine Go.skip ?_
   refine Go.seq ?_
   refine Go.reg ?_
   refine gs h (o_ldv 0 rfl rfl PUdp t_y24) rfl fun v4 _ _ h => ?_
   refine gs h (o_move rfl) rfl fun _ _ _ h => ?_
   refine gs h (o_move rfl) rfl fun _ _ _ h => ?_
   obtain ⟨r2, er2, H⟩ := bindE H
   refine gs h (o_call (udp_Put.spc v4 a1 a2 ha2 a3 ha3 r2 er2) rfl [0] [] (by decide) rfl rfl) rfl fun v5 _ _ h => ?_
   have g3 := h.mem.pur 0 rfl
   refine gs h (o_move rfl) rfl fun _ _ _ h => ?_
   refine gs h (o_extract rfl rfl) rfl fun _ _ _ h => ?_
   refine gs h (o_extract rfl rfl) rfl fun _ _ _ h => ?_
   refine gs h (o_assign rfl) rfl fun _ _ _ h => ?_
   refine gs h (o_assign rfl) rfl fun _ _ _ h => ?_
   refine GoR.done ?_
   refine Go.seq ?_
   refine Go.seq ?_
   refine Go.reg ?_
   refine gs h (o_move rfl) rfl fun _ _ _ h => ?_
   refine gs h (o_bin rfl rfl rfl) rfl fun _ _ _ h => ?_
   refine GoR.done ?_
   by_cases c3 : (!decide (r2.2 = 0)) = true
   ·have H := ifT c3 H
    refine g_t h rfl c3 ?_
    refine Go.seq ?_
    refine Go.reg ?_
    obtain ⟨r3, er3, H⟩ := bindE H
    refine gs h (o_call (law18_heads.spc  r3 er3) rfl [4] [] (by decide) rfl rfl) rfl fun _ _ _ h => ?_
    refine gs h (o_assign rfl) rfl fun _ _ _ h => ?_
    refine GoR.done ?_
    rw [← som H]
    exact g_ret (vs := [.bool r3]) h Tryd.func5 ⟨rfl, trivial⟩ ⟨(), rfl, (h.mem.pick [] (by decide) rfl)⟩
   ·have H := ifF c3 H
    refine g_f h rfl c3 ?_
    refine Go.skip ?_
    refine Go.seq ?_
    refine Go.reg ?_
    refine gs h (o_move rfl) rfl fun _ _ _ h => ?_
    refine gs h (o_move rfl) rfl fun _ _ _ h => ?_
    refine gs h (o_move rfl) rfl fun _ _ _ h => ?_
    replace h := h.mm fun m => m.freeze 1 rfl
    obtain ⟨r4, er4, H⟩ := bindE H
    refine gs h (o_call (udp_Get.spc v5 r2.1 a3 ha3 a2 ha2 r4 er4) rfl [1, 4] [] (by decide) rfl rfl) rfl fun v6 _ _ h => ?_
    have g4 := h.mem.pur 0 rfl
    refine gs h (o_move rfl) rfl fun _ _ _ h => ?_
    refine gs h (o_extract rfl rfl) rfl fun _ _ _ h => ?_
    refine gs h (o_extract rfl rfl) rfl fun _ _ _ h => ?_
    refine gs h (o_alloc (K := KUdp) (z := (.agg #[.int .i64 0, .int .i64 0, .slice none 0 0])) rfl ZUdp) rfl fun b2 _ _ h => ?_
    refine gs0 h (o_st 0 rfl rfl rfl (pv_at PUdp 2 rfl) rfl t_w24) fun _ _ _ h => ?_
    refine gs h (o_assign rfl) rfl fun _ _ _ h => ?_
    refine GoR.done ?_
    refine Go.seq ?_
    refine Go.reg ?_
    refine gs h (o_bs (K := (Kd.int .u8)) (vs := []) (xs := ([] : List Int)) rfl rfl pvs_nil t_a22 (by decide) (by decide)) rfl fun v7 _ _ h => ?_
    refine gs h (o_move rfl) rfl fun _ _ _ h => ?_
    obtain ⟨x1, ex1, H⟩ := bindE H
    refine gs h (o_app (K := (Kd.int .u8)) 0 rfl rfl rfl (rd_at 5 rfl) ex1 t_a22 t_n22) rfl fun v8 _ _ h => ?_
    refine gs h (o_assign rfl) rfl fun _ _ _ h => ?_
    refine GoR.done ?_
    refine Go.seq ?_
    refine Go.reg ?_
    refine gs h (o_move rfl) rfl fun _ _ _ h => ?_
    refine gs h (o_conv rfl t_q3 t_u39) rfl fun _ _ _ h => ?_
    refine gs h (o_fa rfl t_f24_2 rfl rfl) rfl fun _ _ _ h => ?_
    refine gs h (o_lfv 7 rfl rfl sUdp_Data rfl Per_sl t_y22) rfl fun v9 _ _ h => ?_
    have g5 := (len_at 0 rfl h.mem)
    refine gs h (o_ln rfl (rd_at 0 rfl) t_v22) rfl fun _ _ _ h => ?_
    refine gs h (o_bin rfl rfl rfl) rfl fun _ _ _ h => ?_
    refine gs h (o_conv rfl t_q3 t_u39) rfl fun _ _ _ h => ?_
    obtain ⟨q1, H⟩ := ifS H
    refine gs h (o_rem rfl rfl q1) rfl fun _ _ _ h => ?_
    refine gs h (o_conv rfl t_q39 t_u3) rfl fun _ _ _ h => ?_
    obtain ⟨y1, ey1, H⟩ := ltE H
    refine gs h (o_assign' rfl (congrArg (fun z => Value.int .i64 z) ey1)) rfl fun _ _ _ h => ?_
    refine GoR.done ?_
    refine Go.seq ?_
    refine Go.seq ?_
    refine Go.reg ?_
    refine gs h (o_move rfl) rfl fun _ _ _ h => ?_
    have g6 := (len_own 1 rfl h.mem)
    refine gs h (o_ln rfl (rd_own 1 rfl) t_v22) rfl fun _ _ _ h => ?_
    refine gs h (o_fa rfl t_f24_2 rfl rfl) rfl fun _ _ _ h => ?_
    refine gs h (o_lfv 8 rfl rfl sUdp_Data rfl Per_sl t_y22) rfl fun v10 _ _ h => ?_
    have g7 := (len_at 0 rfl h.mem)
    refine gs h (o_ln rfl (rd_at 0 rfl) t_v22) rfl fun _ _ _ h => ?_
    refine gs h (o_bin rfl rfl rfl) rfl fun _ _ _ h => ?_
    refine gs h (o_bin rfl rfl rfl) rfl fun _ _ _ h => ?_
    refine GoR.done ?_
    by_cases c4 : (!decide ((x1.length : Int) = (IntKind.i64.wrap (8 + (a1.Data.length : Int))))) = true
    ·have H := ifT c4 H
     refine g_t h rfl c4 ?_
     refine Go.seq ?_
     refine Go.reg ?_
     refine gs h (o_assign rfl) rfl fun _ _ _ h => ?_
     refine GoR.done ?_
     rw [← som H]
     exact g_ret (vs := [.bool false]) h Tryd.func5 ⟨rfl, trivial⟩ ⟨(), rfl, (h.mem.pick [] (by decide) rfl)⟩
    ·have H := ifF c4 H
     refine g_f h rfl c4 ?_
     refine Go.skip ?_
     refine Go.seq ?_
     refine Go.reg ?_
     refine gs h (o_move rfl) rfl fun _ _ _ h => ?_
     refine gs h (o_move rfl) rfl fun _ _ _ h => ?_
     refine gs h (o_quo rfl rfl (show (8 : Int) ≠ 0 by decide)) rfl fun _ _ _ h => ?_
     refine gs h (o_bin rfl rfl rfl) rfl fun _ _ _ h => ?_
     refine gs h (o_move rfl) rfl fun _ _ _ h => ?_
     refine gs h (o_move rfl) rfl fun _ _ _ h => ?_
     refine gs h (o_quo rfl rfl (show (8 : Int) ≠ 0 by decide)) rfl fun _ _ _ h => ?_
     refine gs h (o_bin rfl rfl rfl) rfl fun _ _ _ h => ?_
     obtain ⟨x2, ex2, H⟩ := bindE H
     refine gs h (o_ix rfl rfl (rd_own 2 rfl) ex2 t_v22) rfl fun _ _ _ h => ?_
     have g8 := (rd_inr (rd_own 2 rfl) ex2 h.mem)
     refine gs h (o_lex rfl (rd_own 2 rfl) ex2 X_int t_y5 (by decide)) rfl fun _ _ _ h => ?_
     refine gs h (o_move rfl) rfl fun _ _ _ h => ?_
     refine gs h (o_rem rfl rfl (show (8 : Int) ≠ 0 by decide)) rfl fun _ _ _ h => ?_
     refine gs h (o_conv rfl t_q3 t_u39) rfl fun _ _ _ h => ?_
     obtain ⟨q2, H⟩ := ifS H
     refine gs h (o_shl rfl rfl q2) rfl fun _ _ _ h => ?_
     refine gs h (o_bin rfl rfl rfl) rfl fun _ _ _ h => ?_
     obtain ⟨x3, ex3, H⟩ := bindE H
     refine gs h (o_ix rfl rfl (rd_own 2 rfl) ex3 t_v22) rfl fun _ _ _ h => ?_
     obtain ⟨y2, ey2, H⟩ := ltE H
     refine gs0 h (o_ste 2 rfl rfl rfl (pv_int (wrap_in _ _)) ex3 t_w5 (by decide)) fun _ _ _ h => ?_
     rw [ey2] at h
     refine GoR.done ?_
     refine Go.seq ?_
     refine Go.reg ?_
     refine gs h (o_move rfl) rfl fun _ _ _ h => ?_
     refine gs h (o_move rfl) rfl fun _ _ _ h => ?_
     refine gs h (o_move rfl) rfl fun _ _ _ h => ?_
     replace h := h.mm fun m => m.freeze 2 rfl
     obtain ⟨r5, er5, H⟩ := bindE H
     refine gs h (o_call (udp_Get.spc v8 y2 a2 ha2 a3 ha3 r5 er5) rfl [2, 10] [] (by decide) rfl rfl) rfl fun v11 _ _ h => ?_
     have g9 := h.mem.pur 0 rfl
     refine gs h (o_move rfl) rfl fun _ _ _ h => ?_
     refine gs h (o_extract rfl rfl) rfl fun _ _ _ h => ?_
     refine gs h (o_extract rfl rfl) rfl fun _ _ _ h => ?_
     refine gs h (o_alloc (K := KUdp) (z := (.agg #[.int .i64 0, .int .i64 0, .slice none 0 0])) rfl ZUdp) rfl fun b3 _ _ h => ?_
     refine gs0 h (o_st 0 rfl rfl rfl (pv_at PUdp 2 rfl) rfl t_w24) fun _ _ _ h => ?_
     refine gs h (o_assign rfl) rfl fun _ _ _ h => ?_
     refine GoR.done ?_
     refine Go.seq ?_
     obtain ⟨o2, H, G2⟩ := bindE H
     refine g_cut (fun G => ∀ j2 (a : Act) (w : World), o2 = j2 → St Tryd.f5.ntmps F [(8, .bool j2)] [Fld KUdp b3 0 r5.1, Fld KUdp b2 0 r4.1, Fld KUdp b1 0 a1, Pfl (Kd.eq gv0) 0 0 ()] a w → G a w) 1 ?_ fun J2 => ?_
     ·intro j2 a w ho_ h
      rw [ho_] at G2
      have H := G2
      rw [← som H]
      exact g_ret (vs := [.bool j2]) h Tryd.func5 ⟨rfl, trivial⟩ ⟨(), rfl, (h.mem.pick [] (by decide) rfl)⟩
     refine Go.reg ?_
     refine gs h (o_move rfl) rfl fun _ _ _ h => ?_
     refine gs h (o_bin rfl rfl rfl) rfl fun _ _ _ h => ?_
     refine gs h (o_move rfl) rfl fun _ _ _ h => ?_
     by_cases c5 : decide (r4.2 = 0) = true
     ·have H := ifT c5 H
      refine gg h rfl rfl c5 (o_move rfl) rfl fun _ _ _ h => ?_
      refine gg h rfl rfl c5 (o_bin rfl rfl rfl) rfl fun _ _ _ h => ?_
      refine gs h (o_pickT rfl rfl c5) rfl fun _ _ _ h => ?_
      refine gs h (o_move rfl) rfl fun _ _ _ h => ?_
      by_cases c6 : decide (r5.2 = 162) = true
      ·have H := ifT c6 H
       obtain ⟨r6, er6, H⟩ := bindE H
       refine gg h rfl rfl c6 (o_call (law18_heads.spc  r6 er6) rfl [13] [] (by decide) rfl rfl) rfl fun _ _ _ h => ?_
       refine gs h (o_pickT rfl rfl c6) rfl fun _ _ _ h => ?_
       refine gs h (o_assign rfl) rfl fun _ _ _ h => ?_
       refine GoR.done ?_
       exact J2 r6 _ _ (som H).symm (h.wk (by rfl) [0, 6, 12, 13] (by decide) (by rfl))
      ·have H := ifF c6 H
       refine gk h rfl rfl (nb_f c6) rfl fun _ h => ?_
       refine gs h (o_pickF rfl rfl c6) rfl fun _ _ _ h => ?_
       refine gs h (o_assign rfl) rfl fun _ _ _ h => ?_
       refine GoR.done ?_
       exact J2 false _ _ (som H).symm (h.wk (by rfl) [0, 6, 12, 13] (by decide) (by rfl))
     ·have H := ifF c5 H
      refine gk h rfl rfl (nb_f c5) rfl fun _ h => ?_
      refine gk h rfl rfl (nb_f c5) rfl fun _ h => ?_
      refine gs h (o_pickF rfl rfl c5) rfl fun _ _ _ h => ?_
      refine gs h (o_move rfl) rfl fun _ _ _ h => ?_
      refine gk h rfl rfl (nb_f Bool.false_ne_true) rfl fun _ h => ?_
      refine gs h (o_pickF rfl rfl Bool.false_ne_true) rfl fun _ _ _ h => ?_
      refine gs h (o_assign rfl) rfl fun _ _ _ h => ?_
      refine GoR.done ?_
      exact J2 false _ _ (som H).symm (h.wk (by rfl) [0, 6, 12, 13] (by decide) (by rfl))
 refine Go.reg ?_
 refine gs h (o_fa rfl t_f24_2 rfl rfl) rfl fun _ _ _ h => ?_
 refine gs h (o_lfv 0 rfl rfl sUdp_Data rfl Per_sl t_y22) rfl fun v2 _ _ h => ?_
 have g1 := (len_at 0 rfl h.mem)
 refine gs h (o_ln rfl (rd_at 0 rfl) t_v22) rfl fun _ _ _ h => ?_
 refine gs h (o_bin rfl rfl rfl) rfl fun _ _ _ h => ?_
 refine gs h (o_move rfl) rfl fun _ _ _ h => ?_
 by_cases c1 : decide (3000 < (a1.Data.length : Int)) = true
 ·have H := ifT c1 H
  refine gk h rfl rfl (nb_t c1) rfl fun _ h => ?_
  refine gk h rfl rfl (nb_t c1) rfl fun _ h => ?_
  refine gk h rfl rfl (nb_t c1) rfl fun _ h => ?_
  refine gk h rfl rfl (nb_t c1) rfl fun _ h => ?_
  refine gs h (o_pickT rfl rfl c1) rfl fun _ _ _ h => ?_
  refine GoR.done ?_
  exact J1 true _ _ (som H).symm (h.wk (by rfl) [1, 3] (by decide) (by rfl))
 ·have H := ifF c1 H
  refine gg h rfl rfl (nbF c1) (o_fa rfl t_f24_2 rfl rfl) rfl fun _ _ _ h => ?_
  refine gg h rfl rfl (nbF c1) (o_lfv 1 rfl rfl sUdp_Data rfl Per_sl t_y22) rfl fun v3 _ _ h => ?_
  have g2 := (len_at 0 rfl h.mem)
  refine gg h rfl rfl (nbF c1) (o_ln rfl (rd_at 0 rfl) t_v22) rfl fun _ _ _ h => ?_
  refine gg h rfl rfl (nbF c1) (o_bin rfl rfl rfl) rfl fun _ _ _ h => ?_
  refine gs h (o_pickF rfl rfl c1) rfl fun _ _ _ h => ?_
  refine GoR.done ?_
  exact J1 (decide ((a1.Data.length : Int) = 0)) _ _ (som H).symm (h.wk (by rfl) [2, 4] (by decide) (by rfl))
def law18_UdpTurned.g (k_ : Nat) (a1 : TUdp) (a2 : Int) (a3 : Int) (a4 : Int) : Option (Bool) :=
  ((if decide (3000 < (a1.Data.length : Int)) = true then some (true) else some (decide ((a1.Data.length : Int) = 0)))).bind (fun j1 => (if j1 = true then (law18_heads.g k_).bind fun r1 => some (r1) else (udp_Put.g k_ a1 a2 a3).bind fun r2 => (if (!decide (r2.2 = 0)) = true then (law18_heads.g k_).bind fun r3 => some (r3) else (udp_Get.g k_ r2.1 a3 a2).bind fun r4 => (app ([] : List Int) r2.1).bind fun x1 => if (IntKind.u64.wrap (IntKind.i64.wrap (8 * (a1.Data.length : Int)))) ≠ 0 then (lt (IntKind.i64.wrap (Int.tmod (IntKind.u64.wrap a4) (IntKind.u64.wrap (IntKind.i64.wrap (8 * (a1.Data.length : Int)))))) fun y1 => (if (!decide ((x1.length : Int) = (IntKind.i64.wrap (8 + (a1.Data.length : Int))))) = true then some (false) else (idx x1 (IntKind.i64.wrap (8 + (IntKind.i64.wrap (Int.tdiv y1 8))))).bind fun x2 => if 0 ≤ (IntKind.u64.wrap (Int.tmod y1 8)) then ((idx x1 (IntKind.i64.wrap (8 + (IntKind.i64.wrap (Int.tdiv y1 8))))).bind fun x3 => lt (x1.set (IntKind.i64.wrap (8 + (IntKind.i64.wrap (Int.tdiv y1 8)))).toNat (bits .xor .u8 x2 (ishl .u8 1 (IntKind.u64.wrap (Int.tmod y1 8))))) fun y2 => (udp_Get.g k_ y2 a2 a3).bind fun r5 => ((if decide (r4.2 = 0) = true then (if decide (r5.2 = 162) = true then (law18_heads.g k_).bind fun r6 => some (r6) else some (false)) else some (false))).bind (fun j2 => some (j2))) else none)) else none)))
theorem law18_UdpTurned.le (k_ : Nat) (a1 : TUdp) (a2 : Int) (a3 : Int) (a4 : Int) : Le (law18_UdpTurned.g k_ a1 a2 a3 a4) (law18_UdpTurned.f a1 a2 a3 a4) := by
 unfold law18_UdpTurned.g law18_UdpTurned.f
 repeat' (first | with_reducible refine le_loop fun _ => ?_ | with_reducible refine le_bind ?_ fun _ => ?_ | with_reducible refine le_ite ?_ ?_ | with_reducible refine le_lt fun _ => ?_ | with_reducible refine le_elim (fun _ => ?_) (fun _ => ?_) _ | with_reducible apply law18_heads.le | with_reducible apply udp_Get.le | with_reducible apply udp_Put.le | with_reducible exact le_refl _)
/-! drawbridge/drawbridgeref01.Get -/
noncomputable def ref01_Get.f (a1 : List Int) (a2 : Bool) : Option (Int) :=
  lt (min (a1.length : Int) 8) fun y1 => (loop (fun s1 => (if decide (s1.2 < y1) = true then (((if a2 = true then (idx a1 s1.2).bind fun x1 => lt (IntKind.u64.wrap ((IntKind.u64.wrap (s1.1 * 256)) + x1)) fun y2 => some (y2) else (idx a1 (IntKind.i64.wrap ((IntKind.i64.wrap (y1 - 1)) - s1.2))).bind fun x2 => lt (IntKind.u64.wrap ((IntKind.u64.wrap (s1.1 * 256)) + x2)) fun y3 => some (y3))).bind (fun j1 => some (j1))).bind (fun j2 => lt (IntKind.i64.wrap (s1.2 + 1)) fun y4 => some (.inl (j2, y4))) else some (.inr (s1.1)))) (0, 0)).bind (fun j3 => some (j3))
set_option maxRecDepth 100000 in
set_option maxHeartbeats 4000000 in
theorem ref01_Get.spc (v1 : Value) (a1 : List Int) (a2 : Bool) (r : Int) (H : ref01_Get.f a1 a2 = some r) : Spc Tryd.prog 22 [v1, .bool a2] [Val (Kd.sl (Kd.int .u8)) v1 a1] [] (fun (s : Unit) => .int .u64 r) (fun s => [Ent.pur (InR .u64 r)]) := by
 unfold ref01_Get.f at H
 refine Spc.go Tryd.func22 rfl (by kernel_rfl) rfl rfl (all_cons (Val.per Per_sl) all_nil) fun F a w h => ?_
 refine Go.seq ?_
 refine Go.reg ?_
 refine gs h (o_assign rfl) rfl fun _ _ _ h => ?_
 refine GoR.done ?_
 refine Go.seq ?_
 refine Go.reg ?_
 refine gs h (o_assign rfl) rfl fun _ _ _ h => ?_
 refine GoR.done ?_
 refine Go.seq ?_
 refine Go.reg ?_
 refine gs h (o_move rfl) rfl fun _ _ _ h => ?_
 have g1 := (len_at 0 rfl h.mem)
 refine gs h (o_ln rfl (rd_at 0 rfl) t_v22) rfl fun _ _ _ h => ?_
 refine gs h (o_min rfl rfl) rfl fun _ _ _ h => ?_
 obtain ⟨y1, ey1, H⟩ := ltE H
 refine gs h (o_assign' rfl (congrArg (fun z => Value.int .i64 z) ey1)) rfl fun _ _ _ h => ?_
 refine GoR.done ?_
 refine Go.seq ?_
 refine Go.seq ?_
 refine Go.reg ?_
 refine gs h (o_assign rfl) rfl fun _ _ _ h => ?_
 refine GoR.done ?_
 refine Go.block ?_
 obtain ⟨o1, hl, G1⟩ := bindE H
 refine g_cut (fun G => ∀ j3 (a : Act) (w : World), o1 = j3 → InR .u64 j3 → St Tryd.f22.ntmps F [(5, .int .u64 j3)] [] a w → G a w) 2 ?_ fun J3 => ?_
 ·intro j3 a w ho_ g8 h
  rw [ho_] at G1
  have H := G1
  refine Go.seq ?_
  refine Go.reg ?_
  refine gs h (o_move rfl) rfl fun _ _ _ h => ?_
  refine gs h (o_assign rfl) rfl fun _ _ _ h => ?_
  refine GoR.done ?_
  rw [← som H]
  exact g_ret (vs := [.int .u64 j3]) h Tryd.func22 ⟨rfl, trivial⟩ ⟨(), rfl, ((h.mem.pick [] (by decide) rfl).addpur g8)⟩
 refine g_loop (fun s1 G => ∀  (a : Act) (w : World), InR .u64 s1.1 → InR .i64 s1.2 → St Tryd.f22.ntmps F [(0, v1), (1, .bool a2), (5, .int .u64 s1.1), (6, .int .i64 y1), (7, .int .i64 s1.2)] [Val (Kd.sl (Kd.int .u8)) v1 a1] a w → G a w) hl (fun s1 p1 H i1 => ?_) fun I_ => ?_
 ·intro  a w g2 g3 h
  refine Go.seq ?_
  refine Go.seq ?_
  refine Go.reg ?_
  refine gs h (o_move rfl) rfl fun _ _ _ h => ?_
  refine gs h (o_move rfl) rfl fun _ _ _ h => ?_
  refine gs h (o_bin rfl rfl rfl) rfl fun _ _ _ h => ?_
  refine GoR.done ?_
  by_cases c1 : decide (s1.2 < y1) = true
  ·have H := ifT c1 H
   refine g_t h rfl c1 ?_
   refine Go.skip ?_
   refine Go.seq ?_
   obtain ⟨o2, H, G2⟩ := bindE H
   refine g_cut (fun G => ∀ j2 (a : Act) (w : World), o2 = j2 → InR .u64 j2 → St Tryd.f22.ntmps F [(0, v1), (1, .bool a2), (5, .int .u64 j2), (6, .int .i64 y1), (7, .int .i64 s1.2)] [Val (Kd.sl (Kd.int .u8)) v1 a1] a w → G a w) 1 ?_ fun J2 => ?_
   ·intro j2 a w ho_ g7 h
    rw [ho_] at G2
    have H := G2
    refine Go.reg ?_
    refine gs h (o_move rfl) rfl fun _ _ _ h => ?_
    refine gs h (o_bin rfl rfl rfl) rfl fun _ _ _ h => ?_
    obtain ⟨y4, ey4, H⟩ := ltE H
    refine gs h (o_assign' rfl (congrArg (fun z => Value.int .i64 z) ey4)) rfl fun _ _ _ h => ?_
    refine GoR.done ?_
    have e_ := som H; subst e_
    exact Go.inLoop (nx_in i1 _ _ g7 (ey4 ▸ (wrap_in _ _)) (h.wk (by rfl) [0] (by decide) (by rfl)))
   refine Go.block ?_
   obtain ⟨o3, H, G3⟩ := bindE H
   refine g_cut (fun G => ∀ j1 (a : Act) (w : World), o3 = j1 → InR .u64 j1 → St Tryd.f22.ntmps F [(0, v1), (1, .bool a2), (5, .int .u64 j1), (6, .int .i64 y1), (7, .int .i64 s1.2)] [Val (Kd.sl (Kd.int .u8)) v1 a1] a w → G a w) 2 ?_ fun J1 => ?_
   ·intro j1 a w ho_ g6 h
    rw [ho_] at G3
    have H := G3
    exact J2 j1 _ _ (som H).symm g6 (h.wk (by rfl) [0] (by decide) (by rfl))
   refine Go.seq ?_
   refine Go.reg ?_
   refine gs h (o_move rfl) rfl fun _ _ _ h => ?_
   refine GoR.done ?_
   by_cases c2 : a2 = true
   ·have H := ifT c2 H
    refine g_t h rfl c2 ?_
    refine Go.reg ?_
    refine gs h (o_move rfl) rfl fun _ _ _ h => ?_
    refine gs h (o_bin rfl rfl rfl) rfl fun _ _ _ h => ?_
    refine gs h (o_move rfl) rfl fun _ _ _ h => ?_
    refine gs h (o_move rfl) rfl fun _ _ _ h => ?_
    obtain ⟨x1, ex1, H⟩ := bindE H
    refine gs h (o_ix rfl rfl (rd_at 0 rfl) ex1 t_v22) rfl fun _ _ _ h => ?_
    have g4 := (rd_inr (rd_at 0 rfl) ex1 h.mem)
    refine gs h (o_lex rfl (rd_at 0 rfl) ex1 X_int t_y5 (by decide)) rfl fun _ _ _ h => ?_
    refine gs h (o_convw rfl t_q5 t_u43 g4 rfl) rfl fun _ _ _ h => ?_
    refine gs h (o_bin rfl rfl rfl) rfl fun _ _ _ h => ?_
    obtain ⟨y2, ey2, H⟩ := ltE H
    refine gs h (o_assign' rfl (congrArg (fun z => Value.int .u64 z) ey2)) rfl fun _ _ _ h => ?_
    refine GoR.done ?_
    refine Go.inBlock ?_
    exact J1 y2 _ _ (som H).symm (ey2 ▸ (wrap_in _ _)) (h.wk (by rfl) [0] (by decide) (by rfl))
   ·have H := ifF c2 H
    refine g_f h rfl c2 ?_
    refine Go.reg ?_
    refine gs h (o_move rfl) rfl fun _ _ _ h => ?_
    refine gs h (o_bin rfl rfl rfl) rfl fun _ _ _ h => ?_
    refine gs h (o_move rfl) rfl fun _ _ _ h => ?_
    refine gs h (o_move rfl) rfl fun _ _ _ h => ?_
    refine gs h (o_bin rfl rfl rfl) rfl fun _ _ _ h => ?_
    refine gs h (o_move rfl) rfl fun _ _ _ h => ?_
    refine gs h (o_bin rfl rfl rfl) rfl fun _ _ _ h => ?_
    obtain ⟨x2, ex2, H⟩ := bindE H
    refine gs h (o_ix rfl rfl (rd_at 0 rfl) ex2 t_v22) rfl fun _ _ _ h => ?_
    have g5 := (rd_inr (rd_at 0 rfl) ex2 h.mem)
    refine gs h (o_lex rfl (rd_at 0 rfl) ex2 X_int t_y5 (by decide)) rfl fun _ _ _ h => ?_
    refine gs h (o_convw rfl t_q5 t_u43 g5 rfl) rfl fun _ _ _ h => ?_
    refine gs h (o_bin rfl rfl rfl) rfl fun _ _ _ h => ?_
    obtain ⟨y3, ey3, H⟩ := ltE H
    refine gs h (o_assign' rfl (congrArg (fun z => Value.int .u64 z) ey3)) rfl fun _ _ _ h => ?_
    refine GoR.done ?_
    refine Go.inBlock ?_
    exact J1 y3 _ _ (som H).symm (ey3 ▸ (wrap_in _ _)) (h.wk (by rfl) [0] (by decide) (by rfl))
  ·have H := ifF c1 H
   refine g_f h rfl c1 ?_
   refine Go.exit rfl ?_
   have e_ := som H; subst e_
   exact J3 s1.1 _ _ (nx_out i1).symm g2 (h.wk (by rfl) [] (by decide) (by rfl))
 ·exact I_ _ _ (show InR .u64 0 by decide) (show InR .i64 0 by decide) (h.wk (by rfl) [0] (by decide) (by rfl))
def ref01_Get.g (k_ : Nat) (a1 : List Int) (a2 : Bool) : Option (Int) :=
  lt (min (a1.length : Int) 8) fun y1 => (loopK k_ (fun s1 => (if decide (s1.2 < y1) = true then (((if a2 = true then (idx a1 s1.2).bind fun x1 => lt (IntKind.u64.wrap ((IntKind.u64.wrap (s1.1 * 256)) + x1)) fun y2 => some (y2) else (idx a1 (IntKind.i64.wrap ((IntKind.i64.wrap (y1 - 1)) - s1.2))).bind fun x2 => lt (IntKind.u64.wrap ((IntKind.u64.wrap (s1.1 * 256)) + x2)) fun y3 => some (y3))).bind (fun j1 => some (j1))).bind (fun j2 => lt (IntKind.i64.wrap (s1.2 + 1)) fun y4 => some (.inl (j2, y4))) else some (.inr (s1.1)))) (0, 0)).bind (fun j3 => some (j3))
theorem ref01_Get.le (k_ : Nat) (a1 : List Int) (a2 : Bool) : Le (ref01_Get.g k_ a1 a2) (ref01_Get.f a1 a2) := by
 unfold ref01_Get.g ref01_Get.f
 repeat' (first | with_reducible refine le_loop fun _ => ?_ | with_reducible refine le_bind ?_ fun _ => ?_ | with_reducible refine le_ite ?_ ?_ | with_reducible refine le_lt fun _ => ?_ | with_reducible refine le_elim (fun _ => ?_) (fun _ => ?_) _ | with_reducible exact le_refl _)
/-! drawbridge/drawbridgeref01.Put -/
noncomputable def ref01_Put.f (a1 : Int) (a2 : Int) (a3 : Bool) : Option ((List Int)) :=
  (loop (fun s1 => ((if decide (s1.2 < a2) = true then some (decide (s1.2 < 8)) else some (false))).bind (fun j1 => (if j1 = true then ((if 0 ≤ (IntKind.u64.wrap (IntKind.i64.wrap (8 * s1.2))) then (lt (IntKind.u8.wrap (ishr .u64 a1 (IntKind.u64.wrap (IntKind.i64.wrap (8 * s1.2))))) fun y1 => (if a3 = true then (app ([y1] : List Int) s1.1).bind fun x1 => some (x1) else (app s1.1 ([y1] : List Int)).bind fun x2 => some (x2))) else none).bind (fun j2 => some (j2))).bind (fun j3 => lt (IntKind.i64.wrap (s1.2 + 1)) fun y2 => some (.inl (j3, y2))) else some (.inr (s1.1))))) (([] : List Int), 0)).bind (fun j4 => some (j4))
set_option maxRecDepth 100000 in
set_option maxHeartbeats 4000000 in
theorem ref01_Put.spc (a1 : Int) (ha1 : InR .u64 a1) (a2 : Int) (ha2 : InR .i64 a2) (a3 : Bool) (r : (List Int)) (H : ref01_Put.f a1 a2 a3 = some r) : Spc Tryd.prog 26 [.int .u64 a1, .int .i64 a2, .bool a3] [] [] (fun (s : Value) => s) (fun s => [Val (Kd.osl (Kd.int .u8)) s r]) := by
 unfold ref01_Put.f at H
 refine Spc.go Tryd.func26 rfl (by kernel_rfl) rfl rfl all_nil fun F a w h => ?_
 refine Go.seq ?_
 refine Go.reg ?_
 refine gs h (o_assign rfl) rfl fun _ _ _ h => ?_
 refine GoR.done ?_
 refine Go.seq ?_
 refine Go.reg ?_
 refine gs h (o_assign rfl) rfl fun _ _ _ h => ?_
 refine GoR.done ?_
 refine Go.seq ?_
 refine Go.seq ?_
 refine Go.reg ?_
 refine gs h (o_assign rfl) rfl fun _ _ _ h => ?_
 refine GoR.done ?_
 refine Go.block ?_
 obtain ⟨o1, hl, G1⟩ := bindE H
 refine g_cut (fun G => ∀ j4 (v8 : Value) (a : Act) (w : World), o1 = j4 → St Tryd.f26.ntmps F [(7, v8)] [Val (Kd.osl (Kd.int .u8)) v8 j4] a w → G a w) 2 ?_ fun J4 => ?_
 ·intro j4 v8 a w ho_ h
  rw [ho_] at G1
  have H := G1
  refine Go.seq ?_
  refine Go.reg ?_
  refine gs h (o_move rfl) rfl fun _ _ _ h => ?_
  refine gs h (o_assign rfl) rfl fun _ _ _ h => ?_
  refine GoR.done ?_
  rw [← som H]
  exact g_ret (vs := [v8]) h Tryd.func26 ⟨rfl, trivial⟩ ⟨v8, rfl, (h.mem.pick [0] (by decide) rfl)⟩
 refine g_loop (fun s1 G => ∀ (v1 : Value) (a : Act) (w : World), InR .i64 s1.2 → St Tryd.f26.ntmps F [(0, .int .u64 a1), (1, .int .i64 a2), (2, .bool a3), (7, v1), (8, .int .i64 s1.2)] [Val (Kd.osl (Kd.int .u8)) v1 s1.1] a w → G a w) hl (fun s1 p1 H i1 => ?_) fun I_ => ?_
 ·intro v1 a w g1 h
  refine Go.seq ?_
  refine Go.seq ?_
  obtain ⟨o2, H, G2⟩ := bindE H
  refine g_cut (fun G => ∀ j1 (a : Act) (w : World), o2 = j1 → St Tryd.f26.ntmps F [(0, .int .u64 a1), (1, .int .i64 a2), (2, .bool a3), (7, v1), (8, .int .i64 s1.2), (16, .bool j1)] [Val (Kd.osl (Kd.int .u8)) v1 s1.1] a w → G a w) 1 ?_ fun J1 => ?_
  ·intro j1 a w ho_ h
   rw [ho_] at G2
   have H := G2
   by_cases c2 : j1 = true
   ·have H := ifT c2 H
    refine g_t h rfl c2 ?_
    refine Go.skip ?_
    refine Go.seq ?_
    obtain ⟨o3, H, G3⟩ := bindE H
    refine g_cut (fun G => ∀ j3 (v7 : Value) (a : Act) (w : World), o3 = j3 → St Tryd.f26.ntmps F [(0, .int .u64 a1), (1, .int .i64 a2), (2, .bool a3), (7, v7), (8, .int .i64 s1.2)] [Val (Kd.osl (Kd.int .u8)) v7 j3] a w → G a w) 1 ?_ fun J3 => ?_
    ·intro j3 v7 a w ho_ h
     rw [ho_] at G3
     have H := G3
     refine Go.reg ?_
     refine gs h (o_move rfl) rfl fun _ _ _ h => ?_
     refine gs h (o_bin rfl rfl rfl) rfl fun _ _ _ h => ?_
     obtain ⟨y2, ey2, H⟩ := ltE H
     refine gs h (o_assign' rfl (congrArg (fun z => Value.int .i64 z) ey2)) rfl fun _ _ _ h => ?_
     refine GoR.done ?_
     have e_ := som H; subst e_
     exact Go.inLoop (nx_in i1 v7 _ _ (ey2 ▸ (wrap_in _ _)) (h.wk (by rfl) [0] (by decide) (by rfl)))
    refine Go.block ?_
    obtain ⟨o4, H, G4⟩ := bindE H
    refine g_cut (fun G => ∀ j2 (v6 : Value) (a : Act) (w : World), o4 = j2 → St Tryd.f26.ntmps F [(0, .int .u64 a1), (1, .int .i64 a2), (2, .bool a3), (7, v6), (8, .int .i64 s1.2)] [Val (Kd.osl (Kd.int .u8)) v6 j2] a w → G a w) 2 ?_ fun J2 => ?_
    ·intro j2 v6 a w ho_ h
     rw [ho_] at G4
     have H := G4
     exact J3 j2 v6 _ _ (som H).symm (h.wk (by rfl) [0] (by decide) (by rfl))
    refine Go.seq ?_
    refine Go.reg ?_
    refine gs h (o_move rfl) rfl fun _ _ _ h => ?_
    refine gs h (o_move rfl) rfl fun _ _ _ h => ?_
    refine gs h (o_bin rfl rfl rfl) rfl fun _ _ _ h => ?_
    refine gs h (o_conv rfl t_q3 t_u39) rfl fun _ _ _ h => ?_
    obtain ⟨q1, H⟩ := ifS H
    refine gs h (o_shr rfl rfl q1) rfl fun _ _ _ h => ?_
    refine gs h (o_conv rfl t_q43 t_u5) rfl fun _ _ _ h => ?_
    obtain ⟨y1, ey1, H⟩ := ltE H
    refine gs h (o_assign' rfl (congrArg (fun z => Value.int .u8 z) ey1)) rfl fun _ _ _ h => ?_
    refine GoR.done ?_
    refine Go.seq ?_
    refine Go.reg ?_
    refine gs h (o_move rfl) rfl fun _ _ _ h => ?_
    refine GoR.done ?_
    by_cases c3 : a3 = true
    ·have H := ifT c3 H
     refine g_t h rfl c3 ?_
     refine Go.reg ?_
     refine gs h (o_move rfl) rfl fun _ _ _ h => ?_
     refine gs h (o_bs (K := (Kd.int .u8)) (vs := [.int .u8 y1]) (xs := ([y1] : List Int)) rfl rfl (pvs_cons (pv_int (ey1 ▸ (wrap_in _ _))) pvs_nil) t_a22 (by decide) (by decide)) rfl fun v2 _ _ h => ?_
     refine gs h (o_move rfl) rfl fun _ _ _ h => ?_
     obtain ⟨x1, ex1, H⟩ := bindE H
     refine gs h (o_app (K := (Kd.int .u8)) 0 rfl rfl rfl (rd_own 1 rfl) ex1 t_a22 t_n22) rfl fun v3 _ _ h => ?_
     refine gs h (o_assign rfl) rfl fun _ _ _ h => ?_
     refine GoR.done ?_
     refine Go.inBlock ?_
     exact J2 x1 v3 _ _ (som H).symm (h.wk (by rfl) [0] (by decide) (by rfl))
    ·have H := ifF c3 H
     refine g_f h rfl c3 ?_
     refine Go.reg ?_
     refine gs h (o_move rfl) rfl fun _ _ _ h => ?_
     refine gs h (o_move rfl) rfl fun _ _ _ h => ?_
     refine gs h (o_bs (K := (Kd.int .u8)) (vs := [.int .u8 y1]) (xs := ([y1] : List Int)) rfl rfl (pvs_cons (pv_int (ey1 ▸ (wrap_in _ _))) pvs_nil) t_a22 (by decide) (by decide)) rfl fun v4 _ _ h => ?_
     obtain ⟨x2, ex2, H⟩ := bindE H
     refine gs h (o_app (K := (Kd.int .u8)) 1 rfl rfl rfl (rd_own 0 rfl) ex2 t_a22 t_n22) rfl fun v5 _ _ h => ?_
     refine gs h (o_assign rfl) rfl fun _ _ _ h => ?_
     refine GoR.done ?_
     refine Go.inBlock ?_
     exact J2 x2 v5 _ _ (som H).symm (h.wk (by rfl) [1] (by decide) (by rfl))
   ·have H := ifF c2 H
    refine g_f h rfl c2 ?_
    refine Go.exit rfl ?_
    have e_ := som H; subst e_
    exact J4 s1.1 v1 _ _ (nx_out i1).symm (h.wk (by rfl) [0] (by decide) (by rfl))
  refine Go.reg ?_
  refine gs h (o_move rfl) rfl fun _ _ _ h => ?_
  refine gs h (o_move rfl) rfl fun _ _ _ h => ?_
  refine gs h (o_bin rfl rfl rfl) rfl fun _ _ _ h => ?_
  refine gs h (o_move rfl) rfl fun _ _ _ h => ?_
  by_cases c1 : decide (s1.2 < a2) = true
  ·have H := ifT c1 H
   refine gg h rfl rfl c1 (o_move rfl) rfl fun _ _ _ h => ?_
   refine gg h rfl rfl c1 (o_bin rfl rfl rfl) rfl fun _ _ _ h => ?_
   refine gs h (o_pickT rfl rfl c1) rfl fun _ _ _ h => ?_
   refine GoR.done ?_
   exact J1 (decide (s1.2 < 8)) _ _ (som H).symm (h.wk (by rfl) [0] (by decide) (by rfl))
  ·have H := ifF c1 H
   refine gk h rfl rfl (nb_f c1) rfl fun _ h => ?_
   refine gk h rfl rfl (nb_f c1) rfl fun _ h => ?_
   refine gs h (o_pickF rfl rfl c1) rfl fun _ _ _ h => ?_
   refine GoR.done ?_
   exact J1 false _ _ (som H).symm (h.wk (by rfl) [0] (by decide) (by rfl))
 ·replace h := h.mm fun m => m.nilo (Kd.int .u8)
  exact I_ (.slice none 0 0) _ _ (show InR .i64 0 by decide) (h.wk (by rfl) [0] (by decide) (by rfl))
def ref01_Put.g (k_ : Nat) (a1 : Int) (a2 : Int) (a3 : Bool) : Option ((List Int)) :=
  (loopK k_ (fun s1 => ((if decide (s1.2 < a2) = true then some (decide (s1.2 < 8)) else some (false))).bind (fun j1 => (if j1 = true then ((if 0 ≤ (IntKind.u64.wrap (IntKind.i64.wrap (8 * s1.2))) then (lt (IntKind.u8.wrap (ishr .u64 a1 (IntKind.u64.wrap (IntKind.i64.wrap (8 * s1.2))))) fun y1 => (if a3 = true then (app ([y1] : List Int) s1.1).bind fun x1 => some (x1) else (app s1.1 ([y1] : List Int)).bind fun x2 => some (x2))) else none).bind (fun j2 => some (j2))).bind (fun j3 => lt (IntKind.i64.wrap (s1.2 + 1)) fun y2 => some (.inl (j3, y2))) else some (.inr (s1.1))))) (([] : List Int), 0)).bind (fun j4 => some (j4))
theorem ref01_Put.le (k_ : Nat) (a1 : Int) (a2 : Int) (a3 : Bool) : Le (ref01_Put.g k_ a1 a2 a3) (ref01_Put.f a1 a2 a3) := by
 unfold ref01_Put.g ref01_Put.f
 repeat' (first | with_reducible refine le_loop fun _ => ?_ | with_reducible refine le_bind ?_ fun _ => ?_ | with_reducible refine le_ite ?_ ?_ | with_reducible refine le_lt fun _ => ?_ | with_reducible refine le_elim (fun _ => ?_) (fun _ => ?_) _ | with_reducible exact le_refl _)
/-! drawbridge/drawbridgeref01.Same -/
noncomputable def ref01_Same.f (a1 : List Int) (a2 : List Int) : Option (Bool) :=
  lt (decide (a1 = a2)) fun y1 => some (y1)
set_option maxRecDepth 100000 in
set_option maxHeartbeats 4000000 in
theorem ref01_Same.spc (v1 : Value) (a1 : List Int) (v2 : Value) (a2 : List Int) (r : Bool) (H : ref01_Same.f a1 a2 = some r) : Spc Tryd.prog 11 [v1, v2] [Val (Kd.sl (Kd.int .u8)) v1 a1, Val (Kd.sl (Kd.int .u8)) v2 a2] [] (fun (s : Unit) => .bool r) (fun s => []) := by
 unfold ref01_Same.f at H
 refine Spc.go Tryd.func11 rfl (by kernel_rfl) rfl rfl (all_cons (Val.per Per_sl) (all_cons (Val.per Per_sl) all_nil)) fun F a w h => ?_
 refine Go.seq ?_
 refine Go.reg ?_
 refine gs h (o_assign rfl) rfl fun _ _ _ h => ?_
 refine GoR.done ?_
 refine Go.seq ?_
 refine Go.reg ?_
 refine gs h (o_move rfl) rfl fun _ _ _ h => ?_
 have g1 := (rd_bs (rd_at 0 rfl) h.mem)
 refine gs h (o_b2s rfl (rd_at 0 rfl) t_u22 t_u5 t_u9) rfl fun _ _ _ h => ?_
 refine gs h (o_move rfl) rfl fun _ _ _ h => ?_
 have g2 := (rd_bs (rd_at 1 rfl) h.mem)
 refine gs h (o_b2s rfl (rd_at 1 rfl) t_u22 t_u5 t_u9) rfl fun _ _ _ h => ?_
 refine gs h (o_eqs rfl rfl g1 g2) rfl fun _ _ _ h => ?_
 obtain ⟨y1, ey1, H⟩ := ltE H
 refine gs h (o_assign' rfl (congrArg Value.bool ey1)) rfl fun _ _ _ h => ?_
 refine GoR.done ?_
 rw [← som H]
 exact g_ret (vs := [.bool y1]) h Tryd.func11 ⟨rfl, trivial⟩ ⟨(), rfl, (h.mem.pick [] (by decide) rfl)⟩
def ref01_Same.g (k_ : Nat) (a1 : List Int) (a2 : List Int) : Option (Bool) :=
  lt (decide (a1 = a2)) fun y1 => some (y1)
theorem ref01_Same.le (k_ : Nat) (a1 : List Int) (a2 : List Int) : Le (ref01_Same.g k_ a1 a2) (ref01_Same.f a1 a2) := by
 unfold ref01_Same.g ref01_Same.f
 repeat' (first | with_reducible refine le_loop fun _ => ?_ | with_reducible refine le_bind ?_ fun _ => ?_ | with_reducible refine le_ite ?_ ?_ | with_reducible refine le_lt fun _ => ?_ | with_reducible refine le_elim (fun _ => ?_) (fun _ => ?_) _ | with_reducible exact le_refl _)
end Go.Proofs.YtfoffhdckcdjdaaDoor.S
