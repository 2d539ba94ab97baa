/- Contracts, printed by a program of this session. -/
import Derived.Test.YtplkiompmjhdlaaT1
import Derived.Test.YtplkiompmjhdlaaT3
namespace Go.Proofs.Ytplkiompmjhdlaa.S
open Go Go.SL Go.RowKit
set_option linter.unusedVariables false
set_option linter.unusedSimpArgs false
/-! drawbridge/ether.GetArp -/
noncomputable def ether_GetArp.f (a1 : List Int) : Option (TArp × Int) :=
  (ether_beside.f a1 28 (max (a1.length : Int) 28)).bind fun r1 => (if (!r1.isNone) = true then (ether_errno.f r1).bind fun r2 => some (((⟨0, [], 0, [], 0⟩ : TArp), r2)) else ((ether_lead.f).bind fun r3 => (bytes_HasPrefix.f a1 r3).bind fun r4 => (if (!r4) = true then some (true) else (idx a1 7).bind fun x1 => (if decide (x1 < 1) = true then some (true) else (idx a1 7).bind fun x2 => some (decide (2 < x2))))).bind (fun j1 => (if j1 = true then some (((⟨0, [], 0, [], 0⟩ : TArp), 161)) else (cut a1 8 (a1.length : Int)).bind fun x3 => (idx a1 7).bind fun x5 => (ether_taker_take.f (⟨x3⟩ : Ttaker) 6).bind fun r6 => (ether_taker_num.f r6.2 4).bind fun r7 => (ether_taker_take.f r7.2 6).bind fun r8 => (ether_taker_num.f r8.2 4).bind fun r9 => some (((⟨(⟨x5, r6.1, 0, [], 0⟩ : TArp).Op, (⟨x5, r6.1, 0, [], 0⟩ : TArp).Smac, IntKind.u32.wrap r7.1, r8.1, IntKind.u32.wrap r9.1⟩ : TArp), 0)))))
set_option maxRecDepth 100000 in
set_option maxHeartbeats 4000000 in
theorem ether_GetArp.spc (v1 : Value) (a1 : List Int) (r : TArp × Int) (H : ether_GetArp.f a1 = some r) : Spc Try.prog 12 [v1] [Val (Kd.sl (Kd.int .u8)) v1 a1] [] (fun (s : Value) => .tuple #[s, .int .i64 r.2]) (fun s => [Ent.pur (InR .i64 r.2), Val KArp s r.1]) := by
 unfold ether_GetArp.f at H
 refine Spc.go Try.func12 rfl (by kernel_rfl) rfl rfl (all_cons (Val.per Per_sl) all_nil) fun F a w h => ?_
 refine Go.seq ?_
 refine Go.reg ?_
 refine gs h (o_alloc (K := KArp) (z := (.agg #[.int .i64 0, .slice none 0 0, .int .u32 0, .slice none 0 0, .int .u32 0])) rfl ZArp) rfl fun b1 _ _ h => ?_
 refine gs h (o_assign rfl) rfl fun _ _ _ h => ?_
 refine GoR.done ?_
 refine Go.seq ?_
 refine Go.seq ?_
 refine Go.reg ?_
 refine gs h (o_move rfl) rfl fun _ _ _ h => ?_
 refine gs h (o_move rfl) rfl fun _ _ _ h => ?_
 have g1 := (len_at 1 rfl h.mem)
 refine gs h (o_ln rfl (rd_at 1 rfl) t_v22) rfl fun _ _ _ h => ?_
 refine gs h (o_max rfl rfl) rfl fun _ _ _ h => ?_
 obtain ⟨r1, er1, H⟩ := bindE H
 refine gs h (o_call (ether_beside.spc v1 a1 28 (show InR .i64 28 by decide) (max (a1.length : Int) 28) (inr_max g1 (show InR .i64 28 by decide)) r1 er1) rfl [1] [] (by decide) rfl rfl) rfl fun v2 _ _ h => ?_
 refine gs h (o_assign rfl) rfl fun _ _ _ h => ?_
 refine GoR.done ?_
 refine Go.seq ?_
 refine Go.reg ?_
 refine gs h (o_move rfl) rfl fun _ _ _ h => ?_
 refine gs h (o_ern 0 rfl rfl t_i55) rfl fun _ _ _ h => ?_
 refine GoR.done ?_
 by_cases c1 : (!r1.isNone) = true
 ·have H := ifT c1 H
  refine g_t h rfl c1 ?_
  refine Go.seq ?_
  refine Go.reg ?_
  refine gs h (o_build (K := KArp) (x := (⟨0, [], 0, [], 0⟩ : TArp)) (ps := []) rfl (zs := zsArp) rfl t_b34 rfl (show PB (Kd.pair (Kd.int .i64) (Kd.pair (Kd.sl (Kd.int .u8)) (Kd.pair (Kd.int .u32) (Kd.pair (Kd.sl (Kd.int .u8)) (Kd.last (Kd.int .u32)))))) (0, [], 0, [], 0) 0 zsArp _ _ from (pb_zero z_int (pb_zero z_sl (pb_zero z_int (pb_zero z_sl (pb_lastz z_int))))))) rfl fun v3 _ _ h => ?_
  refine gs h (o_move rfl) rfl fun _ _ _ h => ?_
  obtain ⟨r2, er2, H⟩ := bindE H
  refine gs h (o_call (ether_errno.spc v2 r1 r2 er2) rfl [1] [] (by decide) rfl rfl) rfl fun _ _ _ h => ?_
  have g2 := h.mem.pur 0 rfl
  refine gs0 h (o_st 3 rfl rfl rfl (pv_at PArp 1 rfl) rfl t_w34) fun _ _ _ h => ?_
  refine gs h (o_assign rfl) rfl fun _ _ _ h => ?_
  refine GoR.done ?_
  obtain ⟨v4, h, u1⟩ := h.peek 3 rfl PArp t_y34
  rw [← som H]
  exact g_ret (vs := [v4, .int .i64 r2]) h Try.func12 ⟨⟨_, rfl, u1⟩, ⟨rfl, trivial⟩⟩ ⟨v4, rfl, ((h.mem.pick [0] (by decide) rfl).addpur g2)⟩
 ·have H := ifF c1 H
  refine g_f h rfl c1 ?_
  refine Go.skip ?_
  refine Go.seq ?_
  refine Go.seq ?_
  obtain ⟨o1, H, G1⟩ := bindE H
  refine g_cut (fun G => ∀ j1 (a : Act) (w : World), o1 = j1 → St Try.f12.ntmps F [(0, v1), (2, .pointer (some ⟨b1, 0, none⟩)), (32, .bool j1)] [Val (Kd.sl (Kd.int .u8)) v1 a1, Fld KArp b1 0 zArp] a w → G a w) 1 ?_ fun J1 => ?_
  ·intro j1 a w ho_ h
   rw [ho_] at G1
   have H := G1
   by_cases c4 : j1 = true
   ·have H := ifT c4 H
    refine g_t h rfl c4 ?_
    refine Go.seq ?_
    refine Go.reg ?_
    refine gs h (o_build (K := KArp) (x := (⟨0, [], 0, [], 0⟩ : TArp)) (ps := []) rfl (zs := zsArp) rfl t_b34 rfl (show PB (Kd.pair (Kd.int .i64) (Kd.pair (Kd.sl (Kd.int .u8)) (Kd.pair (Kd.int .u32) (Kd.pair (Kd.sl (Kd.int .u8)) (Kd.last (Kd.int .u32)))))) (0, [], 0, [], 0) 0 zsArp _ _ from (pb_zero z_int (pb_zero z_sl (pb_zero z_int (pb_zero z_sl (pb_lastz z_int))))))) rfl fun v6 _ _ h => ?_
    refine gs0 h (o_st 2 rfl rfl rfl (pv_at PArp 0 rfl) rfl t_w34) fun _ _ _ h => ?_
    refine gs h (o_assign rfl) rfl fun _ _ _ h => ?_
    refine GoR.done ?_
    obtain ⟨v7, h, u2⟩ := h.peek 2 rfl PArp t_y34
    rw [← som H]
    exact g_ret (vs := [v7, .int .i64 161]) h Try.func12 ⟨⟨_, rfl, u2⟩, ⟨rfl, trivial⟩⟩ ⟨v7, rfl, ((h.mem.pick [0] (by decide) rfl).addpur (show InR .i64 161 by decide))⟩
   ·have H := ifF c4 H
    refine g_f h rfl c4 ?_
    refine Go.skip ?_
    refine Go.seq ?_
    refine Go.reg ?_
    refine gs h (o_move rfl) rfl fun _ _ _ h => ?_
    obtain ⟨x3, ex3, H⟩ := bindE H
    refine gs h (o_cutl rfl (pv_at Per_sl 0 rfl) rfl ex3 t_v22) rfl fun v8 _ _ h => ?_
    refine gs h (o_build (K := Ktaker) (x := (⟨x3⟩ : Ttaker)) (ps := [(0, v8)]) rfl (zs := zstaker) rfl t_b60 rfl (show PB (Kd.last (Kd.sl (Kd.int .u8))) x3 0 zstaker _ _ from (pb_lastp (pv_at Per_sl 0 rfl) rfl))) rfl fun v9 _ _ h => ?_
    refine gs h (o_box (K := Ktaker) rfl (pv_at Ptaker 0 rfl)) rfl fun b2 _ _ h => ?_
    refine gs h (o_assign rfl) rfl fun _ _ _ h => ?_
    refine GoR.done ?_
    refine Go.seq ?_
    replace h := h.wk (E' := [(0, v1), (2, .pointer (some ⟨b1, 0, none⟩)), (5, .pointer (some ⟨b2, 0, none⟩))]) (L' := [Fld Ktaker b2 0 (⟨x3⟩ : Ttaker), Val Ktaker v9 (⟨x3⟩ : Ttaker), Val (Kd.sl (Kd.int .u8)) v8 x3, Val (Kd.sl (Kd.int .u8)) v1 a1, Fld KArp b1 0 zArp]) (by rfl) [0, 1, 2, 3, 4] (by decide) (by rfl)
    obtain ⟨x5, ex5, H⟩ := bindE H
    obtain ⟨r6, er6, H⟩ := bindE H
    refine Go.draw (L := [Val Ktaker v9 (⟨x3⟩ : Ttaker), Val (Kd.sl (Kd.int .u8)) v8 x3, Val (Kd.sl (Kd.int .u8)) v1 a1, Fld KArp b1 0 zArp]) h 8 [⟨[], [], [], false, .con (v1), none, fun u => []⟩, ⟨[0], [], [], false, .con (elemP v1 ((7 : Int).toNat * Kd.n (Kd.int .u8))), none, fun u => []⟩, ⟨[0, 1], [], [], false, .con (.int .u8 x5), none, fun u => [Ent.pur (InR .u8 x5)]⟩, ⟨[0, 1, 2], [2], [], false, .con (.int .i64 x5), none, fun u => []⟩, ⟨[], [], [], false, .con (.pointer (some ⟨b2, 0, none⟩)), none, fun u => []⟩, ⟨[4], [8], [8], false, .own, none, fun u => [Val (Kd.sl (Kd.int .u8)) u r6.1, Fld Ktaker b2 0 r6.2, Ent.nul]⟩, ⟨[0, 1, 2, 3, 4, 5], [2, 5], [], false, .own, none, fun u => [Val KArp u (⟨x5, r6.1, 0, [], 0⟩ : TArp)]⟩, ⟨[], [], [], false, .own, none, fun u => [Ent.pur (u = .pointer (some ⟨blk u, 0, none⟩)), Fld KArp (blk u) 0 zArp]⟩, ⟨[], [], [], false, .con undef, none, fun u => [Fld Ktaker b2 0 (⟨x3⟩ : Ttaker)]⟩] rfl t_mxo (by kernel_rfl) (by rfl) ?_ fun f2 _ _ h => ?_
    ·exact obs_cons (ob_con rfl (gok_none rfl) rfl fun f2 => (o_move rfl)) (obs_cons (ob_con rfl (gok_none rfl) rfl fun f2 => (o_ix rfl rfl (rd_at 2 rfl) ex5 t_v22)) (obs_cons (ob_con rfl (gok_none rfl) rfl fun f2 => (OpS.pur (fun F w m_ => (rd_inr (rd_at 2 rfl) ex5 m_)) (o_lex rfl (rd_at 2 rfl) ex5 X_int t_y5 (by decide)))) (obs_cons (ob_con rfl (gok_none rfl) rfl fun f2 => (OpS.fact (p := InR .u8 x5) (fun F w m_ => (Mem.pur 0 rfl m_)) fun g7 => (o_convw rfl t_q5 t_u3 g7 rfl))) (obs_cons (ob_con rfl (gok_none rfl) rfl fun f2 => (o_move rfl)) (obs_cons (ob_own rfl (gok_none rfl) rfl fun f2 => (OpS.mm (o_call (ether_taker_take.spc b2 (⟨x3⟩ : Ttaker) 6 (show InR .i64 6 by decide) r6 er6) rfl [] [0] (by decide) rfl rfl) (fun _ _ _ m => m.freeze 0 rfl))) (obs_cons (ob_own rfl (gok_none rfl) rfl fun f2 => (OpS.fact (p := InR .i64 x5) (fun F w m_ => (inr_wid (k := .u8) (k' := .i64) (Mem.pur 0 rfl m_) rfl)) fun g8 => (OpS.fact (p := InR .i64 x5) (fun F w m_ => (inr_wid (k := .u8) (k' := .i64) (Mem.pur 0 rfl m_) rfl)) fun g9 => (o_build (K := KArp) (x := (⟨x5, r6.1, 0, [], 0⟩ : TArp)) (ps := [(0, .int .i64 x5), (1, (f2 5))]) rfl (zs := zsArp) rfl t_b34 rfl (show PB (Kd.pair (Kd.int .i64) (Kd.pair (Kd.sl (Kd.int .u8)) (Kd.pair (Kd.int .u32) (Kd.pair (Kd.sl (Kd.int .u8)) (Kd.last (Kd.int .u32)))))) (x5, r6.1, 0, [], 0) 0 zsArp _ _ from (pb_part (pv_int g9) rfl (pb_part (pv_at Per_sl 1 rfl) rfl (pb_zero z_int (pb_zero z_sl (pb_lastz z_int)))))))))) (obs_cons (ob_own rfl (gok_none rfl) rfl fun f2 => (ptr_d (o_alloc (K := KArp) (z := (.agg #[.int .i64 0, .slice none 0 0, .int .u32 0, .slice none 0 0, .int .u32 0])) rfl ZArp))) (obs_nil))))))))
    replace h := h.wk (E' := [(2, .pointer (some ⟨b1, 0, none⟩)), (5, .pointer (some ⟨b2, 0, none⟩)), (44, (f2 6)), (6, (f2 7))]) (L' := [Ent.pur (InR .u8 x5), Val (Kd.sl (Kd.int .u8)) (f2 5) r6.1, Fld Ktaker b2 0 r6.2, Ent.nul, Val KArp (f2 6) (⟨x5, r6.1, 0, [], 0⟩ : TArp), Ent.pur ((f2 7) = .pointer (some ⟨blk (f2 7), 0, none⟩)), Fld KArp (blk (f2 7)) 0 zArp, Val Ktaker v9 (⟨x3⟩ : Ttaker), Val (Kd.sl (Kd.int .u8)) v8 x3, Val (Kd.sl (Kd.int .u8)) v1 a1, Fld KArp b1 0 zArp]) (by kernel_rfl) [0, 1, 2, 3, 4, 5, 6, 7, 8, 9, 10] (by decide) (by kernel_rfl)
    have q_ := h.mem.pur 5 rfl
    generalize blk (f2 7) = b4 at h q_
    rw [q_] at h
    refine gs0 h (o_st 6 rfl rfl rfl (pv_at PArp 4 rfl) rfl t_w34) fun _ _ _ h => ?_
    refine GoR.done ?_
    refine Go.seq ?_
    refine Go.reg ?_
    refine gs h (o_move rfl) rfl fun _ _ _ h => ?_
    obtain ⟨r7, er7, H⟩ := bindE H
    refine gs h (o_call (ether_taker_num.spc b2 r6.2 4 (show InR .i64 4 by decide) r7 er7) rfl [] [2] (by decide) rfl rfl) rfl fun _ _ _ h => ?_
    have g10 := h.mem.pur 0 rfl
    refine gs h (o_conv rfl t_q62 t_u32) rfl fun _ _ _ h => ?_
    refine gs h (o_fa rfl t_f34_2 rfl rfl) rfl fun _ _ _ h => ?_
    replace h := h.mm fun m => (m.take (i := 8) rfl).opn (cArp _ _)
    refine gs0 h (o_st 2 rfl rfl rfl (pv_int (wrap_in _ _)) rfl t_w32) fun _ _ _ h => ?_
    refine GoR.done ?_
    refine Go.seq ?_
    refine Go.reg ?_
    refine gs h (o_move rfl) rfl fun _ _ _ h => ?_
    obtain ⟨r8, er8, H⟩ := bindE H
    refine gs h (o_call (ether_taker_take.spc b2 r7.2 6 (show InR .i64 6 by decide) r8 er8) rfl [] [6] (by decide) rfl rfl) rfl fun v13 _ _ h => ?_
    refine gs h (o_fa rfl t_f34_3 rfl rfl) rfl fun _ _ _ h => ?_
    replace h := h.mm fun m => m.freeze 0 rfl
    refine gs0 h (o_st 5 rfl rfl rfl (pv_at Per_sl 0 rfl) rfl t_w22) fun _ _ _ h => ?_
    refine GoR.done ?_
    refine Go.seq ?_
    refine Go.reg ?_
    refine gs h (o_move rfl) rfl fun _ _ _ h => ?_
    obtain ⟨r9, er9, H⟩ := bindE H
    refine gs h (o_call (ether_taker_num.spc b2 r8.2 4 (show InR .i64 4 by decide) r9 er9) rfl [] [1] (by decide) rfl rfl) rfl fun _ _ _ h => ?_
    have g11 := h.mem.pur 0 rfl
    refine gs h (o_conv rfl t_q62 t_u32) rfl fun _ _ _ h => ?_
    refine gs h (o_fa rfl t_f34_4 rfl rfl) rfl fun _ _ _ h => ?_
    refine gs0 h (o_st 8 rfl rfl rfl (pv_int (wrap_in _ _)) rfl t_w32) fun _ _ _ h => ?_
    refine GoR.done ?_
    refine Go.seq ?_
    refine Go.reg ?_
    replace h := h.mm fun m => (m.pull (Lo := [Fld (Kd.int .i64) b4 0 ((⟨x5, r6.1, 0, [], 0⟩ : TArp).Op), Fld (Kd.sl (Kd.int .u8)) b4 1 ((⟨x5, r6.1, 0, [], 0⟩ : TArp).Smac), Fld (Kd.int .u32) b4 2 (IntKind.u32.wrap r7.1), Fld (Kd.sl (Kd.int .u8)) b4 3 r8.1, Fld (Kd.int .u32) b4 4 (IntKind.u32.wrap r9.1)]) [4, 5, 6, 7, 8] (by decide) rfl).cls (cArp _ (⟨(⟨x5, r6.1, 0, [], 0⟩ : TArp).Op, (⟨x5, r6.1, 0, [], 0⟩ : TArp).Smac, IntKind.u32.wrap r7.1, r8.1, IntKind.u32.wrap r9.1⟩ : TArp))
    refine gs h (o_ldv 0 rfl rfl PArp t_y34) rfl fun v14 _ _ h => ?_
    refine gs0 h (o_st 23 rfl rfl rfl (pv_at PArp 0 rfl) rfl t_w34) fun _ _ _ h => ?_
    refine gs h (o_assign rfl) rfl fun _ _ _ h => ?_
    refine GoR.done ?_
    obtain ⟨v15, h, u3⟩ := h.peek 23 rfl PArp t_y34
    rw [← som H]
    exact g_ret (vs := [v15, .int .i64 0]) h Try.func12 ⟨⟨_, rfl, u3⟩, ⟨rfl, trivial⟩⟩ ⟨v15, rfl, ((h.mem.pick [0] (by decide) rfl).addpur (show InR .i64 0 by decide))⟩
  refine Go.reg ?_
  refine gs h (o_move rfl) rfl fun _ _ _ h => ?_
  obtain ⟨r3, er3, H⟩ := bindE H
  refine gs h (o_call (ether_lead.spc  r3 er3) rfl [] [] (by decide) rfl rfl) rfl fun v5 _ _ h => ?_
  replace h := h.mm fun m => m.freeze 0 rfl
  obtain ⟨r4, er4, H⟩ := bindE H
  refine gs h (o_call (bytes_HasPrefix.spc v1 a1 v5 r3 r4 er4) rfl [3, 0] [] (by decide) rfl rfl) rfl fun _ _ _ h => ?_
  refine gs h (o_not rfl) rfl fun _ _ _ h => ?_
  refine gs h (o_move rfl) rfl fun _ _ _ h => ?_
  by_cases c2 : (!r4) = true
  ·have H := ifT c2 H
   refine gk h rfl rfl (nb_t c2) rfl fun _ h => ?_
   refine gk h rfl rfl (nb_t c2) rfl fun _ h => ?_
   refine gk h rfl rfl (nb_t c2) rfl fun _ h => ?_
   refine gk h rfl rfl (nb_t c2) rfl fun _ h => ?_
   refine gs h (o_pickT rfl rfl c2) rfl fun _ _ _ h => ?_
   refine gs h (o_move rfl) rfl fun _ _ _ h => ?_
   refine gk h rfl rfl (nb_t rfl) rfl fun _ h => ?_
   refine gk h rfl rfl (nb_t rfl) rfl fun _ h => ?_
   refine gk h rfl rfl (nb_t rfl) rfl fun _ h => ?_
   refine gk h rfl rfl (nb_t rfl) rfl fun _ h => ?_
   refine gs h (o_pickT rfl rfl rfl) rfl fun _ _ _ h => ?_
   refine GoR.done ?_
   exact J1 true _ _ (som H).symm (h.wk (by rfl) [3, 2] (by decide) (by rfl))
  ·have H := ifF c2 H
   refine gg h rfl rfl (nbF c2) (o_move rfl) rfl fun _ _ _ h => ?_
   obtain ⟨x1, ex1, H⟩ := bindE H
   refine gg h rfl rfl (nbF c2) (o_ix rfl rfl (rd_at 3 rfl) ex1 t_v22) rfl fun _ _ _ h => ?_
   have g3 := (rd_inr (rd_at 3 rfl) ex1 h.mem)
   refine gg h rfl rfl (nbF c2) (o_lex rfl (rd_at 3 rfl) ex1 X_int t_y5 (by decide)) rfl fun _ _ _ h => ?_
   refine gg h rfl rfl (nbF c2) (o_bin rfl rfl rfl) rfl fun _ _ _ h => ?_
   refine gs h (o_pickF rfl rfl c2) rfl fun _ _ _ h => ?_
   refine gs h (o_move rfl) rfl fun _ _ _ h => ?_
   by_cases c3 : decide (x1 < 1) = true
   ·have H := ifT c3 H
    refine gk h rfl rfl (nb_t c3) rfl fun _ h => ?_
    refine gk h rfl rfl (nb_t c3) rfl fun _ h => ?_
    refine gk h rfl rfl (nb_t c3) rfl fun _ h => ?_
    refine gk h rfl rfl (nb_t c3) rfl fun _ h => ?_
    refine gs h (o_pickT rfl rfl c3) rfl fun _ _ _ h => ?_
    refine GoR.done ?_
    exact J1 true _ _ (som H).symm (h.wk (by rfl) [3, 2] (by decide) (by rfl))
   ·have H := ifF c3 H
    refine gg h rfl rfl (nbF c3) (o_move rfl) rfl fun _ _ _ h => ?_
    obtain ⟨x2, ex2, H⟩ := bindE H
    refine gg h rfl rfl (nbF c3) (o_ix rfl rfl (rd_at 3 rfl) ex2 t_v22) rfl fun _ _ _ h => ?_
    have g4 := (rd_inr (rd_at 3 rfl) ex2 h.mem)
    refine gg h rfl rfl (nbF c3) (o_lex rfl (rd_at 3 rfl) ex2 X_int t_y5 (by decide)) rfl fun _ _ _ h => ?_
    refine gg h rfl rfl (nbF c3) (o_bin rfl rfl rfl) rfl fun _ _ _ h => ?_
    refine gs h (o_pickF rfl rfl c3) rfl fun _ _ _ h => ?_
    refine GoR.done ?_
    exact J1 (decide (2 < x2)) _ _ (som H).symm (h.wk (by rfl) [3, 2] (by decide) (by rfl))
def ether_GetArp.g (k_ : Nat) (a1 : List Int) : Option (TArp × Int) :=
  (ether_beside.g k_ a1 28 (max (a1.length : Int) 28)).bind fun r1 => (if (!r1.isNone) = true then (ether_errno.g k_ r1).bind fun r2 => some (((⟨0, [], 0, [], 0⟩ : TArp), r2)) else ((ether_lead.g k_).bind fun r3 => (bytes_HasPrefix.g k_ a1 r3).bind fun r4 => (if (!r4) = true then some (true) else (idx a1 7).bind fun x1 => (if decide (x1 < 1) = true then some (true) else (idx a1 7).bind fun x2 => some (decide (2 < x2))))).bind (fun j1 => (if j1 = true then some (((⟨0, [], 0, [], 0⟩ : TArp), 161)) else (cut a1 8 (a1.length : Int)).bind fun x3 => (idx a1 7).bind fun x5 => (ether_taker_take.g k_ (⟨x3⟩ : Ttaker) 6).bind fun r6 => (ether_taker_num.g k_ r6.2 4).bind fun r7 => (ether_taker_take.g k_ r7.2 6).bind fun r8 => (ether_taker_num.g k_ r8.2 4).bind fun r9 => some (((⟨(⟨x5, r6.1, 0, [], 0⟩ : TArp).Op, (⟨x5, r6.1, 0, [], 0⟩ : TArp).Smac, IntKind.u32.wrap r7.1, r8.1, IntKind.u32.wrap r9.1⟩ : TArp), 0)))))
theorem ether_GetArp.le (k_ : Nat) (a1 : List Int) : Le (ether_GetArp.g k_ a1) (ether_GetArp.f a1) := by
 unfold ether_GetArp.g ether_GetArp.f
 repeat' (first | with_reducible refine le_loop fun _ => ?_ | with_reducible refine le_bind ?_ fun _ => ?_ | with_reducible refine le_ite ?_ ?_ | with_reducible refine le_lt fun _ => ?_ | with_reducible refine le_elim (fun _ => ?_) (fun _ => ?_) _ | with_reducible apply bytes_HasPrefix.le | with_reducible apply ether_beside.le | with_reducible apply ether_errno.le | with_reducible apply ether_lead.le | with_reducible apply ether_taker_num.le | with_reducible apply ether_taker_take.le | with_reducible exact le_refl _)
/-! drawbridge/ether.Answer -/
noncomputable def ether_Answer.f (a1 : TArp) (a2 : List Int) (a3 : Int) : Option (TArp × Bool) :=
  ((if (!decide (a1.Op = 1)) = true then some (true) else (if (!decide (a1.Tip = a3)) = true then some (true) else some ((!decide ((a2.length : Int) = 6)))))).bind (fun j1 => (if j1 = true then some (((⟨0, [], 0, [], 0⟩ : TArp), false)) else (slices_Clone_s_byte_byte.f a2).bind fun r1 => (slices_Clone_s_byte_byte.f a1.Smac).bind fun r2 => some (((⟨2, r1, a3, r2, a1.Sip⟩ : TArp), true))))
set_option maxRecDepth 100000 in
set_option maxHeartbeats 4000000 in
theorem ether_Answer.spc (v1 : Value) (a1 : TArp) (v2 : Value) (a2 : List Int) (a3 : Int) (ha3 : InR .u32 a3) (r : TArp × Bool) (H : ether_Answer.f a1 a2 a3 = some r) : Spc Try.prog 19 [v1, v2, .int .u32 a3] [Val KArp v1 a1, Val (Kd.sl (Kd.int .u8)) v2 a2] [] (fun (s : Value) => .tuple #[s, .bool r.2]) (fun s => [Val KArp s r.1]) := by
 unfold ether_Answer.f at H
 refine Spc.go Try.func19 rfl (by kernel_rfl) rfl rfl (all_cons (Val.per PArp) (all_cons (Val.per Per_sl) all_nil)) fun F a w h => ?_
 refine Go.seq ?_
 refine Go.reg ?_
 refine gs h (o_box (K := KArp) rfl (pv_at PArp 0 rfl)) rfl fun b1 _ _ h => ?_
 refine gs h (o_alloc (K := KArp) (z := (.agg #[.int .i64 0, .slice none 0 0, .int .u32 0, .slice none 0 0, .int .u32 0])) rfl ZArp) rfl fun b2 _ _ h => ?_
 refine gs h (o_assign rfl) rfl fun _ _ _ h => ?_
 refine GoR.done ?_
 refine Go.seq ?_
 refine Go.seq ?_
 obtain ⟨o1, H, G1⟩ := bindE H
 refine g_cut (fun G => ∀ j1 (a : Act) (w : World), o1 = j1 → St Try.f19.ntmps F [(1, v2), (2, .int .u32 a3), (3, .pointer (some ⟨b1, 0, none⟩)), (6, .pointer (some ⟨b2, 0, none⟩)), (21, .bool j1)] [Val (Kd.sl (Kd.int .u8)) v2 a2, Fld KArp b2 0 zArp, Fld KArp b1 0 a1] a w → G a w) 1 ?_ fun J1 => ?_
 ·intro j1 a w ho_ h
  rw [ho_] at G1
  have H := G1
  by_cases c3 : j1 = true
  ·have H := ifT c3 H
   refine g_t h rfl c3 ?_
   refine Go.seq ?_
   refine Go.reg ?_
   refine gs h (o_build (K := KArp) (x := (⟨0, [], 0, [], 0⟩ : TArp)) (ps := []) rfl (zs := zsArp) rfl t_b34 rfl (show PB (Kd.pair (Kd.int .i64) (Kd.pair (Kd.sl (Kd.int .u8)) (Kd.pair (Kd.int .u32) (Kd.pair (Kd.sl (Kd.int .u8)) (Kd.last (Kd.int .u32)))))) (0, [], 0, [], 0) 0 zsArp _ _ from (pb_zero z_int (pb_zero z_sl (pb_zero z_int (pb_zero z_sl (pb_lastz z_int))))))) rfl fun v3 _ _ h => ?_
   refine gs0 h (o_st 2 rfl rfl rfl (pv_at PArp 0 rfl) rfl t_w34) fun _ _ _ h => ?_
   refine gs h (o_assign rfl) rfl fun _ _ _ h => ?_
   refine GoR.done ?_
   obtain ⟨v4, h, u1⟩ := h.peek 2 rfl PArp t_y34
   rw [← som H]
   exact g_ret (vs := [v4, .bool false]) h Try.func19 ⟨⟨_, rfl, u1⟩, ⟨rfl, trivial⟩⟩ ⟨v4, rfl, (h.mem.pick [0] (by decide) rfl)⟩
  ·have H := ifF c3 H
   refine g_f h rfl c3 ?_
   refine Go.skip ?_
   refine Go.seq ?_
   replace h := h.wk (E' := [(1, v2), (2, .int .u32 a3), (3, .pointer (some ⟨b1, 0, none⟩)), (6, .pointer (some ⟨b2, 0, none⟩))]) (L' := [Val (Kd.sl (Kd.int .u8)) v2 a2, Fld KArp b2 0 zArp, Fld KArp b1 0 a1]) (by rfl) [0, 1, 2] (by decide) (by rfl)
   obtain ⟨r1, er1, H⟩ := bindE H
   obtain ⟨r2, er2, H⟩ := bindE H
   refine Go.draw (L := [Val (Kd.sl (Kd.int .u8)) v2 a2, Fld KArp b2 0 zArp, Fld KArp b1 0 a1]) h 8 [⟨[], [], [], false, .con (v2), none, fun u => []⟩, ⟨[0], [], [], false, .own, none, fun u => [Val (Kd.osl (Kd.int .u8)) u r1]⟩, ⟨[], [], [], false, .con (.int .u32 a3), none, fun u => []⟩, ⟨[], [], [], false, .con (.pointer (some ⟨b1, 1, none⟩)), none, fun u => []⟩, ⟨[3], [], [], false, .own, none, fun u => [Val (Kd.sl (Kd.int .u8)) u a1.Smac]⟩, ⟨[3, 4], [4], [], false, .own, none, fun u => [Val (Kd.osl (Kd.int .u8)) u r2]⟩, ⟨[], [], [], false, .con (.pointer (some ⟨b1, 2, none⟩)), none, fun u => []⟩, ⟨[6], [], [], false, .con (.int .u32 a1.Sip), none, fun u => [Ent.pur (InR .u32 a1.Sip)]⟩] rfl t_mxo (by kernel_rfl) (by rfl) ?_ fun f1 _ _ h => ?_
   ·exact obs_cons (ob_con rfl (gok_none rfl) rfl fun f1 => (o_move rfl)) (obs_cons (ob_own rfl (gok_none rfl) rfl fun f1 => (o_call (slices_Clone_s_byte_byte.spc v2 a2 r1 er1) rfl [0] [] (by decide) rfl rfl)) (obs_cons (ob_con rfl (gok_none rfl) rfl fun f1 => (o_move rfl)) (obs_cons (ob_con rfl (gok_none rfl) rfl fun f1 => (o_fa rfl t_f34_1 rfl rfl)) (obs_cons (ob_own rfl (gok_none rfl) rfl fun f1 => (o_lfv 2 rfl rfl sArp_Smac rfl Per_sl t_y22)) (obs_cons (ob_own rfl (gok_none rfl) rfl fun f1 => (o_call (slices_Clone_s_byte_byte.spc (f1 4) a1.Smac r2 er2) rfl [0] [] (by decide) rfl rfl)) (obs_cons (ob_con rfl (gok_none rfl) rfl fun f1 => (o_fa rfl t_f34_2 rfl rfl)) (obs_cons (ob_con rfl (gok_none rfl) rfl fun f1 => (OpS.pur (fun F w m_ => (in2 (fd_sub sArp_Sip 2 rfl m_))) (o_lfx 2 rfl rfl sArp_Sip rfl X_int t_y32))) (obs_nil))))))))
   replace h := h.wk (E' := [(6, .pointer (some ⟨b2, 0, none⟩)), (24, (f1 1)), (25, .int .u32 a3), (28, (f1 5)), (30, .int .u32 a1.Sip)]) (L' := [Val (Kd.osl (Kd.int .u8)) (f1 1) r1, Val (Kd.sl (Kd.int .u8)) (f1 4) a1.Smac, Val (Kd.osl (Kd.int .u8)) (f1 5) r2, Ent.pur (InR .u32 a1.Sip), Val (Kd.sl (Kd.int .u8)) v2 a2, Fld KArp b2 0 zArp, Fld KArp b1 0 a1]) (by kernel_rfl) [0, 1, 2, 3, 4, 5, 6] (by decide) (by kernel_rfl)
   replace h := h.mm fun m => m.freeze 0 rfl
   replace h := h.mm fun m => m.freeze 2 rfl
   have g4 := (fun m_ => (Mem.pur 3 rfl m_)) h.mem
   refine gs h (o_build (K := KArp) (x := (⟨2, r1, a3, r2, a1.Sip⟩ : TArp)) (ps := [(0, .int .i64 2), (1, (f1 1)), (2, .int .u32 a3), (3, (f1 5)), (4, .int .u32 a1.Sip)]) rfl (zs := zsArp) rfl t_b34 rfl (show PB (Kd.pair (Kd.int .i64) (Kd.pair (Kd.sl (Kd.int .u8)) (Kd.pair (Kd.int .u32) (Kd.pair (Kd.sl (Kd.int .u8)) (Kd.last (Kd.int .u32)))))) (2, r1, a3, r2, a1.Sip) 0 zsArp _ _ from (pb_part (pv_int (show InR .i64 2 by decide)) rfl (pb_part (pv_at Per_sl 0 rfl) rfl (pb_part (pv_int ha3) rfl (pb_part (pv_at Per_sl 2 rfl) rfl (pb_lastp (pv_int g4) rfl))))))) rfl fun v8 _ _ h => ?_
   refine gs0 h (o_st 6 rfl rfl rfl (pv_at PArp 0 rfl) rfl t_w34) fun _ _ _ h => ?_
   refine gs h (o_assign rfl) rfl fun _ _ _ h => ?_
   refine GoR.done ?_
   obtain ⟨v9, h, u2⟩ := h.peek 6 rfl PArp t_y34
   rw [← som H]
   exact g_ret (vs := [v9, .bool true]) h Try.func19 ⟨⟨_, rfl, u2⟩, ⟨rfl, trivial⟩⟩ ⟨v9, rfl, (h.mem.pick [0] (by decide) rfl)⟩
 refine Go.reg ?_
 refine gs h (o_fa rfl t_f34_0 rfl rfl) rfl fun _ _ _ h => ?_
 have g1 := (in2 (fd_sub sArp_Op 1 rfl h.mem))
 refine gs h (o_lfx 1 rfl rfl sArp_Op rfl X_int t_y3) rfl fun _ _ _ h => ?_
 refine gs h (o_bin rfl rfl rfl) rfl fun _ _ _ h => ?_
 refine gs h (o_move rfl) rfl fun _ _ _ h => ?_
 by_cases c1 : (!decide (a1.Op = 1)) = true
 ·have H := ifT c1 H
  refine gk h rfl rfl (nb_t c1) rfl fun _ h => ?_
  refine gk h rfl rfl (nb_t c1) rfl fun _ h => ?_
  refine gk h rfl rfl (nb_t c1) rfl fun _ h => ?_
  refine gk h rfl rfl (nb_t c1) rfl fun _ h => ?_
  refine gs h (o_pickT rfl rfl c1) rfl fun _ _ _ h => ?_
  refine gs h (o_move rfl) rfl fun _ _ _ h => ?_
  refine gk h rfl rfl (nb_t rfl) rfl fun _ h => ?_
  refine gk h rfl rfl (nb_t rfl) rfl fun _ h => ?_
  refine gk h rfl rfl (nb_t rfl) rfl fun _ h => ?_
  refine gs h (o_pickT rfl rfl rfl) rfl fun _ _ _ h => ?_
  refine GoR.done ?_
  exact J1 true _ _ (som H).symm (h.wk (by rfl) [3, 0, 1] (by decide) (by rfl))
 ·have H := ifF c1 H
  refine gg h rfl rfl (nbF c1) (o_fa rfl t_f34_4 rfl rfl) rfl fun _ _ _ h => ?_
  have g2 := (in2 (fd_sub sArp_Tip 1 rfl h.mem))
  refine gg h rfl rfl (nbF c1) (o_lfx 1 rfl rfl sArp_Tip rfl X_int t_y32) rfl fun _ _ _ h => ?_
  refine gg h rfl rfl (nbF c1) (o_move rfl) rfl fun _ _ _ h => ?_
  refine gg h rfl rfl (nbF c1) (o_bin rfl rfl rfl) rfl fun _ _ _ h => ?_
  refine gs h (o_pickF rfl rfl c1) rfl fun _ _ _ h => ?_
  refine gs h (o_move rfl) rfl fun _ _ _ h => ?_
  by_cases c2 : (!decide (a1.Tip = a3)) = true
  ·have H := ifT c2 H
   refine gk h rfl rfl (nb_t c2) rfl fun _ h => ?_
   refine gk h rfl rfl (nb_t c2) rfl fun _ h => ?_
   refine gk h rfl rfl (nb_t c2) rfl fun _ h => ?_
   refine gs h (o_pickT rfl rfl c2) rfl fun _ _ _ h => ?_
   refine GoR.done ?_
   exact J1 true _ _ (som H).symm (h.wk (by rfl) [3, 0, 1] (by decide) (by rfl))
  ·have H := ifF c2 H
   refine gg h rfl rfl (nbF c2) (o_move rfl) rfl fun _ _ _ h => ?_
   have g3 := (len_at 3 rfl h.mem)
   refine gg h rfl rfl (nbF c2) (o_ln rfl (rd_at 3 rfl) t_v22) rfl fun _ _ _ h => ?_
   refine gg h rfl rfl (nbF c2) (o_bin rfl rfl rfl) rfl fun _ _ _ h => ?_
   refine gs h (o_pickF rfl rfl c2) rfl fun _ _ _ h => ?_
   refine GoR.done ?_
   exact J1 (!decide ((a2.length : Int) = 6)) _ _ (som H).symm (h.wk (by rfl) [3, 0, 1] (by decide) (by rfl))
def ether_Answer.g (k_ : Nat) (a1 : TArp) (a2 : List Int) (a3 : Int) : Option (TArp × Bool) :=
  ((if (!decide (a1.Op = 1)) = true then some (true) else (if (!decide (a1.Tip = a3)) = true then some (true) else some ((!decide ((a2.length : Int) = 6)))))).bind (fun j1 => (if j1 = true then some (((⟨0, [], 0, [], 0⟩ : TArp), false)) else (slices_Clone_s_byte_byte.g k_ a2).bind fun r1 => (slices_Clone_s_byte_byte.g k_ a1.Smac).bind fun r2 => some (((⟨2, r1, a3, r2, a1.Sip⟩ : TArp), true))))
theorem ether_Answer.le (k_ : Nat) (a1 : TArp) (a2 : List Int) (a3 : Int) : Le (ether_Answer.g k_ a1 a2 a3) (ether_Answer.f a1 a2 a3) := by
 unfold ether_Answer.g ether_Answer.f
 repeat' (first | with_reducible refine le_loop fun _ => ?_ | with_reducible refine le_bind ?_ fun _ => ?_ | with_reducible refine le_ite ?_ ?_ | with_reducible refine le_lt fun _ => ?_ | with_reducible refine le_elim (fun _ => ?_) (fun _ => ?_) _ | with_reducible apply slices_Clone_s_byte_byte.le | with_reducible exact le_refl _)
end Go.Proofs.Ytplkiompmjhdlaa.S
