/- Contracts, printed by a program of this session. -/
import Derived.Test.YtplkiompmjhdlaaT1
import Derived.Test.YtplkiompmjhdlaaT2
import Derived.Test.YtplkiompmjhdlaaT4
namespace Go.Proofs.Ytplkiompmjhdlaa.S
open Go Go.SL Go.RowKit
set_option linter.unusedVariables false
set_option linter.unusedSimpArgs false
/-! drawbridge/ether.GetArp -/
noncomputable def ether_GetArp.f (a1 : List Int) : Option (TArp × Int) :=
  (ether_beside.f a1 28 (max (a1.length : Int) 28)).bind fun r1 => (if (!r1.isNone) = true then (ether_errno.f r1).bind fun r2 => some (((⟨0, [], 0, [], 0⟩ : TArp), r2)) else ((ether_lead.f).bind fun r3 => (bytes_HasPrefix.f a1 r3).bind fun r4 => (if (!r4) = true then some (true) else (idx a1 7).bind fun x1 => (if decide (x1 < 1) = true then some (true) else (idx a1 7).bind fun x2 => some (decide (2 < x2))))).bind (fun j1 => (if j1 = true then some (((⟨0, [], 0, [], 0⟩ : TArp), 161)) else (cut a1 8 (a1.length : Int)).bind fun x3 => (idx a1 7).bind fun x5 => (ether_taker_take.f (⟨x3⟩ : Ttaker) 6).bind fun r6 => (ether_taker_num.f r6.2 4).bind fun r7 => (ether_taker_take.f r7.2 6).bind fun r8 => (ether_taker_num.f r8.2 4).bind fun r9 => some (((⟨(⟨x5, r6.1, 0, [], 0⟩ : TArp).Op, (⟨x5, r6.1, 0, [], 0⟩ : TArp).Smac, IntKind.u32.wrap r7.1, r8.1, IntKind.u32.wrap r9.1⟩ : TArp), 0)))))
set_option maxRecDepth 100000 in
set_option maxHeartbeats 4000000 in
theorem ether_GetArp.spc (v1 : Value) (a1 : List Int) (r : TArp × Int) (H : ether_GetArp.f a1 = some r) : Spc Try.prog 12 [v1] [Val (Kd.sl (Kd.int .u8)) v1 a1] [] (fun (s : Value) => .tuple #[s, .int .i64 r.2]) (fun s => [Ent.pur (InR .i64 r.2), Val KArp s r.1]) := by
 unfold ether_GetArp.f at H
 refine Spc.go Try.func12 rfl (by kernel_rfl) rfl rfl (all_cons (Val.per Per_sl) all_nil) fun F a w h => ?_
 refine Go.seq ?_
 refine Go.reg ?_
 refine gs h (o_alloc (K := KArp) (z := (.agg #[.int .i64 0, .slice none 0 0, .int .u32 0, .slice none 0 0, .int .u32 0])) rfl ZArp) rfl fun b1 _ _ h => ?_
 refine gs h (o_assign rfl) rfl fun _ _ _ h => ?_
 refine GoR.done ?_
 refine Go.seq ?_
 refine Go.seq ?_
 refine Go.reg ?_
 refine gs h (o_move rfl) rfl fun _ _ _ h => ?_
 refine gs h (o_move rfl) rfl fun _ _ _ h => ?_
 have g1 := (len_at 1 rfl h.mem)
 refine gs h (o_ln rfl (rd_at 1 rfl) t_v22) rfl fun _ _ _ h => ?_
 refine gs h (o_max rfl rfl) rfl fun _ _ _ h => ?_
 obtain ⟨r1, er1, H⟩ := bindE H
 refine gs h (o_call (ether_beside.spc v1 a1 28 (show InR .i64 28 by decide) (max (a1.length : Int) 28) (inr_max g1 (show InR .i64 28 by decide)) r1 er1) rfl [1] [] (by decide) rfl rfl) rfl fun v2 _ _ h => ?_
 refine gs h (o_assign rfl) rfl fun _ _ _ h => ?_
 refine GoR.done ?_
 refine Go.seq ?_
 refine Go.reg ?_
 refine gs h (o_move rfl) rfl fun _ _ _ h => ?_
 refine gs h (o_ern 0 rfl rfl t_i55) rfl fun _ _ _ h => ?_
 refine GoR.done ?_
 by_cases c1 : (!r1.isNone) = true
 ·have H := ifT c1 H
  refine g_t h rfl c1 ?_
  refine Go.seq ?_
  refine Go.reg ?_
  refine gs h (o_build (K := KArp) (x := (⟨0, [], 0, [], 0⟩ : TArp)) (ps := []) rfl (zs := zsArp) rfl t_b34 rfl (show PB (Kd.pair (Kd.int .i64) (Kd.pair (Kd.sl (Kd.int .u8)) (Kd.pair (Kd.int .u32) (Kd.pair (Kd.sl (Kd.int .u8)) (Kd.last (Kd.int .u32)))))) (0, [], 0, [], 0) 0 zsArp _ _ from (pb_zero z_int (pb_zero z_sl (pb_zero z_int (pb_zero z_sl (pb_lastz z_int))))))) rfl fun v3 _ _ h => ?_
  refine gs h (o_move rfl) rfl fun _ _ _ h => ?_
  obtain ⟨r2, er2, H⟩ := bindE H
  refine gs h (o_call (ether_errno.spc v2 r1 r2 er2) rfl [1] [] (by decide) rfl rfl) rfl fun _ _ _ h => ?_
  have g2 := h.mem.pur 0 rfl
  refine gs0 h (o_st 3 rfl rfl rfl (pv_at PArp 1 rfl) rfl t_w34) fun _ _ _ h => ?_
  refine gs h (o_assign rfl) rfl fun _ _ _ h => ?_
  refine GoR.done ?_
  obtain ⟨v4, h, u1⟩ := h.peek 3 rfl PArp t_y34
  rw [← som H]
  exact g_ret (vs := [v4, .int .i64 r2]) h Try.func12 ⟨⟨_, rfl, u1⟩, ⟨rfl, trivial⟩⟩ ⟨v4, rfl, ((h.mem.pick [0] (by decide) rfl).addpur g2)⟩
 ·have H := ifF c1 H
  refine g_f h rfl c1 ?_
  refine Go.skip ?_
  refine Go.seq ?_
  refine Go.seq ?_
  obtain ⟨o1, H, G1⟩ := bindE H
  refine g_cut (fun G => ∀ j1 (a : Act) (w : World), o1 = j1 → St Try.f12.ntmps F [(0, v1), (2, .pointer (some ⟨b1, 0, none⟩)), (32, .bool j1)] [Val (Kd.sl (Kd.int .u8)) v1 a1, Fld KArp b1 0 zArp] a w → G a w) 1 ?_ fun J1 => ?_
  ·intro j1 a w ho_ h
   rw [ho_] at G1
   have H := G1
   by_cases c4 : j1 = true
   ·have H := ifT c4 H
    refine g_t h rfl c4 ?_
    refine Go.seq ?_
    refine Go.reg ?_
    refine gs h (o_build (K := KArp) (x := (⟨0, [], 0, [], 0⟩ : TArp)) (ps := []) rfl (zs := zsArp) rfl t_b34 rfl (show PB (Kd.pair (Kd.int .i64) (Kd.pair (Kd.sl (Kd.int .u8)) (Kd.pair (Kd.int .u32) (Kd.pair (Kd.sl (Kd.int .u8)) (Kd.last (Kd.int .u32)))))) (0, [], 0, [], 0) 0 zsArp _ _ from (pb_zero z_int (pb_zero z_sl (pb_zero z_int (pb_zero z_sl (pb_lastz z_int))))))) rfl fun v6 _ _ h => ?_
    refine gs0 h (o_st 2 rfl rfl rfl (pv_at PArp 0 rfl) rfl t_w34) fun _ _ _ h => ?_
    refine gs h (o_assign rfl) rfl fun _ _ _ h => ?_
    refine GoR.done ?_
    obtain ⟨v7, h, u2⟩ := h.peek 2 rfl PArp t_y34
    rw [← som H]
    exact g_ret (vs := [v7, .int .i64 161]) h Try.func12 ⟨⟨_, rfl, u2⟩, ⟨rfl, trivial⟩⟩ ⟨v7, rfl, ((h.mem.pick [0] (by decide) rfl).addpur (show InR .i64 161 by decide))⟩
   ·have H := ifF c4 H
    refine g_f h rfl c4 ?_
    refine Go.skip ?_
    refine Go.seq ?_
    refine Go.reg ?_
    refine gs h (o_move rfl) rfl fun _ _ _ h => ?_
    obtain ⟨x3, ex3, H⟩ := bindE H
    refine gs h (o_cutl rfl (pv_at Per_sl 0 rfl) rfl ex3 t_v22) rfl fun v8 _ _ h => ?_
    refine gs h (o_build (K := Ktaker) (x := (⟨x3⟩ : Ttaker)) (ps := [(0, v8)]) rfl (zs := zstaker) rfl t_b60 rfl (show PB (Kd.last (Kd.sl (Kd.int .u8))) x3 0 zstaker _ _ from (pb_lastp (pv_at Per_sl 0 rfl) rfl))) rfl fun v9 _ _ h => ?_
    refine gs h (o_box (K := Ktaker) rfl (pv_at Ptaker 0 rfl)) rfl fun b2 _ _ h => ?_
    refine gs h (o_assign rfl) rfl fun _ _ _ h => ?_
    refine GoR.done ?_
    refine Go.seq ?_
    replace h := h.wk (E' := [(0, v1), (2, .pointer (some ⟨b1, 0, none⟩)), (5, .pointer (some ⟨b2, 0, none⟩))]) (L' := [Fld Ktaker b2 0 (⟨x3⟩ : Ttaker), Val Ktaker v9 (⟨x3⟩ : Ttaker), Val (Kd.sl (Kd.int .u8)) v8 x3, Val (Kd.sl (Kd.int .u8)) v1 a1, Fld KArp b1 0 zArp]) (by rfl) [0, 1, 2, 3, 4] (by decide) (by rfl)
    obtain ⟨x5, ex5, H⟩ := bindE H
    obtain ⟨r6, er6, H⟩ := bindE H
    refine Go.draw (L := [Val Ktaker v9 (⟨x3⟩ : Ttaker), Val (Kd.sl (Kd.int .u8)) v8 x3, Val (Kd.sl (Kd.int .u8)) v1 a1, Fld KArp b1 0 zArp]) h 8 [⟨[], [], [], false, .con (v1), none, fun u => []⟩, ⟨[0], [], [], false, .con (elemP v1 ((7 : Int).toNat * Kd.n (Kd.int .u8))), none, fun u => []⟩, ⟨[0, 1], [], [], false, .con (.int .u8 x5), none, fun u => [Ent.pur (InR .u8 x5)]⟩, ⟨[0, 1, 2], [2], [], false, .con (.int .i64 x5), none, fun u => []⟩, ⟨[], [], [], false, .con (.pointer (some ⟨b2, 0, none⟩)), none, fun u => []⟩, ⟨[4], [8], [8], false, .own, none, fun u => [Val (Kd.sl (Kd.int .u8)) u r6.1, Fld Ktaker b2 0 r6.2, Ent.nul]⟩, ⟨[0, 1, 2, 3, 4, 5], [2, 5], [], false, .own, none, fun u => [Val KArp u (⟨x5, r6.1, 0, [], 0⟩ : TArp)]⟩, ⟨[], [], [], false, .own, none, fun u => [Ent.pur (u = .pointer (some ⟨blk u, 0, none⟩)), Fld KArp (blk u) 0 zArp]⟩, ⟨[], [], [], false, .con undef, none, fun u => [Fld Ktaker b2 0 (⟨x3⟩ : Ttaker)]⟩] rfl t_mxo (by kernel_rfl) (by rfl) ?_ fun f2 _ _ h => ?_
    ·exact obs_cons (ob_con rfl (gok_none rfl) rfl fun f2 => (o_move rfl)) (obs_cons (ob_con rfl (gok_none rfl) rfl fun f2 => (o_ix rfl rfl (rd_at 2 rfl) ex5 t_v22)) (obs_cons (ob_con rfl (gok_none rfl) rfl fun f2 => (OpS.pur (fun F w m_ => (rd_inr (rd_at 2 rfl) ex5 m_)) (o_lex rfl (rd_at 2 rfl) ex5 X_int t_y5 (by decide)))) (obs_cons (ob_con rfl (gok_none rfl) rfl fun f2 => (OpS.fact (p := InR .u8 x5) (fun F w m_ => (Mem.pur 0 rfl m_)) fun g7 => (o_convw rfl t_q5 t_u3 g7 rfl))) (obs_cons (ob_con rfl (gok_none rfl) rfl fun f2 => (o_move rfl)) (obs_cons (ob_own rfl (gok_none rfl) rfl fun f2 => (OpS.mm (o_call (ether_taker_take.spc b2 (⟨x3⟩ : Ttaker) 6 (show InR .i64 6 by decide) r6 er6) rfl [] [0] (by decide) rfl rfl) (fun _ _ _ m => m.freeze 0 rfl))) (obs_cons (ob_own rfl (gok_none rfl) rfl fun f2 => (OpS.fact (p := InR .i64 x5) (fun F w m_ => (inr_wid (k := .u8) (k' := .i64) (Mem.pur 0 rfl m_) rfl)) fun g8 => (OpS.fact (p := InR .i64 x5) (fun F w m_ => (inr_wid (k := .u8) (k' := .i64) (Mem.pur 0 rfl m_) rfl)) fun g9 => (o_build (K := KArp) (x := (⟨x5, r6.1, 0, [], 0⟩ : TArp)) (ps := [(0, .int .i64 x5), (1, (f2 5))]) rfl (zs := zsArp) rfl t_b34 rfl (show PB (Kd.pair (Kd.int .i64) (Kd.pair (Kd.sl (Kd.int .u8)) (Kd.pair (Kd.int .u32) (Kd.pair (Kd.sl (Kd.int .u8)) (Kd.last (Kd.int .u32)))))) (x5, r6.1, 0, [], 0) 0 zsArp _ _ from (pb_part (pv_int g9) rfl (pb_part (pv_at Per_sl 1 rfl) rfl (pb_zero z_int (pb_zero z_sl (pb_lastz z_int)))))))))) (obs_cons (ob_own rfl (gok_none rfl) rfl fun f2 => (ptr_d (o_alloc (K := KArp) (z := (.agg #[.int .i64 0, .slice none 0 0, .int .u32 0, .slice none 0 0, .int .u32 0])) rfl ZArp))) (obs_nil))))))))
    replace h := h.wk (E' := [(2, .pointer (some ⟨b1, 0, none⟩)), (5, .pointer (some ⟨b2, 0, none⟩)), (44, (f2 6)), (6, (f2 7))]) (L' := [Ent.pur (InR .u8 x5), Val (Kd.sl (Kd.int .u8)) (f2 5) r6.1, Fld Ktaker b2 0 r6.2, Ent.nul, Val KArp (f2 6) (⟨x5, r6.1, 0, [], 0⟩ : TArp), Ent.pur ((f2 7) = .pointer (some ⟨blk (f2 7), 0, none⟩)), Fld KArp (blk (f2 7)) 0 zArp, Val Ktaker v9 (⟨x3⟩ : Ttaker), Val (Kd.sl (Kd.int .u8)) v8 x3, Val (Kd.sl (Kd.int .u8)) v1 a1, Fld KArp b1 0 zArp]) (by kernel_rfl) [0, 1, 2, 3, 4, 5, 6, 7, 8, 9, 10] (by decide) (by kernel_rfl)
    have q_ := h.mem.pur 5 rfl
    generalize blk (f2 7) = b4 at h q_
    rw [q_] at h
    refine gs0 h (o_st 6 rfl rfl rfl (pv_at PArp 4 rfl) rfl t_w34) fun _ _ _ h => ?_
    refine GoR.done ?_
    refine Go.seq ?_
    refine Go.reg ?_
    refine gs h (o_move rfl) rfl fun _ _ _ h => ?_
    obtain ⟨r7, er7, H⟩ := bindE H
    refine gs h (o_call (ether_taker_num.spc b2 r6.2 4 (show InR .i64 4 by decide) r7 er7) rfl [] [2] (by decide) rfl rfl) rfl fun _ _ _ h => ?_
    have g10 := h.mem.pur 0 rfl
    refine gs h (o_conv rfl t_q62 t_u32) rfl fun _ _ _ h => ?_
    refine gs h (o_fa rfl t_f34_2 rfl rfl) rfl fun _ _ _ h => ?_
    replace h := h.mm fun m => (m.take (i := 8) rfl).opn (cArp _ _)
    refine gs0 h (o_st 2 rfl rfl rfl (pv_int (wrap_in _ _)) rfl t_w32) fun _ _ _ h => ?_
    refine GoR.done ?_
    refine Go.seq ?_
    refine Go.reg ?_
    refine gs h (o_move rfl) rfl fun _ _ _ h => ?_
    obtain ⟨r8, er8, H⟩ := bindE H
    refine gs h (o_call (ether_taker_take.spc b2 r7.2 6 (show InR .i64 6 by decide) r8 er8) rfl [] [6] (by decide) rfl rfl) rfl fun v13 _ _ h => ?_
    refine gs h (o_fa rfl t_f34_3 rfl rfl) rfl fun _ _ _ h => ?_
    replace h := h.mm fun m => m.freeze 0 rfl
    refine gs0 h (o_st 5 rfl rfl rfl (pv_at Per_sl 0 rfl) rfl t_w22) fun _ _ _ h => ?_
    refine GoR.done ?_
    refine Go.seq ?_
    refine Go.reg ?_
    refine gs h (o_move rfl) rfl fun _ _ _ h => ?_
    obtain ⟨r9, er9, H⟩ := bindE H
    refine gs h (o_call (ether_taker_num.spc b2 r8.2 4 (show InR .i64 4 by decide) r9 er9) rfl [] [1] (by decide) rfl rfl) rfl fun _ _ _ h => ?_
    have g11 := h.mem.pur 0 rfl
    refine gs h (o_conv rfl t_q62 t_u32) rfl fun _ _ _ h => ?_
    refine gs h (o_fa rfl t_f34_4 rfl rfl) rfl fun _ _ _ h => ?_
    refine gs0 h (o_st 8 rfl rfl rfl (pv_int (wrap_in _ _)) rfl t_w32) fun _ _ _ h => ?_
    refine GoR.done ?_
    refine Go.seq ?_
    refine Go.reg ?_
    replace h := h.mm fun m => (m.pull (Lo := [Fld (Kd.int .i64) b4 0 ((⟨x5, r6.1, 0, [], 0⟩ : TArp).Op), Fld (Kd.sl (Kd.int .u8)) b4 1 ((⟨x5, r6.1, 0, [], 0⟩ : TArp).Smac), Fld (Kd.int .u32) b4 2 (IntKind.u32.wrap r7.1), Fld (Kd.sl (Kd.int .u8)) b4 3 r8.1, Fld (Kd.int .u32) b4 4 (IntKind.u32.wrap r9.1)]) [4, 5, 6, 7, 8] (by decide) rfl).cls (cArp _ (⟨(⟨x5, r6.1, 0, [], 0⟩ : TArp).Op, (⟨x5, r6.1, 0, [], 0⟩ : TArp).Smac, IntKind.u32.wrap r7.1, r8.1, IntKind.u32.wrap r9.1⟩ : TArp))
    refine gs h (o_ldv 0 rfl rfl PArp t_y34) rfl fun v14 _ _ h => ?_
    refine gs0 h (o_st 23 rfl rfl rfl (pv_at PArp 0 rfl) rfl t_w34) fun _ _ _ h => ?_
    refine gs h (o_assign rfl) rfl fun _ _ _ h => ?_
    refine GoR.done ?_
    obtain ⟨v15, h, u3⟩ := h.peek 23 rfl PArp t_y34
    rw [← som H]
    exact g_ret (vs := [v15, .int .i64 0]) h Try.func12 ⟨⟨_, rfl, u3⟩, ⟨rfl, trivial⟩⟩ ⟨v15, rfl, ((h.mem.pick [0] (by decide) rfl).addpur (show InR .i64 0 by decide))⟩
  refine Go.reg ?_
  refine gs h (o_move rfl) rfl fun _ _ _ h => ?_
  obtain ⟨r3, er3, H⟩ := bindE H
  refine gs h (o_call (ether_lead.spc  r3 er3) rfl [] [] (by decide) rfl rfl) rfl fun v5 _ _ h => ?_
  replace h := h.mm fun m => m.freeze 0 rfl
  obtain ⟨r4, er4, H⟩ := bindE H
  refine gs h (o_call (bytes_HasPrefix.spc v1 a1 v5 r3 r4 er4) rfl [3, 0] [] (by decide) rfl rfl) rfl fun _ _ _ h => ?_
  refine gs h (o_not rfl) rfl fun _ _ _ h => ?_
  refine gs h (o_move rfl) rfl fun _ _ _ h => ?_
  by_cases c2 : (!r4) = true
  ·have H := ifT c2 H
   refine gk h rfl rfl (nb_t c2) rfl fun _ h => ?_
   refine gk h rfl rfl (nb_t c2) rfl fun _ h => ?_
   refine gk h rfl rfl (nb_t c2) rfl fun _ h => ?_
   refine gk h rfl rfl (nb_t c2) rfl fun _ h => ?_
   refine gs h (o_pickT rfl rfl c2) rfl fun _ _ _ h => ?_
   refine gs h (o_move rfl) rfl fun _ _ _ h => ?_
   refine gk h rfl rfl (nb_t rfl) rfl fun _ h => ?_
   refine gk h rfl rfl (nb_t rfl) rfl fun _ h => ?_
   refine gk h rfl rfl (nb_t rfl) rfl fun _ h => ?_
   refine gk h rfl rfl (nb_t rfl) rfl fun _ h => ?_
   refine gs h (o_pickT rfl rfl rfl) rfl fun _ _ _ h => ?_
   refine GoR.done ?_
   exact J1 true _ _ (som H).symm (h.wk (by rfl) [3, 2] (by decide) (by rfl))
  ·have H := ifF c2 H
   refine gg h rfl rfl (nbF c2) (o_move rfl) rfl fun _ _ _ h => ?_
   obtain ⟨x1, ex1, H⟩ := bindE H
   refine gg h rfl rfl (nbF c2) (o_ix rfl rfl (rd_at 3 rfl) ex1 t_v22) rfl fun _ _ _ h => ?_
   have g3 := (rd_inr (rd_at 3 rfl) ex1 h.mem)
   refine gg h rfl rfl (nbF c2) (o_lex rfl (rd_at 3 rfl) ex1 X_int t_y5 (by decide)) rfl fun _ _ _ h => ?_
   refine gg h rfl rfl (nbF c2) (o_bin rfl rfl rfl) rfl fun _ _ _ h => ?_
   refine gs h (o_pickF rfl rfl c2) rfl fun _ _ _ h => ?_
   refine gs h (o_move rfl) rfl fun _ _ _ h => ?_
   by_cases c3 : decide (x1 < 1) = true
   ·have H := ifT c3 H
    refine gk h rfl rfl (nb_t c3) rfl fun _ h => ?_
    refine gk h rfl rfl (nb_t c3) rfl fun _ h => ?_
    refine gk h rfl rfl (nb_t c3) rfl fun _ h => ?_
    refine gk h rfl rfl (nb_t c3) rfl fun _ h => ?_
    refine gs h (o_pickT rfl rfl c3) rfl fun _ _ _ h => ?_
    refine GoR.done ?_
    exact J1 true _ _ (som H).symm (h.wk (by rfl) [3, 2] (by decide) (by rfl))
   ·have H := ifF c3 H
    refine gg h rfl rfl (nbF c3) (o_move rfl) rfl fun _ _ _ h => ?_
    obtain ⟨x2, ex2, H⟩ := bindE H
    refine gg h rfl rfl (nbF c3) (o_ix rfl rfl (rd_at 3 rfl) ex2 t_v22) rfl fun _ _ _ h => ?_
    have g4 := (rd_inr (rd_at 3 rfl) ex2 h.mem)
    refine gg h rfl rfl (nbF c3) (o_lex rfl (rd_at 3 rfl) ex2 X_int t_y5 (by decide)) rfl fun _ _ _ h => ?_
    refine gg h rfl rfl (nbF c3) (o_bin rfl rfl rfl) rfl fun _ _ _ h => ?_
    refine gs h (o_pickF rfl rfl c3) rfl fun _ _ _ h => ?_
    refine GoR.done ?_
    exact J1 (decide (2 < x2)) _ _ (som H).symm (h.wk (by rfl) [3, 2] (by decide) (by rfl))
def ether_GetArp.g (k_ : Nat) (a1 : List Int) : Option (TArp × Int) :=
  (ether_beside.g k_ a1 28 (max (a1.length : Int) 28)).bind fun r1 => (if (!r1.isNone) = true then (ether_errno.g k_ r1).bind fun r2 => some (((⟨0, [], 0, [], 0⟩ : TArp), r2)) else ((ether_lead.g k_).bind fun r3 => (bytes_HasPrefix.g k_ a1 r3).bind fun r4 => (if (!r4) = true then some (true) else (idx a1 7).bind fun x1 => (if decide (x1 < 1) = true then some (true) else (idx a1 7).bind fun x2 => some (decide (2 < x2))))).bind (fun j1 => (if j1 = true then some (((⟨0, [], 0, [], 0⟩ : TArp), 161)) else (cut a1 8 (a1.length : Int)).bind fun x3 => (idx a1 7).bind fun x5 => (ether_taker_take.g k_ (⟨x3⟩ : Ttaker) 6).bind fun r6 => (ether_taker_num.g k_ r6.2 4).bind fun r7 => (ether_taker_take.g k_ r7.2 6).bind fun r8 => (ether_taker_num.g k_ r8.2 4).bind fun r9 => some (((⟨(⟨x5, r6.1, 0, [], 0⟩ : TArp).Op, (⟨x5, r6.1, 0, [], 0⟩ : TArp).Smac, IntKind.u32.wrap r7.1, r8.1, IntKind.u32.wrap r9.1⟩ : TArp), 0)))))
theorem ether_GetArp.le (k_ : Nat) (a1 : List Int) : Le (ether_GetArp.g k_ a1) (ether_GetArp.f a1) := by
 unfold ether_GetArp.g ether_GetArp.f
 repeat' (first | with_reducible refine le_loop fun _ => ?_ | with_reducible refine le_bind ?_ fun _ => ?_ | with_reducible refine le_ite ?_ ?_ | with_reducible refine le_lt fun _ => ?_ | with_reducible refine le_elim (fun _ => ?_) (fun _ => ?_) _ | with_reducible apply bytes_HasPrefix.le | with_reducible apply ether_beside.le | with_reducible apply ether_errno.le | with_reducible apply ether_lead.le | with_reducible apply ether_taker_num.le | with_reducible apply ether_taker_take.le | with_reducible exact le_refl _)
/-! drawbridge/drawbridgelaw16.heads -/
noncomputable def law16_heads.f  : Option (Bool) :=
  (mk 6 0).bind fun x1 => (ether_Put.f (⟨x1, x1, 2054, ([7] : List Int)⟩ : TFrm)).bind fun r1 => (ether_Get.f r1.1).bind fun r2 => (cut r1.1 0 (IntKind.i64.wrap (Int.tdiv (r1.1.length : Int) 2))).bind fun x2 => (ether_Get.f x2).bind fun r3 => (ether_PutArp.f (⟨1, x1, 0, x1, 5⟩ : TArp)).bind fun r4 => (app ([] : List Int) r4.1).bind fun x3 => (app x3 ([1] : List Int)).bind fun x4 => (ether_GetArp.f x4).bind fun r5 => (ether_Answer.f r5.1 ([1, 2, 3, 4, 5, 6] : List Int) 5).bind fun r6 => (ether_Answer.f r6.1 x1 0).bind fun r7 => ((if decide (r1.2 = 0) = true then (if decide ((r1.1.length : Int) = 15) = true then (if decide (r2.2 = 0) = true then (if decide (r2.1.Type_ = 2054) = true then (if decide (r3.2 = 160) = true then (if decide (r4.2 = 0) = true then (if decide ((r4.1.length : Int) = 28) = true then (if decide (r5.2 = 0) = true then (if decide (r5.1.Tip = 5) = true then (if r6.2 = true then (if decide (r6.1.Op = 2) = true then (if decide (r6.1.Sip = 5) = true then some ((!r7.2)) else some (false)) else some (false)) else some (false)) else some (false)) else some (false)) else some (false)) else some (false)) else some (false)) else some (false)) else some (false)) else some (false)) else some (false))).bind (fun j1 => some (j1))
set_option maxRecDepth 100000 in
set_option maxHeartbeats 4000000 in
theorem law16_heads.spc  (r : Bool) (H : law16_heads.f  = some r) : Spc Try.prog 8 [] [] [] (fun (s : Unit) => .bool r) (fun s => []) := by
 unfold law16_heads.f at H
 refine Spc.go Try.func8 rfl (by kernel_rfl) rfl rfl all_nil fun F a w h => ?_
 refine Go.seq ?_
 refine Go.reg ?_
 refine gs h (o_assign rfl) rfl fun _ _ _ h => ?_
 refine GoR.done ?_
 refine Go.seq ?_
 refine Go.reg ?_
 obtain ⟨x1, ex1, H⟩ := bindE H
 refine gs h (o_mk (K := (Kd.int .u8)) rfl rfl ex1 t_a22 (by decide) (fun e he => ⟨[.int .u8 0], by cases he; exact t_zc5, z_int⟩)) rfl fun v1 _ _ h => ?_
 refine gs h (o_assign rfl) rfl fun _ _ _ h => ?_
 refine GoR.done ?_
 refine Go.seq ?_
 refine Go.reg ?_
 refine gs h (o_move rfl) rfl fun _ _ _ h => ?_
 refine gs h (o_move rfl) rfl fun _ _ _ h => ?_
 refine gs h (o_bs (K := (Kd.int .u8)) (vs := [.int .u8 7]) (xs := ([7] : List Int)) rfl rfl (pvs_cons (pv_int (show InR .u8 7 by decide)) pvs_nil) t_a22 (by decide) (by decide)) rfl fun v2 _ _ h => ?_
 replace h := h.mm fun m => m.freeze 1 rfl
 replace h := h.mm fun m => m.freeze 0 rfl
 refine gs h (o_build (K := KFrm) (x := (⟨x1, x1, 2054, ([7] : List Int)⟩ : TFrm)) (ps := [(0, v1), (1, v1), (2, .int .i64 2054), (3, v2)]) rfl (zs := zsFrm) rfl t_b25 rfl (show PB (Kd.pair (Kd.sl (Kd.int .u8)) (Kd.pair (Kd.sl (Kd.int .u8)) (Kd.pair (Kd.int .i64) (Kd.last (Kd.sl (Kd.int .u8)))))) (x1, x1, 2054, ([7] : List Int)) 0 zsFrm _ _ from (pb_part (pv_at Per_sl 1 rfl) rfl (pb_part (pv_at Per_sl 1 rfl) rfl (pb_part (pv_int (show InR .i64 2054 by decide)) rfl (pb_lastp (pv_at Per_sl 0 rfl) rfl)))))) rfl fun v3 _ _ h => ?_
 obtain ⟨r1, er1, H⟩ := bindE H
 refine gs h (o_call (ether_Put.spc v3 (⟨x1, x1, 2054, ([7] : List Int)⟩ : TFrm) r1 er1) rfl [0] [] (by decide) rfl rfl) rfl fun v4 _ _ h => ?_
 have g1 := h.mem.pur 0 rfl
 refine gs h (o_move rfl) rfl fun _ _ _ h => ?_
 refine gs h (o_extract rfl rfl) rfl fun _ _ _ h => ?_
 refine gs h (o_extract rfl rfl) rfl fun _ _ _ h => ?_
 refine gs h (o_assign rfl) rfl fun _ _ _ h => ?_
 refine gs h (o_assign rfl) rfl fun _ _ _ h => ?_
 refine GoR.done ?_
 refine Go.seq ?_
 refine Go.reg ?_
 refine gs h (o_move rfl) rfl fun _ _ _ h => ?_
 replace h := h.mm fun m => m.freeze 1 rfl
 obtain ⟨r2, er2, H⟩ := bindE H
 refine gs h (o_call (ether_Get.spc v4 r1.1 r2 er2) rfl [1] [] (by decide) rfl rfl) rfl fun v5 _ _ h => ?_
 have g2 := h.mem.pur 0 rfl
 refine gs h (o_move rfl) rfl fun _ _ _ h => ?_
 refine gs h (o_extract rfl rfl) rfl fun _ _ _ h => ?_
 refine gs h (o_extract rfl rfl) rfl fun _ _ _ h => ?_
 refine gs h (o_alloc (K := KFrm) (z := (.agg #[.slice none 0 0, .slice none 0 0, .int .i64 0, .slice none 0 0])) rfl ZFrm) rfl fun b1 _ _ h => ?_
 refine gs0 h (o_st 0 rfl rfl rfl (pv_at PFrm 2 rfl) rfl t_w25) fun _ _ _ h => ?_
 refine gs h (o_assign rfl) rfl fun _ _ _ h => ?_
 refine GoR.done ?_
 refine Go.seq ?_
 refine Go.reg ?_
 refine gs h (o_move rfl) rfl fun _ _ _ h => ?_
 refine gs h (o_move rfl) rfl fun _ _ _ h => ?_
 have g3 := (len_at 4 rfl h.mem)
 refine gs h (o_ln rfl (rd_at 4 rfl) t_v22) rfl fun _ _ _ h => ?_
 refine gs h (o_quo rfl rfl (show (2 : Int) ≠ 0 by decide)) rfl fun _ _ _ h => ?_
 obtain ⟨x2, ex2, H⟩ := bindE H
 refine gs h (o_cuth rfl (pv_at Per_sl 4 rfl) rfl ex2 t_v22) rfl fun v6 _ _ h => ?_
 obtain ⟨r3, er3, H⟩ := bindE H
 refine gs h (o_call (ether_Get.spc v6 x2 r3 er3) rfl [0] [] (by decide) rfl rfl) rfl fun v7 _ _ h => ?_
 have g4 := h.mem.pur 0 rfl
 refine gs h (o_move rfl) rfl fun _ _ _ h => ?_
 refine gs h (o_extract rfl rfl) rfl fun _ _ _ h => ?_
 refine gs h (o_extract rfl rfl) rfl fun _ _ _ h => ?_
 refine gs h (o_alloc (K := KFrm) (z := (.agg #[.slice none 0 0, .slice none 0 0, .int .i64 0, .slice none 0 0])) rfl ZFrm) rfl fun b2 _ _ h => ?_
 refine gs0 h (o_st 0 rfl rfl rfl (pv_at PFrm 2 rfl) rfl t_w25) fun _ _ _ h => ?_
 refine gs h (o_assign rfl) rfl fun _ _ _ h => ?_
 refine GoR.done ?_
 refine Go.seq ?_
 refine Go.reg ?_
 refine gs h (o_move rfl) rfl fun _ _ _ h => ?_
 refine gs h (o_move rfl) rfl fun _ _ _ h => ?_
 refine gs h (o_build (K := KArp) (x := (⟨1, x1, 0, x1, 5⟩ : TArp)) (ps := [(0, .int .i64 1), (1, v1), (3, v1), (4, .int .u32 5)]) rfl (zs := zsArp) rfl t_b34 rfl (show PB (Kd.pair (Kd.int .i64) (Kd.pair (Kd.sl (Kd.int .u8)) (Kd.pair (Kd.int .u32) (Kd.pair (Kd.sl (Kd.int .u8)) (Kd.last (Kd.int .u32)))))) (1, x1, 0, x1, 5) 0 zsArp _ _ from (pb_part (pv_int (show InR .i64 1 by decide)) rfl (pb_part (pv_at Per_sl 11 rfl) rfl (pb_zero z_int (pb_part (pv_at Per_sl 11 rfl) rfl (pb_lastp (pv_int (show InR .u32 5 by decide)) rfl))))))) rfl fun v8 _ _ h => ?_
 obtain ⟨r4, er4, H⟩ := bindE H
 refine gs h (o_call (ether_PutArp.spc v8 (⟨1, x1, 0, x1, 5⟩ : TArp) r4 er4) rfl [0] [] (by decide) rfl rfl) rfl fun v9 _ _ h => ?_
 have g5 := h.mem.pur 0 rfl
 refine gs h (o_move rfl) rfl fun _ _ _ h => ?_
 refine gs h (o_extract rfl rfl) rfl fun _ _ _ h => ?_
 refine gs h (o_extract rfl rfl) rfl fun _ _ _ h => ?_
 refine gs h (o_assign rfl) rfl fun _ _ _ h => ?_
 refine gs h (o_assign rfl) rfl fun _ _ _ h => ?_
 refine GoR.done ?_
 refine Go.seq ?_
 refine Go.reg ?_
 refine gs h (o_bs (K := (Kd.int .u8)) (vs := []) (xs := ([] : List Int)) rfl rfl pvs_nil t_a22 (by decide) (by decide)) rfl fun v10 _ _ h => ?_
 refine gs h (o_move rfl) rfl fun _ _ _ h => ?_
 obtain ⟨x3, ex3, H⟩ := bindE H
 refine gs h (o_app (K := (Kd.int .u8)) 0 rfl rfl rfl (rd_own 2 rfl) ex3 t_a22 t_n22) rfl fun v11 _ _ h => ?_
 refine gs h (o_bs (K := (Kd.int .u8)) (vs := [.int .u8 1]) (xs := ([1] : List Int)) rfl rfl (pvs_cons (pv_int (show InR .u8 1 by decide)) pvs_nil) t_a22 (by decide) (by decide)) rfl fun v12 _ _ h => ?_
 obtain ⟨x4, ex4, H⟩ := bindE H
 refine gs h (o_app (K := (Kd.int .u8)) 1 rfl rfl rfl (rd_own 0 rfl) ex4 t_a22 t_n22) rfl fun v13 _ _ h => ?_
 replace h := h.mm fun m => m.freeze 1 rfl
 obtain ⟨r5, er5, H⟩ := bindE H
 refine gs h (o_call (ether_GetArp.spc v13 x4 r5 er5) rfl [1] [] (by decide) rfl rfl) rfl fun v14 _ _ h => ?_
 have g6 := h.mem.pur 0 rfl
 refine gs h (o_move rfl) rfl fun _ _ _ h => ?_
 refine gs h (o_extract rfl rfl) rfl fun _ _ _ h => ?_
 refine gs h (o_extract rfl rfl) rfl fun _ _ _ h => ?_
 refine gs h (o_alloc (K := KArp) (z := (.agg #[.int .i64 0, .slice none 0 0, .int .u32 0, .slice none 0 0, .int .u32 0])) rfl ZArp) rfl fun b3 _ _ h => ?_
 refine gs0 h (o_st 0 rfl rfl rfl (pv_at PArp 2 rfl) rfl t_w34) fun _ _ _ h => ?_
 refine gs h (o_assign rfl) rfl fun _ _ _ h => ?_
 refine GoR.done ?_
 refine Go.seq ?_
 refine Go.reg ?_
 refine gs h (o_ldv 0 rfl rfl PArp t_y34) rfl fun v15 _ _ h => ?_
 refine gs h (o_bs (K := (Kd.int .u8)) (vs := [.int .u8 1, .int .u8 2, .int .u8 3, .int .u8 4, .int .u8 5, .int .u8 6]) (xs := ([1, 2, 3, 4, 5, 6] : List Int)) rfl rfl (pvs_cons (pv_int (show InR .u8 1 by decide)) (pvs_cons (pv_int (show InR .u8 2 by decide)) (pvs_cons (pv_int (show InR .u8 3 by decide)) (pvs_cons (pv_int (show InR .u8 4 by decide)) (pvs_cons (pv_int (show InR .u8 5 by decide)) (pvs_cons (pv_int (show InR .u8 6 by decide)) pvs_nil)))))) t_a22 (by decide) (by decide)) rfl fun v16 _ _ h => ?_
 replace h := h.mm fun m => m.freeze 0 rfl
 obtain ⟨r6, er6, H⟩ := bindE H
 refine gs h (o_call (ether_Answer.spc v15 r5.1 v16 ([1, 2, 3, 4, 5, 6] : List Int) 5 (show InR .u32 5 by decide) r6 er6) rfl [1, 0] [] (by decide) rfl rfl) rfl fun v17 _ _ h => ?_
 refine gs h (o_move rfl) rfl fun _ _ _ h => ?_
 refine gs h (o_extract rfl rfl) rfl fun _ _ _ h => ?_
 refine gs h (o_extract rfl rfl) rfl fun _ _ _ h => ?_
 refine gs h (o_alloc (K := KArp) (z := (.agg #[.int .i64 0, .slice none 0 0, .int .u32 0, .slice none 0 0, .int .u32 0])) rfl ZArp) rfl fun b4 _ _ h => ?_
 refine gs0 h (o_st 0 rfl rfl rfl (pv_at PArp 1 rfl) rfl t_w34) fun _ _ _ h => ?_
 refine gs h (o_assign rfl) rfl fun _ _ _ h => ?_
 refine GoR.done ?_
 refine Go.seq ?_
 refine Go.reg ?_
 refine gs h (o_ldv 0 rfl rfl PArp t_y34) rfl fun v18 _ _ h => ?_
 refine gs h (o_move rfl) rfl fun _ _ _ h => ?_
 obtain ⟨r7, er7, H⟩ := bindE H
 refine gs h (o_call (ether_Answer.spc v18 r6.1 v1 x1 0 (show InR .u32 0 by decide) r7 er7) rfl [0, 24] [] (by decide) rfl rfl) rfl fun v19 _ _ h => ?_
 refine gs h (o_move rfl) rfl fun _ _ _ h => ?_
 refine gs h (o_extract rfl rfl) rfl fun _ _ _ h => ?_
 refine gs h (o_extract rfl rfl) rfl fun _ _ _ h => ?_
 refine gs h (o_alloc (K := KArp) (z := (.agg #[.int .i64 0, .slice none 0 0, .int .u32 0, .slice none 0 0, .int .u32 0])) rfl ZArp) rfl fun b5 _ _ h => ?_
 refine gs0 h (o_st 0 rfl rfl rfl (pv_at PArp 1 rfl) rfl t_w34) fun _ _ _ h => ?_
 refine gs h (o_assign rfl) rfl fun _ _ _ h => ?_
 refine GoR.done ?_
 refine Go.seq ?_
 obtain ⟨o1, H, G1⟩ := bindE H
 refine g_cut (fun G => ∀ j1 (a : Act) (w : World), o1 = j1 → St Try.f8.ntmps F [(0, .bool j1)] [Fld KArp b5 0 r7.1, Fld KArp b4 0 r6.1, Fld KArp b3 0 r5.1, Fld KFrm b2 0 r3.1, Fld KFrm b1 0 r2.1] a w → G a w) 1 ?_ fun J1 => ?_
 ·intro j1 a w ho_ h
  rw [ho_] at G1
  have H := G1
  rw [← som H]
  exact g_ret (vs := [.bool j1]) h Try.func8 ⟨rfl, trivial⟩ ⟨(), rfl, (h.mem.pick [] (by decide) rfl)⟩
 refine Go.reg ?_
 refine gs h (o_move rfl) rfl fun _ _ _ h => ?_
 refine gs h (o_bin rfl rfl rfl) rfl fun _ _ _ h => ?_
 refine gs h (o_move rfl) rfl fun _ _ _ h => ?_
 by_cases c1 : decide (r1.2 = 0) = true
 ·have H := ifT c1 H
  refine gg h rfl rfl c1 (o_move rfl) rfl fun _ _ _ h => ?_
  have g7 := (len_at 23 rfl h.mem)
  refine gg h rfl rfl c1 (o_ln rfl (rd_at 23 rfl) t_v22) rfl fun _ _ _ h => ?_
  refine gg h rfl rfl c1 (o_bin rfl rfl rfl) rfl fun _ _ _ h => ?_
  refine gs h (o_pickT rfl rfl c1) rfl fun _ _ _ h => ?_
  refine gs h (o_move rfl) rfl fun _ _ _ h => ?_
  by_cases c2 : decide ((r1.1.length : Int) = 15) = true
  ·have H := ifT c2 H
   refine gg h rfl rfl c2 (o_move rfl) rfl fun _ _ _ h => ?_
   refine gg h rfl rfl c2 (o_bin rfl rfl rfl) rfl fun _ _ _ h => ?_
   refine gs h (o_pickT rfl rfl c2) rfl fun _ _ _ h => ?_
   refine gs h (o_move rfl) rfl fun _ _ _ h => ?_
   by_cases c3 : decide (r2.2 = 0) = true
   ·have H := ifT c3 H
    refine gg h rfl rfl c3 (o_fa rfl t_f25_2 rfl rfl) rfl fun _ _ _ h => ?_
    have g8 := (in2 (fd_sub sFrm_Type_ 19 rfl h.mem))
    refine gg h rfl rfl c3 (o_lfx 19 rfl rfl sFrm_Type_ rfl X_int t_y3) rfl fun _ _ _ h => ?_
    refine gg h rfl rfl c3 (o_bin rfl rfl rfl) rfl fun _ _ _ h => ?_
    refine gs h (o_pickT rfl rfl c3) rfl fun _ _ _ h => ?_
    refine gs h (o_move rfl) rfl fun _ _ _ h => ?_
    by_cases c4 : decide (r2.1.Type_ = 2054) = true
    ·have H := ifT c4 H
     refine gg h rfl rfl c4 (o_move rfl) rfl fun _ _ _ h => ?_
     refine gg h rfl rfl c4 (o_bin rfl rfl rfl) rfl fun _ _ _ h => ?_
     refine gs h (o_pickT rfl rfl c4) rfl fun _ _ _ h => ?_
     refine gs h (o_move rfl) rfl fun _ _ _ h => ?_
     by_cases c5 : decide (r3.2 = 160) = true
     ·have H := ifT c5 H
      refine gg h rfl rfl c5 (o_move rfl) rfl fun _ _ _ h => ?_
      refine gg h rfl rfl c5 (o_bin rfl rfl rfl) rfl fun _ _ _ h => ?_
      refine gs h (o_pickT rfl rfl c5) rfl fun _ _ _ h => ?_
      refine gs h (o_move rfl) rfl fun _ _ _ h => ?_
      by_cases c6 : decide (r4.2 = 0) = true
      ·have H := ifT c6 H
       refine gg h rfl rfl c6 (o_move rfl) rfl fun _ _ _ h => ?_
       have g9 := (len_own 13 rfl h.mem)
       refine gg h rfl rfl c6 (o_ln rfl (rd_own 13 rfl) t_v22) rfl fun _ _ _ h => ?_
       refine gg h rfl rfl c6 (o_bin rfl rfl rfl) rfl fun _ _ _ h => ?_
       refine gs h (o_pickT rfl rfl c6) rfl fun _ _ _ h => ?_
       refine gs h (o_move rfl) rfl fun _ _ _ h => ?_
       by_cases c7 : decide ((r4.1.length : Int) = 28) = true
       ·have H := ifT c7 H
        refine gg h rfl rfl c7 (o_move rfl) rfl fun _ _ _ h => ?_
        refine gg h rfl rfl c7 (o_bin rfl rfl rfl) rfl fun _ _ _ h => ?_
        refine gs h (o_pickT rfl rfl c7) rfl fun _ _ _ h => ?_
        refine gs h (o_move rfl) rfl fun _ _ _ h => ?_
        by_cases c8 : decide (r5.2 = 0) = true
        ·have H := ifT c8 H
         refine gg h rfl rfl c8 (o_fa rfl t_f34_4 rfl rfl) rfl fun _ _ _ h => ?_
         have g10 := (in2 (fd_sub sArp_Tip 7 rfl h.mem))
         refine gg h rfl rfl c8 (o_lfx 7 rfl rfl sArp_Tip rfl X_int t_y32) rfl fun _ _ _ h => ?_
         refine gg h rfl rfl c8 (o_bin rfl rfl rfl) rfl fun _ _ _ h => ?_
         refine gs h (o_pickT rfl rfl c8) rfl fun _ _ _ h => ?_
         refine gs h (o_move rfl) rfl fun _ _ _ h => ?_
         by_cases c9 : decide (r5.1.Tip = 5) = true
         ·have H := ifT c9 H
          refine gg h rfl rfl c9 (o_move rfl) rfl fun _ _ _ h => ?_
          refine gs h (o_pickT rfl rfl c9) rfl fun _ _ _ h => ?_
          refine gs h (o_move rfl) rfl fun _ _ _ h => ?_
          by_cases c10 : r6.2 = true
          ·have H := ifT c10 H
           refine gg h rfl rfl c10 (o_fa rfl t_f34_0 rfl rfl) rfl fun _ _ _ h => ?_
           have g11 := (in2 (fd_sub sArp_Op 3 rfl h.mem))
           refine gg h rfl rfl c10 (o_lfx 3 rfl rfl sArp_Op rfl X_int t_y3) rfl fun _ _ _ h => ?_
           refine gg h rfl rfl c10 (o_bin rfl rfl rfl) rfl fun _ _ _ h => ?_
           refine gs h (o_pickT rfl rfl c10) rfl fun _ _ _ h => ?_
           refine gs h (o_move rfl) rfl fun _ _ _ h => ?_
           by_cases c11 : decide (r6.1.Op = 2) = true
           ·have H := ifT c11 H
            refine gg h rfl rfl c11 (o_fa rfl t_f34_2 rfl rfl) rfl fun _ _ _ h => ?_
            have g12 := (in2 (fd_sub sArp_Sip 3 rfl h.mem))
            refine gg h rfl rfl c11 (o_lfx 3 rfl rfl sArp_Sip rfl X_int t_y32) rfl fun _ _ _ h => ?_
            refine gg h rfl rfl c11 (o_bin rfl rfl rfl) rfl fun _ _ _ h => ?_
            refine gs h (o_pickT rfl rfl c11) rfl fun _ _ _ h => ?_
            refine gs h (o_move rfl) rfl fun _ _ _ h => ?_
            by_cases c12 : decide (r6.1.Sip = 5) = true
            ·have H := ifT c12 H
             refine gg h rfl rfl c12 (o_move rfl) rfl fun _ _ _ h => ?_
             refine gg h rfl rfl c12 (o_not rfl) rfl fun _ _ _ h => ?_
             refine gs h (o_pickT rfl rfl c12) rfl fun _ _ _ h => ?_
             refine gs h (o_assign rfl) rfl fun _ _ _ h => ?_
             refine GoR.done ?_
             exact J1 (!r7.2) _ _ (som H).symm (h.wk (by rfl) [0, 3, 7, 15, 19] (by decide) (by rfl))
            ·have H := ifF c12 H
             refine gk h rfl rfl (nb_f c12) rfl fun _ h => ?_
             refine gk h rfl rfl (nb_f c12) rfl fun _ h => ?_
             refine gs h (o_pickF rfl rfl c12) rfl fun _ _ _ h => ?_
             refine gs h (o_assign rfl) rfl fun _ _ _ h => ?_
             refine GoR.done ?_
             exact J1 false _ _ (som H).symm (h.wk (by rfl) [0, 3, 7, 15, 19] (by decide) (by rfl))
           ·have H := ifF c11 H
            refine gk h rfl rfl (nb_f c11) rfl fun _ h => ?_
            refine gk h rfl rfl (nb_f c11) rfl fun _ h => ?_
            refine gk h rfl rfl (nb_f c11) rfl fun _ h => ?_
            refine gs h (o_pickF rfl rfl c11) rfl fun _ _ _ h => ?_
            refine gs h (o_move rfl) rfl fun _ _ _ h => ?_
            refine gk h rfl rfl (nb_f Bool.false_ne_true) rfl fun _ h => ?_
            refine gk h rfl rfl (nb_f Bool.false_ne_true) rfl fun _ h => ?_
            refine gs h (o_pickF rfl rfl Bool.false_ne_true) rfl fun _ _ _ h => ?_
            refine gs h (o_assign rfl) rfl fun _ _ _ h => ?_
            refine GoR.done ?_
            exact J1 false _ _ (som H).symm (h.wk (by rfl) [0, 3, 7, 15, 19] (by decide) (by rfl))
          ·have H := ifF c10 H
           refine gk h rfl rfl (nb_f c10) rfl fun _ h => ?_
           refine gk h rfl rfl (nb_f c10) rfl fun _ h => ?_
           refine gk h rfl rfl (nb_f c10) rfl fun _ h => ?_
           refine gs h (o_pickF rfl rfl c10) rfl fun _ _ _ h => ?_
           refine gs h (o_move rfl) rfl fun _ _ _ h => ?_
           refine gk h rfl rfl (nb_f Bool.false_ne_true) rfl fun _ h => ?_
           refine gk h rfl rfl (nb_f Bool.false_ne_true) rfl fun _ h => ?_
           refine gk h rfl rfl (nb_f Bool.false_ne_true) rfl fun _ h => ?_
           refine gs h (o_pickF rfl rfl Bool.false_ne_true) rfl fun _ _ _ h => ?_
           refine gs h (o_move rfl) rfl fun _ _ _ h => ?_
           refine gk h rfl rfl (nb_f Bool.false_ne_true) rfl fun _ h => ?_
           refine gk h rfl rfl (nb_f Bool.false_ne_true) rfl fun _ h => ?_
           refine gs h (o_pickF rfl rfl Bool.false_ne_true) rfl fun _ _ _ h => ?_
           refine gs h (o_assign rfl) rfl fun _ _ _ h => ?_
           refine GoR.done ?_
           exact J1 false _ _ (som H).symm (h.wk (by rfl) [0, 3, 7, 15, 19] (by decide) (by rfl))
         ·have H := ifF c9 H
          refine gk h rfl rfl (nb_f c9) rfl fun _ h => ?_
          refine gs h (o_pickF rfl rfl c9) rfl fun _ _ _ h => ?_
          refine gs h (o_move rfl) rfl fun _ _ _ h => ?_
          refine gk h rfl rfl (nb_f Bool.false_ne_true) rfl fun _ h => ?_
          refine gk h rfl rfl (nb_f Bool.false_ne_true) rfl fun _ h => ?_
          refine gk h rfl rfl (nb_f Bool.false_ne_true) rfl fun _ h => ?_
          refine gs h (o_pickF rfl rfl Bool.false_ne_true) rfl fun _ _ _ h => ?_
          refine gs h (o_move rfl) rfl fun _ _ _ h => ?_
          refine gk h rfl rfl (nb_f Bool.false_ne_true) rfl fun _ h => ?_
          refine gk h rfl rfl (nb_f Bool.false_ne_true) rfl fun _ h => ?_
          refine gk h rfl rfl (nb_f Bool.false_ne_true) rfl fun _ h => ?_
          refine gs h (o_pickF rfl rfl Bool.false_ne_true) rfl fun _ _ _ h => ?_
          refine gs h (o_move rfl) rfl fun _ _ _ h => ?_
          refine gk h rfl rfl (nb_f Bool.false_ne_true) rfl fun _ h => ?_
          refine gk h rfl rfl (nb_f Bool.false_ne_true) rfl fun _ h => ?_
          refine gs h (o_pickF rfl rfl Bool.false_ne_true) rfl fun _ _ _ h => ?_
          refine gs h (o_assign rfl) rfl fun _ _ _ h => ?_
          refine GoR.done ?_
          exact J1 false _ _ (som H).symm (h.wk (by rfl) [0, 3, 7, 15, 19] (by decide) (by rfl))
        ·have H := ifF c8 H
         refine gk h rfl rfl (nb_f c8) rfl fun _ h => ?_
         refine gk h rfl rfl (nb_f c8) rfl fun _ h => ?_
         refine gk h rfl rfl (nb_f c8) rfl fun _ h => ?_
         refine gs h (o_pickF rfl rfl c8) rfl fun _ _ _ h => ?_
         refine gs h (o_move rfl) rfl fun _ _ _ h => ?_
         refine gk h rfl rfl (nb_f Bool.false_ne_true) rfl fun _ h => ?_
         refine gs h (o_pickF rfl rfl Bool.false_ne_true) rfl fun _ _ _ h => ?_
         refine gs h (o_move rfl) rfl fun _ _ _ h => ?_
         refine gk h rfl rfl (nb_f Bool.false_ne_true) rfl fun _ h => ?_
         refine gk h rfl rfl (nb_f Bool.false_ne_true) rfl fun _ h => ?_
         refine gk h rfl rfl (nb_f Bool.false_ne_true) rfl fun _ h => ?_
         refine gs h (o_pickF rfl rfl Bool.false_ne_true) rfl fun _ _ _ h => ?_
         refine gs h (o_move rfl) rfl fun _ _ _ h => ?_
         refine gk h rfl rfl (nb_f Bool.false_ne_true) rfl fun _ h => ?_
         refine gk h rfl rfl (nb_f Bool.false_ne_true) rfl fun _ h => ?_
         refine gk h rfl rfl (nb_f Bool.false_ne_true) rfl fun _ h => ?_
         refine gs h (o_pickF rfl rfl Bool.false_ne_true) rfl fun _ _ _ h => ?_
         refine gs h (o_move rfl) rfl fun _ _ _ h => ?_
         refine gk h rfl rfl (nb_f Bool.false_ne_true) rfl fun _ h => ?_
         refine gk h rfl rfl (nb_f Bool.false_ne_true) rfl fun _ h => ?_
         refine gs h (o_pickF rfl rfl Bool.false_ne_true) rfl fun _ _ _ h => ?_
         refine gs h (o_assign rfl) rfl fun _ _ _ h => ?_
         refine GoR.done ?_
         exact J1 false _ _ (som H).symm (h.wk (by rfl) [0, 3, 7, 15, 19] (by decide) (by rfl))
       ·have H := ifF c7 H
        refine gk h rfl rfl (nb_f c7) rfl fun _ h => ?_
        refine gk h rfl rfl (nb_f c7) rfl fun _ h => ?_
        refine gs h (o_pickF rfl rfl c7) rfl fun _ _ _ h => ?_
        refine gs h (o_move rfl) rfl fun _ _ _ h => ?_
        refine gk h rfl rfl (nb_f Bool.false_ne_true) rfl fun _ h => ?_
        refine gk h rfl rfl (nb_f Bool.false_ne_true) rfl fun _ h => ?_
        refine gk h rfl rfl (nb_f Bool.false_ne_true) rfl fun _ h => ?_
        refine gs h (o_pickF rfl rfl Bool.false_ne_true) rfl fun _ _ _ h => ?_
        refine gs h (o_move rfl) rfl fun _ _ _ h => ?_
        refine gk h rfl rfl (nb_f Bool.false_ne_true) rfl fun _ h => ?_
        refine gs h (o_pickF rfl rfl Bool.false_ne_true) rfl fun _ _ _ h => ?_
        refine gs h (o_move rfl) rfl fun _ _ _ h => ?_
        refine gk h rfl rfl (nb_f Bool.false_ne_true) rfl fun _ h => ?_
        refine gk h rfl rfl (nb_f Bool.false_ne_true) rfl fun _ h => ?_
        refine gk h rfl rfl (nb_f Bool.false_ne_true) rfl fun _ h => ?_
        refine gs h (o_pickF rfl rfl Bool.false_ne_true) rfl fun _ _ _ h => ?_
        refine gs h (o_move rfl) rfl fun _ _ _ h => ?_
        refine gk h rfl rfl (nb_f Bool.false_ne_true) rfl fun _ h => ?_
        refine gk h rfl rfl (nb_f Bool.false_ne_true) rfl fun _ h => ?_
        refine gk h rfl rfl (nb_f Bool.false_ne_true) rfl fun _ h => ?_
        refine gs h (o_pickF rfl rfl Bool.false_ne_true) rfl fun _ _ _ h => ?_
        refine gs h (o_move rfl) rfl fun _ _ _ h => ?_
        refine gk h rfl rfl (nb_f Bool.false_ne_true) rfl fun _ h => ?_
        refine gk h rfl rfl (nb_f Bool.false_ne_true) rfl fun _ h => ?_
        refine gs h (o_pickF rfl rfl Bool.false_ne_true) rfl fun _ _ _ h => ?_
        refine gs h (o_assign rfl) rfl fun _ _ _ h => ?_
        refine GoR.done ?_
        exact J1 false _ _ (som H).symm (h.wk (by rfl) [0, 3, 7, 15, 19] (by decide) (by rfl))
      ·have H := ifF c6 H
       refine gk h rfl rfl (nb_f c6) rfl fun _ h => ?_
       refine gk h rfl rfl (nb_f c6) rfl fun _ h => ?_
       refine gk h rfl rfl (nb_f c6) rfl fun _ h => ?_
       refine gs h (o_pickF rfl rfl c6) rfl fun _ _ _ h => ?_
       refine gs h (o_move rfl) rfl fun _ _ _ h => ?_
       refine gk h rfl rfl (nb_f Bool.false_ne_true) rfl fun _ h => ?_
       refine gk h rfl rfl (nb_f Bool.false_ne_true) rfl fun _ h => ?_
       refine gs h (o_pickF rfl rfl Bool.false_ne_true) rfl fun _ _ _ h => ?_
       refine gs h (o_move rfl) rfl fun _ _ _ h => ?_
       refine gk h rfl rfl (nb_f Bool.false_ne_true) rfl fun _ h => ?_
       refine gk h rfl rfl (nb_f Bool.false_ne_true) rfl fun _ h => ?_
       refine gk h rfl rfl (nb_f Bool.false_ne_true) rfl fun _ h => ?_
       refine gs h (o_pickF rfl rfl Bool.false_ne_true) rfl fun _ _ _ h => ?_
       refine gs h (o_move rfl) rfl fun _ _ _ h => ?_
       refine gk h rfl rfl (nb_f Bool.false_ne_true) rfl fun _ h => ?_
       refine gs h (o_pickF rfl rfl Bool.false_ne_true) rfl fun _ _ _ h => ?_
       refine gs h (o_move rfl) rfl fun _ _ _ h => ?_
       refine gk h rfl rfl (nb_f Bool.false_ne_true) rfl fun _ h => ?_
       refine gk h rfl rfl (nb_f Bool.false_ne_true) rfl fun _ h => ?_
       refine gk h rfl rfl (nb_f Bool.false_ne_true) rfl fun _ h => ?_
       refine gs h (o_pickF rfl rfl Bool.false_ne_true) rfl fun _ _ _ h => ?_
       refine gs h (o_move rfl) rfl fun _ _ _ h => ?_
       refine gk h rfl rfl (nb_f Bool.false_ne_true) rfl fun _ h => ?_
       refine gk h rfl rfl (nb_f Bool.false_ne_true) rfl fun _ h => ?_
       refine gk h rfl rfl (nb_f Bool.false_ne_true) rfl fun _ h => ?_
       refine gs h (o_pickF rfl rfl Bool.false_ne_true) rfl fun _ _ _ h => ?_
       refine gs h (o_move rfl) rfl fun _ _ _ h => ?_
       refine gk h rfl rfl (nb_f Bool.false_ne_true) rfl fun _ h => ?_
       refine gk h rfl rfl (nb_f Bool.false_ne_true) rfl fun _ h => ?_
       refine gs h (o_pickF rfl rfl Bool.false_ne_true) rfl fun _ _ _ h => ?_
       refine gs h (o_assign rfl) rfl fun _ _ _ h => ?_
       refine GoR.done ?_
       exact J1 false _ _ (som H).symm (h.wk (by rfl) [0, 3, 7, 15, 19] (by decide) (by rfl))
     ·have H := ifF c5 H
      refine gk h rfl rfl (nb_f c5) rfl fun _ h => ?_
      refine gk h rfl rfl (nb_f c5) rfl fun _ h => ?_
      refine gs h (o_pickF rfl rfl c5) rfl fun _ _ _ h => ?_
      refine gs h (o_move rfl) rfl fun _ _ _ h => ?_
      refine gk h rfl rfl (nb_f Bool.false_ne_true) rfl fun _ h => ?_
      refine gk h rfl rfl (nb_f Bool.false_ne_true) rfl fun _ h => ?_
      refine gk h rfl rfl (nb_f Bool.false_ne_true) rfl fun _ h => ?_
      refine gs h (o_pickF rfl rfl Bool.false_ne_true) rfl fun _ _ _ h => ?_
      refine gs h (o_move rfl) rfl fun _ _ _ h => ?_
      refine gk h rfl rfl (nb_f Bool.false_ne_true) rfl fun _ h => ?_
      refine gk h rfl rfl (nb_f Bool.false_ne_true) rfl fun _ h => ?_
      refine gs h (o_pickF rfl rfl Bool.false_ne_true) rfl fun _ _ _ h => ?_
      refine gs h (o_move rfl) rfl fun _ _ _ h => ?_
      refine gk h rfl rfl (nb_f Bool.false_ne_true) rfl fun _ h => ?_
      refine gk h rfl rfl (nb_f Bool.false_ne_true) rfl fun _ h => ?_
      refine gk h rfl rfl (nb_f Bool.false_ne_true) rfl fun _ h => ?_
      refine gs h (o_pickF rfl rfl Bool.false_ne_true) rfl fun _ _ _ h => ?_
      refine gs h (o_move rfl) rfl fun _ _ _ h => ?_
      refine gk h rfl rfl (nb_f Bool.false_ne_true) rfl fun _ h => ?_
      refine gs h (o_pickF rfl rfl Bool.false_ne_true) rfl fun _ _ _ h => ?_
      refine gs h (o_move rfl) rfl fun _ _ _ h => ?_
      refine gk h rfl rfl (nb_f Bool.false_ne_true) rfl fun _ h => ?_
      refine gk h rfl rfl (nb_f Bool.false_ne_true) rfl fun _ h => ?_
      refine gk h rfl rfl (nb_f Bool.false_ne_true) rfl fun _ h => ?_
      refine gs h (o_pickF rfl rfl Bool.false_ne_true) rfl fun _ _ _ h => ?_
      refine gs h (o_move rfl) rfl fun _ _ _ h => ?_
      refine gk h rfl rfl (nb_f Bool.false_ne_true) rfl fun _ h => ?_
      refine gk h rfl rfl (nb_f Bool.false_ne_true) rfl fun _ h => ?_
      refine gk h rfl rfl (nb_f Bool.false_ne_true) rfl fun _ h => ?_
      refine gs h (o_pickF rfl rfl Bool.false_ne_true) rfl fun _ _ _ h => ?_
      refine gs h (o_move rfl) rfl fun _ _ _ h => ?_
      refine gk h rfl rfl (nb_f Bool.false_ne_true) rfl fun _ h => ?_
      refine gk h rfl rfl (nb_f Bool.false_ne_true) rfl fun _ h => ?_
      refine gs h (o_pickF rfl rfl Bool.false_ne_true) rfl fun _ _ _ h => ?_
      refine gs h (o_assign rfl) rfl fun _ _ _ h => ?_
      refine GoR.done ?_
      exact J1 false _ _ (som H).symm (h.wk (by rfl) [0, 3, 7, 15, 19] (by decide) (by rfl))
    ·have H := ifF c4 H
     refine gk h rfl rfl (nb_f c4) rfl fun _ h => ?_
     refine gk h rfl rfl (nb_f c4) rfl fun _ h => ?_
     refine gs h (o_pickF rfl rfl c4) rfl fun _ _ _ h => ?_
     refine gs h (o_move rfl) rfl fun _ _ _ h => ?_
     refine gk h rfl rfl (nb_f Bool.false_ne_true) rfl fun _ h => ?_
     refine gk h rfl rfl (nb_f Bool.false_ne_true) rfl fun _ h => ?_
     refine gs h (o_pickF rfl rfl Bool.false_ne_true) rfl fun _ _ _ h => ?_
     refine gs h (o_move rfl) rfl fun _ _ _ h => ?_
     refine gk h rfl rfl (nb_f Bool.false_ne_true) rfl fun _ h => ?_
     refine gk h rfl rfl (nb_f Bool.false_ne_true) rfl fun _ h => ?_
     refine gk h rfl rfl (nb_f Bool.false_ne_true) rfl fun _ h => ?_
     refine gs h (o_pickF rfl rfl Bool.false_ne_true) rfl fun _ _ _ h => ?_
     refine gs h (o_move rfl) rfl fun _ _ _ h => ?_
     refine gk h rfl rfl (nb_f Bool.false_ne_true) rfl fun _ h => ?_
     refine gk h rfl rfl (nb_f Bool.false_ne_true) rfl fun _ h => ?_
     refine gs h (o_pickF rfl rfl Bool.false_ne_true) rfl fun _ _ _ h => ?_
     refine gs h (o_move rfl) rfl fun _ _ _ h => ?_
     refine gk h rfl rfl (nb_f Bool.false_ne_true) rfl fun _ h => ?_
     refine gk h rfl rfl (nb_f Bool.false_ne_true) rfl fun _ h => ?_
     refine gk h rfl rfl (nb_f Bool.false_ne_true) rfl fun _ h => ?_
     refine gs h (o_pickF rfl rfl Bool.false_ne_true) rfl fun _ _ _ h => ?_
     refine gs h (o_move rfl) rfl fun _ _ _ h => ?_
     refine gk h rfl rfl (nb_f Bool.false_ne_true) rfl fun _ h => ?_
     refine gs h (o_pickF rfl rfl Bool.false_ne_true) rfl fun _ _ _ h => ?_
     refine gs h (o_move rfl) rfl fun _ _ _ h => ?_
     refine gk h rfl rfl (nb_f Bool.false_ne_true) rfl fun _ h => ?_
     refine gk h rfl rfl (nb_f Bool.false_ne_true) rfl fun _ h => ?_
     refine gk h rfl rfl (nb_f Bool.false_ne_true) rfl fun _ h => ?_
     refine gs h (o_pickF rfl rfl Bool.false_ne_true) rfl fun _ _ _ h => ?_
     refine gs h (o_move rfl) rfl fun _ _ _ h => ?_
     refine gk h rfl rfl (nb_f Bool.false_ne_true) rfl fun _ h => ?_
     refine gk h rfl rfl (nb_f Bool.false_ne_true) rfl fun _ h => ?_
     refine gk h rfl rfl (nb_f Bool.false_ne_true) rfl fun _ h => ?_
     refine gs h (o_pickF rfl rfl Bool.false_ne_true) rfl fun _ _ _ h => ?_
     refine gs h (o_move rfl) rfl fun _ _ _ h => ?_
     refine gk h rfl rfl (nb_f Bool.false_ne_true) rfl fun _ h => ?_
     refine gk h rfl rfl (nb_f Bool.false_ne_true) rfl fun _ h => ?_
     refine gs h (o_pickF rfl rfl Bool.false_ne_true) rfl fun _ _ _ h => ?_
     refine gs h (o_assign rfl) rfl fun _ _ _ h => ?_
     refine GoR.done ?_
     exact J1 false _ _ (som H).symm (h.wk (by rfl) [0, 3, 7, 15, 19] (by decide) (by rfl))
   ·have H := ifF c3 H
    refine gk h rfl rfl (nb_f c3) rfl fun _ h => ?_
    refine gk h rfl rfl (nb_f c3) rfl fun _ h => ?_
    refine gk h rfl rfl (nb_f c3) rfl fun _ h => ?_
    refine gs h (o_pickF rfl rfl c3) rfl fun _ _ _ h => ?_
    refine gs h (o_move rfl) rfl fun _ _ _ h => ?_
    refine gk h rfl rfl (nb_f Bool.false_ne_true) rfl fun _ h => ?_
    refine gk h rfl rfl (nb_f Bool.false_ne_true) rfl fun _ h => ?_
    refine gs h (o_pickF rfl rfl Bool.false_ne_true) rfl fun _ _ _ h => ?_
    refine gs h (o_move rfl) rfl fun _ _ _ h => ?_
    refine gk h rfl rfl (nb_f Bool.false_ne_true) rfl fun _ h => ?_
    refine gk h rfl rfl (nb_f Bool.false_ne_true) rfl fun _ h => ?_
    refine gs h (o_pickF rfl rfl Bool.false_ne_true) rfl fun _ _ _ h => ?_
    refine gs h (o_move rfl) rfl fun _ _ _ h => ?_
    refine gk h rfl rfl (nb_f Bool.false_ne_true) rfl fun _ h => ?_
    refine gk h rfl rfl (nb_f Bool.false_ne_true) rfl fun _ h => ?_
    refine gk h rfl rfl (nb_f Bool.false_ne_true) rfl fun _ h => ?_
    refine gs h (o_pickF rfl rfl Bool.false_ne_true) rfl fun _ _ _ h => ?_
    refine gs h (o_move rfl) rfl fun _ _ _ h => ?_
    refine gk h rfl rfl (nb_f Bool.false_ne_true) rfl fun _ h => ?_
    refine gk h rfl rfl (nb_f Bool.false_ne_true) rfl fun _ h => ?_
    refine gs h (o_pickF rfl rfl Bool.false_ne_true) rfl fun _ _ _ h => ?_
    refine gs h (o_move rfl) rfl fun _ _ _ h => ?_
    refine gk h rfl rfl (nb_f Bool.false_ne_true) rfl fun _ h => ?_
    refine gk h rfl rfl (nb_f Bool.false_ne_true) rfl fun _ h => ?_
    refine gk h rfl rfl (nb_f Bool.false_ne_true) rfl fun _ h => ?_
    refine gs h (o_pickF rfl rfl Bool.false_ne_true) rfl fun _ _ _ h => ?_
    refine gs h (o_move rfl) rfl fun _ _ _ h => ?_
    refine gk h rfl rfl (nb_f Bool.false_ne_true) rfl fun _ h => ?_
    refine gs h (o_pickF rfl rfl Bool.false_ne_true) rfl fun _ _ _ h => ?_
    refine gs h (o_move rfl) rfl fun _ _ _ h => ?_
    refine gk h rfl rfl (nb_f Bool.false_ne_true) rfl fun _ h => ?_
    refine gk h rfl rfl (nb_f Bool.false_ne_true) rfl fun _ h => ?_
    refine gk h rfl rfl (nb_f Bool.false_ne_true) rfl fun _ h => ?_
    refine gs h (o_pickF rfl rfl Bool.false_ne_true) rfl fun _ _ _ h => ?_
    refine gs h (o_move rfl) rfl fun _ _ _ h => ?_
    refine gk h rfl rfl (nb_f Bool.false_ne_true) rfl fun _ h => ?_
    refine gk h rfl rfl (nb_f Bool.false_ne_true) rfl fun _ h => ?_
    refine gk h rfl rfl (nb_f Bool.false_ne_true) rfl fun _ h => ?_
    refine gs h (o_pickF rfl rfl Bool.false_ne_true) rfl fun _ _ _ h => ?_
    refine gs h (o_move rfl) rfl fun _ _ _ h => ?_
    refine gk h rfl rfl (nb_f Bool.false_ne_true) rfl fun _ h => ?_
    refine gk h rfl rfl (nb_f Bool.false_ne_true) rfl fun _ h => ?_
    refine gs h (o_pickF rfl rfl Bool.false_ne_true) rfl fun _ _ _ h => ?_
    refine gs h (o_assign rfl) rfl fun _ _ _ h => ?_
    refine GoR.done ?_
    exact J1 false _ _ (som H).symm (h.wk (by rfl) [0, 3, 7, 15, 19] (by decide) (by rfl))
  ·have H := ifF c2 H
   refine gk h rfl rfl (nb_f c2) rfl fun _ h => ?_
   refine gk h rfl rfl (nb_f c2) rfl fun _ h => ?_
   refine gs h (o_pickF rfl rfl c2) rfl fun _ _ _ h => ?_
   refine gs h (o_move rfl) rfl fun _ _ _ h => ?_
   refine gk h rfl rfl (nb_f Bool.false_ne_true) rfl fun _ h => ?_
   refine gk h rfl rfl (nb_f Bool.false_ne_true) rfl fun _ h => ?_
   refine gk h rfl rfl (nb_f Bool.false_ne_true) rfl fun _ h => ?_
   refine gs h (o_pickF rfl rfl Bool.false_ne_true) rfl fun _ _ _ h => ?_
   refine gs h (o_move rfl) rfl fun _ _ _ h => ?_
   refine gk h rfl rfl (nb_f Bool.false_ne_true) rfl fun _ h => ?_
   refine gk h rfl rfl (nb_f Bool.false_ne_true) rfl fun _ h => ?_
   refine gs h (o_pickF rfl rfl Bool.false_ne_true) rfl fun _ _ _ h => ?_
   refine gs h (o_move rfl) rfl fun _ _ _ h => ?_
   refine gk h rfl rfl (nb_f Bool.false_ne_true) rfl fun _ h => ?_
   refine gk h rfl rfl (nb_f Bool.false_ne_true) rfl fun _ h => ?_
   refine gs h (o_pickF rfl rfl Bool.false_ne_true) rfl fun _ _ _ h => ?_
   refine gs h (o_move rfl) rfl fun _ _ _ h => ?_
   refine gk h rfl rfl (nb_f Bool.false_ne_true) rfl fun _ h => ?_
   refine gk h rfl rfl (nb_f Bool.false_ne_true) rfl fun _ h => ?_
   refine gk h rfl rfl (nb_f Bool.false_ne_true) rfl fun _ h => ?_
   refine gs h (o_pickF rfl rfl Bool.false_ne_true) rfl fun _ _ _ h => ?_
   refine gs h (o_move rfl) rfl fun _ _ _ h => ?_
   refine gk h rfl rfl (nb_f Bool.false_ne_true) rfl fun _ h => ?_
   refine gk h rfl rfl (nb_f Bool.false_ne_true) rfl fun _ h => ?_
   refine gs h (o_pickF rfl rfl Bool.false_ne_true) rfl fun _ _ _ h => ?_
   refine gs h (o_move rfl) rfl fun _ _ _ h => ?_
   refine gk h rfl rfl (nb_f Bool.false_ne_true) rfl fun _ h => ?_
   refine gk h rfl rfl (nb_f Bool.false_ne_true) rfl fun _ h => ?_
   refine gk h rfl rfl (nb_f Bool.false_ne_true) rfl fun _ h => ?_
   refine gs h (o_pickF rfl rfl Bool.false_ne_true) rfl fun _ _ _ h => ?_
   refine gs h (o_move rfl) rfl fun _ _ _ h => ?_
   refine gk h rfl rfl (nb_f Bool.false_ne_true) rfl fun _ h => ?_
   refine gs h (o_pickF rfl rfl Bool.false_ne_true) rfl fun _ _ _ h => ?_
   refine gs h (o_move rfl) rfl fun _ _ _ h => ?_
   refine gk h rfl rfl (nb_f Bool.false_ne_true) rfl fun _ h => ?_
   refine gk h rfl rfl (nb_f Bool.false_ne_true) rfl fun _ h => ?_
   refine gk h rfl rfl (nb_f Bool.false_ne_true) rfl fun _ h => ?_
   refine gs h (o_pickF rfl rfl Bool.false_ne_true) rfl fun _ _ _ h => ?_
   refine gs h (o_move rfl) rfl fun _ _ _ h => ?_
   refine gk h rfl rfl (nb_f Bool.false_ne_true) rfl fun _ h => ?_
   refine gk h rfl rfl (nb_f Bool.false_ne_true) rfl fun _ h => ?_
   refine gk h rfl rfl (nb_f Bool.false_ne_true) rfl fun _ h => ?_
   refine gs h (o_pickF rfl rfl Bool.false_ne_true) rfl fun _ _ _ h => ?_
   refine gs h (o_move rfl) rfl fun _ _ _ h => ?_
   refine gk h rfl rfl (nb_f Bool.false_ne_true) rfl fun _ h => ?_
   refine gk h rfl rfl (nb_f Bool.false_ne_true) rfl fun _ h => ?_
   refine gs h (o_pickF rfl rfl Bool.false_ne_true) rfl fun _ _ _ h => ?_
   refine gs h (o_assign rfl) rfl fun _ _ _ h => ?_
   refine GoR.done ?_
   exact J1 false _ _ (som H).symm (h.wk (by rfl) [0, 3, 7, 15, 19] (by decide) (by rfl))
 ·have H := ifF c1 H
  refine gk h rfl rfl (nb_f c1) rfl fun _ h => ?_
  refine gk h rfl rfl (nb_f c1) rfl fun _ h => ?_
  refine gk h rfl rfl (nb_f c1) rfl fun _ h => ?_
  refine gs h (o_pickF rfl rfl c1) rfl fun _ _ _ h => ?_
  refine gs h (o_move rfl) rfl fun _ _ _ h => ?_
  refine gk h rfl rfl (nb_f Bool.false_ne_true) rfl fun _ h => ?_
  refine gk h rfl rfl (nb_f Bool.false_ne_true) rfl fun _ h => ?_
  refine gs h (o_pickF rfl rfl Bool.false_ne_true) rfl fun _ _ _ h => ?_
  refine gs h (o_move rfl) rfl fun _ _ _ h => ?_
  refine gk h rfl rfl (nb_f Bool.false_ne_true) rfl fun _ h => ?_
  refine gk h rfl rfl (nb_f Bool.false_ne_true) rfl fun _ h => ?_
  refine gk h rfl rfl (nb_f Bool.false_ne_true) rfl fun _ h => ?_
  refine gs h (o_pickF rfl rfl Bool.false_ne_true) rfl fun _ _ _ h => ?_
  refine gs h (o_move rfl) rfl fun _ _ _ h => ?_
  refine gk h rfl rfl (nb_f Bool.false_ne_true) rfl fun _ h => ?_
  refine gk h rfl rfl (nb_f Bool.false_ne_true) rfl fun _ h => ?_
  refine gs h (o_pickF rfl rfl Bool.false_ne_true) rfl fun _ _ _ h => ?_
  refine gs h (o_move rfl) rfl fun _ _ _ h => ?_
  refine gk h rfl rfl (nb_f Bool.false_ne_true) rfl fun _ h => ?_
  refine gk h rfl rfl (nb_f Bool.false_ne_true) rfl fun _ h => ?_
  refine gs h (o_pickF rfl rfl Bool.false_ne_true) rfl fun _ _ _ h => ?_
  refine gs h (o_move rfl) rfl fun _ _ _ h => ?_
  refine gk h rfl rfl (nb_f Bool.false_ne_true) rfl fun _ h => ?_
  refine gk h rfl rfl (nb_f Bool.false_ne_true) rfl fun _ h => ?_
  refine gk h rfl rfl (nb_f Bool.false_ne_true) rfl fun _ h => ?_
  refine gs h (o_pickF rfl rfl Bool.false_ne_true) rfl fun _ _ _ h => ?_
  refine gs h (o_move rfl) rfl fun _ _ _ h => ?_
  refine gk h rfl rfl (nb_f Bool.false_ne_true) rfl fun _ h => ?_
  refine gk h rfl rfl (nb_f Bool.false_ne_true) rfl fun _ h => ?_
  refine gs h (o_pickF rfl rfl Bool.false_ne_true) rfl fun _ _ _ h => ?_
  refine gs h (o_move rfl) rfl fun _ _ _ h => ?_
  refine gk h rfl rfl (nb_f Bool.false_ne_true) rfl fun _ h => ?_
  refine gk h rfl rfl (nb_f Bool.false_ne_true) rfl fun _ h => ?_
  refine gk h rfl rfl (nb_f Bool.false_ne_true) rfl fun _ h => ?_
  refine gs h (o_pickF rfl rfl Bool.false_ne_true) rfl fun _ _ _ h => ?_
  refine gs h (o_move rfl) rfl fun _ _ _ h => ?_
  refine gk h rfl rfl (nb_f Bool.false_ne_true) rfl fun _ h => ?_
  refine gs h (o_pickF rfl rfl Bool.false_ne_true) rfl fun _ _ _ h => ?_
  refine gs h (o_move rfl) rfl fun _ _ _ h => ?_
  refine gk h rfl rfl (nb_f Bool.false_ne_true) rfl fun _ h => ?_
  refine gk h rfl rfl (nb_f Bool.false_ne_true) rfl fun _ h => ?_
  refine gk h rfl rfl (nb_f Bool.false_ne_true) rfl fun _ h => ?_
  refine gs h (o_pickF rfl rfl Bool.false_ne_true) rfl fun _ _ _ h => ?_
  refine gs h (o_move rfl) rfl fun _ _ _ h => ?_
  refine gk h rfl rfl (nb_f Bool.false_ne_true) rfl fun _ h => ?_
  refine gk h rfl rfl (nb_f Bool.false_ne_true) rfl fun _ h => ?_
  refine gk h rfl rfl (nb_f Bool.false_ne_true) rfl fun _ h => ?_
  refine gs h (o_pickF rfl rfl Bool.false_ne_true) rfl fun _ _ _ h => ?_
  refine gs h (o_move rfl) rfl fun _ _ _ h => ?_
  refine gk h rfl rfl (nb_f Bool.false_ne_true) rfl fun _ h => ?_
  refine gk h rfl rfl (nb_f Bool.false_ne_true) rfl fun _ h => ?_
  refine gs h (o_pickF rfl rfl Bool.false_ne_true) rfl fun _ _ _ h => ?_
  refine gs h (o_assign rfl) rfl fun _ _ _ h => ?_
  refine GoR.done ?_
  exact J1 false _ _ (som H).symm (h.wk (by rfl) [0, 3, 7, 15, 19] (by decide) (by rfl))
def law16_heads.g (k_ : Nat)  : Option (Bool) :=
  (mk 6 0).bind fun x1 => (ether_Put.g k_ (⟨x1, x1, 2054, ([7] : List Int)⟩ : TFrm)).bind fun r1 => (ether_Get.g k_ r1.1).bind fun r2 => (cut r1.1 0 (IntKind.i64.wrap (Int.tdiv (r1.1.length : Int) 2))).bind fun x2 => (ether_Get.g k_ x2).bind fun r3 => (ether_PutArp.g k_ (⟨1, x1, 0, x1, 5⟩ : TArp)).bind fun r4 => (app ([] : List Int) r4.1).bind fun x3 => (app x3 ([1] : List Int)).bind fun x4 => (ether_GetArp.g k_ x4).bind fun r5 => (ether_Answer.g k_ r5.1 ([1, 2, 3, 4, 5, 6] : List Int) 5).bind fun r6 => (ether_Answer.g k_ r6.1 x1 0).bind fun r7 => ((if decide (r1.2 = 0) = true then (if decide ((r1.1.length : Int) = 15) = true then (if decide (r2.2 = 0) = true then (if decide (r2.1.Type_ = 2054) = true then (if decide (r3.2 = 160) = true then (if decide (r4.2 = 0) = true then (if decide ((r4.1.length : Int) = 28) = true then (if decide (r5.2 = 0) = true then (if decide (r5.1.Tip = 5) = true then (if r6.2 = true then (if decide (r6.1.Op = 2) = true then (if decide (r6.1.Sip = 5) = true then some ((!r7.2)) else some (false)) else some (false)) else some (false)) else some (false)) else some (false)) else some (false)) else some (false)) else some (false)) else some (false)) else some (false)) else some (false)) else some (false))).bind (fun j1 => some (j1))
theorem law16_heads.le (k_ : Nat)  : Le (law16_heads.g k_ ) (law16_heads.f ) := by
 unfold law16_heads.g law16_heads.f
 repeat' (first | with_reducible refine le_loop fun _ => ?_ | with_reducible refine le_bind ?_ fun _ => ?_ | with_reducible refine le_ite ?_ ?_ | with_reducible refine le_lt fun _ => ?_ | with_reducible refine le_elim (fun _ => ?_) (fun _ => ?_) _ | with_reducible apply ether_Answer.le | with_reducible apply ether_Get.le | with_reducible apply ether_GetArp.le | with_reducible apply ether_Put.le | with_reducible apply ether_PutArp.le | with_reducible exact le_refl _)
end Go.Proofs.Ytplkiompmjhdlaa.S
