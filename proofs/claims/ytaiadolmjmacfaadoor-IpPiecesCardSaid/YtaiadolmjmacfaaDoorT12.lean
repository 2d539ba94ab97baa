/- Contracts, printed by a program of this session. -/
import Derived.Test.YtaiadolmjmacfaaDoorT2
import Derived.Test.YtaiadolmjmacfaaDoorT5
import Derived.Test.YtaiadolmjmacfaaDoorT6
import Derived.Test.YtaiadolmjmacfaaDoorT7
import Derived.Test.YtaiadolmjmacfaaDoorT10
import Derived.Test.YtaiadolmjmacfaaDoorT11
namespace Go.Proofs.YtaiadolmjmacfaaDoor.S
open Go Go.SL Go.RowKit
set_option linter.unusedVariables false
set_option linter.unusedSimpArgs false
/-! drawbridge/drawbridgelaw17.IpTells -/
noncomputable def law17_IpTells.f (a1 : TIp) (a2 : List Int) : Option (Bool) :=
  ((if decide (70000 < (a2.length : Int)) = true then some (true) else some (decide (70000 < (a1.Data.length : Int))))).bind (fun j1 => (if j1 = true then (law17_heads.f).bind fun r1 => some (r1) else (ip_Put.f a1).bind fun r2 => (ref17_Put.f a1).bind fun r3 => (ip_Get.f a2).bind fun r4 => (ref17_Get.f a2).bind fun r5 => ((ref01_Same.f r2.1 r3.1).bind fun r12 => (if r12 = true then (if decide (r2.2 = r3.2) = true then (law17_one.f r4.1).bind fun r13 => (law17_one.f r5.1).bind fun r14 => (ref17_Same.f r13 r14).bind fun r15 => (if r15 = true then (if decide (r4.2 = r5.2) = true then (law17_heads.f).bind fun r16 => some (r16) else some (false)) else some (false)) else some (false)) else some (false))).bind (fun j2 => some (j2))))
set_option maxRecDepth 100000 in
set_option maxHeartbeats 4000000 in
theorem law17_IpTells.spc (v1 : Value) (a1 : TIp) (v2 : Value) (a2 : List Int) (r : Bool) (H : law17_IpTells.f a1 a2 = some r) : Spc Tryd.prog 3 [v1, v2] [Val KIp v1 a1, Val (Kd.sl (Kd.int .u8)) v2 a2, Pfl (Kd.eq gv0) 0 0 ()] [] (fun (s : Unit) => .bool r) (fun s => []) := by
 unfold law17_IpTells.f at H
 refine Spc.go Tryd.func3 rfl (by kernel_rfl) rfl rfl (all_cons (Val.per PIp) (all_cons (Val.per Per_sl) (all_cons Per_pfl all_nil))) fun F a w h => ?_
 refine Go.seq ?_
 refine Go.reg ?_
 refine gs h (o_box (K := KIp) rfl (pv_at PIp 0 rfl)) rfl fun b1 _ _ h => ?_
 refine gs h (o_assign rfl) rfl fun _ _ _ h => ?_
 refine GoR.done ?_
 refine Go.seq ?_
 refine Go.seq ?_
 obtain ⟨o1, H, G1⟩ := bindE H
 refine g_cut (fun G => ∀ j1 (a : Act) (w : World), o1 = j1 → St Tryd.f3.ntmps F [(1, v2), (2, .pointer (some ⟨b1, 0, none⟩)), (21, .bool j1)] [Val (Kd.sl (Kd.int .u8)) v2 a2, Fld KIp b1 0 a1, Pfl (Kd.eq gv0) 0 0 ()] a w → G a w) 1 ?_ fun J1 => ?_
 ·intro j1 a w ho_ h
  rw [ho_] at G1
  have H := G1
  by_cases c2 : j1 = true
  ·have H := ifT c2 H
   refine g_t h rfl c2 ?_
   refine Go.seq ?_
   refine Go.reg ?_
   obtain ⟨r1, er1, H⟩ := bindE H
   refine gs h (o_call (law17_heads.spc  r1 er1) rfl [2] [] (by decide) rfl rfl) rfl fun _ _ _ h => ?_
   refine gs h (o_assign rfl) rfl fun _ _ _ h => ?_
   refine GoR.done ?_
   rw [← som H]
   exact g_ret (vs := [.bool r1]) h Tryd.func3 ⟨rfl, trivial⟩ ⟨(), rfl, (h.mem.pick [] (by decide) rfl)⟩
  ·have H := ifF c2 H
   refine g_f h rfl c2 ?_
   refine Go.skip ?_
   refine Go.seq ?_
   refine Go.reg ?_
   refine gs h (o_ldv 1 rfl rfl PIp t_y25) rfl fun v4 _ _ h => ?_
   obtain ⟨r2, er2, H⟩ := bindE H
   refine gs h (o_call (ip_Put.spc v4 a1 r2 er2) rfl [0] [] (by decide) rfl rfl) rfl fun v5 _ _ h => ?_
   have g3 := h.mem.pur 0 rfl
   refine gs h (o_move rfl) rfl fun _ _ _ h => ?_
   refine gs h (o_extract rfl rfl) rfl fun _ _ _ h => ?_
   refine gs h (o_extract rfl rfl) rfl fun _ _ _ h => ?_
   refine gs h (o_assign rfl) rfl fun _ _ _ h => ?_
   refine gs h (o_assign rfl) rfl fun _ _ _ h => ?_
   refine GoR.done ?_
   refine Go.seq ?_
   refine Go.reg ?_
   refine gs h (o_ldv 4 rfl rfl PIp t_y25) rfl fun v6 _ _ h => ?_
   obtain ⟨r3, er3, H⟩ := bindE H
   refine gs h (o_call (ref17_Put.spc v6 a1 r3 er3) rfl [0] [] (by decide) rfl rfl) rfl fun v7 _ _ h => ?_
   have g4 := h.mem.pur 0 rfl
   refine gs h (o_move rfl) rfl fun _ _ _ h => ?_
   refine gs h (o_extract rfl rfl) rfl fun _ _ _ h => ?_
   refine gs h (o_extract rfl rfl) rfl fun _ _ _ h => ?_
   refine gs h (o_assign rfl) rfl fun _ _ _ h => ?_
   refine gs h (o_assign rfl) rfl fun _ _ _ h => ?_
   refine GoR.done ?_
   refine Go.seq ?_
   refine Go.reg ?_
   refine gs h (o_move rfl) rfl fun _ _ _ h => ?_
   obtain ⟨r4, er4, H⟩ := bindE H
   refine gs h (o_call (ip_Get.spc v2 a2 r4 er4) rfl [6, 8] [] (by decide) rfl rfl) rfl fun v8 _ _ h => ?_
   have g5 := h.mem.pur 0 rfl
   refine gs h (o_move rfl) rfl fun _ _ _ h => ?_
   refine gs h (o_extract rfl rfl) rfl fun _ _ _ h => ?_
   refine gs h (o_extract rfl rfl) rfl fun _ _ _ h => ?_
   refine gs h (o_alloc (K := KIp) (z := (.agg #[.int .i64 0, .int .i64 0, .int .i64 0, .int .i64 0, .int .i64 0, .int .i64 0, .int .u32 0, .int .u32 0, .slice none 0 0, .slice none 0 0])) rfl ZIp) rfl fun b2 _ _ h => ?_
   refine gs0 h (o_st 0 rfl rfl rfl (pv_at PIp 2 rfl) rfl t_w25) fun _ _ _ h => ?_
   refine gs h (o_assign rfl) rfl fun _ _ _ h => ?_
   refine GoR.done ?_
   refine Go.seq ?_
   refine Go.reg ?_
   refine gs h (o_move rfl) rfl fun _ _ _ h => ?_
   obtain ⟨r5, er5, H⟩ := bindE H
   refine gs h (o_call (ref17_Get.spc v2 a2 r5 er5) rfl [9] [] (by decide) rfl rfl) rfl fun v9 _ _ h => ?_
   have g6 := h.mem.pur 0 rfl
   refine gs h (o_move rfl) rfl fun _ _ _ h => ?_
   refine gs h (o_extract rfl rfl) rfl fun _ _ _ h => ?_
   refine gs h (o_extract rfl rfl) rfl fun _ _ _ h => ?_
   refine gs h (o_alloc (K := KIp) (z := (.agg #[.int .i64 0, .int .i64 0, .int .i64 0, .int .i64 0, .int .i64 0, .int .i64 0, .int .u32 0, .int .u32 0, .slice none 0 0, .slice none 0 0])) rfl ZIp) rfl fun b3 _ _ h => ?_
   refine gs0 h (o_st 0 rfl rfl rfl (pv_at PIp 2 rfl) rfl t_w25) fun _ _ _ h => ?_
   refine gs h (o_assign rfl) rfl fun _ _ _ h => ?_
   refine GoR.done ?_
   refine Go.seq ?_
   replace h := h.mm fun m => m.freeze 10 rfl
   replace h := h.mm fun m => m.freeze 7 rfl
   replace h := h.wk (E' := [(5, v5), (6, .int .i64 r2.2), (7, v7), (8, .int .i64 r3.2), (9, .pointer (some ⟨b2, 0, none⟩)), (10, .int .i64 r4.2), (11, .pointer (some ⟨b3, 0, none⟩)), (12, .int .i64 r5.2)]) (L' := [Fld KIp b3 0 r5.1, Ent.pur (InR .i64 r5.2), Val KIp v9 r5.1, Fld KIp b2 0 r4.1, Ent.pur (InR .i64 r4.2), Val KIp v8 r4.1, Ent.pur (InR .i64 r3.2), Val (Kd.sl (Kd.int .u8)) v7 r3.1, Val KIp v6 a1, Ent.pur (InR .i64 r2.2), Val (Kd.sl (Kd.int .u8)) v5 r2.1, Val KIp v4 a1, Val (Kd.sl (Kd.int .u8)) v2 a2, Fld KIp b1 0 a1, Pfl (Kd.eq gv0) 0 0 ()]) (by rfl) [0, 1, 2, 3, 4, 5, 6, 7, 8, 9, 10, 11, 12, 13, 14] (by decide) (by rfl)
   obtain ⟨o6, H, G6⟩ := bindE H
   refine g_cut (fun G => ∀ j2 (a : Act) (w : World), o6 = j2 → St Tryd.f3.ntmps F [(4, .bool j2)] [Fld KIp b3 0 r5.1, Fld KIp b2 0 r4.1, Fld KIp b1 0 a1, Pfl (Kd.eq gv0) 0 0 ()] a w → G a w) 1 ?_ fun J2 => ?_
   ·intro j2 a w ho_ h
    rw [ho_] at G6
    have H := G6
    rw [← som H]
    exact g_ret (vs := [.bool j2]) h Tryd.func3 ⟨rfl, trivial⟩ ⟨(), rfl, (h.mem.pick [] (by decide) rfl)⟩
   obtain ⟨r12, er12, H⟩ := bindE H
   by_cases c7 : r12 = true
   ·have H := ifT c7 H
    by_cases c8 : decide (r2.2 = r3.2) = true
    ·have H := ifT c8 H
     obtain ⟨r13, er13, H⟩ := bindE H
     obtain ⟨r14, er14, H⟩ := bindE H
     obtain ⟨r15, er15, H⟩ := bindE H
     by_cases c9 : r15 = true
     ·have H := ifT c9 H
      refine Go.draw (E := [(5, v5), (6, .int .i64 r2.2), (7, v7), (8, .int .i64 r3.2), (9, .pointer (some ⟨b2, 0, none⟩)), (10, .int .i64 r4.2), (11, .pointer (some ⟨b3, 0, none⟩)), (12, .int .i64 r5.2)]) [] (L := [Fld KIp b3 0 r5.1, Ent.pur (InR .i64 r5.2), Val KIp v9 r5.1, Fld KIp b2 0 r4.1, Ent.pur (InR .i64 r4.2), Val KIp v8 r4.1, Ent.pur (InR .i64 r3.2), Val (Kd.sl (Kd.int .u8)) v7 r3.1, Val KIp v6 a1, Ent.pur (InR .i64 r2.2), Val (Kd.sl (Kd.int .u8)) v5 r2.1, Val KIp v4 a1, Val (Kd.sl (Kd.int .u8)) v2 a2, Fld KIp b1 0 a1, Pfl (Kd.eq gv0) 0 0 ()]) h rfl rfl 18 [⟨[], [], [], false, .con (v5), none, fun u => [], []⟩, ⟨[], [], [], false, .con (v7), none, fun u => [], []⟩, ⟨[0, 1], [], [], false, .con (.bool r12), none, fun u => [], []⟩, ⟨[0, 1, 2], [], [], false, .con (.bool r12), none, fun u => [], []⟩, ⟨[0, 1, 2, 3], [], [], false, .con (.int .i64 r2.2), none, fun u => [], []⟩, ⟨[0, 1, 2, 3], [], [], false, .con (.int .i64 r3.2), none, fun u => [], []⟩, ⟨[0, 1, 2, 3, 4, 5], [], [], false, .con (.bool (decide (r2.2 = r3.2))), none, fun u => [], []⟩, ⟨[0, 1, 2, 3, 4, 5, 6], [], [], false, .con (.bool (decide (r2.2 = r3.2))), none, fun u => [], []⟩, ⟨[0, 1, 2, 3, 4, 5, 6, 7], [], [], false, .con (.bool (decide (r2.2 = r3.2))), none, fun u => [], []⟩, ⟨[0, 1, 2, 3, 4, 5, 6, 7, 8], [], [], false, .own, none, fun u => [Val KIp u r4.1], []⟩, ⟨[0, 1, 2, 3, 4, 5, 6, 7, 8, 9], [9], [], false, .own, none, fun u => [Val (Kd.sl KIp) u r13], []⟩, ⟨[0, 1, 2, 3, 4, 5, 6, 7, 8], [], [], false, .own, none, fun u => [Val KIp u r5.1], []⟩, ⟨[0, 1, 2, 3, 4, 5, 6, 7, 8, 11], [11], [], false, .own, none, fun u => [Val (Kd.sl KIp) u r14], []⟩, ⟨[0, 1, 2, 3, 4, 5, 6, 7, 8, 9, 10, 11, 12], [10, 12], [], false, .con (.bool r15), none, fun u => [], []⟩, ⟨[0, 1, 2, 3, 4, 5, 6, 7, 8, 9, 10, 11, 12, 13], [], [], false, .con (.bool r15), none, fun u => [], []⟩, ⟨[0, 1, 2, 3, 4, 5, 6, 7, 8, 9, 10, 11, 12, 13, 14], [], [], false, .con (.bool r15), none, fun u => [], []⟩, ⟨[0, 1, 2, 3, 4, 5, 6, 7, 8, 9, 10, 11, 12, 13, 14, 15], [], [], false, .con (.int .i64 r4.2), none, fun u => [], []⟩, ⟨[0, 1, 2, 3, 4, 5, 6, 7, 8, 9, 10, 11, 12, 13, 14, 15], [], [], false, .con (.int .i64 r5.2), none, fun u => [], []⟩] rfl t_mxo (by kernel_rfl) (by rfl) ?_ fun f5 _ _ h => ?_
      ·exact obs_cons (ob_con rfl (gok_none rfl) rfl fun f5 => (o_move rfl)) (obs_cons (ob_con rfl (gok_none rfl) rfl fun f5 => (o_move rfl)) (obs_cons (ob_con rfl (gok_none rfl) rfl fun f5 => (o_call (ref01_Same.spc v5 r2.1 v7 r3.1 r12 er12) rfl [10, 7] [] (by decide) rfl rfl)) (obs_cons (ob_con rfl (gok_none rfl) rfl fun f5 => (o_move rfl)) (obs_cons (ob_con rfl (gok_some rfl rfl rfl (fun _ => rfl) c7) rfl fun f5 => (o_move rfl)) (obs_cons (ob_con rfl (gok_some rfl rfl rfl (fun _ => rfl) c7) rfl fun f5 => (o_move rfl)) (obs_cons (ob_con rfl (gok_some rfl rfl rfl (fun _ => rfl) c7) rfl fun f5 => (o_bin rfl rfl rfl)) (obs_cons (ob_con rfl (gok_none rfl) rfl fun f5 => (o_pickT rfl rfl c7)) (obs_cons (ob_con rfl (gok_none rfl) rfl fun f5 => (o_move rfl)) (obs_cons (ob_own rfl (gok_some rfl rfl rfl (fun _ => rfl) c8) rfl fun f5 => (o_ldv 3 rfl rfl PIp t_y25)) (obs_cons (ob_own rfl (gok_some rfl rfl rfl (fun _ => rfl) c8) rfl fun f5 => (OpS.mm (o_call (law17_one.spc (f5 9) r4.1 r13 er13) rfl [0] [] (by decide) rfl rfl) (fun _ _ _ m => m.freeze 0 rfl))) (obs_cons (ob_own rfl (gok_some rfl rfl rfl (fun _ => rfl) c8) rfl fun f5 => (o_ldv 0 rfl rfl PIp t_y25)) (obs_cons (ob_own rfl (gok_some rfl rfl rfl (fun _ => rfl) c8) rfl fun f5 => (OpS.mm (o_call (law17_one.spc (f5 11) r5.1 r14 er14) rfl [0] [] (by decide) rfl rfl) (fun _ _ _ m => m.freeze 0 rfl))) (obs_cons (ob_con rfl (gok_some rfl rfl rfl (fun _ => rfl) c8) rfl fun f5 => (o_call (ref17_Same.spc (f5 10) r13 (f5 12) r14 r15 er15) rfl [0, 1] [] (by decide) rfl rfl)) (obs_cons (ob_con rfl (gok_none rfl) rfl fun f5 => (o_pickT rfl rfl c8)) (obs_cons (ob_con rfl (gok_none rfl) rfl fun f5 => (o_move rfl)) (obs_cons (ob_con rfl (gok_some rfl rfl rfl (fun _ => rfl) c9) rfl fun f5 => (o_move rfl)) (obs_cons (ob_con rfl (gok_some rfl rfl rfl (fun _ => rfl) c9) rfl fun f5 => (o_move rfl)) (obs_nil))))))))))))))))))
      replace h := h.wk (E' := [(58, .bool r15), (59, .int .i64 r4.2), (60, .int .i64 r5.2)]) (L' := [Val KIp (f5 9) r4.1, Val (Kd.sl KIp) (f5 10) r13, Val KIp (f5 11) r5.1, Val (Kd.sl KIp) (f5 12) r14, Fld KIp b3 0 r5.1, Ent.pur (InR .i64 r5.2), Val KIp v9 r5.1, Fld KIp b2 0 r4.1, Ent.pur (InR .i64 r4.2), Val KIp v8 r4.1, Ent.pur (InR .i64 r3.2), Val (Kd.sl (Kd.int .u8)) v7 r3.1, Val KIp v6 a1, Ent.pur (InR .i64 r2.2), Val (Kd.sl (Kd.int .u8)) v5 r2.1, Val KIp v4 a1, Val (Kd.sl (Kd.int .u8)) v2 a2, Fld KIp b1 0 a1, Pfl (Kd.eq gv0) 0 0 ()]) (by kernel_rfl) [0, 1, 2, 3, 4, 5, 6, 7, 8, 9, 10, 11, 12, 13, 14, 15, 16, 17, 18] (by decide) (by kernel_rfl)
      refine gg h rfl rfl c9 (o_bin rfl rfl rfl) rfl fun _ _ _ h => ?_
      refine gs h (o_pickT rfl rfl c9) rfl fun _ _ _ h => ?_
      refine gs h (o_move rfl) rfl fun _ _ _ h => ?_
      by_cases c10 : decide (r4.2 = r5.2) = true
      ·have H := ifT c10 H
       obtain ⟨r16, er16, H⟩ := bindE H
       refine gg h rfl rfl c10 (o_call (law17_heads.spc  r16 er16) rfl [18] [] (by decide) rfl rfl) rfl fun _ _ _ h => ?_
       refine gs h (o_pickT rfl rfl c10) rfl fun _ _ _ h => ?_
       refine gs h (o_assign rfl) rfl fun _ _ _ h => ?_
       refine GoR.done ?_
       exact J2 r16 _ _ (som H).symm (h.wk (by rfl) [4, 7, 17, 18] (by decide) (by rfl))
      ·have H := ifF c10 H
       refine gk h rfl rfl (nb_f c10) rfl fun _ h => ?_
       refine gs h (o_pickF rfl rfl c10) rfl fun _ _ _ h => ?_
       refine gs h (o_assign rfl) rfl fun _ _ _ h => ?_
       refine GoR.done ?_
       exact J2 false _ _ (som H).symm (h.wk (by rfl) [4, 7, 17, 18] (by decide) (by rfl))
     ·have H := ifF c9 H
      refine Go.draw (E := [(5, v5), (6, .int .i64 r2.2), (7, v7), (8, .int .i64 r3.2), (9, .pointer (some ⟨b2, 0, none⟩)), (10, .int .i64 r4.2), (11, .pointer (some ⟨b3, 0, none⟩)), (12, .int .i64 r5.2)]) [] (L := [Fld KIp b3 0 r5.1, Ent.pur (InR .i64 r5.2), Val KIp v9 r5.1, Fld KIp b2 0 r4.1, Ent.pur (InR .i64 r4.2), Val KIp v8 r4.1, Ent.pur (InR .i64 r3.2), Val (Kd.sl (Kd.int .u8)) v7 r3.1, Val KIp v6 a1, Ent.pur (InR .i64 r2.2), Val (Kd.sl (Kd.int .u8)) v5 r2.1, Val KIp v4 a1, Val (Kd.sl (Kd.int .u8)) v2 a2, Fld KIp b1 0 a1, Pfl (Kd.eq gv0) 0 0 ()]) h rfl rfl 18 [⟨[], [], [], false, .con (v5), none, fun u => [], []⟩, ⟨[], [], [], false, .con (v7), none, fun u => [], []⟩, ⟨[0, 1], [], [], false, .con (.bool r12), none, fun u => [], []⟩, ⟨[0, 1, 2], [], [], false, .con (.bool r12), none, fun u => [], []⟩, ⟨[0, 1, 2, 3], [], [], false, .con (.int .i64 r2.2), none, fun u => [], []⟩, ⟨[0, 1, 2, 3], [], [], false, .con (.int .i64 r3.2), none, fun u => [], []⟩, ⟨[0, 1, 2, 3, 4, 5], [], [], false, .con (.bool (decide (r2.2 = r3.2))), none, fun u => [], []⟩, ⟨[0, 1, 2, 3, 4, 5, 6], [], [], false, .con (.bool (decide (r2.2 = r3.2))), none, fun u => [], []⟩, ⟨[0, 1, 2, 3, 4, 5, 6, 7], [], [], false, .con (.bool (decide (r2.2 = r3.2))), none, fun u => [], []⟩, ⟨[0, 1, 2, 3, 4, 5, 6, 7, 8], [], [], false, .own, none, fun u => [Val KIp u r4.1], []⟩, ⟨[0, 1, 2, 3, 4, 5, 6, 7, 8, 9], [9], [], false, .own, none, fun u => [Val (Kd.sl KIp) u r13], []⟩, ⟨[0, 1, 2, 3, 4, 5, 6, 7, 8], [], [], false, .own, none, fun u => [Val KIp u r5.1], []⟩, ⟨[0, 1, 2, 3, 4, 5, 6, 7, 8, 11], [11], [], false, .own, none, fun u => [Val (Kd.sl KIp) u r14], []⟩, ⟨[0, 1, 2, 3, 4, 5, 6, 7, 8, 9, 10, 11, 12], [10, 12], [], false, .con (.bool r15), none, fun u => [], []⟩, ⟨[0, 1, 2, 3, 4, 5, 6, 7, 8, 9, 10, 11, 12, 13], [], [], false, .con (.bool r15), none, fun u => [], []⟩, ⟨[0, 1, 2, 3, 4, 5, 6, 7, 8, 9, 10, 11, 12, 13, 14], [], [], false, .con (.bool r15), none, fun u => [], []⟩, ⟨[15], [], [], true, .con undef, none, fun u => [], []⟩, ⟨[15], [], [], true, .con undef, none, fun u => [], []⟩] rfl t_mxo (by kernel_rfl) (by rfl) ?_ fun f5 _ _ h => ?_
      ·exact obs_cons (ob_con rfl (gok_none rfl) rfl fun f5 => (o_move rfl)) (obs_cons (ob_con rfl (gok_none rfl) rfl fun f5 => (o_move rfl)) (obs_cons (ob_con rfl (gok_none rfl) rfl fun f5 => (o_call (ref01_Same.spc v5 r2.1 v7 r3.1 r12 er12) rfl [10, 7] [] (by decide) rfl rfl)) (obs_cons (ob_con rfl (gok_none rfl) rfl fun f5 => (o_move rfl)) (obs_cons (ob_con rfl (gok_some rfl rfl rfl (fun _ => rfl) c7) rfl fun f5 => (o_move rfl)) (obs_cons (ob_con rfl (gok_some rfl rfl rfl (fun _ => rfl) c7) rfl fun f5 => (o_move rfl)) (obs_cons (ob_con rfl (gok_some rfl rfl rfl (fun _ => rfl) c7) rfl fun f5 => (o_bin rfl rfl rfl)) (obs_cons (ob_con rfl (gok_none rfl) rfl fun f5 => (o_pickT rfl rfl c7)) (obs_cons (ob_con rfl (gok_none rfl) rfl fun f5 => (o_move rfl)) (obs_cons (ob_own rfl (gok_some rfl rfl rfl (fun _ => rfl) c8) rfl fun f5 => (o_ldv 3 rfl rfl PIp t_y25)) (obs_cons (ob_own rfl (gok_some rfl rfl rfl (fun _ => rfl) c8) rfl fun f5 => (OpS.mm (o_call (law17_one.spc (f5 9) r4.1 r13 er13) rfl [0] [] (by decide) rfl rfl) (fun _ _ _ m => m.freeze 0 rfl))) (obs_cons (ob_own rfl (gok_some rfl rfl rfl (fun _ => rfl) c8) rfl fun f5 => (o_ldv 0 rfl rfl PIp t_y25)) (obs_cons (ob_own rfl (gok_some rfl rfl rfl (fun _ => rfl) c8) rfl fun f5 => (OpS.mm (o_call (law17_one.spc (f5 11) r5.1 r14 er14) rfl [0] [] (by decide) rfl rfl) (fun _ _ _ m => m.freeze 0 rfl))) (obs_cons (ob_con rfl (gok_some rfl rfl rfl (fun _ => rfl) c8) rfl fun f5 => (o_call (ref17_Same.spc (f5 10) r13 (f5 12) r14 r15 er15) rfl [0, 1] [] (by decide) rfl rfl)) (obs_cons (ob_con rfl (gok_none rfl) rfl fun f5 => (o_pickT rfl rfl c8)) (obs_cons (ob_con rfl (gok_none rfl) rfl fun f5 => (o_move rfl)) (obs_cons (ob_skip rfl rfl rfl rfl (fun _ => rfl) (nb_f c9) rfl rfl rfl rfl) (obs_cons (ob_skip rfl rfl rfl rfl (fun _ => rfl) (nb_f c9) rfl rfl rfl rfl) (obs_nil))))))))))))))))))
      replace h := h.wk (E' := [(58, .bool r15)]) (L' := [Val KIp (f5 9) r4.1, Val (Kd.sl KIp) (f5 10) r13, Val KIp (f5 11) r5.1, Val (Kd.sl KIp) (f5 12) r14, Fld KIp b3 0 r5.1, Ent.pur (InR .i64 r5.2), Val KIp v9 r5.1, Fld KIp b2 0 r4.1, Ent.pur (InR .i64 r4.2), Val KIp v8 r4.1, Ent.pur (InR .i64 r3.2), Val (Kd.sl (Kd.int .u8)) v7 r3.1, Val KIp v6 a1, Ent.pur (InR .i64 r2.2), Val (Kd.sl (Kd.int .u8)) v5 r2.1, Val KIp v4 a1, Val (Kd.sl (Kd.int .u8)) v2 a2, Fld KIp b1 0 a1, Pfl (Kd.eq gv0) 0 0 ()]) (by kernel_rfl) [0, 1, 2, 3, 4, 5, 6, 7, 8, 9, 10, 11, 12, 13, 14, 15, 16, 17, 18] (by decide) (by kernel_rfl)
      refine gk h rfl rfl (nb_f c9) rfl fun _ h => ?_
      refine gs h (o_pickF rfl rfl c9) rfl fun _ _ _ h => ?_
      refine gs h (o_move rfl) rfl fun _ _ _ h => ?_
      refine gk h rfl rfl (nb_f Bool.false_ne_true) rfl fun _ h => ?_
      refine gs h (o_pickF rfl rfl Bool.false_ne_true) rfl fun _ _ _ h => ?_
      refine gs h (o_assign rfl) rfl fun _ _ _ h => ?_
      refine GoR.done ?_
      exact J2 false _ _ (som H).symm (h.wk (by rfl) [4, 7, 17, 18] (by decide) (by rfl))
    ·have H := ifF c8 H
     refine Go.draw (E := [(5, v5), (6, .int .i64 r2.2), (7, v7), (8, .int .i64 r3.2), (9, .pointer (some ⟨b2, 0, none⟩)), (10, .int .i64 r4.2), (11, .pointer (some ⟨b3, 0, none⟩)), (12, .int .i64 r5.2)]) [] (L := [Fld KIp b3 0 r5.1, Ent.pur (InR .i64 r5.2), Val KIp v9 r5.1, Fld KIp b2 0 r4.1, Ent.pur (InR .i64 r4.2), Val KIp v8 r4.1, Ent.pur (InR .i64 r3.2), Val (Kd.sl (Kd.int .u8)) v7 r3.1, Val KIp v6 a1, Ent.pur (InR .i64 r2.2), Val (Kd.sl (Kd.int .u8)) v5 r2.1, Val KIp v4 a1, Val (Kd.sl (Kd.int .u8)) v2 a2, Fld KIp b1 0 a1, Pfl (Kd.eq gv0) 0 0 ()]) h rfl rfl 18 [⟨[], [], [], false, .con (v5), none, fun u => [], []⟩, ⟨[], [], [], false, .con (v7), none, fun u => [], []⟩, ⟨[0, 1], [], [], false, .con (.bool r12), none, fun u => [], []⟩, ⟨[0, 1, 2], [], [], false, .con (.bool r12), none, fun u => [], []⟩, ⟨[0, 1, 2, 3], [], [], false, .con (.int .i64 r2.2), none, fun u => [], []⟩, ⟨[0, 1, 2, 3], [], [], false, .con (.int .i64 r3.2), none, fun u => [], []⟩, ⟨[0, 1, 2, 3, 4, 5], [], [], false, .con (.bool (decide (r2.2 = r3.2))), none, fun u => [], []⟩, ⟨[0, 1, 2, 3, 4, 5, 6], [], [], false, .con (.bool (decide (r2.2 = r3.2))), none, fun u => [], []⟩, ⟨[0, 1, 2, 3, 4, 5, 6, 7], [], [], false, .con (.bool (decide (r2.2 = r3.2))), none, fun u => [], []⟩, ⟨[8], [], [], true, .con undef, none, fun u => [], []⟩, ⟨[8], [], [], true, .con undef, none, fun u => [], []⟩, ⟨[8], [], [], true, .con undef, none, fun u => [], []⟩, ⟨[8], [], [], true, .con undef, none, fun u => [], []⟩, ⟨[8], [], [], true, .con undef, none, fun u => [], []⟩, ⟨[0, 1, 2, 3, 4, 5, 6, 7, 8, 9, 10, 11, 12, 13], [], [], false, .con (.bool false), none, fun u => [], []⟩, ⟨[0, 1, 2, 3, 4, 5, 6, 7, 8, 9, 10, 11, 12, 13, 14], [], [], false, .con (.bool false), none, fun u => [], []⟩, ⟨[15], [], [], true, .con undef, none, fun u => [], []⟩, ⟨[15], [], [], true, .con undef, none, fun u => [], []⟩] rfl t_mxo (by kernel_rfl) (by rfl) ?_ fun f5 _ _ h => ?_
     ·exact obs_cons (ob_con rfl (gok_none rfl) rfl fun f5 => (o_move rfl)) (obs_cons (ob_con rfl (gok_none rfl) rfl fun f5 => (o_move rfl)) (obs_cons (ob_con rfl (gok_none rfl) rfl fun f5 => (o_call (ref01_Same.spc v5 r2.1 v7 r3.1 r12 er12) rfl [10, 7] [] (by decide) rfl rfl)) (obs_cons (ob_con rfl (gok_none rfl) rfl fun f5 => (o_move rfl)) (obs_cons (ob_con rfl (gok_some rfl rfl rfl (fun _ => rfl) c7) rfl fun f5 => (o_move rfl)) (obs_cons (ob_con rfl (gok_some rfl rfl rfl (fun _ => rfl) c7) rfl fun f5 => (o_move rfl)) (obs_cons (ob_con rfl (gok_some rfl rfl rfl (fun _ => rfl) c7) rfl fun f5 => (o_bin rfl rfl rfl)) (obs_cons (ob_con rfl (gok_none rfl) rfl fun f5 => (o_pickT rfl rfl c7)) (obs_cons (ob_con rfl (gok_none rfl) rfl fun f5 => (o_move rfl)) (obs_cons (ob_skip rfl rfl rfl rfl (fun _ => rfl) (nb_f c8) rfl rfl rfl rfl) (obs_cons (ob_skip rfl rfl rfl rfl (fun _ => rfl) (nb_f c8) rfl rfl rfl rfl) (obs_cons (ob_skip rfl rfl rfl rfl (fun _ => rfl) (nb_f c8) rfl rfl rfl rfl) (obs_cons (ob_skip rfl rfl rfl rfl (fun _ => rfl) (nb_f c8) rfl rfl rfl rfl) (obs_cons (ob_skip rfl rfl rfl rfl (fun _ => rfl) (nb_f c8) rfl rfl rfl rfl) (obs_cons (ob_con rfl (gok_none rfl) rfl fun f5 => (o_pickF rfl rfl c8)) (obs_cons (ob_con rfl (gok_none rfl) rfl fun f5 => (o_move rfl)) (obs_cons (ob_skip rfl rfl rfl rfl (fun _ => rfl) (nb_f Bool.false_ne_true) rfl rfl rfl rfl) (obs_cons (ob_skip rfl rfl rfl rfl (fun _ => rfl) (nb_f Bool.false_ne_true) rfl rfl rfl rfl) (obs_nil))))))))))))))))))
     replace h := h.wk (E' := [(58, .bool false)]) (L' := [Fld KIp b3 0 r5.1, Ent.pur (InR .i64 r5.2), Val KIp v9 r5.1, Fld KIp b2 0 r4.1, Ent.pur (InR .i64 r4.2), Val KIp v8 r4.1, Ent.pur (InR .i64 r3.2), Val (Kd.sl (Kd.int .u8)) v7 r3.1, Val KIp v6 a1, Ent.pur (InR .i64 r2.2), Val (Kd.sl (Kd.int .u8)) v5 r2.1, Val KIp v4 a1, Val (Kd.sl (Kd.int .u8)) v2 a2, Fld KIp b1 0 a1, Pfl (Kd.eq gv0) 0 0 ()]) (by kernel_rfl) [0, 1, 2, 3, 4, 5, 6, 7, 8, 9, 10, 11, 12, 13, 14] (by decide) (by kernel_rfl)
     refine gk h rfl rfl (nb_f Bool.false_ne_true) rfl fun _ h => ?_
     refine gs h (o_pickF rfl rfl Bool.false_ne_true) rfl fun _ _ _ h => ?_
     refine gs h (o_move rfl) rfl fun _ _ _ h => ?_
     refine gk h rfl rfl (nb_f Bool.false_ne_true) rfl fun _ h => ?_
     refine gs h (o_pickF rfl rfl Bool.false_ne_true) rfl fun _ _ _ h => ?_
     refine gs h (o_assign rfl) rfl fun _ _ _ h => ?_
     refine GoR.done ?_
     exact J2 false _ _ (som H).symm (h.wk (by rfl) [0, 3, 13, 14] (by decide) (by rfl))
   ·have H := ifF c7 H
    refine Go.draw (E := [(5, v5), (6, .int .i64 r2.2), (7, v7), (8, .int .i64 r3.2), (9, .pointer (some ⟨b2, 0, none⟩)), (10, .int .i64 r4.2), (11, .pointer (some ⟨b3, 0, none⟩)), (12, .int .i64 r5.2)]) [] (L := [Fld KIp b3 0 r5.1, Ent.pur (InR .i64 r5.2), Val KIp v9 r5.1, Fld KIp b2 0 r4.1, Ent.pur (InR .i64 r4.2), Val KIp v8 r4.1, Ent.pur (InR .i64 r3.2), Val (Kd.sl (Kd.int .u8)) v7 r3.1, Val KIp v6 a1, Ent.pur (InR .i64 r2.2), Val (Kd.sl (Kd.int .u8)) v5 r2.1, Val KIp v4 a1, Val (Kd.sl (Kd.int .u8)) v2 a2, Fld KIp b1 0 a1, Pfl (Kd.eq gv0) 0 0 ()]) h rfl rfl 18 [⟨[], [], [], false, .con (v5), none, fun u => [], []⟩, ⟨[], [], [], false, .con (v7), none, fun u => [], []⟩, ⟨[0, 1], [], [], false, .con (.bool r12), none, fun u => [], []⟩, ⟨[0, 1, 2], [], [], false, .con (.bool r12), none, fun u => [], []⟩, ⟨[3], [], [], true, .con undef, none, fun u => [], []⟩, ⟨[3], [], [], true, .con undef, none, fun u => [], []⟩, ⟨[3], [], [], true, .con undef, none, fun u => [], []⟩, ⟨[0, 1, 2, 3, 4, 5, 6], [], [], false, .con (.bool false), none, fun u => [], []⟩, ⟨[0, 1, 2, 3, 4, 5, 6, 7], [], [], false, .con (.bool false), none, fun u => [], []⟩, ⟨[8], [], [], true, .con undef, none, fun u => [], []⟩, ⟨[8], [], [], true, .con undef, none, fun u => [], []⟩, ⟨[8], [], [], true, .con undef, none, fun u => [], []⟩, ⟨[8], [], [], true, .con undef, none, fun u => [], []⟩, ⟨[8], [], [], true, .con undef, none, fun u => [], []⟩, ⟨[0, 1, 2, 3, 4, 5, 6, 7, 8, 9, 10, 11, 12, 13], [], [], false, .con (.bool false), none, fun u => [], []⟩, ⟨[0, 1, 2, 3, 4, 5, 6, 7, 8, 9, 10, 11, 12, 13, 14], [], [], false, .con (.bool false), none, fun u => [], []⟩, ⟨[15], [], [], true, .con undef, none, fun u => [], []⟩, ⟨[15], [], [], true, .con undef, none, fun u => [], []⟩] rfl t_mxo (by kernel_rfl) (by rfl) ?_ fun f5 _ _ h => ?_
    ·exact obs_cons (ob_con rfl (gok_none rfl) rfl fun f5 => (o_move rfl)) (obs_cons (ob_con rfl (gok_none rfl) rfl fun f5 => (o_move rfl)) (obs_cons (ob_con rfl (gok_none rfl) rfl fun f5 => (o_call (ref01_Same.spc v5 r2.1 v7 r3.1 r12 er12) rfl [10, 7] [] (by decide) rfl rfl)) (obs_cons (ob_con rfl (gok_none rfl) rfl fun f5 => (o_move rfl)) (obs_cons (ob_skip rfl rfl rfl rfl (fun _ => rfl) (nb_f c7) rfl rfl rfl rfl) (obs_cons (ob_skip rfl rfl rfl rfl (fun _ => rfl) (nb_f c7) rfl rfl rfl rfl) (obs_cons (ob_skip rfl rfl rfl rfl (fun _ => rfl) (nb_f c7) rfl rfl rfl rfl) (obs_cons (ob_con rfl (gok_none rfl) rfl fun f5 => (o_pickF rfl rfl c7)) (obs_cons (ob_con rfl (gok_none rfl) rfl fun f5 => (o_move rfl)) (obs_cons (ob_skip rfl rfl rfl rfl (fun _ => rfl) (nb_f Bool.false_ne_true) rfl rfl rfl rfl) (obs_cons (ob_skip rfl rfl rfl rfl (fun _ => rfl) (nb_f Bool.false_ne_true) rfl rfl rfl rfl) (obs_cons (ob_skip rfl rfl rfl rfl (fun _ => rfl) (nb_f Bool.false_ne_true) rfl rfl rfl rfl) (obs_cons (ob_skip rfl rfl rfl rfl (fun _ => rfl) (nb_f Bool.false_ne_true) rfl rfl rfl rfl) (obs_cons (ob_skip rfl rfl rfl rfl (fun _ => rfl) (nb_f Bool.false_ne_true) rfl rfl rfl rfl) (obs_cons (ob_con rfl (gok_none rfl) rfl fun f5 => (o_pickF rfl rfl Bool.false_ne_true)) (obs_cons (ob_con rfl (gok_none rfl) rfl fun f5 => (o_move rfl)) (obs_cons (ob_skip rfl rfl rfl rfl (fun _ => rfl) (nb_f Bool.false_ne_true) rfl rfl rfl rfl) (obs_cons (ob_skip rfl rfl rfl rfl (fun _ => rfl) (nb_f Bool.false_ne_true) rfl rfl rfl rfl) (obs_nil))))))))))))))))))
    replace h := h.wk (E' := [(58, .bool false)]) (L' := [Fld KIp b3 0 r5.1, Ent.pur (InR .i64 r5.2), Val KIp v9 r5.1, Fld KIp b2 0 r4.1, Ent.pur (InR .i64 r4.2), Val KIp v8 r4.1, Ent.pur (InR .i64 r3.2), Val (Kd.sl (Kd.int .u8)) v7 r3.1, Val KIp v6 a1, Ent.pur (InR .i64 r2.2), Val (Kd.sl (Kd.int .u8)) v5 r2.1, Val KIp v4 a1, Val (Kd.sl (Kd.int .u8)) v2 a2, Fld KIp b1 0 a1, Pfl (Kd.eq gv0) 0 0 ()]) (by kernel_rfl) [0, 1, 2, 3, 4, 5, 6, 7, 8, 9, 10, 11, 12, 13, 14] (by decide) (by kernel_rfl)
    refine gk h rfl rfl (nb_f Bool.false_ne_true) rfl fun _ h => ?_
    refine gs h (o_pickF rfl rfl Bool.false_ne_true) rfl fun _ _ _ h => ?_
    refine gs h (o_move rfl) rfl fun _ _ _ h => ?_
    refine gk h rfl rfl (nb_f Bool.false_ne_true) rfl fun _ h => ?_
    refine gs h (o_pickF rfl rfl Bool.false_ne_true) rfl fun _ _ _ h => ?_
    refine gs h (o_assign rfl) rfl fun _ _ _ h => ?_
    refine GoR.done ?_
    exact J2 false _ _ (som H).symm (h.wk (by rfl) [0, 3, 13, 14] (by decide) (by rfl))
 refine Go.reg ?_
 refine gs h (o_move rfl) rfl fun _ _ _ h => ?_
 have g1 := (len_at 2 rfl h.mem)
 refine gs h (o_ln rfl (rd_at 2 rfl) t_v23) rfl fun _ _ _ h => ?_
 refine gs h (o_bin rfl rfl rfl) rfl fun _ _ _ h => ?_
 refine gs h (o_move rfl) rfl fun _ _ _ h => ?_
 by_cases c1 : decide (70000 < (a2.length : Int)) = true
 ·have H := ifT c1 H
  iterate 4 (refine gk h rfl rfl (nb_t c1) rfl fun _ h => ?_)
  refine gs h (o_pickT rfl rfl c1) rfl fun _ _ _ h => ?_
  refine GoR.done ?_
  exact J1 true _ _ (som H).symm (h.wk (by rfl) [2, 0, 3] (by decide) (by rfl))
 ·have H := ifF c1 H
  refine gg h rfl rfl (nbF c1) (o_fa rfl t_f25_9 rfl rfl) rfl fun _ _ _ h => ?_
  refine gg h rfl rfl (nbF c1) (o_lfv 0 rfl rfl sIp_Data rfl Per_sl t_y23) rfl fun v3 _ _ h => ?_
  have g2 := (len_at 0 rfl h.mem)
  refine gg h rfl rfl (nbF c1) (o_ln rfl (rd_at 0 rfl) t_v23) rfl fun _ _ _ h => ?_
  refine gg h rfl rfl (nbF c1) (o_bin rfl rfl rfl) rfl fun _ _ _ h => ?_
  refine gs h (o_pickF rfl rfl c1) rfl fun _ _ _ h => ?_
  refine GoR.done ?_
  exact J1 (decide (70000 < (a1.Data.length : Int))) _ _ (som H).symm (h.wk (by rfl) [3, 1, 4] (by decide) (by rfl))
def law17_IpTells.g (k_ : Nat) (a1 : TIp) (a2 : List Int) : Option (Bool) :=
  ((if decide (70000 < (a2.length : Int)) = true then some (true) else some (decide (70000 < (a1.Data.length : Int))))).bind (fun j1 => (if j1 = true then (law17_heads.g k_).bind fun r1 => some (r1) else (ip_Put.g k_ a1).bind fun r2 => (ref17_Put.g k_ a1).bind fun r3 => (ip_Get.g k_ a2).bind fun r4 => (ref17_Get.g k_ a2).bind fun r5 => ((ref01_Same.g k_ r2.1 r3.1).bind fun r12 => (if r12 = true then (if decide (r2.2 = r3.2) = true then (law17_one.g k_ r4.1).bind fun r13 => (law17_one.g k_ r5.1).bind fun r14 => (ref17_Same.g k_ r13 r14).bind fun r15 => (if r15 = true then (if decide (r4.2 = r5.2) = true then (law17_heads.g k_).bind fun r16 => some (r16) else some (false)) else some (false)) else some (false)) else some (false))).bind (fun j2 => some (j2))))
theorem law17_IpTells.le (k_ : Nat) (a1 : TIp) (a2 : List Int) : Le (law17_IpTells.g k_ a1 a2) (law17_IpTells.f a1 a2) := by
 unfold law17_IpTells.g law17_IpTells.f
 repeat' (first | with_reducible refine le_loop fun _ => ?_ | with_reducible refine le_bind ?_ fun _ => ?_ | with_reducible refine le_ite ?_ ?_ | with_reducible refine le_lt fun _ => ?_ | with_reducible refine le_elim (fun _ => ?_) (fun _ => ?_) _ | with_reducible apply ip_Get.le | with_reducible apply ip_Put.le | with_reducible apply law17_heads.le | with_reducible apply law17_one.le | with_reducible apply ref01_Same.le | with_reducible apply ref17_Get.le | with_reducible apply ref17_Put.le | with_reducible apply ref17_Same.le | with_reducible exact le_refl _)
end Go.Proofs.YtaiadolmjmacfaaDoor.S
