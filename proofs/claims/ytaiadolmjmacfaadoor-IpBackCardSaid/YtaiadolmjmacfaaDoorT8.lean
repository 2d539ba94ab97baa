/- Contracts, printed by a program of this session. -/
import Derived.Test.YtaiadolmjmacfaaDoorT2
import Derived.Test.YtaiadolmjmacfaaDoorT5
import Derived.Test.YtaiadolmjmacfaaDoorT6
import Derived.Test.YtaiadolmjmacfaaDoorT7
namespace Go.Proofs.YtaiadolmjmacfaaDoor.S
open Go Go.SL Go.RowKit
set_option linter.unusedVariables false
set_option linter.unusedSimpArgs false
/-! drawbridge/drawbridgelaw17.IpBack -/
noncomputable def law17_IpBack.f (a1 : TIp) (a2 : List Int) : Option (Bool) :=
  ((if decide (20000 < (a1.Data.length : Int)) = true then some (true) else some (decide (1000 < (a2.length : Int))))).bind (fun j1 => (if j1 = true then (law17_heads.f).bind fun r1 => some (r1) else (ip_Put.f a1).bind fun r2 => (if (!decide (r2.2 = 0)) = true then ((if decide ((r2.1.length : Int) = 0) = true then (law17_heads.f).bind fun r3 => some (r3) else some (false))).bind (fun j2 => some (j2)) else (app ([] : List Int) r2.1).bind fun x1 => (app x1 a2).bind fun x2 => (ip_Get.f x2).bind fun r4 => ((if decide (r4.2 = 0) = true then (law17_one.f a1).bind fun r9 => (law17_one.f r4.1).bind fun r10 => (ref17_Same.f r9 r10).bind fun r11 => (if r11 = true then (if decide ((r2.1.length : Int) = (IntKind.i64.wrap ((IntKind.i64.wrap (20 + (a1.Options.length : Int))) + (a1.Data.length : Int)))) = true then (law17_heads.f).bind fun r12 => some (r12) else some (false)) else some (false)) else some (false))).bind (fun j3 => some (j3)))))
set_option maxRecDepth 100000 in
set_option maxHeartbeats 4000000 in
theorem law17_IpBack.spc (v1 : Value) (a1 : TIp) (v2 : Value) (a2 : List Int) (r : Bool) (H : law17_IpBack.f a1 a2 = some r) : Spc Tryd.prog 4 [v1, v2] [Val KIp v1 a1, Val (Kd.sl (Kd.int .u8)) v2 a2, Pfl (Kd.eq gv0) 0 0 ()] [] (fun (s : Unit) => .bool r) (fun s => []) := by
 unfold law17_IpBack.f at H
 refine Spc.go Tryd.func4 rfl (by kernel_rfl) rfl rfl (all_cons (Val.per PIp) (all_cons (Val.per Per_sl) (all_cons Per_pfl all_nil))) fun F a w h => ?_
 refine Go.seq ?_
 refine Go.reg ?_
 refine gs h (o_box (K := KIp) rfl (pv_at PIp 0 rfl)) rfl fun b1 _ _ h => ?_
 refine gs h (o_assign rfl) rfl fun _ _ _ h => ?_
 refine GoR.done ?_
 refine Go.seq ?_
 refine Go.seq ?_
 obtain ⟨o1, H, G1⟩ := bindE H
 refine g_cut (fun G => ∀ j1 (a : Act) (w : World), o1 = j1 → St Tryd.f4.ntmps F [(1, v2), (2, .pointer (some ⟨b1, 0, none⟩)), (17, .bool j1)] [Val (Kd.sl (Kd.int .u8)) v2 a2, Fld KIp b1 0 a1, Pfl (Kd.eq gv0) 0 0 ()] a w → G a w) 1 ?_ fun J1 => ?_
 ·intro j1 a w ho_ h
  rw [ho_] at G1
  have H := G1
  by_cases c2 : j1 = true
  ·have H := ifT c2 H
   refine g_t h rfl c2 ?_
   refine Go.seq ?_
   refine Go.reg ?_
   obtain ⟨r1, er1, H⟩ := bindE H
   refine gs h (o_call (law17_heads.spc  r1 er1) rfl [2] [] (by decide) rfl rfl) rfl fun _ _ _ h => ?_
   refine gs h (o_assign rfl) rfl fun _ _ _ h => ?_
   refine GoR.done ?_
   rw [← som H]
   exact g_ret (vs := [.bool r1]) h Tryd.func4 ⟨rfl, trivial⟩ ⟨(), rfl, (h.mem.pick [] (by decide) rfl)⟩
  ·have H := ifF c2 H
   refine g_f h rfl c2 ?_
   refine Go.skip ?_
   refine Go.seq ?_
   refine Go.reg ?_
   refine gs h (o_ldv 1 rfl rfl PIp t_y25) rfl fun v4 _ _ h => ?_
   obtain ⟨r2, er2, H⟩ := bindE H
   refine gs h (o_call (ip_Put.spc v4 a1 r2 er2) rfl [0] [] (by decide) rfl rfl) rfl fun v5 _ _ h => ?_
   have g3 := h.mem.pur 0 rfl
   refine gs h (o_move rfl) rfl fun _ _ _ h => ?_
   refine gs h (o_extract rfl rfl) rfl fun _ _ _ h => ?_
   refine gs h (o_extract rfl rfl) rfl fun _ _ _ h => ?_
   refine gs h (o_assign rfl) rfl fun _ _ _ h => ?_
   refine gs h (o_assign rfl) rfl fun _ _ _ h => ?_
   refine GoR.done ?_
   refine Go.seq ?_
   refine Go.seq ?_
   refine Go.reg ?_
   refine gs h (o_move rfl) rfl fun _ _ _ h => ?_
   refine gs h (o_bin rfl rfl rfl) rfl fun _ _ _ h => ?_
   refine GoR.done ?_
   by_cases c3 : (!decide (r2.2 = 0)) = true
   ·have H := ifT c3 H
    refine g_t h rfl c3 ?_
    refine Go.seq ?_
    obtain ⟨o2, H, G2⟩ := bindE H
    refine g_cut (fun G => ∀ j2 (a : Act) (w : World), o2 = j2 → St Tryd.f4.ntmps F [(4, .bool j2)] [Fld KIp b1 0 a1, Pfl (Kd.eq gv0) 0 0 ()] a w → G a w) 1 ?_ fun J2 => ?_
    ·intro j2 a w ho_ h
     rw [ho_] at G2
     have H := G2
     rw [← som H]
     exact g_ret (vs := [.bool j2]) h Tryd.func4 ⟨rfl, trivial⟩ ⟨(), rfl, (h.mem.pick [] (by decide) rfl)⟩
    refine Go.reg ?_
    refine gs h (o_move rfl) rfl fun _ _ _ h => ?_
    have g4 := (len_own 1 rfl h.mem)
    refine gs h (o_ln rfl (rd_own 1 rfl) t_v23) rfl fun _ _ _ h => ?_
    refine gs h (o_bin rfl rfl rfl) rfl fun _ _ _ h => ?_
    refine gs h (o_move rfl) rfl fun _ _ _ h => ?_
    by_cases c4 : decide ((r2.1.length : Int) = 0) = true
    ·have H := ifT c4 H
     obtain ⟨r3, er3, H⟩ := bindE H
     refine gg h rfl rfl c4 (o_call (law17_heads.spc  r3 er3) rfl [5] [] (by decide) rfl rfl) rfl fun _ _ _ h => ?_
     refine gs h (o_pickT rfl rfl c4) rfl fun _ _ _ h => ?_
     refine gs h (o_assign rfl) rfl fun _ _ _ h => ?_
     refine GoR.done ?_
     exact J2 r3 _ _ (som H).symm (h.wk (by rfl) [4, 5] (by decide) (by rfl))
    ·have H := ifF c4 H
     refine gk h rfl rfl (nb_f c4) rfl fun _ h => ?_
     refine gs h (o_pickF rfl rfl c4) rfl fun _ _ _ h => ?_
     refine gs h (o_assign rfl) rfl fun _ _ _ h => ?_
     refine GoR.done ?_
     exact J2 false _ _ (som H).symm (h.wk (by rfl) [4, 5] (by decide) (by rfl))
   ·have H := ifF c3 H
    refine g_f h rfl c3 ?_
    refine Go.skip ?_
    refine Go.seq ?_
    refine Go.reg ?_
    refine gs h (o_bs (K := (Kd.int .u8)) (vs := []) (xs := ([] : List Int)) rfl rfl pvs_nil t_a23 (by decide) (by decide)) rfl fun v6 _ _ h => ?_
    refine gs h (o_move rfl) rfl fun _ _ _ h => ?_
    obtain ⟨x1, ex1, H⟩ := bindE H
    refine gs h (o_app (K := (Kd.int .u8)) 0 rfl rfl rfl (rd_own 2 rfl) ex1 t_a23 t_n23) rfl fun v7 _ _ h => ?_
    refine gs h (o_move rfl) rfl fun _ _ _ h => ?_
    obtain ⟨x2, ex2, H⟩ := bindE H
    refine gs h (o_app (K := (Kd.int .u8)) 0 rfl rfl rfl (rd_at 4 rfl) ex2 t_a23 t_n23) rfl fun v8 _ _ h => ?_
    replace h := h.mm fun m => m.freeze 0 rfl
    obtain ⟨r4, er4, H⟩ := bindE H
    refine gs h (o_call (ip_Get.spc v8 x2 r4 er4) rfl [0, 6] [] (by decide) rfl rfl) rfl fun v9 _ _ h => ?_
    have g5 := h.mem.pur 0 rfl
    refine gs h (o_move rfl) rfl fun _ _ _ h => ?_
    refine gs h (o_extract rfl rfl) rfl fun _ _ _ h => ?_
    refine gs h (o_extract rfl rfl) rfl fun _ _ _ h => ?_
    refine gs h (o_alloc (K := KIp) (z := (.agg #[.int .i64 0, .int .i64 0, .int .i64 0, .int .i64 0, .int .i64 0, .int .i64 0, .int .u32 0, .int .u32 0, .slice none 0 0, .slice none 0 0])) rfl ZIp) rfl fun b2 _ _ h => ?_
    refine gs0 h (o_st 0 rfl rfl rfl (pv_at PIp 2 rfl) rfl t_w25) fun _ _ _ h => ?_
    refine gs h (o_assign rfl) rfl fun _ _ _ h => ?_
    refine GoR.done ?_
    refine Go.seq ?_
    replace h := h.wk (E' := [(2, .pointer (some ⟨b1, 0, none⟩)), (5, v5), (7, .pointer (some ⟨b2, 0, none⟩)), (8, .int .i64 r4.2)]) (L' := [Fld KIp b2 0 r4.1, Ent.pur (InR .i64 r4.2), Val KIp v9 r4.1, Val (Kd.sl (Kd.int .u8)) v8 x2, Ent.pur (InR .i64 r2.2), Val (Kd.osl (Kd.int .u8)) v5 r2.1, Val KIp v4 a1, Val (Kd.sl (Kd.int .u8)) v2 a2, Fld KIp b1 0 a1, Pfl (Kd.eq gv0) 0 0 ()]) (by rfl) [0, 1, 2, 3, 4, 5, 6, 7, 8, 9] (by decide) (by rfl)
    obtain ⟨o5, H, G5⟩ := bindE H
    refine g_cut (fun G => ∀ j3 (a : Act) (w : World), o5 = j3 → St Tryd.f4.ntmps F [(4, .bool j3)] [Fld KIp b2 0 r4.1, Fld KIp b1 0 a1, Pfl (Kd.eq gv0) 0 0 ()] a w → G a w) 1 ?_ fun J3 => ?_
    ·intro j3 a w ho_ h
     rw [ho_] at G5
     have H := G5
     rw [← som H]
     exact g_ret (vs := [.bool j3]) h Tryd.func4 ⟨rfl, trivial⟩ ⟨(), rfl, (h.mem.pick [] (by decide) rfl)⟩
    by_cases c7 : decide (r4.2 = 0) = true
    ·have H := ifT c7 H
     obtain ⟨r9, er9, H⟩ := bindE H
     obtain ⟨r10, er10, H⟩ := bindE H
     obtain ⟨r11, er11, H⟩ := bindE H
     by_cases c8 : r11 = true
     ·have H := ifT c8 H
      refine Go.draw (E := [(2, .pointer (some ⟨b1, 0, none⟩)), (5, v5), (7, .pointer (some ⟨b2, 0, none⟩)), (8, .int .i64 r4.2)]) [] (L := [Fld KIp b2 0 r4.1, Ent.pur (InR .i64 r4.2), Val KIp v9 r4.1, Val (Kd.sl (Kd.int .u8)) v8 x2, Ent.pur (InR .i64 r2.2), Val (Kd.osl (Kd.int .u8)) v5 r2.1, Val KIp v4 a1, Val (Kd.sl (Kd.int .u8)) v2 a2, Fld KIp b1 0 a1, Pfl (Kd.eq gv0) 0 0 ()]) h rfl rfl 20 [⟨[], [], [], false, .con (.int .i64 r4.2), none, fun u => [], []⟩, ⟨[0], [], [], false, .con (.bool (decide (r4.2 = 0))), none, fun u => [], []⟩, ⟨[0, 1], [], [], false, .con (.bool (decide (r4.2 = 0))), none, fun u => [], []⟩, ⟨[0, 1, 2], [], [], false, .own, none, fun u => [Val KIp u a1], []⟩, ⟨[0, 1, 2, 3], [3], [], false, .own, none, fun u => [Val (Kd.sl KIp) u r9], []⟩, ⟨[0, 1, 2], [], [], false, .own, none, fun u => [Val KIp u r4.1], []⟩, ⟨[0, 1, 2, 5], [5], [], false, .own, none, fun u => [Val (Kd.sl KIp) u r10], []⟩, ⟨[0, 1, 2, 3, 4, 5, 6], [4, 6], [], false, .con (.bool r11), none, fun u => [], []⟩, ⟨[0, 1, 2, 3, 4, 5, 6, 7], [], [], false, .con (.bool r11), none, fun u => [], []⟩, ⟨[0, 1, 2, 3, 4, 5, 6, 7, 8], [], [], false, .con (.bool r11), none, fun u => [], []⟩, ⟨[0, 1, 2, 3, 4, 5, 6, 7, 8, 9], [], [], false, .con (v5), none, fun u => [], []⟩, ⟨[0, 1, 2, 3, 4, 5, 6, 7, 8, 9, 10], [], [], false, .con (.int .i64 (r2.1.length : Int)), none, fun u => [], []⟩, ⟨[0, 1, 2, 3, 4, 5, 6, 7, 8, 9], [], [], false, .con (.pointer (some ⟨b1, 8, none⟩)), none, fun u => [], []⟩, ⟨[0, 1, 2, 3, 4, 5, 6, 7, 8, 9, 12], [], [], false, .own, none, fun u => [Val (Kd.sl (Kd.int .u8)) u a1.Options], []⟩, ⟨[0, 1, 2, 3, 4, 5, 6, 7, 8, 9, 12, 13], [13], [], false, .con (.int .i64 (a1.Options.length : Int)), none, fun u => [], []⟩, ⟨[0, 1, 2, 3, 4, 5, 6, 7, 8, 9, 12, 13, 14], [], [], false, .con (.int .i64 (IntKind.i64.wrap (20 + (a1.Options.length : Int)))), none, fun u => [], []⟩, ⟨[0, 1, 2, 3, 4, 5, 6, 7, 8, 9], [], [], false, .con (.pointer (some ⟨b1, 9, none⟩)), none, fun u => [], []⟩, ⟨[0, 1, 2, 3, 4, 5, 6, 7, 8, 9, 16], [], [], false, .own, none, fun u => [Val (Kd.sl (Kd.int .u8)) u a1.Data], []⟩, ⟨[0, 1, 2, 3, 4, 5, 6, 7, 8, 9, 16, 17], [17], [], false, .con (.int .i64 (a1.Data.length : Int)), none, fun u => [], []⟩, ⟨[0, 1, 2, 3, 4, 5, 6, 7, 8, 9, 12, 13, 14, 15, 16, 17, 18], [], [], false, .con (.int .i64 (IntKind.i64.wrap ((IntKind.i64.wrap (20 + (a1.Options.length : Int))) + (a1.Data.length : Int)))), none, fun u => [], []⟩] rfl t_mxo (by kernel_rfl) (by rfl) ?_ fun f3 _ _ h => ?_
      ·exact obs_cons (ob_con rfl (gok_none rfl) rfl fun f3 => (o_move rfl)) (obs_cons (ob_con rfl (gok_none rfl) rfl fun f3 => (o_bin rfl rfl rfl)) (obs_cons (ob_con rfl (gok_none rfl) rfl fun f3 => (o_move rfl)) (obs_cons (ob_own rfl (gok_some rfl rfl rfl (fun _ => rfl) c7) rfl fun f3 => (o_ldv 8 rfl rfl PIp t_y25)) (obs_cons (ob_own rfl (gok_some rfl rfl rfl (fun _ => rfl) c7) rfl fun f3 => (OpS.mm (o_call (law17_one.spc (f3 3) a1 r9 er9) rfl [0] [] (by decide) rfl rfl) (fun _ _ _ m => m.freeze 0 rfl))) (obs_cons (ob_own rfl (gok_some rfl rfl rfl (fun _ => rfl) c7) rfl fun f3 => (o_ldv 0 rfl rfl PIp t_y25)) (obs_cons (ob_own rfl (gok_some rfl rfl rfl (fun _ => rfl) c7) rfl fun f3 => (OpS.mm (o_call (law17_one.spc (f3 5) r4.1 r10 er10) rfl [0] [] (by decide) rfl rfl) (fun _ _ _ m => m.freeze 0 rfl))) (obs_cons (ob_con rfl (gok_some rfl rfl rfl (fun _ => rfl) c7) rfl fun f3 => (o_call (ref17_Same.spc (f3 4) r9 (f3 6) r10 r11 er11) rfl [0, 1] [] (by decide) rfl rfl)) (obs_cons (ob_con rfl (gok_none rfl) rfl fun f3 => (o_pickT rfl rfl c7)) (obs_cons (ob_con rfl (gok_none rfl) rfl fun f3 => (o_move rfl)) (obs_cons (ob_con rfl (gok_some rfl rfl rfl (fun _ => rfl) c8) rfl fun f3 => (o_move rfl)) (obs_cons (ob_con rfl (gok_some rfl rfl rfl (fun _ => rfl) c8) rfl fun f3 => (o_ln rfl (rd_own 5 rfl) t_v23)) (obs_cons (ob_con rfl (gok_some rfl rfl rfl (fun _ => rfl) c8) rfl fun f3 => (o_fa rfl t_f25_8 rfl rfl)) (obs_cons (ob_own rfl (gok_some rfl rfl rfl (fun _ => rfl) c8) rfl fun f3 => (o_lfv 8 rfl rfl sIp_Options rfl Per_sl t_y23)) (obs_cons (ob_con rfl (gok_some rfl rfl rfl (fun _ => rfl) c8) rfl fun f3 => (o_ln rfl (rd_at 0 rfl) t_v23)) (obs_cons (ob_con rfl (gok_some rfl rfl rfl (fun _ => rfl) c8) rfl fun f3 => (o_bin rfl rfl rfl)) (obs_cons (ob_con rfl (gok_some rfl rfl rfl (fun _ => rfl) c8) rfl fun f3 => (o_fa rfl t_f25_9 rfl rfl)) (obs_cons (ob_own rfl (gok_some rfl rfl rfl (fun _ => rfl) c8) rfl fun f3 => (o_lfv 8 rfl rfl sIp_Data rfl Per_sl t_y23)) (obs_cons (ob_con rfl (gok_some rfl rfl rfl (fun _ => rfl) c8) rfl fun f3 => (o_ln rfl (rd_at 0 rfl) t_v23)) (obs_cons (ob_con rfl (gok_some rfl rfl rfl (fun _ => rfl) c8) rfl fun f3 => (o_bin rfl rfl rfl)) (obs_nil))))))))))))))))))))
      replace h := h.wk (E' := [(50, .bool r11), (52, .int .i64 (r2.1.length : Int)), (60, .int .i64 (IntKind.i64.wrap ((IntKind.i64.wrap (20 + (a1.Options.length : Int))) + (a1.Data.length : Int))))]) (L' := [Val KIp (f3 3) a1, Val (Kd.sl KIp) (f3 4) r9, Val KIp (f3 5) r4.1, Val (Kd.sl KIp) (f3 6) r10, Val (Kd.sl (Kd.int .u8)) (f3 13) a1.Options, Val (Kd.sl (Kd.int .u8)) (f3 17) a1.Data, Fld KIp b2 0 r4.1, Ent.pur (InR .i64 r4.2), Val KIp v9 r4.1, Val (Kd.sl (Kd.int .u8)) v8 x2, Ent.pur (InR .i64 r2.2), Val (Kd.osl (Kd.int .u8)) v5 r2.1, Val KIp v4 a1, Val (Kd.sl (Kd.int .u8)) v2 a2, Fld KIp b1 0 a1, Pfl (Kd.eq gv0) 0 0 ()]) (by kernel_rfl) [0, 1, 2, 3, 4, 5, 6, 7, 8, 9, 10, 11, 12, 13, 14, 15] (by decide) (by kernel_rfl)
      have g6 := (len_own 11 rfl h.mem)
      refine gg h rfl rfl c8 (o_bin rfl rfl rfl) rfl fun _ _ _ h => ?_
      refine gs h (o_pickT rfl rfl c8) rfl fun _ _ _ h => ?_
      refine gs h (o_move rfl) rfl fun _ _ _ h => ?_
      by_cases c9 : decide ((r2.1.length : Int) = (IntKind.i64.wrap ((IntKind.i64.wrap (20 + (a1.Options.length : Int))) + (a1.Data.length : Int)))) = true
      ·have H := ifT c9 H
       obtain ⟨r12, er12, H⟩ := bindE H
       refine gg h rfl rfl c9 (o_call (law17_heads.spc  r12 er12) rfl [15] [] (by decide) rfl rfl) rfl fun _ _ _ h => ?_
       refine gs h (o_pickT rfl rfl c9) rfl fun _ _ _ h => ?_
       refine gs h (o_assign rfl) rfl fun _ _ _ h => ?_
       refine GoR.done ?_
       exact J3 r12 _ _ (som H).symm (h.wk (by rfl) [6, 14, 15] (by decide) (by rfl))
      ·have H := ifF c9 H
       refine gk h rfl rfl (nb_f c9) rfl fun _ h => ?_
       refine gs h (o_pickF rfl rfl c9) rfl fun _ _ _ h => ?_
       refine gs h (o_assign rfl) rfl fun _ _ _ h => ?_
       refine GoR.done ?_
       exact J3 false _ _ (som H).symm (h.wk (by rfl) [6, 14, 15] (by decide) (by rfl))
     ·have H := ifF c8 H
      refine Go.draw (E := [(2, .pointer (some ⟨b1, 0, none⟩)), (5, v5), (7, .pointer (some ⟨b2, 0, none⟩)), (8, .int .i64 r4.2)]) [] (L := [Fld KIp b2 0 r4.1, Ent.pur (InR .i64 r4.2), Val KIp v9 r4.1, Val (Kd.sl (Kd.int .u8)) v8 x2, Ent.pur (InR .i64 r2.2), Val (Kd.osl (Kd.int .u8)) v5 r2.1, Val KIp v4 a1, Val (Kd.sl (Kd.int .u8)) v2 a2, Fld KIp b1 0 a1, Pfl (Kd.eq gv0) 0 0 ()]) h rfl rfl 20 [⟨[], [], [], false, .con (.int .i64 r4.2), none, fun u => [], []⟩, ⟨[0], [], [], false, .con (.bool (decide (r4.2 = 0))), none, fun u => [], []⟩, ⟨[0, 1], [], [], false, .con (.bool (decide (r4.2 = 0))), none, fun u => [], []⟩, ⟨[0, 1, 2], [], [], false, .own, none, fun u => [Val KIp u a1], []⟩, ⟨[0, 1, 2, 3], [3], [], false, .own, none, fun u => [Val (Kd.sl KIp) u r9], []⟩, ⟨[0, 1, 2], [], [], false, .own, none, fun u => [Val KIp u r4.1], []⟩, ⟨[0, 1, 2, 5], [5], [], false, .own, none, fun u => [Val (Kd.sl KIp) u r10], []⟩, ⟨[0, 1, 2, 3, 4, 5, 6], [4, 6], [], false, .con (.bool r11), none, fun u => [], []⟩, ⟨[0, 1, 2, 3, 4, 5, 6, 7], [], [], false, .con (.bool r11), none, fun u => [], []⟩, ⟨[0, 1, 2, 3, 4, 5, 6, 7, 8], [], [], false, .con (.bool r11), none, fun u => [], []⟩, ⟨[9], [], [], true, .con undef, none, fun u => [], []⟩, ⟨[9], [], [], true, .con undef, none, fun u => [], []⟩, ⟨[9], [], [], true, .con undef, none, fun u => [], []⟩, ⟨[9], [], [], true, .con undef, none, fun u => [], []⟩, ⟨[9], [], [], true, .con undef, none, fun u => [], []⟩, ⟨[9], [], [], true, .con undef, none, fun u => [], []⟩, ⟨[9], [], [], true, .con undef, none, fun u => [], []⟩, ⟨[9], [], [], true, .con undef, none, fun u => [], []⟩, ⟨[9], [], [], true, .con undef, none, fun u => [], []⟩, ⟨[9], [], [], true, .con undef, none, fun u => [], []⟩] rfl t_mxo (by kernel_rfl) (by rfl) ?_ fun f3 _ _ h => ?_
      ·exact obs_cons (ob_con rfl (gok_none rfl) rfl fun f3 => (o_move rfl)) (obs_cons (ob_con rfl (gok_none rfl) rfl fun f3 => (o_bin rfl rfl rfl)) (obs_cons (ob_con rfl (gok_none rfl) rfl fun f3 => (o_move rfl)) (obs_cons (ob_own rfl (gok_some rfl rfl rfl (fun _ => rfl) c7) rfl fun f3 => (o_ldv 8 rfl rfl PIp t_y25)) (obs_cons (ob_own rfl (gok_some rfl rfl rfl (fun _ => rfl) c7) rfl fun f3 => (OpS.mm (o_call (law17_one.spc (f3 3) a1 r9 er9) rfl [0] [] (by decide) rfl rfl) (fun _ _ _ m => m.freeze 0 rfl))) (obs_cons (ob_own rfl (gok_some rfl rfl rfl (fun _ => rfl) c7) rfl fun f3 => (o_ldv 0 rfl rfl PIp t_y25)) (obs_cons (ob_own rfl (gok_some rfl rfl rfl (fun _ => rfl) c7) rfl fun f3 => (OpS.mm (o_call (law17_one.spc (f3 5) r4.1 r10 er10) rfl [0] [] (by decide) rfl rfl) (fun _ _ _ m => m.freeze 0 rfl))) (obs_cons (ob_con rfl (gok_some rfl rfl rfl (fun _ => rfl) c7) rfl fun f3 => (o_call (ref17_Same.spc (f3 4) r9 (f3 6) r10 r11 er11) rfl [0, 1] [] (by decide) rfl rfl)) (obs_cons (ob_con rfl (gok_none rfl) rfl fun f3 => (o_pickT rfl rfl c7)) (obs_cons (ob_con rfl (gok_none rfl) rfl fun f3 => (o_move rfl)) (obs_cons (ob_skip rfl rfl rfl rfl (fun _ => rfl) (nb_f c8) rfl rfl rfl rfl) (obs_cons (ob_skip rfl rfl rfl rfl (fun _ => rfl) (nb_f c8) rfl rfl rfl rfl) (obs_cons (ob_skip rfl rfl rfl rfl (fun _ => rfl) (nb_f c8) rfl rfl rfl rfl) (obs_cons (ob_skip rfl rfl rfl rfl (fun _ => rfl) (nb_f c8) rfl rfl rfl rfl) (obs_cons (ob_skip rfl rfl rfl rfl (fun _ => rfl) (nb_f c8) rfl rfl rfl rfl) (obs_cons (ob_skip rfl rfl rfl rfl (fun _ => rfl) (nb_f c8) rfl rfl rfl rfl) (obs_cons (ob_skip rfl rfl rfl rfl (fun _ => rfl) (nb_f c8) rfl rfl rfl rfl) (obs_cons (ob_skip rfl rfl rfl rfl (fun _ => rfl) (nb_f c8) rfl rfl rfl rfl) (obs_cons (ob_skip rfl rfl rfl rfl (fun _ => rfl) (nb_f c8) rfl rfl rfl rfl) (obs_cons (ob_skip rfl rfl rfl rfl (fun _ => rfl) (nb_f c8) rfl rfl rfl rfl) (obs_nil))))))))))))))))))))
      replace h := h.wk (E' := [(50, .bool r11)]) (L' := [Val KIp (f3 3) a1, Val (Kd.sl KIp) (f3 4) r9, Val KIp (f3 5) r4.1, Val (Kd.sl KIp) (f3 6) r10, Fld KIp b2 0 r4.1, Ent.pur (InR .i64 r4.2), Val KIp v9 r4.1, Val (Kd.sl (Kd.int .u8)) v8 x2, Ent.pur (InR .i64 r2.2), Val (Kd.osl (Kd.int .u8)) v5 r2.1, Val KIp v4 a1, Val (Kd.sl (Kd.int .u8)) v2 a2, Fld KIp b1 0 a1, Pfl (Kd.eq gv0) 0 0 ()]) (by kernel_rfl) [0, 1, 2, 3, 4, 5, 6, 7, 8, 9, 10, 11, 12, 13] (by decide) (by kernel_rfl)
      refine gk h rfl rfl (nb_f c8) rfl fun _ h => ?_
      refine gs h (o_pickF rfl rfl c8) rfl fun _ _ _ h => ?_
      refine gs h (o_move rfl) rfl fun _ _ _ h => ?_
      refine gk h rfl rfl (nb_f Bool.false_ne_true) rfl fun _ h => ?_
      refine gs h (o_pickF rfl rfl Bool.false_ne_true) rfl fun _ _ _ h => ?_
      refine gs h (o_assign rfl) rfl fun _ _ _ h => ?_
      refine GoR.done ?_
      exact J3 false _ _ (som H).symm (h.wk (by rfl) [4, 12, 13] (by decide) (by rfl))
    ·have H := ifF c7 H
     refine Go.draw (E := [(2, .pointer (some ⟨b1, 0, none⟩)), (5, v5), (7, .pointer (some ⟨b2, 0, none⟩)), (8, .int .i64 r4.2)]) [] (L := [Fld KIp b2 0 r4.1, Ent.pur (InR .i64 r4.2), Val KIp v9 r4.1, Val (Kd.sl (Kd.int .u8)) v8 x2, Ent.pur (InR .i64 r2.2), Val (Kd.osl (Kd.int .u8)) v5 r2.1, Val KIp v4 a1, Val (Kd.sl (Kd.int .u8)) v2 a2, Fld KIp b1 0 a1, Pfl (Kd.eq gv0) 0 0 ()]) h rfl rfl 20 [⟨[], [], [], false, .con (.int .i64 r4.2), none, fun u => [], []⟩, ⟨[0], [], [], false, .con (.bool (decide (r4.2 = 0))), none, fun u => [], []⟩, ⟨[0, 1], [], [], false, .con (.bool (decide (r4.2 = 0))), none, fun u => [], []⟩, ⟨[2], [], [], true, .con undef, none, fun u => [], []⟩, ⟨[2], [], [], true, .con undef, none, fun u => [], []⟩, ⟨[2], [], [], true, .con undef, none, fun u => [], []⟩, ⟨[2], [], [], true, .con undef, none, fun u => [], []⟩, ⟨[2], [], [], true, .con undef, none, fun u => [], []⟩, ⟨[0, 1, 2, 3, 4, 5, 6, 7], [], [], false, .con (.bool false), none, fun u => [], []⟩, ⟨[0, 1, 2, 3, 4, 5, 6, 7, 8], [], [], false, .con (.bool false), none, fun u => [], []⟩, ⟨[9], [], [], true, .con undef, none, fun u => [], []⟩, ⟨[9], [], [], true, .con undef, none, fun u => [], []⟩, ⟨[9], [], [], true, .con undef, none, fun u => [], []⟩, ⟨[9], [], [], true, .con undef, none, fun u => [], []⟩, ⟨[9], [], [], true, .con undef, none, fun u => [], []⟩, ⟨[9], [], [], true, .con undef, none, fun u => [], []⟩, ⟨[9], [], [], true, .con undef, none, fun u => [], []⟩, ⟨[9], [], [], true, .con undef, none, fun u => [], []⟩, ⟨[9], [], [], true, .con undef, none, fun u => [], []⟩, ⟨[9], [], [], true, .con undef, none, fun u => [], []⟩] rfl t_mxo (by kernel_rfl) (by rfl) ?_ fun f3 _ _ h => ?_
     ·exact obs_cons (ob_con rfl (gok_none rfl) rfl fun f3 => (o_move rfl)) (obs_cons (ob_con rfl (gok_none rfl) rfl fun f3 => (o_bin rfl rfl rfl)) (obs_cons (ob_con rfl (gok_none rfl) rfl fun f3 => (o_move rfl)) (obs_cons (ob_skip rfl rfl rfl rfl (fun _ => rfl) (nb_f c7) rfl rfl rfl rfl) (obs_cons (ob_skip rfl rfl rfl rfl (fun _ => rfl) (nb_f c7) rfl rfl rfl rfl) (obs_cons (ob_skip rfl rfl rfl rfl (fun _ => rfl) (nb_f c7) rfl rfl rfl rfl) (obs_cons (ob_skip rfl rfl rfl rfl (fun _ => rfl) (nb_f c7) rfl rfl rfl rfl) (obs_cons (ob_skip rfl rfl rfl rfl (fun _ => rfl) (nb_f c7) rfl rfl rfl rfl) (obs_cons (ob_con rfl (gok_none rfl) rfl fun f3 => (o_pickF rfl rfl c7)) (obs_cons (ob_con rfl (gok_none rfl) rfl fun f3 => (o_move rfl)) (obs_cons (ob_skip rfl rfl rfl rfl (fun _ => rfl) (nb_f Bool.false_ne_true) rfl rfl rfl rfl) (obs_cons (ob_skip rfl rfl rfl rfl (fun _ => rfl) (nb_f Bool.false_ne_true) rfl rfl rfl rfl) (obs_cons (ob_skip rfl rfl rfl rfl (fun _ => rfl) (nb_f Bool.false_ne_true) rfl rfl rfl rfl) (obs_cons (ob_skip rfl rfl rfl rfl (fun _ => rfl) (nb_f Bool.false_ne_true) rfl rfl rfl rfl) (obs_cons (ob_skip rfl rfl rfl rfl (fun _ => rfl) (nb_f Bool.false_ne_true) rfl rfl rfl rfl) (obs_cons (ob_skip rfl rfl rfl rfl (fun _ => rfl) (nb_f Bool.false_ne_true) rfl rfl rfl rfl) (obs_cons (ob_skip rfl rfl rfl rfl (fun _ => rfl) (nb_f Bool.false_ne_true) rfl rfl rfl rfl) (obs_cons (ob_skip rfl rfl rfl rfl (fun _ => rfl) (nb_f Bool.false_ne_true) rfl rfl rfl rfl) (obs_cons (ob_skip rfl rfl rfl rfl (fun _ => rfl) (nb_f Bool.false_ne_true) rfl rfl rfl rfl) (obs_cons (ob_skip rfl rfl rfl rfl (fun _ => rfl) (nb_f Bool.false_ne_true) rfl rfl rfl rfl) (obs_nil))))))))))))))))))))
     replace h := h.wk (E' := [(50, .bool false)]) (L' := [Fld KIp b2 0 r4.1, Ent.pur (InR .i64 r4.2), Val KIp v9 r4.1, Val (Kd.sl (Kd.int .u8)) v8 x2, Ent.pur (InR .i64 r2.2), Val (Kd.osl (Kd.int .u8)) v5 r2.1, Val KIp v4 a1, Val (Kd.sl (Kd.int .u8)) v2 a2, Fld KIp b1 0 a1, Pfl (Kd.eq gv0) 0 0 ()]) (by kernel_rfl) [0, 1, 2, 3, 4, 5, 6, 7, 8, 9] (by decide) (by kernel_rfl)
     refine gk h rfl rfl (nb_f Bool.false_ne_true) rfl fun _ h => ?_
     refine gs h (o_pickF rfl rfl Bool.false_ne_true) rfl fun _ _ _ h => ?_
     refine gs h (o_move rfl) rfl fun _ _ _ h => ?_
     refine gk h rfl rfl (nb_f Bool.false_ne_true) rfl fun _ h => ?_
     refine gs h (o_pickF rfl rfl Bool.false_ne_true) rfl fun _ _ _ h => ?_
     refine gs h (o_assign rfl) rfl fun _ _ _ h => ?_
     refine GoR.done ?_
     exact J3 false _ _ (som H).symm (h.wk (by rfl) [0, 8, 9] (by decide) (by rfl))
 refine Go.reg ?_
 refine gs h (o_fa rfl t_f25_9 rfl rfl) rfl fun _ _ _ h => ?_
 refine gs h (o_lfv 0 rfl rfl sIp_Data rfl Per_sl t_y23) rfl fun v3 _ _ h => ?_
 have g1 := (len_at 0 rfl h.mem)
 refine gs h (o_ln rfl (rd_at 0 rfl) t_v23) rfl fun _ _ _ h => ?_
 refine gs h (o_bin rfl rfl rfl) rfl fun _ _ _ h => ?_
 refine gs h (o_move rfl) rfl fun _ _ _ h => ?_
 by_cases c1 : decide (20000 < (a1.Data.length : Int)) = true
 ·have H := ifT c1 H
  iterate 3 (refine gk h rfl rfl (nb_t c1) rfl fun _ h => ?_)
  refine gs h (o_pickT rfl rfl c1) rfl fun _ _ _ h => ?_
  refine GoR.done ?_
  exact J1 true _ _ (som H).symm (h.wk (by rfl) [3, 1, 4] (by decide) (by rfl))
 ·have H := ifF c1 H
  refine gg h rfl rfl (nbF c1) (o_move rfl) rfl fun _ _ _ h => ?_
  have g2 := (len_at 3 rfl h.mem)
  refine gg h rfl rfl (nbF c1) (o_ln rfl (rd_at 3 rfl) t_v23) rfl fun _ _ _ h => ?_
  refine gg h rfl rfl (nbF c1) (o_bin rfl rfl rfl) rfl fun _ _ _ h => ?_
  refine gs h (o_pickF rfl rfl c1) rfl fun _ _ _ h => ?_
  refine GoR.done ?_
  exact J1 (decide (1000 < (a2.length : Int))) _ _ (som H).symm (h.wk (by rfl) [3, 1, 4] (by decide) (by rfl))
def law17_IpBack.g (k_ : Nat) (a1 : TIp) (a2 : List Int) : Option (Bool) :=
  ((if decide (20000 < (a1.Data.length : Int)) = true then some (true) else some (decide (1000 < (a2.length : Int))))).bind (fun j1 => (if j1 = true then (law17_heads.g k_).bind fun r1 => some (r1) else (ip_Put.g k_ a1).bind fun r2 => (if (!decide (r2.2 = 0)) = true then ((if decide ((r2.1.length : Int) = 0) = true then (law17_heads.g k_).bind fun r3 => some (r3) else some (false))).bind (fun j2 => some (j2)) else (app ([] : List Int) r2.1).bind fun x1 => (app x1 a2).bind fun x2 => (ip_Get.g k_ x2).bind fun r4 => ((if decide (r4.2 = 0) = true then (law17_one.g k_ a1).bind fun r9 => (law17_one.g k_ r4.1).bind fun r10 => (ref17_Same.g k_ r9 r10).bind fun r11 => (if r11 = true then (if decide ((r2.1.length : Int) = (IntKind.i64.wrap ((IntKind.i64.wrap (20 + (a1.Options.length : Int))) + (a1.Data.length : Int)))) = true then (law17_heads.g k_).bind fun r12 => some (r12) else some (false)) else some (false)) else some (false))).bind (fun j3 => some (j3)))))
theorem law17_IpBack.le (k_ : Nat) (a1 : TIp) (a2 : List Int) : Le (law17_IpBack.g k_ a1 a2) (law17_IpBack.f a1 a2) := by
 unfold law17_IpBack.g law17_IpBack.f
 repeat' (first | with_reducible refine le_loop fun _ => ?_ | with_reducible refine le_bind ?_ fun _ => ?_ | with_reducible refine le_ite ?_ ?_ | with_reducible refine le_lt fun _ => ?_ | with_reducible refine le_elim (fun _ => ?_) (fun _ => ?_) _ | with_reducible apply ip_Get.le | with_reducible apply ip_Put.le | with_reducible apply law17_heads.le | with_reducible apply law17_one.le | with_reducible apply ref17_Same.le | with_reducible exact le_refl _)
/-! drawbridge/drawbridgeref17.within -/
noncomputable def ref17_within.f (a1 : Int) (a2 : Int) : Option (Bool) :=
  ((if decide (0 ≤ a1) = true then lt (decide (a1 ≤ a2)) fun y1 => some (y1) else some (false))).bind (fun j1 => some (j1))
set_option maxRecDepth 100000 in
set_option maxHeartbeats 4000000 in
theorem ref17_within.spc (a1 : Int) (ha1 : InR .i64 a1) (a2 : Int) (ha2 : InR .i64 a2) (r : Bool) (H : ref17_within.f a1 a2 = some r) : Spc Tryd.prog 39 [.int .i64 a1, .int .i64 a2] [] [] (fun (s : Unit) => .bool r) (fun s => []) := by
 unfold ref17_within.f at H
 refine Spc.go Tryd.func39 rfl (by kernel_rfl) rfl rfl all_nil fun F a w h => ?_
 refine Go.seq ?_
 refine Go.reg ?_
 refine gs h (o_assign rfl) rfl fun _ _ _ h => ?_
 refine GoR.done ?_
 refine Go.seq ?_
 obtain ⟨o1, H, G1⟩ := bindE H
 refine g_cut (fun G => ∀ j1 (a : Act) (w : World), o1 = j1 → St Tryd.f39.ntmps F [(4, .bool j1)] [] a w → G a w) 1 ?_ fun J1 => ?_
 ·intro j1 a w ho_ h
  rw [ho_] at G1
  have H := G1
  rw [← som H]
  exact g_ret (vs := [.bool j1]) h Tryd.func39 ⟨rfl, trivial⟩ ⟨(), rfl, (h.mem.pick [] (by decide) rfl)⟩
 refine Go.reg ?_
 refine gs h (o_move rfl) rfl fun _ _ _ h => ?_
 refine gs h (o_bin rfl rfl rfl) rfl fun _ _ _ h => ?_
 refine gs h (o_move rfl) rfl fun _ _ _ h => ?_
 by_cases c1 : decide (0 ≤ a1) = true
 ·have H := ifT c1 H
  refine gg h rfl rfl c1 (o_move rfl) rfl fun _ _ _ h => ?_
  refine gg h rfl rfl c1 (o_move rfl) rfl fun _ _ _ h => ?_
  refine gg h rfl rfl c1 (o_bin rfl rfl rfl) rfl fun _ _ _ h => ?_
  refine gs h (o_pickT rfl rfl c1) rfl fun _ _ _ h => ?_
  obtain ⟨y1, ey1, H⟩ := ltE H
  refine gs h (o_assign' rfl (congrArg Value.bool ey1)) rfl fun _ _ _ h => ?_
  refine GoR.done ?_
  exact J1 y1 _ _ (som H).symm (h.wk (by rfl) [] (by decide) (by rfl))
 ·have H := ifF c1 H
  iterate 3 (refine gk h rfl rfl (nb_f c1) rfl fun _ h => ?_)
  refine gs h (o_pickF rfl rfl c1) rfl fun _ _ _ h => ?_
  refine gs h (o_assign rfl) rfl fun _ _ _ h => ?_
  refine GoR.done ?_
  exact J1 false _ _ (som H).symm (h.wk (by rfl) [] (by decide) (by rfl))
def ref17_within.g (k_ : Nat) (a1 : Int) (a2 : Int) : Option (Bool) :=
  ((if decide (0 ≤ a1) = true then lt (decide (a1 ≤ a2)) fun y1 => some (y1) else some (false))).bind (fun j1 => some (j1))
theorem ref17_within.le (k_ : Nat) (a1 : Int) (a2 : Int) : Le (ref17_within.g k_ a1 a2) (ref17_within.f a1 a2) := by
 unfold ref17_within.g ref17_within.f
 repeat' (first | with_reducible refine le_loop fun _ => ?_ | with_reducible refine le_bind ?_ fun _ => ?_ | with_reducible refine le_ite ?_ ?_ | with_reducible refine le_lt fun _ => ?_ | with_reducible refine le_elim (fun _ => ?_) (fun _ => ?_) _ | with_reducible exact le_refl _)
/-! drawbridge/drawbridgeref17.right -/
noncomputable def ref17_right.f (a1 : TIp) : Option (Bool) :=
  ((ref17_within.f a1.Tos 255).bind fun r1 => (if r1 = true then (ref17_within.f a1.Ttl 255).bind fun r2 => (if r2 = true then (ref17_within.f a1.Proto 255).bind fun r3 => (if r3 = true then (ref17_within.f a1.Id 65535).bind fun r4 => (if r4 = true then (ref17_within.f a1.Flags 7).bind fun r5 => (if r5 = true then (ref17_within.f a1.Off 8191).bind fun r6 => some (r6) else some (false)) else some (false)) else some (false)) else some (false)) else some (false))).bind (fun j1 => ((if j1 = true then (if decide ((a1.Options.length : Int) ≤ 40) = true then (if decide ((Int.tmod (a1.Options.length : Int) 4) = 0) = true then lt (decide ((a1.Data.length : Int) ≤ (IntKind.i64.wrap (65515 - (a1.Options.length : Int))))) fun y1 => some (y1) else some (false)) else some (false)) else some (false))).bind (fun j2 => some (j2)))
set_option maxRecDepth 100000 in
set_option maxHeartbeats 4000000 in
theorem ref17_right.spc (v1 : Value) (a1 : TIp) (r : Bool) (H : ref17_right.f a1 = some r) : Spc Tryd.prog 23 [v1] [Val KIp v1 a1] [] (fun (s : Unit) => .bool r) (fun s => []) := by
 unfold ref17_right.f at H
 refine Spc.go Tryd.func23 rfl (by kernel_rfl) rfl rfl (all_cons (Val.per PIp) all_nil) fun F a w h => ?_
 refine Go.seq ?_
 refine Go.reg ?_
 refine gs h (o_box (K := KIp) rfl (pv_at PIp 0 rfl)) rfl fun b1 _ _ h => ?_
 refine gs h (o_assign rfl) rfl fun _ _ _ h => ?_
 refine GoR.done ?_
 refine Go.seq ?_
 obtain ⟨o1, H, G1⟩ := bindE H
 refine g_cut (fun G => ∀ j1 (a : Act) (w : World), o1 = j1 → St Tryd.f23.ntmps F [(1, .pointer (some ⟨b1, 0, none⟩)), (3, .bool j1)] [Fld KIp b1 0 a1] a w → G a w) 1 ?_ fun J1 => ?_
 ·intro j1 a w ho_ h
  rw [ho_] at G1
  have H := G1
  refine Go.seq ?_
  obtain ⟨o2, H, G2⟩ := bindE H
  refine g_cut (fun G => ∀ j2 (a : Act) (w : World), o2 = j2 → St Tryd.f23.ntmps F [(2, .bool j2)] [Fld KIp b1 0 a1] a w → G a w) 1 ?_ fun J2 => ?_
  ·intro j2 a w ho_ h
   rw [ho_] at G2
   have H := G2
   rw [← som H]
   exact g_ret (vs := [.bool j2]) h Tryd.func23 ⟨rfl, trivial⟩ ⟨(), rfl, (h.mem.pick [] (by decide) rfl)⟩
  refine Go.reg ?_
  refine gs h (o_move rfl) rfl fun _ _ _ h => ?_
  refine gs h (o_move rfl) rfl fun _ _ _ h => ?_
  by_cases c6 : j1 = true
  ·have H := ifT c6 H
   refine gg h rfl rfl c6 (o_fa rfl t_f25_8 rfl rfl) rfl fun _ _ _ h => ?_
   refine gg h rfl rfl c6 (o_lfv 0 rfl rfl sIp_Options rfl Per_sl t_y23) rfl fun v2 _ _ h => ?_
   have g7 := (len_at 0 rfl h.mem)
   refine gg h rfl rfl c6 (o_ln rfl (rd_at 0 rfl) t_v23) rfl fun _ _ _ h => ?_
   refine gg h rfl rfl c6 (o_bin rfl rfl rfl) rfl fun _ _ _ h => ?_
   refine gs h (o_pickT rfl rfl c6) rfl fun _ _ _ h => ?_
   refine gs h (o_move rfl) rfl fun _ _ _ h => ?_
   by_cases c7 : decide ((a1.Options.length : Int) ≤ 40) = true
   ·have H := ifT c7 H
    refine gg h rfl rfl c7 (o_fa rfl t_f25_8 rfl rfl) rfl fun _ _ _ h => ?_
    refine gg h rfl rfl c7 (o_lfv 1 rfl rfl sIp_Options rfl Per_sl t_y23) rfl fun v3 _ _ h => ?_
    have g8 := (len_at 0 rfl h.mem)
    refine gg h rfl rfl c7 (o_ln rfl (rd_at 0 rfl) t_v23) rfl fun _ _ _ h => ?_
    refine gg h rfl rfl c7 (o_rem rfl rfl (show (4 : Int) ≠ 0 by decide)) rfl fun _ _ _ h => ?_
    refine gg h rfl rfl c7 (o_bin rfl rfl rfl) rfl fun _ _ _ h => ?_
    refine gs h (o_pickT rfl rfl c7) rfl fun _ _ _ h => ?_
    refine gs h (o_move rfl) rfl fun _ _ _ h => ?_
    by_cases c8 : decide ((Int.tmod (a1.Options.length : Int) 4) = 0) = true
    ·have H := ifT c8 H
     refine gg h rfl rfl c8 (o_fa rfl t_f25_9 rfl rfl) rfl fun _ _ _ h => ?_
     refine gg h rfl rfl c8 (o_lfv 2 rfl rfl sIp_Data rfl Per_sl t_y23) rfl fun v4 _ _ h => ?_
     have g9 := (len_at 0 rfl h.mem)
     refine gg h rfl rfl c8 (o_ln rfl (rd_at 0 rfl) t_v23) rfl fun _ _ _ h => ?_
     refine gg h rfl rfl c8 (o_fa rfl t_f25_8 rfl rfl) rfl fun _ _ _ h => ?_
     refine gg h rfl rfl c8 (o_lfv 3 rfl rfl sIp_Options rfl Per_sl t_y23) rfl fun v5 _ _ h => ?_
     have g10 := (len_at 0 rfl h.mem)
     refine gg h rfl rfl c8 (o_ln rfl (rd_at 0 rfl) t_v23) rfl fun _ _ _ h => ?_
     refine gg h rfl rfl c8 (o_bin rfl rfl rfl) rfl fun _ _ _ h => ?_
     refine gg h rfl rfl c8 (o_bin rfl rfl rfl) rfl fun _ _ _ h => ?_
     refine gs h (o_pickT rfl rfl c8) rfl fun _ _ _ h => ?_
     obtain ⟨y1, ey1, H⟩ := ltE H
     refine gs h (o_assign' rfl (congrArg Value.bool ey1)) rfl fun _ _ _ h => ?_
     refine GoR.done ?_
     exact J2 y1 _ _ (som H).symm (h.wk (by rfl) [4] (by decide) (by rfl))
    ·have H := ifF c8 H
     iterate 8 (refine gk h rfl rfl (nb_f c8) rfl fun _ h => ?_)
     refine gs h (o_pickF rfl rfl c8) rfl fun _ _ _ h => ?_
     refine gs h (o_assign rfl) rfl fun _ _ _ h => ?_
     refine GoR.done ?_
     exact J2 false _ _ (som H).symm (h.wk (by rfl) [2] (by decide) (by rfl))
   ·have H := ifF c7 H
    iterate 5 (refine gk h rfl rfl (nb_f c7) rfl fun _ h => ?_)
    refine gs h (o_pickF rfl rfl c7) rfl fun _ _ _ h => ?_
    refine gs h (o_move rfl) rfl fun _ _ _ h => ?_
    iterate 8 (refine gk h rfl rfl (nb_f Bool.false_ne_true) rfl fun _ h => ?_)
    refine gs h (o_pickF rfl rfl Bool.false_ne_true) rfl fun _ _ _ h => ?_
    refine gs h (o_assign rfl) rfl fun _ _ _ h => ?_
    refine GoR.done ?_
    exact J2 false _ _ (som H).symm (h.wk (by rfl) [1] (by decide) (by rfl))
  ·have H := ifF c6 H
   iterate 4 (refine gk h rfl rfl (nb_f c6) rfl fun _ h => ?_)
   refine gs h (o_pickF rfl rfl c6) rfl fun _ _ _ h => ?_
   refine gs h (o_move rfl) rfl fun _ _ _ h => ?_
   iterate 5 (refine gk h rfl rfl (nb_f Bool.false_ne_true) rfl fun _ h => ?_)
   refine gs h (o_pickF rfl rfl Bool.false_ne_true) rfl fun _ _ _ h => ?_
   refine gs h (o_move rfl) rfl fun _ _ _ h => ?_
   iterate 8 (refine gk h rfl rfl (nb_f Bool.false_ne_true) rfl fun _ h => ?_)
   refine gs h (o_pickF rfl rfl Bool.false_ne_true) rfl fun _ _ _ h => ?_
   refine gs h (o_assign rfl) rfl fun _ _ _ h => ?_
   refine GoR.done ?_
   exact J2 false _ _ (som H).symm (h.wk (by rfl) [0] (by decide) (by rfl))
 refine Go.reg ?_
 refine gs h (o_fa rfl t_f25_0 rfl rfl) rfl fun _ _ _ h => ?_
 have g1 := (in2 (fd_sub sIp_Tos 0 rfl h.mem))
 refine gs h (o_lfx 0 rfl rfl sIp_Tos rfl X_int t_y3) rfl fun _ _ _ h => ?_
 obtain ⟨r1, er1, H⟩ := bindE H
 refine gs h (o_call (ref17_within.spc a1.Tos g1 255 (show InR .i64 255 by decide) r1 er1) rfl [] [] (by decide) rfl rfl) rfl fun _ _ _ h => ?_
 refine gs h (o_move rfl) rfl fun _ _ _ h => ?_
 by_cases c1 : r1 = true
 ·have H := ifT c1 H
  refine gg h rfl rfl c1 (o_fa rfl t_f25_4 rfl rfl) rfl fun _ _ _ h => ?_
  have g2 := (in2 (fd_sub sIp_Ttl 0 rfl h.mem))
  refine gg h rfl rfl c1 (o_lfx 0 rfl rfl sIp_Ttl rfl X_int t_y3) rfl fun _ _ _ h => ?_
  obtain ⟨r2, er2, H⟩ := bindE H
  refine gg h rfl rfl c1 (o_call (ref17_within.spc a1.Ttl g2 255 (show InR .i64 255 by decide) r2 er2) rfl [] [] (by decide) rfl rfl) rfl fun _ _ _ h => ?_
  refine gs h (o_pickT rfl rfl c1) rfl fun _ _ _ h => ?_
  refine gs h (o_move rfl) rfl fun _ _ _ h => ?_
  by_cases c2 : r2 = true
  ·have H := ifT c2 H
   refine gg h rfl rfl c2 (o_fa rfl t_f25_5 rfl rfl) rfl fun _ _ _ h => ?_
   have g3 := (in2 (fd_sub sIp_Proto 0 rfl h.mem))
   refine gg h rfl rfl c2 (o_lfx 0 rfl rfl sIp_Proto rfl X_int t_y3) rfl fun _ _ _ h => ?_
   obtain ⟨r3, er3, H⟩ := bindE H
   refine gg h rfl rfl c2 (o_call (ref17_within.spc a1.Proto g3 255 (show InR .i64 255 by decide) r3 er3) rfl [] [] (by decide) rfl rfl) rfl fun _ _ _ h => ?_
   refine gs h (o_pickT rfl rfl c2) rfl fun _ _ _ h => ?_
   refine gs h (o_move rfl) rfl fun _ _ _ h => ?_
   by_cases c3 : r3 = true
   ·have H := ifT c3 H
    refine gg h rfl rfl c3 (o_fa rfl t_f25_1 rfl rfl) rfl fun _ _ _ h => ?_
    have g4 := (in2 (fd_sub sIp_Id 0 rfl h.mem))
    refine gg h rfl rfl c3 (o_lfx 0 rfl rfl sIp_Id rfl X_int t_y3) rfl fun _ _ _ h => ?_
    obtain ⟨r4, er4, H⟩ := bindE H
    refine gg h rfl rfl c3 (o_call (ref17_within.spc a1.Id g4 65535 (show InR .i64 65535 by decide) r4 er4) rfl [] [] (by decide) rfl rfl) rfl fun _ _ _ h => ?_
    refine gs h (o_pickT rfl rfl c3) rfl fun _ _ _ h => ?_
    refine gs h (o_move rfl) rfl fun _ _ _ h => ?_
    by_cases c4 : r4 = true
    ·have H := ifT c4 H
     refine gg h rfl rfl c4 (o_fa rfl t_f25_2 rfl rfl) rfl fun _ _ _ h => ?_
     have g5 := (in2 (fd_sub sIp_Flags 0 rfl h.mem))
     refine gg h rfl rfl c4 (o_lfx 0 rfl rfl sIp_Flags rfl X_int t_y3) rfl fun _ _ _ h => ?_
     obtain ⟨r5, er5, H⟩ := bindE H
     refine gg h rfl rfl c4 (o_call (ref17_within.spc a1.Flags g5 7 (show InR .i64 7 by decide) r5 er5) rfl [] [] (by decide) rfl rfl) rfl fun _ _ _ h => ?_
     refine gs h (o_pickT rfl rfl c4) rfl fun _ _ _ h => ?_
     refine gs h (o_move rfl) rfl fun _ _ _ h => ?_
     by_cases c5 : r5 = true
     ·have H := ifT c5 H
      refine gg h rfl rfl c5 (o_fa rfl t_f25_3 rfl rfl) rfl fun _ _ _ h => ?_
      have g6 := (in2 (fd_sub sIp_Off 0 rfl h.mem))
      refine gg h rfl rfl c5 (o_lfx 0 rfl rfl sIp_Off rfl X_int t_y3) rfl fun _ _ _ h => ?_
      obtain ⟨r6, er6, H⟩ := bindE H
      refine gg h rfl rfl c5 (o_call (ref17_within.spc a1.Off g6 8191 (show InR .i64 8191 by decide) r6 er6) rfl [] [] (by decide) rfl rfl) rfl fun _ _ _ h => ?_
      refine gs h (o_pickT rfl rfl c5) rfl fun _ _ _ h => ?_
      refine gs h (o_assign rfl) rfl fun _ _ _ h => ?_
      refine GoR.done ?_
      exact J1 r6 _ _ (som H).symm (h.wk (by rfl) [0] (by decide) (by rfl))
     ·have H := ifF c5 H
      iterate 3 (refine gk h rfl rfl (nb_f c5) rfl fun _ h => ?_)
      refine gs h (o_pickF rfl rfl c5) rfl fun _ _ _ h => ?_
      refine gs h (o_assign rfl) rfl fun _ _ _ h => ?_
      refine GoR.done ?_
      exact J1 false _ _ (som H).symm (h.wk (by rfl) [0] (by decide) (by rfl))
    ·have H := ifF c4 H
     iterate 3 (refine gk h rfl rfl (nb_f c4) rfl fun _ h => ?_)
     refine gs h (o_pickF rfl rfl c4) rfl fun _ _ _ h => ?_
     refine gs h (o_move rfl) rfl fun _ _ _ h => ?_
     iterate 3 (refine gk h rfl rfl (nb_f Bool.false_ne_true) rfl fun _ h => ?_)
     refine gs h (o_pickF rfl rfl Bool.false_ne_true) rfl fun _ _ _ h => ?_
     refine gs h (o_assign rfl) rfl fun _ _ _ h => ?_
     refine GoR.done ?_
     exact J1 false _ _ (som H).symm (h.wk (by rfl) [0] (by decide) (by rfl))
   ·have H := ifF c3 H
    iterate 3 (refine gk h rfl rfl (nb_f c3) rfl fun _ h => ?_)
    refine gs h (o_pickF rfl rfl c3) rfl fun _ _ _ h => ?_
    refine gs h (o_move rfl) rfl fun _ _ _ h => ?_
    iterate 3 (refine gk h rfl rfl (nb_f Bool.false_ne_true) rfl fun _ h => ?_)
    refine gs h (o_pickF rfl rfl Bool.false_ne_true) rfl fun _ _ _ h => ?_
    refine gs h (o_move rfl) rfl fun _ _ _ h => ?_
    iterate 3 (refine gk h rfl rfl (nb_f Bool.false_ne_true) rfl fun _ h => ?_)
    refine gs h (o_pickF rfl rfl Bool.false_ne_true) rfl fun _ _ _ h => ?_
    refine gs h (o_assign rfl) rfl fun _ _ _ h => ?_
    refine GoR.done ?_
    exact J1 false _ _ (som H).symm (h.wk (by rfl) [0] (by decide) (by rfl))
  ·have H := ifF c2 H
   iterate 3 (refine gk h rfl rfl (nb_f c2) rfl fun _ h => ?_)
   refine gs h (o_pickF rfl rfl c2) rfl fun _ _ _ h => ?_
   refine gs h (o_move rfl) rfl fun _ _ _ h => ?_
   iterate 3 (refine gk h rfl rfl (nb_f Bool.false_ne_true) rfl fun _ h => ?_)
   refine gs h (o_pickF rfl rfl Bool.false_ne_true) rfl fun _ _ _ h => ?_
   refine gs h (o_move rfl) rfl fun _ _ _ h => ?_
   iterate 3 (refine gk h rfl rfl (nb_f Bool.false_ne_true) rfl fun _ h => ?_)
   refine gs h (o_pickF rfl rfl Bool.false_ne_true) rfl fun _ _ _ h => ?_
   refine gs h (o_move rfl) rfl fun _ _ _ h => ?_
   iterate 3 (refine gk h rfl rfl (nb_f Bool.false_ne_true) rfl fun _ h => ?_)
   refine gs h (o_pickF rfl rfl Bool.false_ne_true) rfl fun _ _ _ h => ?_
   refine gs h (o_assign rfl) rfl fun _ _ _ h => ?_
   refine GoR.done ?_
   exact J1 false _ _ (som H).symm (h.wk (by rfl) [0] (by decide) (by rfl))
 ·have H := ifF c1 H
  iterate 3 (refine gk h rfl rfl (nb_f c1) rfl fun _ h => ?_)
  refine gs h (o_pickF rfl rfl c1) rfl fun _ _ _ h => ?_
  refine gs h (o_move rfl) rfl fun _ _ _ h => ?_
  iterate 3 (refine gk h rfl rfl (nb_f Bool.false_ne_true) rfl fun _ h => ?_)
  refine gs h (o_pickF rfl rfl Bool.false_ne_true) rfl fun _ _ _ h => ?_
  refine gs h (o_move rfl) rfl fun _ _ _ h => ?_
  iterate 3 (refine gk h rfl rfl (nb_f Bool.false_ne_true) rfl fun _ h => ?_)
  refine gs h (o_pickF rfl rfl Bool.false_ne_true) rfl fun _ _ _ h => ?_
  refine gs h (o_move rfl) rfl fun _ _ _ h => ?_
  iterate 3 (refine gk h rfl rfl (nb_f Bool.false_ne_true) rfl fun _ h => ?_)
  refine gs h (o_pickF rfl rfl Bool.false_ne_true) rfl fun _ _ _ h => ?_
  refine gs h (o_move rfl) rfl fun _ _ _ h => ?_
  iterate 3 (refine gk h rfl rfl (nb_f Bool.false_ne_true) rfl fun _ h => ?_)
  refine gs h (o_pickF rfl rfl Bool.false_ne_true) rfl fun _ _ _ h => ?_
  refine gs h (o_assign rfl) rfl fun _ _ _ h => ?_
  refine GoR.done ?_
  exact J1 false _ _ (som H).symm (h.wk (by rfl) [0] (by decide) (by rfl))
def ref17_right.g (k_ : Nat) (a1 : TIp) : Option (Bool) :=
  ((ref17_within.g k_ a1.Tos 255).bind fun r1 => (if r1 = true then (ref17_within.g k_ a1.Ttl 255).bind fun r2 => (if r2 = true then (ref17_within.g k_ a1.Proto 255).bind fun r3 => (if r3 = true then (ref17_within.g k_ a1.Id 65535).bind fun r4 => (if r4 = true then (ref17_within.g k_ a1.Flags 7).bind fun r5 => (if r5 = true then (ref17_within.g k_ a1.Off 8191).bind fun r6 => some (r6) else some (false)) else some (false)) else some (false)) else some (false)) else some (false))).bind (fun j1 => ((if j1 = true then (if decide ((a1.Options.length : Int) ≤ 40) = true then (if decide ((Int.tmod (a1.Options.length : Int) 4) = 0) = true then lt (decide ((a1.Data.length : Int) ≤ (IntKind.i64.wrap (65515 - (a1.Options.length : Int))))) fun y1 => some (y1) else some (false)) else some (false)) else some (false))).bind (fun j2 => some (j2)))
theorem ref17_right.le (k_ : Nat) (a1 : TIp) : Le (ref17_right.g k_ a1) (ref17_right.f a1) := by
 unfold ref17_right.g ref17_right.f
 repeat' (first | with_reducible refine le_loop fun _ => ?_ | with_reducible refine le_bind ?_ fun _ => ?_ | with_reducible refine le_ite ?_ ?_ | with_reducible refine le_lt fun _ => ?_ | with_reducible refine le_elim (fun _ => ?_) (fun _ => ?_) _ | with_reducible apply ref17_within.le | with_reducible exact le_refl _)
/-! drawbridge/drawbridgeref01.Put -/
noncomputable def ref01_Put.f (a1 : Int) (a2 : Int) (a3 : Bool) : Option ((List Int)) :=
  (loop (fun s1 => ((if decide (s1.2 < a2) = true then some (decide (s1.2 < 8)) else some (false))).bind (fun j1 => (if j1 = true then ((if 0 ≤ (IntKind.u64.wrap (IntKind.i64.wrap (8 * s1.2))) then (lt (IntKind.u8.wrap (ishr .u64 a1 (IntKind.u64.wrap (IntKind.i64.wrap (8 * s1.2))))) fun y1 => (if a3 = true then (app ([y1] : List Int) s1.1).bind fun x1 => some (x1) else (app s1.1 ([y1] : List Int)).bind fun x2 => some (x2))) else none).bind (fun j2 => some (j2))).bind (fun j3 => lt (IntKind.i64.wrap (s1.2 + 1)) fun y2 => some (.inl (j3, y2))) else some (.inr (s1.1))))) (([] : List Int), 0)).bind (fun j4 => some (j4))
set_option maxRecDepth 100000 in
set_option maxHeartbeats 4000000 in
theorem ref01_Put.spc (a1 : Int) (ha1 : InR .u64 a1) (a2 : Int) (ha2 : InR .i64 a2) (a3 : Bool) (r : (List Int)) (H : ref01_Put.f a1 a2 a3 = some r) : Spc Tryd.prog 25 [.int .u64 a1, .int .i64 a2, .bool a3] [] [] (fun (s : Value) => s) (fun s => [Val (Kd.osl (Kd.int .u8)) s r]) := by
 unfold ref01_Put.f at H
 refine Spc.go Tryd.func25 rfl (by kernel_rfl) rfl rfl all_nil fun F a w h => ?_
 refine Go.seq ?_
 refine Go.reg ?_
 refine gs h (o_assign rfl) rfl fun _ _ _ h => ?_
 refine GoR.done ?_
 refine Go.seq ?_
 refine Go.reg ?_
 refine gs h (o_assign rfl) rfl fun _ _ _ h => ?_
 refine GoR.done ?_
 refine Go.seq ?_
 refine Go.seq ?_
 refine Go.reg ?_
 refine gs h (o_assign rfl) rfl fun _ _ _ h => ?_
 refine GoR.done ?_
 refine Go.block ?_
 obtain ⟨o1, hl, G1⟩ := bindE H
 refine g_cut (fun G => ∀ j4 (v8 : Value) (a : Act) (w : World), o1 = j4 → St Tryd.f25.ntmps F [(7, v8)] [Val (Kd.osl (Kd.int .u8)) v8 j4] a w → G a w) 2 ?_ fun J4 => ?_
 ·intro j4 v8 a w ho_ h
  rw [ho_] at G1
  have H := G1
  refine Go.seq ?_
  refine Go.reg ?_
  refine gs h (o_move rfl) rfl fun _ _ _ h => ?_
  refine gs h (o_assign rfl) rfl fun _ _ _ h => ?_
  refine GoR.done ?_
  rw [← som H]
  exact g_ret (vs := [v8]) h Tryd.func25 ⟨rfl, trivial⟩ ⟨v8, rfl, (h.mem.pick [0] (by decide) rfl)⟩
 refine g_loop (fun s1 G => ∀ (v1 : Value) (a : Act) (w : World), InR .i64 s1.2 → St Tryd.f25.ntmps F [(0, .int .u64 a1), (1, .int .i64 a2), (2, .bool a3), (7, v1), (8, .int .i64 s1.2)] [Val (Kd.osl (Kd.int .u8)) v1 s1.1] a w → G a w) hl (fun s1 p1 H i1 => ?_) fun I_ => ?_
 ·intro v1 a w g1 h
  refine Go.seq ?_
  refine Go.seq ?_
  obtain ⟨o2, H, G2⟩ := bindE H
  refine g_cut (fun G => ∀ j1 (a : Act) (w : World), o2 = j1 → St Tryd.f25.ntmps F [(0, .int .u64 a1), (1, .int .i64 a2), (2, .bool a3), (7, v1), (8, .int .i64 s1.2), (16, .bool j1)] [Val (Kd.osl (Kd.int .u8)) v1 s1.1] a w → G a w) 1 ?_ fun J1 => ?_
  ·intro j1 a w ho_ h
   rw [ho_] at G2
   have H := G2
   by_cases c2 : j1 = true
   ·have H := ifT c2 H
    refine g_t h rfl c2 ?_
    refine Go.skip ?_
    refine Go.seq ?_
    obtain ⟨o3, H, G3⟩ := bindE H
    refine g_cut (fun G => ∀ j3 (v7 : Value) (a : Act) (w : World), o3 = j3 → St Tryd.f25.ntmps F [(0, .int .u64 a1), (1, .int .i64 a2), (2, .bool a3), (7, v7), (8, .int .i64 s1.2)] [Val (Kd.osl (Kd.int .u8)) v7 j3] a w → G a w) 1 ?_ fun J3 => ?_
    ·intro j3 v7 a w ho_ h
     rw [ho_] at G3
     have H := G3
     refine Go.reg ?_
     refine gs h (o_move rfl) rfl fun _ _ _ h => ?_
     refine gs h (o_bin rfl rfl rfl) rfl fun _ _ _ h => ?_
     obtain ⟨y2, ey2, H⟩ := ltE H
     refine gs h (o_assign' rfl (congrArg (fun z => Value.int .i64 z) ey2)) rfl fun _ _ _ h => ?_
     refine GoR.done ?_
     have e_ := som H; subst e_
     exact Go.inLoop (nx_in i1 v7 _ _ (ey2 ▸ (wrap_in _ _)) (h.wk (by rfl) [0] (by decide) (by rfl)))
    refine Go.block ?_
    obtain ⟨o4, H, G4⟩ := bindE H
    refine g_cut (fun G => ∀ j2 (v6 : Value) (a : Act) (w : World), o4 = j2 → St Tryd.f25.ntmps F [(0, .int .u64 a1), (1, .int .i64 a2), (2, .bool a3), (7, v6), (8, .int .i64 s1.2)] [Val (Kd.osl (Kd.int .u8)) v6 j2] a w → G a w) 2 ?_ fun J2 => ?_
    ·intro j2 v6 a w ho_ h
     rw [ho_] at G4
     have H := G4
     exact J3 j2 v6 _ _ (som H).symm (h.wk (by rfl) [0] (by decide) (by rfl))
    refine Go.seq ?_
    refine Go.reg ?_
    refine gs h (o_move rfl) rfl fun _ _ _ h => ?_
    refine gs h (o_move rfl) rfl fun _ _ _ h => ?_
    refine gs h (o_bin rfl rfl rfl) rfl fun _ _ _ h => ?_
    refine gs h (o_conv rfl t_q3 t_u52) rfl fun _ _ _ h => ?_
    obtain ⟨q1, H⟩ := ifS H
    refine gs h (o_shr rfl rfl q1) rfl fun _ _ _ h => ?_
    refine gs h (o_conv rfl t_q49 t_u5) rfl fun _ _ _ h => ?_
    obtain ⟨y1, ey1, H⟩ := ltE H
    refine gs h (o_assign' rfl (congrArg (fun z => Value.int .u8 z) ey1)) rfl fun _ _ _ h => ?_
    refine GoR.done ?_
    refine Go.seq ?_
    refine Go.reg ?_
    refine gs h (o_move rfl) rfl fun _ _ _ h => ?_
    refine GoR.done ?_
    by_cases c3 : a3 = true
    ·have H := ifT c3 H
     refine g_t h rfl c3 ?_
     refine Go.reg ?_
     refine gs h (o_move rfl) rfl fun _ _ _ h => ?_
     refine gs h (o_bs (K := (Kd.int .u8)) (vs := [.int .u8 y1]) (xs := ([y1] : List Int)) rfl rfl (pvs_cons (pv_int (ey1 ▸ (wrap_in _ _))) pvs_nil) t_a23 (by decide) (by decide)) rfl fun v2 _ _ h => ?_
     refine gs h (o_move rfl) rfl fun _ _ _ h => ?_
     obtain ⟨x1, ex1, H⟩ := bindE H
     refine gs h (o_app (K := (Kd.int .u8)) 0 rfl rfl rfl (rd_own 1 rfl) ex1 t_a23 t_n23) rfl fun v3 _ _ h => ?_
     refine gs h (o_assign rfl) rfl fun _ _ _ h => ?_
     refine GoR.done ?_
     refine Go.inBlock ?_
     exact J2 x1 v3 _ _ (som H).symm (h.wk (by rfl) [0] (by decide) (by rfl))
    ·have H := ifF c3 H
     refine g_f h rfl c3 ?_
     refine Go.reg ?_
     refine gs h (o_move rfl) rfl fun _ _ _ h => ?_
     refine gs h (o_move rfl) rfl fun _ _ _ h => ?_
     refine gs h (o_bs (K := (Kd.int .u8)) (vs := [.int .u8 y1]) (xs := ([y1] : List Int)) rfl rfl (pvs_cons (pv_int (ey1 ▸ (wrap_in _ _))) pvs_nil) t_a23 (by decide) (by decide)) rfl fun v4 _ _ h => ?_
     obtain ⟨x2, ex2, H⟩ := bindE H
     refine gs h (o_app (K := (Kd.int .u8)) 1 rfl rfl rfl (rd_own 0 rfl) ex2 t_a23 t_n23) rfl fun v5 _ _ h => ?_
     refine gs h (o_assign rfl) rfl fun _ _ _ h => ?_
     refine GoR.done ?_
     refine Go.inBlock ?_
     exact J2 x2 v5 _ _ (som H).symm (h.wk (by rfl) [1] (by decide) (by rfl))
   ·have H := ifF c2 H
    refine g_f h rfl c2 ?_
    refine Go.exit rfl ?_
    have e_ := som H; subst e_
    exact J4 s1.1 v1 _ _ (nx_out i1).symm (h.wk (by rfl) [0] (by decide) (by rfl))
  refine Go.reg ?_
  refine gs h (o_move rfl) rfl fun _ _ _ h => ?_
  refine gs h (o_move rfl) rfl fun _ _ _ h => ?_
  refine gs h (o_bin rfl rfl rfl) rfl fun _ _ _ h => ?_
  refine gs h (o_move rfl) rfl fun _ _ _ h => ?_
  by_cases c1 : decide (s1.2 < a2) = true
  ·have H := ifT c1 H
   refine gg h rfl rfl c1 (o_move rfl) rfl fun _ _ _ h => ?_
   refine gg h rfl rfl c1 (o_bin rfl rfl rfl) rfl fun _ _ _ h => ?_
   refine gs h (o_pickT rfl rfl c1) rfl fun _ _ _ h => ?_
   refine GoR.done ?_
   exact J1 (decide (s1.2 < 8)) _ _ (som H).symm (h.wk (by rfl) [0] (by decide) (by rfl))
  ·have H := ifF c1 H
   refine gk h rfl rfl (nb_f c1) rfl fun _ h => ?_
   refine gk h rfl rfl (nb_f c1) rfl fun _ h => ?_
   refine gs h (o_pickF rfl rfl c1) rfl fun _ _ _ h => ?_
   refine GoR.done ?_
   exact J1 false _ _ (som H).symm (h.wk (by rfl) [0] (by decide) (by rfl))
 ·replace h := h.mm fun m => m.nilo (Kd.int .u8)
  exact I_ (.slice none 0 0) _ _ (show InR .i64 0 by decide) (h.wk (by rfl) [0] (by decide) (by rfl))
def ref01_Put.g (k_ : Nat) (a1 : Int) (a2 : Int) (a3 : Bool) : Option ((List Int)) :=
  (loopK k_ (fun s1 => ((if decide (s1.2 < a2) = true then some (decide (s1.2 < 8)) else some (false))).bind (fun j1 => (if j1 = true then ((if 0 ≤ (IntKind.u64.wrap (IntKind.i64.wrap (8 * s1.2))) then (lt (IntKind.u8.wrap (ishr .u64 a1 (IntKind.u64.wrap (IntKind.i64.wrap (8 * s1.2))))) fun y1 => (if a3 = true then (app ([y1] : List Int) s1.1).bind fun x1 => some (x1) else (app s1.1 ([y1] : List Int)).bind fun x2 => some (x2))) else none).bind (fun j2 => some (j2))).bind (fun j3 => lt (IntKind.i64.wrap (s1.2 + 1)) fun y2 => some (.inl (j3, y2))) else some (.inr (s1.1))))) (([] : List Int), 0)).bind (fun j4 => some (j4))
theorem ref01_Put.le (k_ : Nat) (a1 : Int) (a2 : Int) (a3 : Bool) : Le (ref01_Put.g k_ a1 a2 a3) (ref01_Put.f a1 a2 a3) := by
 unfold ref01_Put.g ref01_Put.f
 repeat' (first | with_reducible refine le_loop fun _ => ?_ | with_reducible refine le_bind ?_ fun _ => ?_ | with_reducible refine le_ite ?_ ?_ | with_reducible refine le_lt fun _ => ?_ | with_reducible refine le_elim (fun _ => ?_) (fun _ => ?_) _ | with_reducible exact le_refl _)
/-! drawbridge/drawbridgeref17.two -/
noncomputable def ref17_two.f (a1 : Int) : Option ((List Int)) :=
  (ref01_Put.f (IntKind.u64.wrap a1) 2 true).bind fun r1 => some (r1)
set_option maxRecDepth 100000 in
set_option maxHeartbeats 4000000 in
theorem ref17_two.spc (a1 : Int) (ha1 : InR .i64 a1) (r : (List Int)) (H : ref17_two.f a1 = some r) : Spc Tryd.prog 24 [.int .i64 a1] [] [] (fun (s : Value) => s) (fun s => [Val (Kd.osl (Kd.int .u8)) s r]) := by
 unfold ref17_two.f at H
 refine Spc.go Tryd.func24 rfl (by kernel_rfl) rfl rfl all_nil fun F a w h => ?_
 refine Go.seq ?_
 refine Go.reg ?_
 refine gs h (o_assign rfl) rfl fun _ _ _ h => ?_
 refine GoR.done ?_
 refine Go.seq ?_
 refine Go.reg ?_
 refine gs h (o_move rfl) rfl fun _ _ _ h => ?_
 refine gs h (o_conv rfl t_q3 t_u49) rfl fun _ _ _ h => ?_
 obtain ⟨r1, er1, H⟩ := bindE H
 refine gs h (o_call (ref01_Put.spc (IntKind.u64.wrap a1) (wrap_in _ _) 2 (show InR .i64 2 by decide) true r1 er1) rfl [] [] (by decide) rfl rfl) rfl fun v1 _ _ h => ?_
 refine gs h (o_assign rfl) rfl fun _ _ _ h => ?_
 refine GoR.done ?_
 rw [← som H]
 exact g_ret (vs := [v1]) h Tryd.func24 ⟨rfl, trivial⟩ ⟨v1, rfl, (h.mem.pick [0] (by decide) rfl)⟩
def ref17_two.g (k_ : Nat) (a1 : Int) : Option ((List Int)) :=
  (ref01_Put.g k_ (IntKind.u64.wrap a1) 2 true).bind fun r1 => some (r1)
theorem ref17_two.le (k_ : Nat) (a1 : Int) : Le (ref17_two.g k_ a1) (ref17_two.f a1) := by
 unfold ref17_two.g ref17_two.f
 repeat' (first | with_reducible refine le_loop fun _ => ?_ | with_reducible refine le_bind ?_ fun _ => ?_ | with_reducible refine le_ite ?_ ?_ | with_reducible refine le_lt fun _ => ?_ | with_reducible refine le_elim (fun _ => ?_) (fun _ => ?_) _ | with_reducible apply ref01_Put.le | with_reducible exact le_refl _)
end Go.Proofs.YtaiadolmjmacfaaDoor.S
