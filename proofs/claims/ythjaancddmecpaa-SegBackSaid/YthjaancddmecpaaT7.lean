/- Contracts, printed by a program of this session. -/
import Derived.Test.YthjaancddmecpaaT4
import Derived.Test.YthjaancddmecpaaT5
import Derived.Test.YthjaancddmecpaaT6
namespace Go.Proofs.Ythjaancddmecpaa.S
open Go Go.SL Go.RowKit
set_option linter.unusedVariables false
set_option linter.unusedSimpArgs false
/-! drawbridge/drawbridgelaw19.SegBack -/
noncomputable def law19_SegBack.f (a1 : TSeg) (a2 : Int) (a3 : Int) : Option (Bool) :=
  (if decide (20000 < (a1.Data.length : Int)) = true then (law19_heads.f).bind fun r1 => some (r1) else (seg_Put.f a1 a2 a3).bind fun r2 => (if (!decide (r2.2 = 0)) = true then ((if decide ((r2.1.length : Int) = 0) = true then (law19_heads.f).bind fun r3 => some (r3) else some (false))).bind (fun j1 => some (j1)) else (seg_Get.f r2.1 a2 a3).bind fun r4 => (seg_Get.f r2.1 (bits .xor .u32 a2 1) a3).bind fun r5 => ((if decide (r4.2 = 0) = true then (law19_one.f a1).bind fun r6 => (law19_one.f r4.1).bind fun r7 => (ref19_Same.f r6 r7).bind fun r8 => (if r8 = true then (if decide (r5.2 = 162) = true then (law19_heads.f).bind fun r9 => some (r9) else some (false)) else some (false)) else some (false))).bind (fun j2 => some (j2))))
set_option maxRecDepth 100000 in
set_option maxHeartbeats 4000000 in
theorem law19_SegBack.spc (v1 : Value) (a1 : TSeg) (a2 : Int) (ha2 : InR .u32 a2) (a3 : Int) (ha3 : InR .u32 a3) (r : Bool) (H : law19_SegBack.f a1 a2 a3 = some r) : Spc Try.prog 4 [v1, .int .u32 a2, .int .u32 a3] [Val KSeg v1 a1] [] (fun (s : Unit) => .bool r) (fun s => []) := by
 unfold law19_SegBack.f at H
 refine Spc.go Try.func4 rfl (by kernel_rfl) rfl rfl (all_cons (Val.per PSeg) all_nil) fun F a w h => ?_
 refine Go.seq ?_
 refine Go.reg ?_
 refine gs h (o_box (K := KSeg) rfl (pv_at PSeg 0 rfl)) rfl fun b1 _ _ h => ?_
 refine gs h (o_assign rfl) rfl fun _ _ _ h => ?_
 refine GoR.done ?_
 refine Go.seq ?_
 refine Go.seq ?_
 refine Go.reg ?_
 refine gs h (o_fa rfl t_f25_7 rfl rfl) rfl fun _ _ _ h => ?_
 refine gs h (o_lfv 0 rfl rfl sSeg_Data rfl Per_sl t_y23) rfl fun v2 _ _ h => ?_
 have g1 := (len_at 0 rfl h.mem)
 refine gs h (o_ln rfl (rd_at 0 rfl) t_v23) rfl fun _ _ _ h => ?_
 refine gs h (o_bin rfl rfl rfl) rfl fun _ _ _ h => ?_
 refine GoR.done ?_
 by_cases c1 : decide (20000 < (a1.Data.length : Int)) = true
 ·have H := ifT c1 H
  refine g_t h rfl c1 ?_
  refine Go.seq ?_
  refine Go.reg ?_
  obtain ⟨r1, er1, H⟩ := bindE H
  refine gs h (o_call (law19_heads.spc  r1 er1) rfl [] [] (by decide) rfl rfl) rfl fun _ _ _ h => ?_
  refine gs h (o_assign rfl) rfl fun _ _ _ h => ?_
  refine GoR.done ?_
  rw [← som H]
  exact g_ret (vs := [.bool r1]) h Try.func4 ⟨rfl, trivial⟩ ⟨(), rfl, (h.mem.pick [] (by decide) rfl)⟩
 ·have H := ifF c1 H
  refine g_f h rfl c1 ?_
  refine Go.skip ?_
  refine Go.seq ?_
  refine Go.reg ?_
  refine gs h (o_ldv 1 rfl rfl PSeg t_y25) rfl fun v3 _ _ h => ?_
  refine gs h (o_move rfl) rfl fun _ _ _ h => ?_
  refine gs h (o_move rfl) rfl fun _ _ _ h => ?_
  obtain ⟨r2, er2, H⟩ := bindE H
  refine gs h (o_call (seg_Put.spc v3 a1 a2 ha2 a3 ha3 r2 er2) rfl [0] [] (by decide) rfl rfl) rfl fun v4 _ _ h => ?_
  have g2 := h.mem.pur 0 rfl
  refine gs h (o_move rfl) rfl fun _ _ _ h => ?_
  refine gs h (o_extract rfl rfl) rfl fun _ _ _ h => ?_
  refine gs h (o_extract rfl rfl) rfl fun _ _ _ h => ?_
  refine gs h (o_assign rfl) rfl fun _ _ _ h => ?_
  refine gs h (o_assign rfl) rfl fun _ _ _ h => ?_
  refine GoR.done ?_
  refine Go.seq ?_
  refine Go.seq ?_
  refine Go.reg ?_
  refine gs h (o_move rfl) rfl fun _ _ _ h => ?_
  refine gs h (o_bin rfl rfl rfl) rfl fun _ _ _ h => ?_
  refine GoR.done ?_
  by_cases c2 : (!decide (r2.2 = 0)) = true
  ·have H := ifT c2 H
   refine g_t h rfl c2 ?_
   refine Go.seq ?_
   obtain ⟨o1, H, G1⟩ := bindE H
   refine g_cut (fun G => ∀ j1 (a : Act) (w : World), o1 = j1 → St Try.f4.ntmps F [(6, .bool j1)] [Fld KSeg b1 0 a1] a w → G a w) 1 ?_ fun J1 => ?_
   ·intro j1 a w ho_ h
    rw [ho_] at G1
    have H := G1
    rw [← som H]
    exact g_ret (vs := [.bool j1]) h Try.func4 ⟨rfl, trivial⟩ ⟨(), rfl, (h.mem.pick [] (by decide) rfl)⟩
   refine Go.reg ?_
   refine gs h (o_move rfl) rfl fun _ _ _ h => ?_
   have g3 := (len_own 1 rfl h.mem)
   refine gs h (o_ln rfl (rd_own 1 rfl) t_v23) rfl fun _ _ _ h => ?_
   refine gs h (o_bin rfl rfl rfl) rfl fun _ _ _ h => ?_
   refine gs h (o_move rfl) rfl fun _ _ _ h => ?_
   by_cases c3 : decide ((r2.1.length : Int) = 0) = true
   ·have H := ifT c3 H
    obtain ⟨r3, er3, H⟩ := bindE H
    refine gg h rfl rfl c3 (o_call (law19_heads.spc  r3 er3) rfl [] [] (by decide) rfl rfl) rfl fun _ _ _ h => ?_
    refine gs h (o_pickT rfl rfl c3) rfl fun _ _ _ h => ?_
    refine gs h (o_assign rfl) rfl fun _ _ _ h => ?_
    refine GoR.done ?_
    exact J1 r3 _ _ (som H).symm (h.wk (by rfl) [4] (by decide) (by rfl))
   ·have H := ifF c3 H
    refine gk h rfl rfl (nb_f c3) rfl fun _ h => ?_
    refine gs h (o_pickF rfl rfl c3) rfl fun _ _ _ h => ?_
    refine gs h (o_assign rfl) rfl fun _ _ _ h => ?_
    refine GoR.done ?_
    exact J1 false _ _ (som H).symm (h.wk (by rfl) [4] (by decide) (by rfl))
  ·have H := ifF c2 H
   refine g_f h rfl c2 ?_
   refine Go.skip ?_
   refine Go.seq ?_
   refine Go.reg ?_
   refine gs h (o_move rfl) rfl fun _ _ _ h => ?_
   refine gs h (o_move rfl) rfl fun _ _ _ h => ?_
   refine gs h (o_move rfl) rfl fun _ _ _ h => ?_
   replace h := h.mm fun m => m.freeze 1 rfl
   obtain ⟨r4, er4, H⟩ := bindE H
   refine gs h (o_call (seg_Get.spc v4 r2.1 a2 ha2 a3 ha3 r4 er4) rfl [1] [] (by decide) rfl rfl) rfl fun v5 _ _ h => ?_
   have g4 := h.mem.pur 0 rfl
   refine gs h (o_move rfl) rfl fun _ _ _ h => ?_
   refine gs h (o_extract rfl rfl) rfl fun _ _ _ h => ?_
   refine gs h (o_extract rfl rfl) rfl fun _ _ _ h => ?_
   refine gs h (o_alloc (K := KSeg) (z := (.agg #[.int .i64 0, .int .i64 0, .int .u32 0, .int .u32 0, .int .i64 0, .int .i64 0, .int .i64 0, .slice none 0 0])) rfl ZSeg) rfl fun b2 _ _ h => ?_
   refine gs0 h (o_st 0 rfl rfl rfl (pv_at PSeg 2 rfl) rfl t_w25) fun _ _ _ h => ?_
   refine gs h (o_assign rfl) rfl fun _ _ _ h => ?_
   refine GoR.done ?_
   refine Go.seq ?_
   refine Go.reg ?_
   refine gs h (o_move rfl) rfl fun _ _ _ h => ?_
   refine gs h (o_move rfl) rfl fun _ _ _ h => ?_
   refine gs h (o_bin rfl rfl rfl) rfl fun _ _ _ h => ?_
   refine gs h (o_move rfl) rfl fun _ _ _ h => ?_
   obtain ⟨r5, er5, H⟩ := bindE H
   refine gs h (o_call (seg_Get.spc v4 r2.1 (bits .xor .u32 a2 1) (wrap_in _ _) a3 ha3 r5 er5) rfl [4] [] (by decide) rfl rfl) rfl fun v6 _ _ h => ?_
   have g5 := h.mem.pur 0 rfl
   refine gs h (o_move rfl) rfl fun _ _ _ h => ?_
   refine gs h (o_extract rfl rfl) rfl fun _ _ _ h => ?_
   refine gs h (o_extract rfl rfl) rfl fun _ _ _ h => ?_
   refine gs h (o_alloc (K := KSeg) (z := (.agg #[.int .i64 0, .int .i64 0, .int .u32 0, .int .u32 0, .int .i64 0, .int .i64 0, .int .i64 0, .slice none 0 0])) rfl ZSeg) rfl fun b3 _ _ h => ?_
   refine gs0 h (o_st 0 rfl rfl rfl (pv_at PSeg 2 rfl) rfl t_w25) fun _ _ _ h => ?_
   refine gs h (o_assign rfl) rfl fun _ _ _ h => ?_
   refine GoR.done ?_
   refine Go.seq ?_
   replace h := h.wk (E' := [(3, .pointer (some ⟨b1, 0, none⟩)), (6, .bool false), (9, .pointer (some ⟨b2, 0, none⟩)), (10, .int .i64 r4.2), (12, .int .i64 r5.2)]) (L' := [Fld KSeg b3 0 r5.1, Ent.pur (InR .i64 r5.2), Val KSeg v6 r5.1, Fld KSeg b2 0 r4.1, Ent.pur (InR .i64 r4.2), Val KSeg v5 r4.1, Ent.pur (InR .i64 r2.2), Val (Kd.sl (Kd.int .u8)) v4 r2.1, Val KSeg v3 a1, Val (Kd.sl (Kd.int .u8)) v2 a1.Data, Fld KSeg b1 0 a1, Val KSeg v1 a1]) (by rfl) [0, 1, 2, 3, 4, 5, 6, 7, 8, 9, 10, 11] (by decide) (by rfl)
   obtain ⟨o2, H, G2⟩ := bindE H
   refine g_cut (fun G => ∀ j2 (a : Act) (w : World), o2 = j2 → St Try.f4.ntmps F [(6, .bool j2)] [Fld KSeg b3 0 r5.1, Fld KSeg b2 0 r4.1, Fld KSeg b1 0 a1] a w → G a w) 1 ?_ fun J2 => ?_
   ·intro j2 a w ho_ h
    rw [ho_] at G2
    have H := G2
    rw [← som H]
    exact g_ret (vs := [.bool j2]) h Try.func4 ⟨rfl, trivial⟩ ⟨(), rfl, (h.mem.pick [] (by decide) rfl)⟩
   by_cases c4 : decide (r4.2 = 0) = true
   ·have H := ifT c4 H
    obtain ⟨r6, er6, H⟩ := bindE H
    refine Go.draw (L := [Fld KSeg b3 0 r5.1, Ent.pur (InR .i64 r5.2), Val KSeg v6 r5.1, Fld KSeg b2 0 r4.1, Ent.pur (InR .i64 r4.2), Val KSeg v5 r4.1, Ent.pur (InR .i64 r2.2), Val (Kd.sl (Kd.int .u8)) v4 r2.1, Val KSeg v3 a1, Val (Kd.sl (Kd.int .u8)) v2 a1.Data, Fld KSeg b1 0 a1, Val KSeg v1 a1]) h 6 [⟨[], [], [], false, .con (.int .i64 r4.2), none, fun u => []⟩, ⟨[0], [], [], false, .con (.bool (decide (r4.2 = 0))), none, fun u => []⟩, ⟨[0, 1], [], [], false, .con (.bool (decide (r4.2 = 0))), none, fun u => []⟩, ⟨[0, 1, 2], [], [], false, .own, none, fun u => [Val KSeg u a1]⟩, ⟨[0, 1, 2, 3], [3], [], false, .own, none, fun u => [Val (Kd.osl KSeg) u r6]⟩, ⟨[0, 1, 2], [], [], false, .own, none, fun u => [Val KSeg u r4.1]⟩] rfl t_mxo (by kernel_rfl) (by rfl) ?_ fun f1 _ _ h => ?_
    ·exact obs_cons (ob_con rfl (gok_none rfl) rfl fun f1 => (o_move rfl)) (obs_cons (ob_con rfl (gok_none rfl) rfl fun f1 => (o_bin rfl rfl rfl)) (obs_cons (ob_con rfl (gok_none rfl) rfl fun f1 => (o_move rfl)) (obs_cons (ob_own rfl (gok_some rfl rfl rfl (fun _ => rfl) c4) rfl fun f1 => (o_ldv 10 rfl rfl PSeg t_y25)) (obs_cons (ob_own rfl (gok_some rfl rfl rfl (fun _ => rfl) c4) rfl fun f1 => (o_call (law19_one.spc (f1 3) a1 r6 er6) rfl [0] [] (by decide) rfl rfl)) (obs_cons (ob_own rfl (gok_some rfl rfl rfl (fun _ => rfl) c4) rfl fun f1 => (o_ldv 3 rfl rfl PSeg t_y25)) (obs_nil))))))
    replace h := h.wk (E' := [(6, .bool false), (12, .int .i64 r5.2), (50, .bool (decide (r4.2 = 0))), (52, (f1 4)), (53, (f1 5))]) (L' := [Val KSeg (f1 3) a1, Val (Kd.osl KSeg) (f1 4) r6, Val KSeg (f1 5) r4.1, Fld KSeg b3 0 r5.1, Ent.pur (InR .i64 r5.2), Val KSeg v6 r5.1, Fld KSeg b2 0 r4.1, Ent.pur (InR .i64 r4.2), Val KSeg v5 r4.1, Ent.pur (InR .i64 r2.2), Val (Kd.sl (Kd.int .u8)) v4 r2.1, Val KSeg v3 a1, Val (Kd.sl (Kd.int .u8)) v2 a1.Data, Fld KSeg b1 0 a1, Val KSeg v1 a1]) (by kernel_rfl) [0, 1, 2, 3, 4, 5, 6, 7, 8, 9, 10, 11, 12, 13, 14] (by decide) (by kernel_rfl)
    obtain ⟨r7, er7, H⟩ := bindE H
    refine gg h rfl rfl c4 (o_call (law19_one.spc (f1 5) r4.1 r7 er7) rfl [2] [] (by decide) rfl rfl) rfl fun v10 _ _ h => ?_
    replace h := h.mm fun m => m.freeze 2 rfl
    replace h := h.mm fun m => m.freeze 0 rfl
    obtain ⟨r8, er8, H⟩ := bindE H
    refine gg h rfl rfl c4 (o_call (ref19_Same.spc (f1 4) r6 v10 r7 r8 er8) rfl [2, 0] [] (by decide) rfl rfl) rfl fun _ _ _ h => ?_
    refine gs h (o_pickT rfl rfl c4) rfl fun _ _ _ h => ?_
    refine gs h (o_move rfl) rfl fun _ _ _ h => ?_
    by_cases c5 : r8 = true
    ·have H := ifT c5 H
     refine gg h rfl rfl c5 (o_move rfl) rfl fun _ _ _ h => ?_
     refine gg h rfl rfl c5 (o_bin rfl rfl rfl) rfl fun _ _ _ h => ?_
     refine gs h (o_pickT rfl rfl c5) rfl fun _ _ _ h => ?_
     refine gs h (o_move rfl) rfl fun _ _ _ h => ?_
     by_cases c6 : decide (r5.2 = 162) = true
     ·have H := ifT c6 H
      obtain ⟨r9, er9, H⟩ := bindE H
      refine gg h rfl rfl c6 (o_call (law19_heads.spc  r9 er9) rfl [] [] (by decide) rfl rfl) rfl fun _ _ _ h => ?_
      refine gs h (o_pickT rfl rfl c6) rfl fun _ _ _ h => ?_
      refine gs h (o_assign rfl) rfl fun _ _ _ h => ?_
      refine GoR.done ?_
      exact J2 r9 _ _ (som H).symm (h.wk (by rfl) [4, 7, 14] (by decide) (by rfl))
     ·have H := ifF c6 H
      refine gk h rfl rfl (nb_f c6) rfl fun _ h => ?_
      refine gs h (o_pickF rfl rfl c6) rfl fun _ _ _ h => ?_
      refine gs h (o_assign rfl) rfl fun _ _ _ h => ?_
      refine GoR.done ?_
      exact J2 false _ _ (som H).symm (h.wk (by rfl) [4, 7, 14] (by decide) (by rfl))
    ·have H := ifF c5 H
     refine gk h rfl rfl (nb_f c5) rfl fun _ h => ?_
     refine gk h rfl rfl (nb_f c5) rfl fun _ h => ?_
     refine gs h (o_pickF rfl rfl c5) rfl fun _ _ _ h => ?_
     refine gs h (o_move rfl) rfl fun _ _ _ h => ?_
     refine gk h rfl rfl (nb_f Bool.false_ne_true) rfl fun _ h => ?_
     refine gs h (o_pickF rfl rfl Bool.false_ne_true) rfl fun _ _ _ h => ?_
     refine gs h (o_assign rfl) rfl fun _ _ _ h => ?_
     refine GoR.done ?_
     exact J2 false _ _ (som H).symm (h.wk (by rfl) [4, 7, 14] (by decide) (by rfl))
   ·have H := ifF c4 H
    refine Go.draw (L := [Fld KSeg b3 0 r5.1, Ent.pur (InR .i64 r5.2), Val KSeg v6 r5.1, Fld KSeg b2 0 r4.1, Ent.pur (InR .i64 r4.2), Val KSeg v5 r4.1, Ent.pur (InR .i64 r2.2), Val (Kd.sl (Kd.int .u8)) v4 r2.1, Val KSeg v3 a1, Val (Kd.sl (Kd.int .u8)) v2 a1.Data, Fld KSeg b1 0 a1, Val KSeg v1 a1]) h 6 [⟨[], [], [], false, .con (.int .i64 r4.2), none, fun u => []⟩, ⟨[0], [], [], false, .con (.bool (decide (r4.2 = 0))), none, fun u => []⟩, ⟨[0, 1], [], [], false, .con (.bool (decide (r4.2 = 0))), none, fun u => []⟩, ⟨[2], [], [], true, .con undef, none, fun u => []⟩, ⟨[2], [], [], true, .con undef, none, fun u => []⟩, ⟨[2], [], [], true, .con undef, none, fun u => []⟩] rfl t_mxo (by kernel_rfl) (by rfl) ?_ fun f1 _ _ h => ?_
    ·exact obs_cons (ob_con rfl (gok_none rfl) rfl fun f1 => (o_move rfl)) (obs_cons (ob_con rfl (gok_none rfl) rfl fun f1 => (o_bin rfl rfl rfl)) (obs_cons (ob_con rfl (gok_none rfl) rfl fun f1 => (o_move rfl)) (obs_cons (ob_skip rfl rfl rfl rfl (fun _ => rfl) (nb_f c4) rfl rfl rfl rfl) (obs_cons (ob_skip rfl rfl rfl rfl (fun _ => rfl) (nb_f c4) rfl rfl rfl rfl) (obs_cons (ob_skip rfl rfl rfl rfl (fun _ => rfl) (nb_f c4) rfl rfl rfl rfl) (obs_nil))))))
    replace h := h.wk (E' := [(6, .bool false), (12, .int .i64 r5.2), (50, .bool (decide (r4.2 = 0)))]) (L' := [Fld KSeg b3 0 r5.1, Ent.pur (InR .i64 r5.2), Val KSeg v6 r5.1, Fld KSeg b2 0 r4.1, Ent.pur (InR .i64 r4.2), Val KSeg v5 r4.1, Ent.pur (InR .i64 r2.2), Val (Kd.sl (Kd.int .u8)) v4 r2.1, Val KSeg v3 a1, Val (Kd.sl (Kd.int .u8)) v2 a1.Data, Fld KSeg b1 0 a1, Val KSeg v1 a1]) (by kernel_rfl) [0, 1, 2, 3, 4, 5, 6, 7, 8, 9, 10, 11] (by decide) (by kernel_rfl)
    refine gk h rfl rfl (nb_f c4) rfl fun _ h => ?_
    refine gk h rfl rfl (nb_f c4) rfl fun _ h => ?_
    refine gs h (o_pickF rfl rfl c4) rfl fun _ _ _ h => ?_
    refine gs h (o_move rfl) rfl fun _ _ _ h => ?_
    refine gk h rfl rfl (nb_f Bool.false_ne_true) rfl fun _ h => ?_
    refine gk h rfl rfl (nb_f Bool.false_ne_true) rfl fun _ h => ?_
    refine gs h (o_pickF rfl rfl Bool.false_ne_true) rfl fun _ _ _ h => ?_
    refine gs h (o_move rfl) rfl fun _ _ _ h => ?_
    refine gk h rfl rfl (nb_f Bool.false_ne_true) rfl fun _ h => ?_
    refine gs h (o_pickF rfl rfl Bool.false_ne_true) rfl fun _ _ _ h => ?_
    refine gs h (o_assign rfl) rfl fun _ _ _ h => ?_
    refine GoR.done ?_
    exact J2 false _ _ (som H).symm (h.wk (by rfl) [0, 3, 10] (by decide) (by rfl))
def law19_SegBack.g (k_ : Nat) (a1 : TSeg) (a2 : Int) (a3 : Int) : Option (Bool) :=
  (if decide (20000 < (a1.Data.length : Int)) = true then (law19_heads.g k_).bind fun r1 => some (r1) else (seg_Put.g k_ a1 a2 a3).bind fun r2 => (if (!decide (r2.2 = 0)) = true then ((if decide ((r2.1.length : Int) = 0) = true then (law19_heads.g k_).bind fun r3 => some (r3) else some (false))).bind (fun j1 => some (j1)) else (seg_Get.g k_ r2.1 a2 a3).bind fun r4 => (seg_Get.g k_ r2.1 (bits .xor .u32 a2 1) a3).bind fun r5 => ((if decide (r4.2 = 0) = true then (law19_one.g k_ a1).bind fun r6 => (law19_one.g k_ r4.1).bind fun r7 => (ref19_Same.g k_ r6 r7).bind fun r8 => (if r8 = true then (if decide (r5.2 = 162) = true then (law19_heads.g k_).bind fun r9 => some (r9) else some (false)) else some (false)) else some (false))).bind (fun j2 => some (j2))))
theorem law19_SegBack.le (k_ : Nat) (a1 : TSeg) (a2 : Int) (a3 : Int) : Le (law19_SegBack.g k_ a1 a2 a3) (law19_SegBack.f a1 a2 a3) := by
 unfold law19_SegBack.g law19_SegBack.f
 repeat' (first | with_reducible refine le_loop fun _ => ?_ | with_reducible refine le_bind ?_ fun _ => ?_ | with_reducible refine le_ite ?_ ?_ | with_reducible refine le_lt fun _ => ?_ | with_reducible refine le_elim (fun _ => ?_) (fun _ => ?_) _ | with_reducible apply law19_heads.le | with_reducible apply law19_one.le | with_reducible apply ref19_Same.le | with_reducible apply seg_Get.le | with_reducible apply seg_Put.le | with_reducible exact le_refl _)
end Go.Proofs.Ythjaancddmecpaa.S
