/- Contracts, printed by a program of this session. -/
import Derived.Test.YtpcbhkigmnpimaaT1
import Derived.Test.YtpcbhkigmnpimaaT2
import Derived.Test.YtpcbhkigmnpimaaT14
import Derived.Test.YtpcbhkigmnpimaaT15
import Derived.Test.YtpcbhkigmnpimaaT16
namespace Go.Proofs.Ytpcbhkigmnpimaa.S
open Go Go.SL Go.RowKit
set_option linter.unusedVariables false
set_option linter.unusedSimpArgs false
/-! drawbridge/drawbridgelaw28.SpliceResets -/
noncomputable def law28_SpliceResets.f (a1 : TConn) (a2 : Int) (a3 : Int) : Option (Bool) :=
  ((law28_small.f a1).bind fun r1 => (if (!r1) = true then some (true) else (splice_Check.f a1).bind fun r2 => (if (!r2) = true then some (true) else (if decide (a2 < 0) = true then some (true) else some (decide (549755813888 < a2)))))).bind (fun j1 => (if j1 = true then (law28_heads.f).bind fun r3 => some (r3) else (splice_Take.f a1 a2 (⟨a1.Gport, a1.Rport, a3, 0, 4, 0, 0, []⟩ : TSeg)).bind fun r4 => ((ref28_Same.f r4.1 a1).bind fun r5 => (if (!r5) = true then some (true) else (if (!decide ((r4.2.1.length : Int) = 0)) = true then some (true) else some ((!(r4.2.2.2 == (decide (a3 = a1.Want)))))))).bind (fun j2 => (if j2 = true then some (false) else (if (!r4.2.2.2) = true then ((if decide ((r4.2.2.1.length : Int) = 0) = true then (law28_heads.f).bind fun r6 => some (r6) else some (false))).bind (fun j3 => some (j3)) else ((if decide ((r4.2.2.1.length : Int) = 1) = true then (idx r4.2.2.1 0).bind fun x1 => (if decide (x1.Kind = 4) = true then (idx r4.2.2.1 0).bind fun x2 => (if decide (x2.Id = a1.Id) = true then (law28_heads.f).bind fun r7 => some (r7) else some (false)) else some (false)) else some (false))).bind (fun j4 => some (j4)))))))
set_option maxRecDepth 100000 in
set_option maxHeartbeats 4000000 in
theorem law28_SpliceResets.spc (v1 : Value) (a1 : TConn) (a2 : Int) (ha2 : InR .i64 a2) (a3 : Int) (ha3 : InR .u32 a3) (r : Bool) (H : law28_SpliceResets.f a1 a2 a3 = some r) : Spc Try.prog 3 [v1, .int .i64 a2, .int .u32 a3] [Val KConn v1 a1] [] (fun (s : Unit) => .bool r) (fun s => []) := by
 unfold law28_SpliceResets.f at H
 refine Spc.go Try.func3 rfl (by kernel_rfl) rfl rfl (all_cons (Val.per PConn) all_nil) fun F a w h => ?_
 refine Go.seq ?_
 refine Go.reg ?_
 refine gs h (o_box (K := KConn) rfl (pv_at PConn 0 rfl)) rfl fun b1 _ _ h => ?_
 refine gs h (o_assign rfl) rfl fun _ _ _ h => ?_
 refine GoR.done ?_
 refine Go.seq ?_
 refine Go.seq ?_
 obtain ⟨o1, H, G1⟩ := bindE H
 refine g_cut (fun G => ∀ j1 (a : Act) (w : World), o1 = j1 → St Try.f3.ntmps F [(1, .int .i64 a2), (2, .int .u32 a3), (3, .pointer (some ⟨b1, 0, none⟩)), (27, .bool j1)] [Fld KConn b1 0 a1] a w → G a w) 1 ?_ fun J1 => ?_
 ·intro j1 a w ho_ h
  rw [ho_] at G1
  have H := G1
  by_cases c4 : j1 = true
  ·have H := ifT c4 H
   refine g_t h rfl c4 ?_
   refine Go.seq ?_
   refine Go.reg ?_
   obtain ⟨r3, er3, H⟩ := bindE H
   refine gs h (o_call (law28_heads.spc  r3 er3) rfl [] [] (by decide) rfl rfl) rfl fun _ _ _ h => ?_
   refine gs h (o_assign rfl) rfl fun _ _ _ h => ?_
   refine GoR.done ?_
   rw [← som H]
   exact g_ret (vs := [.bool r3]) h Try.func3 ⟨rfl, trivial⟩ ⟨(), rfl, (h.mem.pick [] (by decide) rfl)⟩
  ·have H := ifF c4 H
   refine g_f h rfl c4 ?_
   refine Go.skip ?_
   refine Go.seq ?_
   refine Go.reg ?_
   refine gs h (o_fa rfl t_f26_2 rfl rfl) rfl fun _ _ _ h => ?_
   have g1 := (in2 (fd_sub sConn_Gport 0 rfl h.mem))
   refine gs h (o_lfx 0 rfl rfl sConn_Gport rfl X_int t_y3) rfl fun _ _ _ h => ?_
   refine gs h (o_fa rfl t_f26_4 rfl rfl) rfl fun _ _ _ h => ?_
   have g2 := (in2 (fd_sub sConn_Rport 0 rfl h.mem))
   refine gs h (o_lfx 0 rfl rfl sConn_Rport rfl X_int t_y3) rfl fun _ _ _ h => ?_
   refine gs h (o_move rfl) rfl fun _ _ _ h => ?_
   refine gs h (o_build (K := KSeg) (x := (⟨a1.Gport, a1.Rport, a3, 0, 4, 0, 0, []⟩ : TSeg)) (ps := [(0, .int .i64 a1.Gport), (1, .int .i64 a1.Rport), (2, .int .u32 a3), (4, .int .i64 4)]) rfl (zs := zsSeg) rfl t_b30 rfl (show PB (Kd.pair (Kd.int .i64) (Kd.pair (Kd.int .i64) (Kd.pair (Kd.int .u32) (Kd.pair (Kd.int .u32) (Kd.pair (Kd.int .i64) (Kd.pair (Kd.int .i64) (Kd.pair (Kd.int .i64) (Kd.last (Kd.sl (Kd.int .u8)))))))))) (a1.Gport, a1.Rport, a3, 0, 4, 0, 0, []) 0 zsSeg _ _ from (pb_part (pv_int g1) rfl (pb_part (pv_int g2) rfl (pb_part (pv_int ha3) rfl (pb_zero z_int (pb_part (pv_int (show InR .i64 4 by decide)) rfl (pb_zero z_int (pb_zero z_int (pb_lastz z_sl)))))))))) rfl fun v4 _ _ h => ?_
   refine gs h (o_alloc (K := KSeg) (z := (.agg #[.int .i64 0, .int .i64 0, .int .u32 0, .int .u32 0, .int .i64 0, .int .i64 0, .int .i64 0, .slice none 0 0])) rfl ZSeg) rfl fun b2 _ _ h => ?_
   refine gs0 h (o_st 0 rfl rfl rfl (pv_at PSeg 1 rfl) rfl t_w30) fun _ _ _ h => ?_
   refine GoR.done ?_
   refine Go.seq ?_
   refine Go.reg ?_
   refine gs h (o_ldv 2 rfl rfl PConn t_y26) rfl fun v5 _ _ h => ?_
   refine gs h (o_move rfl) rfl fun _ _ _ h => ?_
   refine gs h (o_ldv 1 rfl rfl PSeg t_y30) rfl fun v6 _ _ h => ?_
   obtain ⟨r4, er4, H⟩ := bindE H
   refine gs h (o_call (splice_Take.spc v5 a1 a2 ha2 v6 (⟨a1.Gport, a1.Rport, a3, 0, 4, 0, 0, []⟩ : TSeg) r4 er4) rfl [1, 0] [] (by decide) rfl rfl) rfl fun s_ _ _ h => ?_
   obtain ⟨v7, v8, v9⟩ := s_
   refine gs h (o_move rfl) rfl fun _ _ _ h => ?_
   iterate 4 (refine gs h (o_extract rfl rfl) rfl fun _ _ _ h => ?_)
   refine gs h (o_alloc (K := KConn) (z := (.agg #[.int .i64 0, .int .u32 0, .int .i64 0, .int .u32 0, .int .i64 0, .bool false, .bool false, .bool false, .int .u32 0, .int .u32 0, .int .u32 0, .int .u32 0, .int .i64 0, .int .i64 0, .slice none 0 0, .slice none 0 0, .slice none 0 0, .bool false, .bool false, .bool false, .int .i64 0, .int .i64 0, .int .i64 0])) rfl ZConn) rfl fun b3 _ _ h => ?_
   refine gs0 h (o_st 0 rfl rfl rfl (pv_at PConn 1 rfl) rfl t_w26) fun _ _ _ h => ?_
   iterate 3 (refine gs h (o_assign rfl) rfl fun _ _ _ h => ?_)
   refine GoR.done ?_
   refine Go.seq ?_
   refine Go.seq ?_
   obtain ⟨o2, H, G2⟩ := bindE H
   refine g_cut (fun G => ∀ j2 (a : Act) (w : World), o2 = j2 → St Try.f3.ntmps F [(3, .pointer (some ⟨b1, 0, none⟩)), (10, v9), (11, .bool r4.2.2.2), (60, .bool j2)] [Val (Kd.osl KCall) v9 r4.2.2.1, Fld KConn b3 0 r4.1, Fld KSeg b2 0 (⟨a1.Gport, a1.Rport, a3, 0, 4, 0, 0, []⟩ : TSeg), Fld KConn b1 0 a1] a w → G a w) 1 ?_ fun J2 => ?_
   ·intro j2 a w ho_ h
    rw [ho_] at G2
    have H := G2
    by_cases c7 : j2 = true
    ·have H := ifT c7 H
     refine g_t h rfl c7 ?_
     refine Go.seq ?_
     refine Go.reg ?_
     refine gs h (o_assign rfl) rfl fun _ _ _ h => ?_
     refine GoR.done ?_
     rw [← som H]
     exact g_ret (vs := [.bool false]) h Try.func3 ⟨rfl, trivial⟩ ⟨(), rfl, (h.mem.pick [] (by decide) rfl)⟩
    ·have H := ifF c7 H
     refine g_f h rfl c7 ?_
     refine Go.skip ?_
     refine Go.seq ?_
     refine Go.seq ?_
     refine Go.reg ?_
     refine gs h (o_move rfl) rfl fun _ _ _ h => ?_
     refine gs h (o_not rfl) rfl fun _ _ _ h => ?_
     refine GoR.done ?_
     by_cases c8 : (!r4.2.2.2) = true
     ·have H := ifT c8 H
      refine g_t h rfl c8 ?_
      refine Go.seq ?_
      obtain ⟨o3, H, G3⟩ := bindE H
      refine g_cut (fun G => ∀ j3 (a : Act) (w : World), o3 = j3 → St Try.f3.ntmps F [(6, .bool j3)] [Fld KConn b3 0 r4.1, Fld KSeg b2 0 (⟨a1.Gport, a1.Rport, a3, 0, 4, 0, 0, []⟩ : TSeg), Fld KConn b1 0 a1] a w → G a w) 1 ?_ fun J3 => ?_
      ·intro j3 a w ho_ h
       rw [ho_] at G3
       have H := G3
       rw [← som H]
       exact g_ret (vs := [.bool j3]) h Try.func3 ⟨rfl, trivial⟩ ⟨(), rfl, (h.mem.pick [] (by decide) rfl)⟩
      refine Go.reg ?_
      refine gs h (o_move rfl) rfl fun _ _ _ h => ?_
      have g5 := (len_own 0 rfl h.mem)
      refine gs h (o_ln rfl (rd_own 0 rfl) t_v32) rfl fun _ _ _ h => ?_
      refine gs h (o_bin rfl rfl rfl) rfl fun _ _ _ h => ?_
      refine gs h (o_move rfl) rfl fun _ _ _ h => ?_
      by_cases c9 : decide ((r4.2.2.1.length : Int) = 0) = true
      ·have H := ifT c9 H
       obtain ⟨r6, er6, H⟩ := bindE H
       refine gg h rfl rfl c9 (o_call (law28_heads.spc  r6 er6) rfl [] [] (by decide) rfl rfl) rfl fun _ _ _ h => ?_
       refine gs h (o_pickT rfl rfl c9) rfl fun _ _ _ h => ?_
       refine gs h (o_assign rfl) rfl fun _ _ _ h => ?_
       refine GoR.done ?_
       exact J3 r6 _ _ (som H).symm (h.wk (by rfl) [1, 2, 3] (by decide) (by rfl))
      ·have H := ifF c9 H
       refine gk h rfl rfl (nb_f c9) rfl fun _ h => ?_
       refine gs h (o_pickF rfl rfl c9) rfl fun _ _ _ h => ?_
       refine gs h (o_assign rfl) rfl fun _ _ _ h => ?_
       refine GoR.done ?_
       exact J3 false _ _ (som H).symm (h.wk (by rfl) [1, 2, 3] (by decide) (by rfl))
     ·have H := ifF c8 H
      refine g_f h rfl c8 ?_
      refine Go.skip ?_
      refine Go.seq ?_
      replace h := h.wk (E' := [(3, .pointer (some ⟨b1, 0, none⟩)), (10, v9)]) (L' := [Val (Kd.osl KCall) v9 r4.2.2.1, Fld KConn b3 0 r4.1, Fld KSeg b2 0 (⟨a1.Gport, a1.Rport, a3, 0, 4, 0, 0, []⟩ : TSeg), Fld KConn b1 0 a1]) (by rfl) [0, 1, 2, 3] (by decide) (by rfl)
      obtain ⟨o4, H, G4⟩ := bindE H
      refine g_cut (fun G => ∀ j4 (a : Act) (w : World), o4 = j4 → St Try.f3.ntmps F [(6, .bool j4)] [Fld KConn b3 0 r4.1, Fld KSeg b2 0 (⟨a1.Gport, a1.Rport, a3, 0, 4, 0, 0, []⟩ : TSeg), Fld KConn b1 0 a1] a w → G a w) 1 ?_ fun J4 => ?_
      ·intro j4 a w ho_ h
       rw [ho_] at G4
       have H := G4
       rw [← som H]
       exact g_ret (vs := [.bool j4]) h Try.func3 ⟨rfl, trivial⟩ ⟨(), rfl, (h.mem.pick [] (by decide) rfl)⟩
      by_cases c10 : decide ((r4.2.2.1.length : Int) = 1) = true
      ·have H := ifT c10 H
       obtain ⟨x1, ex1, H⟩ := bindE H
       by_cases c11 : decide (x1.Kind = 4) = true
       ·have H := ifT c11 H
        obtain ⟨x2, ex2, H⟩ := bindE H
        refine Go.draw (E := [(3, .pointer (some ⟨b1, 0, none⟩)), (10, v9)]) [] (L := [Val (Kd.osl KCall) v9 r4.2.2.1, Fld KConn b3 0 r4.1, Fld KSeg b2 0 (⟨a1.Gport, a1.Rport, a3, 0, 4, 0, 0, []⟩ : TSeg), Fld KConn b1 0 a1]) h rfl rfl 17 [⟨[], [], [], false, .con (v9), none, fun u => [], []⟩, ⟨[0], [], [], false, .con (.int .i64 (r4.2.2.1.length : Int)), none, fun u => [], []⟩, ⟨[0, 1], [], [], false, .con (.bool (decide ((r4.2.2.1.length : Int) = 1))), none, fun u => [], []⟩, ⟨[0, 1, 2], [], [], false, .con (.bool (decide ((r4.2.2.1.length : Int) = 1))), none, fun u => [], []⟩, ⟨[0, 1, 2, 3], [], [], false, .con (v9), none, fun u => [], []⟩, ⟨[0, 1, 2, 3, 4], [], [], false, .con (elemP v9 ((0 : Int).toNat * Kd.n KCall)), none, fun u => [], []⟩, ⟨[0, 1, 2, 3, 4, 5], [], [], false, .con (elemP v9 ((0 : Int).toNat * Kd.n KCall + 0)), none, fun u => [], []⟩, ⟨[0, 1, 2, 3, 4, 5, 6], [], [], false, .con (.int .i64 x1.Kind), none, fun u => [Ent.pur (InR .i64 x1.Kind)], []⟩, ⟨[0, 1, 2, 3, 4, 5, 6, 7], [], [], false, .con (.bool (decide (x1.Kind = 4))), none, fun u => [], []⟩, ⟨[0, 1, 2, 3, 4, 5, 6, 7, 8], [], [], false, .con (.bool (decide (x1.Kind = 4))), none, fun u => [], []⟩, ⟨[0, 1, 2, 3, 4, 5, 6, 7, 8, 9], [], [], false, .con (.bool (decide (x1.Kind = 4))), none, fun u => [], []⟩, ⟨[0, 1, 2, 3, 4, 5, 6, 7, 8, 9, 10], [], [], false, .con (v9), none, fun u => [], []⟩, ⟨[0, 1, 2, 3, 4, 5, 6, 7, 8, 9, 10, 11], [], [], false, .con (elemP v9 ((0 : Int).toNat * Kd.n KCall)), none, fun u => [], []⟩, ⟨[0, 1, 2, 3, 4, 5, 6, 7, 8, 9, 10, 11, 12], [], [], false, .con (elemP v9 ((0 : Int).toNat * Kd.n KCall + 1)), none, fun u => [], []⟩, ⟨[0, 1, 2, 3, 4, 5, 6, 7, 8, 9, 10, 11, 12, 13], [], [], false, .con (.int .i64 x2.Id), none, fun u => [Ent.pur (InR .i64 x2.Id)], []⟩, ⟨[0, 1, 2, 3, 4, 5, 6, 7, 8, 9, 10], [], [], false, .con (.pointer (some ⟨b1, 0, none⟩)), none, fun u => [], []⟩, ⟨[0, 1, 2, 3, 4, 5, 6, 7, 8, 9, 10, 15], [], [], false, .con (.int .i64 a1.Id), none, fun u => [Ent.pur (InR .i64 a1.Id)], []⟩] rfl t_mxo (by kernel_rfl) (by rfl) ?_ fun f1 _ _ h => ?_
        ·exact obs_cons (ob_con rfl (gok_none rfl) rfl fun f1 => (o_move rfl)) (obs_cons (ob_con rfl (gok_none rfl) rfl fun f1 => (o_ln rfl (rd_own 0 rfl) t_v32)) (obs_cons (ob_con rfl (gok_none rfl) rfl fun f1 => (o_bin rfl rfl rfl)) (obs_cons (ob_con rfl (gok_none rfl) rfl fun f1 => (o_move rfl)) (obs_cons (ob_con rfl (gok_some rfl rfl rfl (fun _ => rfl) c10) rfl fun f1 => (o_move rfl)) (obs_cons (ob_con rfl (gok_some rfl rfl rfl (fun _ => rfl) c10) rfl fun f1 => (o_ix rfl rfl (rd_own 0 rfl) ex1 t_v32)) (obs_cons (ob_con rfl (gok_some rfl rfl rfl (fun _ => rfl) c10) rfl fun f1 => (o_fae (k' := (0 : Int).toNat * Kd.n KCall + 0) rfl (rd_own 0 rfl) ex1 (by decide) t_f37_0 rfl rfl)) (obs_cons (ob_con rfl (gok_some rfl rfl rfl (fun _ => rfl) c10) rfl fun f1 => (OpS.pur (fun F w m_ => (in1 (rd_sub sCall_Kind (rd_own 0 rfl) ex1 m_))) (o_lsx rfl (rd_own 0 rfl) ex1 sCall_Kind X_int t_y3 (by decide)))) (obs_cons (ob_con rfl (gok_some rfl rfl rfl (fun _ => rfl) c10) rfl fun f1 => (o_bin rfl rfl rfl)) (obs_cons (ob_con rfl (gok_none rfl) rfl fun f1 => (o_pickT rfl rfl c10)) (obs_cons (ob_con rfl (gok_none rfl) rfl fun f1 => (o_move rfl)) (obs_cons (ob_con rfl (gok_some rfl rfl rfl (fun _ => rfl) c11) rfl fun f1 => (o_move rfl)) (obs_cons (ob_con rfl (gok_some rfl rfl rfl (fun _ => rfl) c11) rfl fun f1 => (o_ix rfl rfl (rd_own 0 rfl) ex2 t_v32)) (obs_cons (ob_con rfl (gok_some rfl rfl rfl (fun _ => rfl) c11) rfl fun f1 => (o_fae (k' := (0 : Int).toNat * Kd.n KCall + 1) rfl (rd_own 0 rfl) ex2 (by decide) t_f37_1 rfl rfl)) (obs_cons (ob_con rfl (gok_some rfl rfl rfl (fun _ => rfl) c11) rfl fun f1 => (OpS.pur (fun F w m_ => (in1 (rd_sub sCall_Id (rd_own 0 rfl) ex2 m_))) (o_lsx rfl (rd_own 0 rfl) ex2 sCall_Id X_int t_y3 (by decide)))) (obs_cons (ob_con rfl (gok_some rfl rfl rfl (fun _ => rfl) c11) rfl fun f1 => (o_fa rfl t_f26_0 rfl rfl)) (obs_cons (ob_con rfl (gok_some rfl rfl rfl (fun _ => rfl) c11) rfl fun f1 => (OpS.pur (fun F w m_ => (in2 (fd_sub sConn_Id 3 rfl m_))) (o_lfx 3 rfl rfl sConn_Id rfl X_int t_y3))) (obs_nil)))))))))))))))))
        replace h := h.wk (E' := [(79, .bool (decide (x1.Kind = 4))), (83, .int .i64 x2.Id), (85, .int .i64 a1.Id)]) (L' := [Ent.pur (InR .i64 x1.Kind), Ent.pur (InR .i64 x2.Id), Ent.pur (InR .i64 a1.Id), Val (Kd.osl KCall) v9 r4.2.2.1, Fld KConn b3 0 r4.1, Fld KSeg b2 0 (⟨a1.Gport, a1.Rport, a3, 0, 4, 0, 0, []⟩ : TSeg), Fld KConn b1 0 a1]) (by kernel_rfl) [0, 1, 2, 3, 4, 5, 6] (by decide) (by kernel_rfl)
        have g6 := (Mem.pur 1 rfl h.mem)
        have g7 := (Mem.pur 2 rfl h.mem)
        refine gg h rfl rfl c11 (o_bin rfl rfl rfl) rfl fun _ _ _ h => ?_
        refine gs h (o_pickT rfl rfl c11) rfl fun _ _ _ h => ?_
        refine gs h (o_move rfl) rfl fun _ _ _ h => ?_
        by_cases c12 : decide (x2.Id = a1.Id) = true
        ·have H := ifT c12 H
         obtain ⟨r7, er7, H⟩ := bindE H
         refine gg h rfl rfl c12 (o_call (law28_heads.spc  r7 er7) rfl [] [] (by decide) rfl rfl) rfl fun _ _ _ h => ?_
         refine gs h (o_pickT rfl rfl c12) rfl fun _ _ _ h => ?_
         refine gs h (o_assign rfl) rfl fun _ _ _ h => ?_
         refine GoR.done ?_
         exact J4 r7 _ _ (som H).symm (h.wk (by rfl) [4, 5, 6] (by decide) (by rfl))
        ·have H := ifF c12 H
         refine gk h rfl rfl (nb_f c12) rfl fun _ h => ?_
         refine gs h (o_pickF rfl rfl c12) rfl fun _ _ _ h => ?_
         refine gs h (o_assign rfl) rfl fun _ _ _ h => ?_
         refine GoR.done ?_
         exact J4 false _ _ (som H).symm (h.wk (by rfl) [4, 5, 6] (by decide) (by rfl))
       ·have H := ifF c11 H
        refine Go.draw (E := [(3, .pointer (some ⟨b1, 0, none⟩)), (10, v9)]) [] (L := [Val (Kd.osl KCall) v9 r4.2.2.1, Fld KConn b3 0 r4.1, Fld KSeg b2 0 (⟨a1.Gport, a1.Rport, a3, 0, 4, 0, 0, []⟩ : TSeg), Fld KConn b1 0 a1]) h rfl rfl 17 [⟨[], [], [], false, .con (v9), none, fun u => [], []⟩, ⟨[0], [], [], false, .con (.int .i64 (r4.2.2.1.length : Int)), none, fun u => [], []⟩, ⟨[0, 1], [], [], false, .con (.bool (decide ((r4.2.2.1.length : Int) = 1))), none, fun u => [], []⟩, ⟨[0, 1, 2], [], [], false, .con (.bool (decide ((r4.2.2.1.length : Int) = 1))), none, fun u => [], []⟩, ⟨[0, 1, 2, 3], [], [], false, .con (v9), none, fun u => [], []⟩, ⟨[0, 1, 2, 3, 4], [], [], false, .con (elemP v9 ((0 : Int).toNat * Kd.n KCall)), none, fun u => [], []⟩, ⟨[0, 1, 2, 3, 4, 5], [], [], false, .con (elemP v9 ((0 : Int).toNat * Kd.n KCall + 0)), none, fun u => [], []⟩, ⟨[0, 1, 2, 3, 4, 5, 6], [], [], false, .con (.int .i64 x1.Kind), none, fun u => [Ent.pur (InR .i64 x1.Kind)], []⟩, ⟨[0, 1, 2, 3, 4, 5, 6, 7], [], [], false, .con (.bool (decide (x1.Kind = 4))), none, fun u => [], []⟩, ⟨[0, 1, 2, 3, 4, 5, 6, 7, 8], [], [], false, .con (.bool (decide (x1.Kind = 4))), none, fun u => [], []⟩, ⟨[0, 1, 2, 3, 4, 5, 6, 7, 8, 9], [], [], false, .con (.bool (decide (x1.Kind = 4))), none, fun u => [], []⟩, ⟨[10], [], [], true, .con undef, none, fun u => [], []⟩, ⟨[10], [], [], true, .con undef, none, fun u => [], []⟩, ⟨[10], [], [], true, .con undef, none, fun u => [], []⟩, ⟨[10], [], [], true, .con undef, none, fun u => [], []⟩, ⟨[10], [], [], true, .con undef, none, fun u => [], []⟩, ⟨[10], [], [], true, .con undef, none, fun u => [], []⟩] rfl t_mxo (by kernel_rfl) (by rfl) ?_ fun f1 _ _ h => ?_
        ·exact obs_cons (ob_con rfl (gok_none rfl) rfl fun f1 => (o_move rfl)) (obs_cons (ob_con rfl (gok_none rfl) rfl fun f1 => (o_ln rfl (rd_own 0 rfl) t_v32)) (obs_cons (ob_con rfl (gok_none rfl) rfl fun f1 => (o_bin rfl rfl rfl)) (obs_cons (ob_con rfl (gok_none rfl) rfl fun f1 => (o_move rfl)) (obs_cons (ob_con rfl (gok_some rfl rfl rfl (fun _ => rfl) c10) rfl fun f1 => (o_move rfl)) (obs_cons (ob_con rfl (gok_some rfl rfl rfl (fun _ => rfl) c10) rfl fun f1 => (o_ix rfl rfl (rd_own 0 rfl) ex1 t_v32)) (obs_cons (ob_con rfl (gok_some rfl rfl rfl (fun _ => rfl) c10) rfl fun f1 => (o_fae (k' := (0 : Int).toNat * Kd.n KCall + 0) rfl (rd_own 0 rfl) ex1 (by decide) t_f37_0 rfl rfl)) (obs_cons (ob_con rfl (gok_some rfl rfl rfl (fun _ => rfl) c10) rfl fun f1 => (OpS.pur (fun F w m_ => (in1 (rd_sub sCall_Kind (rd_own 0 rfl) ex1 m_))) (o_lsx rfl (rd_own 0 rfl) ex1 sCall_Kind X_int t_y3 (by decide)))) (obs_cons (ob_con rfl (gok_some rfl rfl rfl (fun _ => rfl) c10) rfl fun f1 => (o_bin rfl rfl rfl)) (obs_cons (ob_con rfl (gok_none rfl) rfl fun f1 => (o_pickT rfl rfl c10)) (obs_cons (ob_con rfl (gok_none rfl) rfl fun f1 => (o_move rfl)) (obs_cons (ob_skip rfl rfl rfl rfl (fun _ => rfl) (nb_f c11) rfl rfl rfl rfl) (obs_cons (ob_skip rfl rfl rfl rfl (fun _ => rfl) (nb_f c11) rfl rfl rfl rfl) (obs_cons (ob_skip rfl rfl rfl rfl (fun _ => rfl) (nb_f c11) rfl rfl rfl rfl) (obs_cons (ob_skip rfl rfl rfl rfl (fun _ => rfl) (nb_f c11) rfl rfl rfl rfl) (obs_cons (ob_skip rfl rfl rfl rfl (fun _ => rfl) (nb_f c11) rfl rfl rfl rfl) (obs_cons (ob_skip rfl rfl rfl rfl (fun _ => rfl) (nb_f c11) rfl rfl rfl rfl) (obs_nil)))))))))))))))))
        replace h := h.wk (E' := [(79, .bool (decide (x1.Kind = 4)))]) (L' := [Ent.pur (InR .i64 x1.Kind), Val (Kd.osl KCall) v9 r4.2.2.1, Fld KConn b3 0 r4.1, Fld KSeg b2 0 (⟨a1.Gport, a1.Rport, a3, 0, 4, 0, 0, []⟩ : TSeg), Fld KConn b1 0 a1]) (by kernel_rfl) [0, 1, 2, 3, 4] (by decide) (by kernel_rfl)
        refine gk h rfl rfl (nb_f c11) rfl fun _ h => ?_
        refine gs h (o_pickF rfl rfl c11) rfl fun _ _ _ h => ?_
        refine gs h (o_move rfl) rfl fun _ _ _ h => ?_
        refine gk h rfl rfl (nb_f Bool.false_ne_true) rfl fun _ h => ?_
        refine gs h (o_pickF rfl rfl Bool.false_ne_true) rfl fun _ _ _ h => ?_
        refine gs h (o_assign rfl) rfl fun _ _ _ h => ?_
        refine GoR.done ?_
        exact J4 false _ _ (som H).symm (h.wk (by rfl) [2, 3, 4] (by decide) (by rfl))
      ·have H := ifF c10 H
       refine Go.draw (E := [(3, .pointer (some ⟨b1, 0, none⟩)), (10, v9)]) [] (L := [Val (Kd.osl KCall) v9 r4.2.2.1, Fld KConn b3 0 r4.1, Fld KSeg b2 0 (⟨a1.Gport, a1.Rport, a3, 0, 4, 0, 0, []⟩ : TSeg), Fld KConn b1 0 a1]) h rfl rfl 17 [⟨[], [], [], false, .con (v9), none, fun u => [], []⟩, ⟨[0], [], [], false, .con (.int .i64 (r4.2.2.1.length : Int)), none, fun u => [], []⟩, ⟨[0, 1], [], [], false, .con (.bool (decide ((r4.2.2.1.length : Int) = 1))), none, fun u => [], []⟩, ⟨[0, 1, 2], [], [], false, .con (.bool (decide ((r4.2.2.1.length : Int) = 1))), none, fun u => [], []⟩, ⟨[3], [], [], true, .con undef, none, fun u => [], []⟩, ⟨[3], [], [], true, .con undef, none, fun u => [], []⟩, ⟨[3], [], [], true, .con undef, none, fun u => [], []⟩, ⟨[3], [], [], true, .con undef, none, fun u => [], []⟩, ⟨[3], [], [], true, .con undef, none, fun u => [], []⟩, ⟨[0, 1, 2, 3, 4, 5, 6, 7, 8], [], [], false, .con (.bool false), none, fun u => [], []⟩, ⟨[0, 1, 2, 3, 4, 5, 6, 7, 8, 9], [], [], false, .con (.bool false), none, fun u => [], []⟩, ⟨[10], [], [], true, .con undef, none, fun u => [], []⟩, ⟨[10], [], [], true, .con undef, none, fun u => [], []⟩, ⟨[10], [], [], true, .con undef, none, fun u => [], []⟩, ⟨[10], [], [], true, .con undef, none, fun u => [], []⟩, ⟨[10], [], [], true, .con undef, none, fun u => [], []⟩, ⟨[10], [], [], true, .con undef, none, fun u => [], []⟩] rfl t_mxo (by kernel_rfl) (by rfl) ?_ fun f1 _ _ h => ?_
       ·exact obs_cons (ob_con rfl (gok_none rfl) rfl fun f1 => (o_move rfl)) (obs_cons (ob_con rfl (gok_none rfl) rfl fun f1 => (o_ln rfl (rd_own 0 rfl) t_v32)) (obs_cons (ob_con rfl (gok_none rfl) rfl fun f1 => (o_bin rfl rfl rfl)) (obs_cons (ob_con rfl (gok_none rfl) rfl fun f1 => (o_move rfl)) (obs_cons (ob_skip rfl rfl rfl rfl (fun _ => rfl) (nb_f c10) rfl rfl rfl rfl) (obs_cons (ob_skip rfl rfl rfl rfl (fun _ => rfl) (nb_f c10) rfl rfl rfl rfl) (obs_cons (ob_skip rfl rfl rfl rfl (fun _ => rfl) (nb_f c10) rfl rfl rfl rfl) (obs_cons (ob_skip rfl rfl rfl rfl (fun _ => rfl) (nb_f c10) rfl rfl rfl rfl) (obs_cons (ob_skip rfl rfl rfl rfl (fun _ => rfl) (nb_f c10) rfl rfl rfl rfl) (obs_cons (ob_con rfl (gok_none rfl) rfl fun f1 => (o_pickF rfl rfl c10)) (obs_cons (ob_con rfl (gok_none rfl) rfl fun f1 => (o_move rfl)) (obs_cons (ob_skip rfl rfl rfl rfl (fun _ => rfl) (nb_f Bool.false_ne_true) rfl rfl rfl rfl) (obs_cons (ob_skip rfl rfl rfl rfl (fun _ => rfl) (nb_f Bool.false_ne_true) rfl rfl rfl rfl) (obs_cons (ob_skip rfl rfl rfl rfl (fun _ => rfl) (nb_f Bool.false_ne_true) rfl rfl rfl rfl) (obs_cons (ob_skip rfl rfl rfl rfl (fun _ => rfl) (nb_f Bool.false_ne_true) rfl rfl rfl rfl) (obs_cons (ob_skip rfl rfl rfl rfl (fun _ => rfl) (nb_f Bool.false_ne_true) rfl rfl rfl rfl) (obs_cons (ob_skip rfl rfl rfl rfl (fun _ => rfl) (nb_f Bool.false_ne_true) rfl rfl rfl rfl) (obs_nil)))))))))))))))))
       replace h := h.wk (E' := [(79, .bool false)]) (L' := [Val (Kd.osl KCall) v9 r4.2.2.1, Fld KConn b3 0 r4.1, Fld KSeg b2 0 (⟨a1.Gport, a1.Rport, a3, 0, 4, 0, 0, []⟩ : TSeg), Fld KConn b1 0 a1]) (by kernel_rfl) [0, 1, 2, 3] (by decide) (by kernel_rfl)
       refine gk h rfl rfl (nb_f Bool.false_ne_true) rfl fun _ h => ?_
       refine gs h (o_pickF rfl rfl Bool.false_ne_true) rfl fun _ _ _ h => ?_
       refine gs h (o_move rfl) rfl fun _ _ _ h => ?_
       refine gk h rfl rfl (nb_f Bool.false_ne_true) rfl fun _ h => ?_
       refine gs h (o_pickF rfl rfl Bool.false_ne_true) rfl fun _ _ _ h => ?_
       refine gs h (o_assign rfl) rfl fun _ _ _ h => ?_
       refine GoR.done ?_
       exact J4 false _ _ (som H).symm (h.wk (by rfl) [1, 2, 3] (by decide) (by rfl))
   refine Go.reg ?_
   refine gs h (o_ldv 0 rfl rfl PConn t_y26) rfl fun v10 _ _ h => ?_
   refine gs h (o_ldv 9 rfl rfl PConn t_y26) rfl fun v11 _ _ h => ?_
   obtain ⟨r5, er5, H⟩ := bindE H
   refine gs h (o_call (ref28_Same.spc v10 r4.1 v11 a1 r5 er5) rfl [1, 0] [] (by decide) rfl rfl) rfl fun _ _ _ h => ?_
   refine gs h (o_not rfl) rfl fun _ _ _ h => ?_
   refine gs h (o_move rfl) rfl fun _ _ _ h => ?_
   by_cases c5 : (!r5) = true
   ·have H := ifT c5 H
    iterate 3 (refine gk h rfl rfl (nb_t c5) rfl fun _ h => ?_)
    refine gs h (o_pickT rfl rfl c5) rfl fun _ _ _ h => ?_
    refine gs h (o_move rfl) rfl fun _ _ _ h => ?_
    iterate 6 (refine gk h rfl rfl (nb_t rfl) rfl fun _ h => ?_)
    refine gs h (o_pickT rfl rfl rfl) rfl fun _ _ _ h => ?_
    refine GoR.done ?_
    exact J2 true _ _ (som H).symm (h.wk (by rfl) [5, 2, 8, 10] (by decide) (by rfl))
   ·have H := ifF c5 H
    refine gg h rfl rfl (nbF c5) (o_move rfl) rfl fun _ _ _ h => ?_
    have g3 := (len_own 4 rfl h.mem)
    refine gg h rfl rfl (nbF c5) (o_ln rfl (rd_own 4 rfl) t_v31) rfl fun _ _ _ h => ?_
    refine gg h rfl rfl (nbF c5) (o_bin rfl rfl rfl) rfl fun _ _ _ h => ?_
    refine gs h (o_pickF rfl rfl c5) rfl fun _ _ _ h => ?_
    refine gs h (o_move rfl) rfl fun _ _ _ h => ?_
    by_cases c6 : (!decide ((r4.2.1.length : Int) = 0)) = true
    ·have H := ifT c6 H
     iterate 6 (refine gk h rfl rfl (nb_t c6) rfl fun _ h => ?_)
     refine gs h (o_pickT rfl rfl c6) rfl fun _ _ _ h => ?_
     refine GoR.done ?_
     exact J2 true _ _ (som H).symm (h.wk (by rfl) [5, 2, 8, 10] (by decide) (by rfl))
    ·have H := ifF c6 H
     refine gg h rfl rfl (nbF c6) (o_move rfl) rfl fun _ _ _ h => ?_
     refine gg h rfl rfl (nbF c6) (o_move rfl) rfl fun _ _ _ h => ?_
     refine gg h rfl rfl (nbF c6) (o_fa rfl t_f26_11 rfl rfl) rfl fun _ _ _ h => ?_
     have g4 := (in2 (fd_sub sConn_Want 10 rfl h.mem))
     refine gg h rfl rfl (nbF c6) (o_lfx 10 rfl rfl sConn_Want rfl X_int t_y22) rfl fun _ _ _ h => ?_
     refine gg h rfl rfl (nbF c6) (o_bin rfl rfl rfl) rfl fun _ _ _ h => ?_
     refine gg h rfl rfl (nbF c6) (o_neb rfl rfl t_u4) rfl fun _ _ _ h => ?_
     refine gs h (o_pickF rfl rfl c6) rfl fun _ _ _ h => ?_
     refine GoR.done ?_
     exact J2 (!(r4.2.2.2 == (decide (a3 = a1.Want)))) _ _ (som H).symm (h.wk (by rfl) [5, 2, 8, 10] (by decide) (by rfl))
 refine Go.reg ?_
 refine gs h (o_ldv 0 rfl rfl PConn t_y26) rfl fun v2 _ _ h => ?_
 obtain ⟨r1, er1, H⟩ := bindE H
 refine gs h (o_call (law28_small.spc v2 a1 r1 er1) rfl [0] [] (by decide) rfl rfl) rfl fun _ _ _ h => ?_
 refine gs h (o_not rfl) rfl fun _ _ _ h => ?_
 refine gs h (o_move rfl) rfl fun _ _ _ h => ?_
 by_cases c1 : (!r1) = true
 ·have H := ifT c1 H
  iterate 3 (refine gk h rfl rfl (nb_t c1) rfl fun _ h => ?_)
  refine gs h (o_pickT rfl rfl c1) rfl fun _ _ _ h => ?_
  refine gs h (o_move rfl) rfl fun _ _ _ h => ?_
  refine gk h rfl rfl (nb_t rfl) rfl fun _ h => ?_
  refine gk h rfl rfl (nb_t rfl) rfl fun _ h => ?_
  refine gs h (o_pickT rfl rfl rfl) rfl fun _ _ _ h => ?_
  refine gs h (o_move rfl) rfl fun _ _ _ h => ?_
  refine gk h rfl rfl (nb_t rfl) rfl fun _ h => ?_
  refine gk h rfl rfl (nb_t rfl) rfl fun _ h => ?_
  refine gs h (o_pickT rfl rfl rfl) rfl fun _ _ _ h => ?_
  refine GoR.done ?_
  exact J1 true _ _ (som H).symm (h.wk (by rfl) [1] (by decide) (by rfl))
 ·have H := ifF c1 H
  refine gg h rfl rfl (nbF c1) (o_ldv 1 rfl rfl PConn t_y26) rfl fun v3 _ _ h => ?_
  obtain ⟨r2, er2, H⟩ := bindE H
  refine gg h rfl rfl (nbF c1) (o_call (splice_Check.spc v3 a1 r2 er2) rfl [0] [] (by decide) rfl rfl) rfl fun _ _ _ h => ?_
  refine gg h rfl rfl (nbF c1) (o_not rfl) rfl fun _ _ _ h => ?_
  refine gs h (o_pickF rfl rfl c1) rfl fun _ _ _ h => ?_
  refine gs h (o_move rfl) rfl fun _ _ _ h => ?_
  by_cases c2 : (!r2) = true
  ·have H := ifT c2 H
   refine gk h rfl rfl (nb_t c2) rfl fun _ h => ?_
   refine gk h rfl rfl (nb_t c2) rfl fun _ h => ?_
   refine gs h (o_pickT rfl rfl c2) rfl fun _ _ _ h => ?_
   refine gs h (o_move rfl) rfl fun _ _ _ h => ?_
   refine gk h rfl rfl (nb_t rfl) rfl fun _ h => ?_
   refine gk h rfl rfl (nb_t rfl) rfl fun _ h => ?_
   refine gs h (o_pickT rfl rfl rfl) rfl fun _ _ _ h => ?_
   refine GoR.done ?_
   exact J1 true _ _ (som H).symm (h.wk (by rfl) [2] (by decide) (by rfl))
  ·have H := ifF c2 H
   refine gg h rfl rfl (nbF c2) (o_move rfl) rfl fun _ _ _ h => ?_
   refine gg h rfl rfl (nbF c2) (o_bin rfl rfl rfl) rfl fun _ _ _ h => ?_
   refine gs h (o_pickF rfl rfl c2) rfl fun _ _ _ h => ?_
   refine gs h (o_move rfl) rfl fun _ _ _ h => ?_
   by_cases c3 : decide (a2 < 0) = true
   ·have H := ifT c3 H
    refine gk h rfl rfl (nb_t c3) rfl fun _ h => ?_
    refine gk h rfl rfl (nb_t c3) rfl fun _ h => ?_
    refine gs h (o_pickT rfl rfl c3) rfl fun _ _ _ h => ?_
    refine GoR.done ?_
    exact J1 true _ _ (som H).symm (h.wk (by rfl) [2] (by decide) (by rfl))
   ·have H := ifF c3 H
    refine gg h rfl rfl (nbF c3) (o_move rfl) rfl fun _ _ _ h => ?_
    refine gg h rfl rfl (nbF c3) (o_bin rfl rfl rfl) rfl fun _ _ _ h => ?_
    refine gs h (o_pickF rfl rfl c3) rfl fun _ _ _ h => ?_
    refine GoR.done ?_
    exact J1 (decide (549755813888 < a2)) _ _ (som H).symm (h.wk (by rfl) [2] (by decide) (by rfl))
def law28_SpliceResets.g (k_ : Nat) (a1 : TConn) (a2 : Int) (a3 : Int) : Option (Bool) :=
  ((law28_small.g k_ a1).bind fun r1 => (if (!r1) = true then some (true) else (splice_Check.g k_ a1).bind fun r2 => (if (!r2) = true then some (true) else (if decide (a2 < 0) = true then some (true) else some (decide (549755813888 < a2)))))).bind (fun j1 => (if j1 = true then (law28_heads.g k_).bind fun r3 => some (r3) else (splice_Take.g k_ a1 a2 (⟨a1.Gport, a1.Rport, a3, 0, 4, 0, 0, []⟩ : TSeg)).bind fun r4 => ((ref28_Same.g k_ r4.1 a1).bind fun r5 => (if (!r5) = true then some (true) else (if (!decide ((r4.2.1.length : Int) = 0)) = true then some (true) else some ((!(r4.2.2.2 == (decide (a3 = a1.Want)))))))).bind (fun j2 => (if j2 = true then some (false) else (if (!r4.2.2.2) = true then ((if decide ((r4.2.2.1.length : Int) = 0) = true then (law28_heads.g k_).bind fun r6 => some (r6) else some (false))).bind (fun j3 => some (j3)) else ((if decide ((r4.2.2.1.length : Int) = 1) = true then (idx r4.2.2.1 0).bind fun x1 => (if decide (x1.Kind = 4) = true then (idx r4.2.2.1 0).bind fun x2 => (if decide (x2.Id = a1.Id) = true then (law28_heads.g k_).bind fun r7 => some (r7) else some (false)) else some (false)) else some (false))).bind (fun j4 => some (j4)))))))
theorem law28_SpliceResets.le (k_ : Nat) (a1 : TConn) (a2 : Int) (a3 : Int) : Le (law28_SpliceResets.g k_ a1 a2 a3) (law28_SpliceResets.f a1 a2 a3) := by
 unfold law28_SpliceResets.g law28_SpliceResets.f
 repeat' (first | with_reducible refine le_loop fun _ => ?_ | with_reducible refine le_bind ?_ fun _ => ?_ | with_reducible refine le_ite ?_ ?_ | with_reducible refine le_lt fun _ => ?_ | with_reducible refine le_elim (fun _ => ?_) (fun _ => ?_) _ | with_reducible apply law28_heads.le | with_reducible apply law28_small.le | with_reducible apply ref28_Same.le | with_reducible apply splice_Check.le | with_reducible apply splice_Take.le | with_reducible exact le_refl _)
end Go.Proofs.Ytpcbhkigmnpimaa.S
