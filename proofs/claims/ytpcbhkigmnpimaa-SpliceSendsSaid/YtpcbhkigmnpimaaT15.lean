/- Contracts, printed by a program of this session. -/
import Derived.Test.YtpcbhkigmnpimaaT1
import Derived.Test.YtpcbhkigmnpimaaT13
import Derived.Test.YtpcbhkigmnpimaaT14
namespace Go.Proofs.Ytpcbhkigmnpimaa.S
open Go Go.SL Go.RowKit
set_option linter.unusedVariables false
set_option linter.unusedSimpArgs false
/-! drawbridge/drawbridgelaw28.SpliceSends -/
noncomputable def law28_SpliceSends.f (a1 : TSeg) (a2 : Int) (a3 : List TEv) : Option (Bool) :=
  (law28_fits.f a3).bind fun r1 => (if (!r1) = true then (law28_heads.f).bind fun r2 => some (r2) else (law28_begin.f a1 a2).bind fun r3 => (if (!r3.2) = true then (law28_heads.f).bind fun r4 => some (r4) else (r3.1).bind fun y1 => (loop (fun s1 => ((if decide (s1.1 < (a3.length : Int)) = true then some ((!s1.2.gone)) else some (false))).bind (fun j1 => (if j1 = true then (idx a3 s1.1).bind fun x1 => (law28_play_do.f s1.2 x1).bind fun r5 => lt (IntKind.i64.wrap (s1.1 + 1)) fun y2 => some (.inl (y2, r5)) else some (.inr (s1.2))))) (0, y1)).bind (fun j2 => (loop (fun s2 => (if decide (s2 < (j2.segs.length : Int)) = true then (idx j2.segs s2).bind fun x2 => lt (IntKind.u32.wrap ((IntKind.u32.wrap (x2.Seq - a2)) - 1)) fun y3 => ((if (!decide (x2.Src = a1.Dst)) = true then some (true) else (if (!decide (x2.Dst = a1.Src)) = true then some (true) else (if decide (0 < (x2.Data.length : Int)) = true then (if decide (y3 < 0) = true then some (true) else (if decide ((IntKind.i64.wrap ((j2.gave.length : Int) - (x2.Data.length : Int))) < y3) = true then some (true) else (cut j2.gave y3 (IntKind.i64.wrap (y3 + (x2.Data.length : Int)))).bind fun x3 => (ref01_Same.f x3 x2.Data).bind fun r6 => some ((!r6)))) else some (false))))).bind (fun j3 => (if j3 = true then some (.inr (.inr (false))) else lt (IntKind.i64.wrap (s2 + 1)) fun y4 => some (.inl y4))) else some (.inr (.inl (()))))) 0).bind (Sum.elim (fun j4 => (law28_heads.f).bind fun r7 => some (r7)) (fun z_ => some (z_))))))
set_option maxRecDepth 100000 in
set_option maxHeartbeats 4000000 in
theorem law28_SpliceSends.spc (v1 : Value) (a1 : TSeg) (a2 : Int) (ha2 : InR .u32 a2) (v2 : Value) (a3 : List TEv) (r : Bool) (H : law28_SpliceSends.f a1 a2 a3 = some r) : Spc Try.prog 7 [v1, .int .u32 a2, v2] [Val KSeg v1 a1, Val (Kd.sl KEv) v2 a3] [] (fun (s : Unit) => .bool r) (fun s => []) := by
 unfold law28_SpliceSends.f at H
 refine Spc.go Try.func7 rfl (by kernel_rfl) rfl rfl (all_cons (Val.per PSeg) (all_cons (Val.per Per_sl) all_nil)) fun F a w h => ?_
 refine Go.seq ?_
 refine Go.reg ?_
 refine gs h (o_box (K := KSeg) rfl (pv_at PSeg 0 rfl)) rfl fun b1 _ _ h => ?_
 refine ga h (o_assign rfl) rfl fun h => ?_
 refine GoR.done ?_
 refine Go.seq ?_
 refine Go.seq ?_
 refine Go.reg ?_
 refine mv h rfl rfl fun h => ?_
 obtain ⟨r1, er1, H⟩ := bindE H
 refine ga h (o_call (law28_fits.spc v2 a3 r1 er1) rfl [2] [] (by decide) rfl rfl) rfl fun h => ?_
 refine ga h (o_not rfl) rfl fun h => ?_
 refine GoR.done ?_
 by_cases c1 : (!r1) = true
 ·have H := ifT c1 H
  refine g_t h rfl c1 ?_
  refine Go.seq ?_
  refine Go.reg ?_
  obtain ⟨r2, er2, H⟩ := bindE H
  refine ga h (o_call (law28_heads.spc  r2 er2) rfl [] [] (by decide) rfl rfl) rfl fun h => ?_
  refine ga h (o_assign rfl) rfl fun h => ?_
  refine GoR.done ?_
  rw [← som H]
  exact g_ret (vs := [.bool r2]) h Try.func7 ⟨rfl, trivial⟩ ⟨(), rfl, (h.mem.pick [] (by decide) rfl)⟩
 ·have H := ifF c1 H
  refine g_f h rfl c1 ?_
  refine Go.skip ?_
  refine Go.seq ?_
  refine Go.reg ?_
  refine gs h (o_ldv 0 rfl rfl PSeg t_y30) rfl fun v3 _ _ h => ?_
  refine mv h rfl rfl fun h => ?_
  obtain ⟨r3, er3, H⟩ := bindE H
  refine gs h (o_call (law28_begin.spc v3 a1 a2 ha2 r3 er3) rfl [0] [] (by decide) rfl rfl) rfl fun v4 _ _ h => ?_
  refine mv h rfl rfl fun h => ?_
  refine ga h (o_extract rfl rfl) rfl fun h => ?_
  refine ga h (o_extract rfl rfl) rfl fun h => ?_
  refine ga h (o_assign rfl) rfl fun h => ?_
  refine ga h (o_assign rfl) rfl fun h => ?_
  refine GoR.done ?_
  refine Go.seq ?_
  refine Go.seq ?_
  refine Go.reg ?_
  refine mv h rfl rfl fun h => ?_
  refine ga h (o_not rfl) rfl fun h => ?_
  refine GoR.done ?_
  by_cases c2 : (!r3.2) = true
  ·have H := ifT c2 H
   refine g_t h rfl c2 ?_
   refine Go.seq ?_
   refine Go.reg ?_
   obtain ⟨r4, er4, H⟩ := bindE H
   refine ga h (o_call (law28_heads.spc  r4 er4) rfl [] [] (by decide) rfl rfl) rfl fun h => ?_
   refine ga h (o_assign rfl) rfl fun h => ?_
   refine GoR.done ?_
   rw [← som H]
   exact g_ret (vs := [.bool r4]) h Try.func7 ⟨rfl, trivial⟩ ⟨(), rfl, (h.mem.pick [] (by decide) rfl)⟩
  ·have H := ifF c2 H
   refine g_f h rfl c2 ?_
   refine Go.skip ?_
   refine Go.seq ?_
   refine Go.seq ?_
   refine Go.reg ?_
   refine ga h (o_assign rfl) rfl fun h => ?_
   refine GoR.done ?_
   refine Go.block ?_
   obtain ⟨y1, ey1, H⟩ := bindE H
   obtain ⟨b2, eb2, h⟩ := h.unb 0 rfl ey1
   subst eb2
   obtain ⟨o1, hl, G1⟩ := bindE H
   refine g_cut (fun G => ∀ j2 (a : Act) (w : World), o1 = j2 → St Try.f7.ntmps F [(1, .int .u32 a2), (3, pt b1), (7, pt b2)] [Fld Kplay b2 0 j2, Fld KSeg b1 0 a1] a w → G a w) 2 ?_ fun J2 => ?_
   ·intro j2 a w ho_ h
    rw [ho_] at G1
    have H := G1
    refine Go.seq ?_
    refine Go.seq ?_
    refine Go.reg ?_
    refine ga h (o_assign rfl) rfl fun h => ?_
    refine GoR.done ?_
    refine Go.block ?_
    replace h := h.mm fun m => m.rofrz (show RO Kplay KplayR from ro_iso (ro_pair (ro_per PConn) (ro_pair (ro_per Per_int) (ro_pair ro_osl (ro_pair ro_osl (ro_pair ro_osl (ro_pair (ro_per Per_bool) (ro_last (ro_per Per_int))))))))) 0 rfl
    obtain ⟨o3, hl, G3⟩ := bindE H
    refine g_cut (fun G => ∀ j4 (a : Act) (w : World), o3 = .inl (j4) → St Try.f7.ntmps F [] [Fld KSeg b1 0 a1, Pfl KplayR b2 0 j2] a w → G a w) 2 ?_ fun J4 => ?_
    ·intro j4 a w ho_ h
     rw [ho_] at G3
     have H := eInl G3
     refine Go.seq ?_
     refine Go.reg ?_
     obtain ⟨r7, er7, H⟩ := bindE H
     refine ga h (o_call (law28_heads.spc  r7 er7) rfl [] [] (by decide) rfl rfl) rfl fun h => ?_
     refine ga h (o_assign rfl) rfl fun h => ?_
     refine GoR.done ?_
     rw [← som H]
     exact g_ret (vs := [.bool r7]) h Try.func7 ⟨rfl, trivial⟩ ⟨(), rfl, (h.mem.pick [] (by decide) rfl)⟩
    refine g_loop (fun s2 G => ∀  (a : Act) (w : World), InR .i64 s2 → St Try.f7.ntmps F [(1, .int .u32 a2), (3, pt b1), (7, pt b2), (10, .int .i64 s2)] [Fld KSeg b1 0 a1, Pfl KplayR b2 0 j2] a w → G a w) hl (fun s2 p2 H i2 => ?_) fun I_ => ?_
    ·intro  a w g3 h
     refine Go.seq ?_
     refine Go.seq ?_
     refine Go.reg ?_
     refine mv h rfl rfl fun h => ?_
     refine mv h rfl rfl fun h => ?_
     refine ga h (o_nilc rfl) rfl fun h => ?_
     refine ga h (o_fa rfl t_f48_4 rfl rfl) rfl fun h => ?_
     refine gs h (p_lfv 1 rfl rfl splayR_segs rfl t_y31) rfl fun v6 _ _ h => ?_
     have g4 := (len_at 0 rfl h.mem)
     refine ga h (o_ln rfl (rd_at 0 rfl) t_v31) rfl fun h => ?_
     refine ga h (o_bin rfl rfl rfl) rfl fun h => ?_
     refine GoR.done ?_
     by_cases c5 : decide (s2 < (j2.segs.length : Int)) = true
     ·have H := ifT c5 H
      refine g_t h rfl c5 ?_
      refine Go.skip ?_
      refine Go.seq ?_
      refine Go.block ?_
      refine Go.seq ?_
      refine Go.reg ?_
      refine mv h rfl rfl fun h => ?_
      refine ga h (o_nilc rfl) rfl fun h => ?_
      refine ga h (o_fa rfl t_f48_4 rfl rfl) rfl fun h => ?_
      refine gs h (p_lfv 2 rfl rfl splayR_segs rfl t_y31) rfl fun v7 _ _ h => ?_
      refine mv h rfl rfl fun h => ?_
      obtain ⟨x2, ex2, H⟩ := bindE H
      refine ga h (o_ix rfl rfl (rd_at 0 rfl) ex2 t_v31) rfl fun h => ?_
      refine gs h (o_lev rfl (rd_at 0 rfl) ex2 t_y30 (by decide)) rfl fun v8 _ _ h => ?_
      refine gs h (o_alloc (K := KSeg) (z := (.agg #[.int .i64 0, .int .i64 0, .int .u32 0, .int .u32 0, .int .i64 0, .int .i64 0, .int .i64 0, .slice none 0 0])) rfl ZSeg) rfl fun b3 _ _ h => ?_
      refine gs0 h (o_st 0 rfl rfl rfl (pv_at PSeg 1 rfl) rfl t_w30) fun _ _ _ h => ?_
      refine GoR.done ?_
      refine Go.seq ?_
      refine Go.reg ?_
      refine ga h (o_fa rfl t_f30_2 rfl rfl) rfl fun h => ?_
      have g5 := (in2 (fd_sub sSeg_Seq 0 rfl h.mem))
      refine ga h (o_lfx 0 rfl rfl sSeg_Seq rfl X_int t_y22) rfl fun h => ?_
      refine mv h rfl rfl fun h => ?_
      refine ga h (o_bin rfl rfl rfl) rfl fun h => ?_
      refine ga h (o_bin rfl rfl rfl) rfl fun h => ?_
      refine ga h (o_convw rfl t_q22 t_u3 (wrap_in _ _) rfl) rfl fun h => ?_
      obtain ⟨y3, ey3, H⟩ := ltE H
      refine ga h (o_assign' rfl (congrArg (fun z => Value.int .i64 z) ey3)) rfl fun h => ?_
      refine GoR.done ?_
      refine Go.seq ?_
      replace h := h.wq [(1, .int .u32 a2), (3, pt b1), (7, pt b2), (10, .int .i64 s2), (11, pt b3), (12, .int .i64 y3)] [Fld KSeg b3 0 x2, Val KSeg v8 x2, Val (Kd.sl KSeg) v7 j2.segs, Val (Kd.sl KSeg) v6 j2.segs, Fld KSeg b1 0 a1, Pfl KplayR b2 0 j2] [0, 1, 2, 3, 4, 5]
      obtain ⟨o4, H, G4⟩ := bindE H
      refine g_cut (fun G => ∀ j3 (a : Act) (w : World), o4 = j3 → St Try.f7.ntmps F [(1, .int .u32 a2), (3, pt b1), (7, pt b2), (10, .int .i64 s2), (118, .bool j3)] [Fld KSeg b3 0 x2, Fld KSeg b1 0 a1, Pfl KplayR b2 0 j2] a w → G a w) 1 ?_ fun J3 => ?_
      ·intro j3 a w ho_ h
       rw [ho_] at G4
       have H := G4
       by_cases c11 : j3 = true
       ·have H := ifT c11 H
        refine g_t h rfl c11 ?_
        refine Go.seq ?_
        refine Go.reg ?_
        refine ga h (o_assign rfl) rfl fun h => ?_
        refine GoR.done ?_
        have e_ := som H; subst e_
        rw [← nx_out i2] at G3
        have H := G3
        rw [← som H]
        exact g_ret (vs := [.bool false]) h Try.func7 ⟨rfl, trivial⟩ ⟨(), rfl, (h.mem.pick [] (by decide) rfl)⟩
       ·have H := ifF c11 H
        refine g_f h rfl c11 ?_
        refine Go.skip ?_
        refine Go.inBlock ?_
        refine Go.reg ?_
        refine mv h rfl rfl fun h => ?_
        refine ga h (o_bin rfl rfl rfl) rfl fun h => ?_
        obtain ⟨y4, ey4, H⟩ := ltE H
        refine ga h (o_assign' rfl (congrArg (fun z => Value.int .i64 z) ey4)) rfl fun h => ?_
        refine GoR.done ?_
        have e_ := som H; subst e_
        exact Go.inLoop (nx_in i2 _ _ (ey4 ▸ (wrap_in _ _)) (h.wr [1, 2]))
      by_cases c6 : (!decide (x2.Src = a1.Dst)) = true
      ·have H := ifT c6 H
       refine Go.draw (E := [(1, .int .u32 a2), (3, pt b1), (7, pt b2), (10, .int .i64 s2), (11, pt b3), (12, .int .i64 y3)]) [] (L := [Fld KSeg b3 0 x2, Val KSeg v8 x2, Val (Kd.sl KSeg) v7 j2.segs, Val (Kd.sl KSeg) v6 j2.segs, Fld KSeg b1 0 a1, Pfl KplayR b2 0 j2]) h rfl rfl 47 [cn (pt b3), cm [0] [] [] (.int .i64 x2.Src) fun u => [Ent.pur (InR .i64 x2.Src)], cn (.pointer (some ⟨b1, 1, none⟩)), cm [2] [] [] (.int .i64 a1.Dst) fun u => [Ent.pur (InR .i64 a1.Dst)], ce [0, 1, 2, 3] (.bool (!decide (x2.Src = a1.Dst))), ce [0, 1, 2, 3, 4] (.bool (!decide (x2.Src = a1.Dst))), ⟨[5], [], [], true, .con undef, none, fun u => [], []⟩, ⟨[5], [], [], true, .con undef, none, fun u => [], []⟩, ⟨[5], [], [], true, .con undef, none, fun u => [], []⟩, ⟨[5], [], [], true, .con undef, none, fun u => [], []⟩, ⟨[5], [], [], true, .con undef, none, fun u => [], []⟩, ce [0, 1, 2, 3, 4, 5, 6, 7, 8, 9, 10] (.bool true), ce [0, 1, 2, 3, 4, 5, 6, 7, 8, 9, 10, 11] (.bool true), ⟨[12], [], [], true, .con undef, none, fun u => [], []⟩, ⟨[12], [], [], true, .con undef, none, fun u => [], []⟩, ⟨[12], [], [], true, .con undef, none, fun u => [], []⟩, ⟨[12], [], [], true, .con undef, none, fun u => [], []⟩, ⟨[12], [], [], true, .con undef, none, fun u => [], []⟩, ⟨[17], [], [], true, .con undef, none, fun u => [], []⟩, ⟨[17], [], [], true, .con undef, none, fun u => [], []⟩, ⟨[17], [], [], true, .con undef, none, fun u => [], []⟩, ⟨[20], [], [], true, .con undef, none, fun u => [], []⟩, ⟨[20], [], [], true, .con undef, none, fun u => [], []⟩, ⟨[20], [], [], true, .con undef, none, fun u => [], []⟩, ⟨[20], [], [], true, .con undef, none, fun u => [], []⟩, ⟨[20], [], [], true, .con undef, none, fun u => [], []⟩, ⟨[20], [], [], true, .con undef, none, fun u => [], []⟩, ⟨[20], [], [], true, .con undef, none, fun u => [], []⟩, ⟨[20], [], [], true, .con undef, none, fun u => [], []⟩, ⟨[20], [], [], true, .con undef, none, fun u => [], []⟩, ⟨[20], [], [], true, .con undef, none, fun u => [], []⟩, ⟨[20], [], [], true, .con undef, none, fun u => [], []⟩, ⟨[17], [], [], true, .con undef, none, fun u => [], []⟩, ⟨[17], [], [], true, .con undef, none, fun u => [], []⟩, ⟨[33], [], [], true, .con undef, none, fun u => [], []⟩, ⟨[33], [], [], true, .con undef, none, fun u => [], []⟩, ⟨[33], [], [], true, .con undef, none, fun u => [], []⟩, ⟨[33], [], [], true, .con undef, none, fun u => [], []⟩, ⟨[33], [], [], true, .con undef, none, fun u => [], []⟩, ⟨[33], [], [], true, .con undef, none, fun u => [], []⟩, ⟨[33], [], [], true, .con undef, none, fun u => [], []⟩, ⟨[33], [], [], true, .con undef, none, fun u => [], []⟩, ⟨[33], [], [], true, .con undef, none, fun u => [], []⟩, ⟨[33], [], [], true, .con undef, none, fun u => [], []⟩, ⟨[33], [], [], true, .con undef, none, fun u => [], []⟩, ⟨[33], [], [], true, .con undef, none, fun u => [], []⟩, ⟨[33], [], [], true, .con undef, none, fun u => [], []⟩] rfl t_mxo (by kernel_rfl) (by rfl) ?_ fun f1 _ _ h => ?_
       ·exact ox rfl (o_fa rfl t_f30_0 rfl rfl) (ox rfl (OpS.pur (fun F w m_ => (in2 (fd_sub sSeg_Src 0 rfl m_))) (o_lfx 0 rfl rfl sSeg_Src rfl X_int t_y3)) (ox rfl (o_fa rfl t_f30_1 rfl rfl) (ox rfl (OpS.pur (fun F w m_ => (in2 (fd_sub sSeg_Dst 4 rfl m_))) (o_lfx 4 rfl rfl sSeg_Dst rfl X_int t_y3)) (ox rfl (o_bin rfl rfl rfl) (ox rfl (o_move rfl) (oj rfl rfl (fun _ => rfl) (nb_t c6) (oj rfl rfl (fun _ => rfl) (nb_t c6) (oj rfl rfl (fun _ => rfl) (nb_t c6) (oj rfl rfl (fun _ => rfl) (nb_t c6) (oj rfl rfl (fun _ => rfl) (nb_t c6) (ox rfl (o_pickT rfl rfl c6) (ox rfl (o_move rfl) (oj rfl rfl (fun _ => rfl) (nb_t rfl) (oj rfl rfl (fun _ => rfl) (nb_t rfl) (oj rfl rfl (fun _ => rfl) (nb_t rfl) (oj rfl rfl (fun _ => rfl) (nb_t rfl) (oj rfl rfl (fun _ => rfl) (nb_t rfl) (oj rfl rfl (fun _ => rfl) rfl (oj rfl rfl (fun _ => rfl) rfl (oj rfl rfl (fun _ => rfl) rfl (oj rfl rfl (fun _ => rfl) rfl (oj rfl rfl (fun _ => rfl) rfl (oj rfl rfl (fun _ => rfl) rfl (oj rfl rfl (fun _ => rfl) rfl (oj rfl rfl (fun _ => rfl) rfl (oj rfl rfl (fun _ => rfl) rfl (oj rfl rfl (fun _ => rfl) rfl (oj rfl rfl (fun _ => rfl) rfl (oj rfl rfl (fun _ => rfl) rfl (oj rfl rfl (fun _ => rfl) rfl (oj rfl rfl (fun _ => rfl) rfl (oj rfl rfl (fun _ => rfl) rfl (oj rfl rfl (fun _ => rfl) rfl (oj rfl rfl (fun _ => rfl) rfl (oj rfl rfl (fun _ => rfl) rfl (oj rfl rfl (fun _ => rfl) rfl (oj rfl rfl (fun _ => rfl) rfl (oj rfl rfl (fun _ => rfl) rfl (oj rfl rfl (fun _ => rfl) rfl (oj rfl rfl (fun _ => rfl) rfl (oj rfl rfl (fun _ => rfl) rfl (oj rfl rfl (fun _ => rfl) rfl (oj rfl rfl (fun _ => rfl) rfl (oj rfl rfl (fun _ => rfl) rfl (oj rfl rfl (fun _ => rfl) rfl (oj rfl rfl (fun _ => rfl) rfl (obs_nil)))))))))))))))))))))))))))))))))))))))))))))))
       replace h := h.wk (E' := [(1, .int .u32 a2), (3, pt b1), (7, pt b2), (10, .int .i64 s2), (79, .bool true), (84, undef), (100, undef)]) (L' := [Ent.pur (InR .i64 x2.Src), Ent.pur (InR .i64 a1.Dst), Fld KSeg b3 0 x2, Val KSeg v8 x2, Val (Kd.sl KSeg) v7 j2.segs, Val (Kd.sl KSeg) v6 j2.segs, Fld KSeg b1 0 a1, Pfl KplayR b2 0 j2]) (by kernel_rfl) [0, 1, 2, 3, 4, 5, 6, 7] (by decide) (by kernel_rfl)
       iterate 3 (refine gk h rfl rfl rfl rfl fun _ h => ?_)
       refine gk h rfl rfl (nb_t rfl) rfl fun _ h => ?_
       refine ga h (o_pickT rfl rfl rfl) rfl fun h => ?_
       refine GoR.done ?_
       exact J3 true _ _ (som H).symm (h.wr [2, 6, 7])
      ·have H := ifF c6 H
       by_cases c7 : (!decide (x2.Dst = a1.Src)) = true
       ·have H := ifT c7 H
        refine Go.draw (E := [(1, .int .u32 a2), (3, pt b1), (7, pt b2), (10, .int .i64 s2), (11, pt b3), (12, .int .i64 y3)]) [] (L := [Fld KSeg b3 0 x2, Val KSeg v8 x2, Val (Kd.sl KSeg) v7 j2.segs, Val (Kd.sl KSeg) v6 j2.segs, Fld KSeg b1 0 a1, Pfl KplayR b2 0 j2]) h rfl rfl 47 [cn (pt b3), cm [0] [] [] (.int .i64 x2.Src) fun u => [Ent.pur (InR .i64 x2.Src)], cn (.pointer (some ⟨b1, 1, none⟩)), cm [2] [] [] (.int .i64 a1.Dst) fun u => [Ent.pur (InR .i64 a1.Dst)], ce [0, 1, 2, 3] (.bool (!decide (x2.Src = a1.Dst))), ce [0, 1, 2, 3, 4] (.bool (!decide (x2.Src = a1.Dst))), ce [0, 1, 2, 3, 4, 5] (.pointer (some ⟨b3, 1, none⟩)), cm [0, 1, 2, 3, 4, 5, 6] [] [] (.int .i64 x2.Dst) fun u => [Ent.pur (InR .i64 x2.Dst)], ce [0, 1, 2, 3, 4, 5] (pt b1), cm [0, 1, 2, 3, 4, 5, 8] [] [] (.int .i64 a1.Src) fun u => [Ent.pur (InR .i64 a1.Src)], ce [0, 1, 2, 3, 4, 5, 6, 7, 8, 9] (.bool (!decide (x2.Dst = a1.Src))), ce [0, 1, 2, 3, 4, 5, 6, 7, 8, 9, 10] (.bool (!decide (x2.Dst = a1.Src))), ce [0, 1, 2, 3, 4, 5, 6, 7, 8, 9, 10, 11] (.bool (!decide (x2.Dst = a1.Src))), ⟨[12], [], [], true, .con undef, none, fun u => [], []⟩, ⟨[12], [], [], true, .con undef, none, fun u => [], []⟩, ⟨[12], [], [], true, .con undef, none, fun u => [], []⟩, ⟨[12], [], [], true, .con undef, none, fun u => [], []⟩, ⟨[12], [], [], true, .con undef, none, fun u => [], []⟩, ⟨[17], [], [], true, .con undef, none, fun u => [], []⟩, ⟨[17], [], [], true, .con undef, none, fun u => [], []⟩, ⟨[17], [], [], true, .con undef, none, fun u => [], []⟩, ⟨[20], [], [], true, .con undef, none, fun u => [], []⟩, ⟨[20], [], [], true, .con undef, none, fun u => [], []⟩, ⟨[20], [], [], true, .con undef, none, fun u => [], []⟩, ⟨[20], [], [], true, .con undef, none, fun u => [], []⟩, ⟨[20], [], [], true, .con undef, none, fun u => [], []⟩, ⟨[20], [], [], true, .con undef, none, fun u => [], []⟩, ⟨[20], [], [], true, .con undef, none, fun u => [], []⟩, ⟨[20], [], [], true, .con undef, none, fun u => [], []⟩, ⟨[20], [], [], true, .con undef, none, fun u => [], []⟩, ⟨[20], [], [], true, .con undef, none, fun u => [], []⟩, ⟨[20], [], [], true, .con undef, none, fun u => [], []⟩, ⟨[17], [], [], true, .con undef, none, fun u => [], []⟩, ⟨[17], [], [], true, .con undef, none, fun u => [], []⟩, ⟨[33], [], [], true, .con undef, none, fun u => [], []⟩, ⟨[33], [], [], true, .con undef, none, fun u => [], []⟩, ⟨[33], [], [], true, .con undef, none, fun u => [], []⟩, ⟨[33], [], [], true, .con undef, none, fun u => [], []⟩, ⟨[33], [], [], true, .con undef, none, fun u => [], []⟩, ⟨[33], [], [], true, .con undef, none, fun u => [], []⟩, ⟨[33], [], [], true, .con undef, none, fun u => [], []⟩, ⟨[33], [], [], true, .con undef, none, fun u => [], []⟩, ⟨[33], [], [], true, .con undef, none, fun u => [], []⟩, ⟨[33], [], [], true, .con undef, none, fun u => [], []⟩, ⟨[33], [], [], true, .con undef, none, fun u => [], []⟩, ⟨[33], [], [], true, .con undef, none, fun u => [], []⟩, ⟨[33], [], [], true, .con undef, none, fun u => [], []⟩] rfl t_mxo (by kernel_rfl) (by rfl) ?_ fun f1 _ _ h => ?_
        ·exact ox rfl (o_fa rfl t_f30_0 rfl rfl) (ox rfl (OpS.pur (fun F w m_ => (in2 (fd_sub sSeg_Src 0 rfl m_))) (o_lfx 0 rfl rfl sSeg_Src rfl X_int t_y3)) (ox rfl (o_fa rfl t_f30_1 rfl rfl) (ox rfl (OpS.pur (fun F w m_ => (in2 (fd_sub sSeg_Dst 4 rfl m_))) (o_lfx 4 rfl rfl sSeg_Dst rfl X_int t_y3)) (ox rfl (o_bin rfl rfl rfl) (ox rfl (o_move rfl) (og rfl rfl (fun _ => rfl) (nbF c6) (o_fa rfl t_f30_1 rfl rfl) (og rfl rfl (fun _ => rfl) (nbF c6) (OpS.pur (fun F w m_ => (in2 (fd_sub sSeg_Dst 0 rfl m_))) (o_lfx 0 rfl rfl sSeg_Dst rfl X_int t_y3)) (og rfl rfl (fun _ => rfl) (nbF c6) (o_fa rfl t_f30_0 rfl rfl) (og rfl rfl (fun _ => rfl) (nbF c6) (OpS.pur (fun F w m_ => (in2 (fd_sub sSeg_Src 4 rfl m_))) (o_lfx 4 rfl rfl sSeg_Src rfl X_int t_y3)) (og rfl rfl (fun _ => rfl) (nbF c6) (o_bin rfl rfl rfl) (ox rfl (o_pickF rfl rfl c6) (ox rfl (o_move rfl) (oj rfl rfl (fun _ => rfl) (nb_t c7) (oj rfl rfl (fun _ => rfl) (nb_t c7) (oj rfl rfl (fun _ => rfl) (nb_t c7) (oj rfl rfl (fun _ => rfl) (nb_t c7) (oj rfl rfl (fun _ => rfl) (nb_t c7) (oj rfl rfl (fun _ => rfl) rfl (oj rfl rfl (fun _ => rfl) rfl (oj rfl rfl (fun _ => rfl) rfl (oj rfl rfl (fun _ => rfl) rfl (oj rfl rfl (fun _ => rfl) rfl (oj rfl rfl (fun _ => rfl) rfl (oj rfl rfl (fun _ => rfl) rfl (oj rfl rfl (fun _ => rfl) rfl (oj rfl rfl (fun _ => rfl) rfl (oj rfl rfl (fun _ => rfl) rfl (oj rfl rfl (fun _ => rfl) rfl (oj rfl rfl (fun _ => rfl) rfl (oj rfl rfl (fun _ => rfl) rfl (oj rfl rfl (fun _ => rfl) rfl (oj rfl rfl (fun _ => rfl) rfl (oj rfl rfl (fun _ => rfl) rfl (oj rfl rfl (fun _ => rfl) rfl (oj rfl rfl (fun _ => rfl) rfl (oj rfl rfl (fun _ => rfl) rfl (oj rfl rfl (fun _ => rfl) rfl (oj rfl rfl (fun _ => rfl) rfl (oj rfl rfl (fun _ => rfl) rfl (oj rfl rfl (fun _ => rfl) rfl (oj rfl rfl (fun _ => rfl) rfl (oj rfl rfl (fun _ => rfl) rfl (oj rfl rfl (fun _ => rfl) rfl (oj rfl rfl (fun _ => rfl) rfl (oj rfl rfl (fun _ => rfl) rfl (oj rfl rfl (fun _ => rfl) rfl (obs_nil)))))))))))))))))))))))))))))))))))))))))))))))
        replace h := h.wk (E' := [(1, .int .u32 a2), (3, pt b1), (7, pt b2), (10, .int .i64 s2), (79, .bool (!decide (x2.Dst = a1.Src))), (84, undef), (100, undef)]) (L' := [Ent.pur (InR .i64 x2.Src), Ent.pur (InR .i64 a1.Dst), Ent.pur (InR .i64 x2.Dst), Ent.pur (InR .i64 a1.Src), Fld KSeg b3 0 x2, Val KSeg v8 x2, Val (Kd.sl KSeg) v7 j2.segs, Val (Kd.sl KSeg) v6 j2.segs, Fld KSeg b1 0 a1, Pfl KplayR b2 0 j2]) (by kernel_rfl) [0, 1, 2, 3, 4, 5, 6, 7, 8, 9] (by decide) (by kernel_rfl)
        iterate 3 (refine gk h rfl rfl rfl rfl fun _ h => ?_)
        refine gk h rfl rfl (nb_t c7) rfl fun _ h => ?_
        refine ga h (o_pickT rfl rfl c7) rfl fun h => ?_
        refine GoR.done ?_
        exact J3 true _ _ (som H).symm (h.wr [4, 8, 9])
       ·have H := ifF c7 H
        by_cases c8 : decide (0 < (x2.Data.length : Int)) = true
        ·have H := ifT c8 H
         by_cases c9 : decide (y3 < 0) = true
         ·have H := ifT c9 H
          refine Go.draw (E := [(1, .int .u32 a2), (3, pt b1), (7, pt b2), (10, .int .i64 s2), (11, pt b3), (12, .int .i64 y3)]) [] (L := [Fld KSeg b3 0 x2, Val KSeg v8 x2, Val (Kd.sl KSeg) v7 j2.segs, Val (Kd.sl KSeg) v6 j2.segs, Fld KSeg b1 0 a1, Pfl KplayR b2 0 j2]) h rfl rfl 47 [cn (pt b3), cm [0] [] [] (.int .i64 x2.Src) fun u => [Ent.pur (InR .i64 x2.Src)], cn (.pointer (some ⟨b1, 1, none⟩)), cm [2] [] [] (.int .i64 a1.Dst) fun u => [Ent.pur (InR .i64 a1.Dst)], ce [0, 1, 2, 3] (.bool (!decide (x2.Src = a1.Dst))), ce [0, 1, 2, 3, 4] (.bool (!decide (x2.Src = a1.Dst))), ce [0, 1, 2, 3, 4, 5] (.pointer (some ⟨b3, 1, none⟩)), cm [0, 1, 2, 3, 4, 5, 6] [] [] (.int .i64 x2.Dst) fun u => [Ent.pur (InR .i64 x2.Dst)], ce [0, 1, 2, 3, 4, 5] (pt b1), cm [0, 1, 2, 3, 4, 5, 8] [] [] (.int .i64 a1.Src) fun u => [Ent.pur (InR .i64 a1.Src)], ce [0, 1, 2, 3, 4, 5, 6, 7, 8, 9] (.bool (!decide (x2.Dst = a1.Src))), ce [0, 1, 2, 3, 4, 5, 6, 7, 8, 9, 10] (.bool (!decide (x2.Dst = a1.Src))), ce [0, 1, 2, 3, 4, 5, 6, 7, 8, 9, 10, 11] (.bool (!decide (x2.Dst = a1.Src))), ce [0, 1, 2, 3, 4, 5, 6, 7, 8, 9, 10, 11, 12] (.pointer (some ⟨b3, 7, none⟩)), cw [0, 1, 2, 3, 4, 5, 6, 7, 8, 9, 10, 11, 12, 13] [] [] fun u => [Val (Kd.sl (Kd.int .u8)) u x2.Data], cm [0, 1, 2, 3, 4, 5, 6, 7, 8, 9, 10, 11, 12, 13, 14] [14] [] (.int .i64 (x2.Data.length : Int)) fun u => [], ce [0, 1, 2, 3, 4, 5, 6, 7, 8, 9, 10, 11, 12, 13, 14, 15] (.bool (decide (0 < (x2.Data.length : Int)))), ce [0, 1, 2, 3, 4, 5, 6, 7, 8, 9, 10, 11, 12, 13, 14, 15, 16] (.bool (decide (0 < (x2.Data.length : Int)))), ce [0, 1, 2, 3, 4, 5, 6, 7, 8, 9, 10, 11, 12, 13, 14, 15, 16, 17] (.int .i64 y3), ce [0, 1, 2, 3, 4, 5, 6, 7, 8, 9, 10, 11, 12, 13, 14, 15, 16, 17, 18] (.bool (decide (y3 < 0))), ce [0, 1, 2, 3, 4, 5, 6, 7, 8, 9, 10, 11, 12, 13, 14, 15, 16, 17, 18, 19] (.bool (decide (y3 < 0))), ⟨[20], [], [], true, .con undef, none, fun u => [], []⟩, ⟨[20], [], [], true, .con undef, none, fun u => [], []⟩, ⟨[20], [], [], true, .con undef, none, fun u => [], []⟩, ⟨[20], [], [], true, .con undef, none, fun u => [], []⟩, ⟨[20], [], [], true, .con undef, none, fun u => [], []⟩, ⟨[20], [], [], true, .con undef, none, fun u => [], []⟩, ⟨[20], [], [], true, .con undef, none, fun u => [], []⟩, ⟨[20], [], [], true, .con undef, none, fun u => [], []⟩, ⟨[20], [], [], true, .con undef, none, fun u => [], []⟩, ⟨[20], [], [], true, .con undef, none, fun u => [], []⟩, ⟨[20], [], [], true, .con undef, none, fun u => [], []⟩, ce [0, 1, 2, 3, 4, 5, 6, 7, 8, 9, 10, 11, 12, 13, 14, 15, 16, 17, 18, 19, 20, 21, 22, 23, 24, 25, 26, 27, 28, 29, 30, 31] (.bool true), ce [0, 1, 2, 3, 4, 5, 6, 7, 8, 9, 10, 11, 12, 13, 14, 15, 16, 17, 18, 19, 20, 21, 22, 23, 24, 25, 26, 27, 28, 29, 30, 31, 32] (.bool true), ⟨[33], [], [], true, .con undef, none, fun u => [], []⟩, ⟨[33], [], [], true, .con undef, none, fun u => [], []⟩, ⟨[33], [], [], true, .con undef, none, fun u => [], []⟩, ⟨[33], [], [], true, .con undef, none, fun u => [], []⟩, ⟨[33], [], [], true, .con undef, none, fun u => [], []⟩, ⟨[33], [], [], true, .con undef, none, fun u => [], []⟩, ⟨[33], [], [], true, .con undef, none, fun u => [], []⟩, ⟨[33], [], [], true, .con undef, none, fun u => [], []⟩, ⟨[33], [], [], true, .con undef, none, fun u => [], []⟩, ⟨[33], [], [], true, .con undef, none, fun u => [], []⟩, ⟨[33], [], [], true, .con undef, none, fun u => [], []⟩, ⟨[33], [], [], true, .con undef, none, fun u => [], []⟩, ⟨[33], [], [], true, .con undef, none, fun u => [], []⟩] rfl t_mxo (by kernel_rfl) (by rfl) ?_ fun f1 _ _ h => ?_
          ·exact ox rfl (o_fa rfl t_f30_0 rfl rfl) (ox rfl (OpS.pur (fun F w m_ => (in2 (fd_sub sSeg_Src 0 rfl m_))) (o_lfx 0 rfl rfl sSeg_Src rfl X_int t_y3)) (ox rfl (o_fa rfl t_f30_1 rfl rfl) (ox rfl (OpS.pur (fun F w m_ => (in2 (fd_sub sSeg_Dst 4 rfl m_))) (o_lfx 4 rfl rfl sSeg_Dst rfl X_int t_y3)) (ox rfl (o_bin rfl rfl rfl) (ox rfl (o_move rfl) (og rfl rfl (fun _ => rfl) (nbF c6) (o_fa rfl t_f30_1 rfl rfl) (og rfl rfl (fun _ => rfl) (nbF c6) (OpS.pur (fun F w m_ => (in2 (fd_sub sSeg_Dst 0 rfl m_))) (o_lfx 0 rfl rfl sSeg_Dst rfl X_int t_y3)) (og rfl rfl (fun _ => rfl) (nbF c6) (o_fa rfl t_f30_0 rfl rfl) (og rfl rfl (fun _ => rfl) (nbF c6) (OpS.pur (fun F w m_ => (in2 (fd_sub sSeg_Src 4 rfl m_))) (o_lfx 4 rfl rfl sSeg_Src rfl X_int t_y3)) (og rfl rfl (fun _ => rfl) (nbF c6) (o_bin rfl rfl rfl) (ox rfl (o_pickF rfl rfl c6) (ox rfl (o_move rfl) (og rfl rfl (fun _ => rfl) (nbF c7) (o_fa rfl t_f30_7 rfl rfl) (obs_cons (ob_own rfl (gok_some rfl rfl rfl (fun _ => rfl) (nbF c7)) rfl fun f1 => (o_lfv 0 rfl rfl sSeg_Data rfl Per_sl t_y23)) (og rfl rfl (fun _ => rfl) (nbF c7) (o_ln rfl (rd_at 0 rfl) t_v23) (og rfl rfl (fun _ => rfl) (nbF c7) (o_bin rfl rfl rfl) (og rfl rfl (fun _ => rfl) (nbF c7) (o_move rfl) (og rfl rfl (fun _ => rfl) c8 (o_move rfl) (og rfl rfl (fun _ => rfl) c8 (o_bin rfl rfl rfl) (og rfl rfl (fun _ => rfl) c8 (o_move rfl) (oj rfl rfl (fun _ => rfl) (nb_t c9) (oj rfl rfl (fun _ => rfl) (nb_t c9) (oj rfl rfl (fun _ => rfl) (nb_t c9) (oj rfl rfl (fun _ => rfl) (nb_t c9) (oj rfl rfl (fun _ => rfl) (nb_t c9) (oj rfl rfl (fun _ => rfl) (nb_t c9) (oj rfl rfl (fun _ => rfl) (nb_t c9) (oj rfl rfl (fun _ => rfl) (nb_t c9) (oj rfl rfl (fun _ => rfl) (nb_t c9) (oj rfl rfl (fun _ => rfl) (nb_t c9) (oj rfl rfl (fun _ => rfl) (nb_t c9) (og rfl rfl (fun _ => rfl) c8 (o_pickT rfl rfl c9) (og rfl rfl (fun _ => rfl) c8 (o_move rfl) (oj rfl rfl (fun _ => rfl) (nb_t rfl) (oj rfl rfl (fun _ => rfl) (nb_t rfl) (oj rfl rfl (fun _ => rfl) (nb_t rfl) (oj rfl rfl (fun _ => rfl) (nb_t rfl) (oj rfl rfl (fun _ => rfl) (nb_t rfl) (oj rfl rfl (fun _ => rfl) (nb_t rfl) (oj rfl rfl (fun _ => rfl) (nb_t rfl) (oj rfl rfl (fun _ => rfl) (nb_t rfl) (oj rfl rfl (fun _ => rfl) (nb_t rfl) (oj rfl rfl (fun _ => rfl) (nb_t rfl) (oj rfl rfl (fun _ => rfl) (nb_t rfl) (oj rfl rfl (fun _ => rfl) (nb_t rfl) (oj rfl rfl (fun _ => rfl) (nb_t rfl) (obs_nil)))))))))))))))))))))))))))))))))))))))))))))))
          replace h := h.wk (E' := [(1, .int .u32 a2), (3, pt b1), (7, pt b2), (10, .int .i64 s2), (79, .bool (!decide (x2.Dst = a1.Src))), (84, .bool (decide (0 < (x2.Data.length : Int)))), (100, .bool true)]) (L' := [Ent.pur (InR .i64 x2.Src), Ent.pur (InR .i64 a1.Dst), Ent.pur (InR .i64 x2.Dst), Ent.pur (InR .i64 a1.Src), Val (Kd.sl (Kd.int .u8)) (f1 14) x2.Data, Fld KSeg b3 0 x2, Val KSeg v8 x2, Val (Kd.sl KSeg) v7 j2.segs, Val (Kd.sl KSeg) v6 j2.segs, Fld KSeg b1 0 a1, Pfl KplayR b2 0 j2]) (by kernel_rfl) [0, 1, 2, 3, 4, 5, 6, 7, 8, 9, 10] (by decide) (by kernel_rfl)
          refine gk h rfl rfl (nb_t rfl) rfl fun _ h => ?_
          refine gk h rfl rfl (nb_t rfl) rfl fun _ h => ?_
          refine gg h rfl rfl c8 (o_pickT rfl rfl rfl) rfl fun _ _ _ h => ?_
          refine gg h rfl rfl (nbF c7) (o_pickT rfl rfl c8) rfl fun _ _ _ h => ?_
          refine ga h (o_pickF rfl rfl c7) rfl fun h => ?_
          refine GoR.done ?_
          exact J3 true _ _ (som H).symm (h.wr [5, 9, 10])
         ·have H := ifF c9 H
          by_cases c10 : decide ((IntKind.i64.wrap ((j2.gave.length : Int) - (x2.Data.length : Int))) < y3) = true
          ·have H := ifT c10 H
           refine Go.draw (E := [(1, .int .u32 a2), (3, pt b1), (7, pt b2), (10, .int .i64 s2), (11, pt b3), (12, .int .i64 y3)]) [] (L := [Fld KSeg b3 0 x2, Val KSeg v8 x2, Val (Kd.sl KSeg) v7 j2.segs, Val (Kd.sl KSeg) v6 j2.segs, Fld KSeg b1 0 a1, Pfl KplayR b2 0 j2]) h rfl rfl 47 [cn (pt b3), cm [0] [] [] (.int .i64 x2.Src) fun u => [Ent.pur (InR .i64 x2.Src)], cn (.pointer (some ⟨b1, 1, none⟩)), cm [2] [] [] (.int .i64 a1.Dst) fun u => [Ent.pur (InR .i64 a1.Dst)], ce [0, 1, 2, 3] (.bool (!decide (x2.Src = a1.Dst))), ce [0, 1, 2, 3, 4] (.bool (!decide (x2.Src = a1.Dst))), ce [0, 1, 2, 3, 4, 5] (.pointer (some ⟨b3, 1, none⟩)), cm [0, 1, 2, 3, 4, 5, 6] [] [] (.int .i64 x2.Dst) fun u => [Ent.pur (InR .i64 x2.Dst)], ce [0, 1, 2, 3, 4, 5] (pt b1), cm [0, 1, 2, 3, 4, 5, 8] [] [] (.int .i64 a1.Src) fun u => [Ent.pur (InR .i64 a1.Src)], ce [0, 1, 2, 3, 4, 5, 6, 7, 8, 9] (.bool (!decide (x2.Dst = a1.Src))), ce [0, 1, 2, 3, 4, 5, 6, 7, 8, 9, 10] (.bool (!decide (x2.Dst = a1.Src))), ce [0, 1, 2, 3, 4, 5, 6, 7, 8, 9, 10, 11] (.bool (!decide (x2.Dst = a1.Src))), ce [0, 1, 2, 3, 4, 5, 6, 7, 8, 9, 10, 11, 12] (.pointer (some ⟨b3, 7, none⟩)), cw [0, 1, 2, 3, 4, 5, 6, 7, 8, 9, 10, 11, 12, 13] [] [] fun u => [Val (Kd.sl (Kd.int .u8)) u x2.Data], cm [0, 1, 2, 3, 4, 5, 6, 7, 8, 9, 10, 11, 12, 13, 14] [14] [] (.int .i64 (x2.Data.length : Int)) fun u => [], ce [0, 1, 2, 3, 4, 5, 6, 7, 8, 9, 10, 11, 12, 13, 14, 15] (.bool (decide (0 < (x2.Data.length : Int)))), ce [0, 1, 2, 3, 4, 5, 6, 7, 8, 9, 10, 11, 12, 13, 14, 15, 16] (.bool (decide (0 < (x2.Data.length : Int)))), ce [0, 1, 2, 3, 4, 5, 6, 7, 8, 9, 10, 11, 12, 13, 14, 15, 16, 17] (.int .i64 y3), ce [0, 1, 2, 3, 4, 5, 6, 7, 8, 9, 10, 11, 12, 13, 14, 15, 16, 17, 18] (.bool (decide (y3 < 0))), ce [0, 1, 2, 3, 4, 5, 6, 7, 8, 9, 10, 11, 12, 13, 14, 15, 16, 17, 18, 19] (.bool (decide (y3 < 0))), ce [0, 1, 2, 3, 4, 5, 6, 7, 8, 9, 10, 11, 12, 13, 14, 15, 16, 17, 18, 19, 20] (.int .i64 y3), ce [0, 1, 2, 3, 4, 5, 6, 7, 8, 9, 10, 11, 12, 13, 14, 15, 16, 17, 18, 19, 20] (pt b2), ce [0, 1, 2, 3, 4, 5, 6, 7, 8, 9, 10, 11, 12, 13, 14, 15, 16, 17, 18, 19, 20, 22] (pt b2), ce [0, 1, 2, 3, 4, 5, 6, 7, 8, 9, 10, 11, 12, 13, 14, 15, 16, 17, 18, 19, 20, 22, 23] (.pointer (some ⟨b2, 25, none⟩)), cw [0, 1, 2, 3, 4, 5, 6, 7, 8, 9, 10, 11, 12, 13, 14, 15, 16, 17, 18, 19, 20, 22, 23, 24] [] [] fun u => [Val (Kd.sl (Kd.int .u8)) u j2.gave], cm [0, 1, 2, 3, 4, 5, 6, 7, 8, 9, 10, 11, 12, 13, 14, 15, 16, 17, 18, 19, 20, 22, 23, 24, 25] [25] [] (.int .i64 (j2.gave.length : Int)) fun u => [], ce [0, 1, 2, 3, 4, 5, 6, 7, 8, 9, 10, 11, 12, 13, 14, 15, 16, 17, 18, 19, 20] (.pointer (some ⟨b3, 7, none⟩)), cw [0, 1, 2, 3, 4, 5, 6, 7, 8, 9, 10, 11, 12, 13, 14, 15, 16, 17, 18, 19, 20, 27] [] [] fun u => [Val (Kd.sl (Kd.int .u8)) u x2.Data], cm [0, 1, 2, 3, 4, 5, 6, 7, 8, 9, 10, 11, 12, 13, 14, 15, 16, 17, 18, 19, 20, 27, 28] [28] [] (.int .i64 (x2.Data.length : Int)) fun u => [], ce [0, 1, 2, 3, 4, 5, 6, 7, 8, 9, 10, 11, 12, 13, 14, 15, 16, 17, 18, 19, 20, 22, 23, 24, 25, 26, 27, 28, 29] (.int .i64 (IntKind.i64.wrap ((j2.gave.length : Int) - (x2.Data.length : Int)))), ce [0, 1, 2, 3, 4, 5, 6, 7, 8, 9, 10, 11, 12, 13, 14, 15, 16, 17, 18, 19, 20, 21, 22, 23, 24, 25, 26, 27, 28, 29, 30] (.bool (decide ((IntKind.i64.wrap ((j2.gave.length : Int) - (x2.Data.length : Int))) < y3))), ce [0, 1, 2, 3, 4, 5, 6, 7, 8, 9, 10, 11, 12, 13, 14, 15, 16, 17, 18, 19, 20, 21, 22, 23, 24, 25, 26, 27, 28, 29, 30, 31] (.bool (decide ((IntKind.i64.wrap ((j2.gave.length : Int) - (x2.Data.length : Int))) < y3))), ce [0, 1, 2, 3, 4, 5, 6, 7, 8, 9, 10, 11, 12, 13, 14, 15, 16, 17, 18, 19, 20, 21, 22, 23, 24, 25, 26, 27, 28, 29, 30, 31, 32] (.bool (decide ((IntKind.i64.wrap ((j2.gave.length : Int) - (x2.Data.length : Int))) < y3))), ⟨[33], [], [], true, .con undef, none, fun u => [], []⟩, ⟨[33], [], [], true, .con undef, none, fun u => [], []⟩, ⟨[33], [], [], true, .con undef, none, fun u => [], []⟩, ⟨[33], [], [], true, .con undef, none, fun u => [], []⟩, ⟨[33], [], [], true, .con undef, none, fun u => [], []⟩, ⟨[33], [], [], true, .con undef, none, fun u => [], []⟩, ⟨[33], [], [], true, .con undef, none, fun u => [], []⟩, ⟨[33], [], [], true, .con undef, none, fun u => [], []⟩, ⟨[33], [], [], true, .con undef, none, fun u => [], []⟩, ⟨[33], [], [], true, .con undef, none, fun u => [], []⟩, ⟨[33], [], [], true, .con undef, none, fun u => [], []⟩, ⟨[33], [], [], true, .con undef, none, fun u => [], []⟩, ⟨[33], [], [], true, .con undef, none, fun u => [], []⟩] rfl t_mxo (by kernel_rfl) (by rfl) ?_ fun f1 _ _ h => ?_
           ·exact ox rfl (o_fa rfl t_f30_0 rfl rfl) (ox rfl (OpS.pur (fun F w m_ => (in2 (fd_sub sSeg_Src 0 rfl m_))) (o_lfx 0 rfl rfl sSeg_Src rfl X_int t_y3)) (ox rfl (o_fa rfl t_f30_1 rfl rfl) (ox rfl (OpS.pur (fun F w m_ => (in2 (fd_sub sSeg_Dst 4 rfl m_))) (o_lfx 4 rfl rfl sSeg_Dst rfl X_int t_y3)) (ox rfl (o_bin rfl rfl rfl) (ox rfl (o_move rfl) (og rfl rfl (fun _ => rfl) (nbF c6) (o_fa rfl t_f30_1 rfl rfl) (og rfl rfl (fun _ => rfl) (nbF c6) (OpS.pur (fun F w m_ => (in2 (fd_sub sSeg_Dst 0 rfl m_))) (o_lfx 0 rfl rfl sSeg_Dst rfl X_int t_y3)) (og rfl rfl (fun _ => rfl) (nbF c6) (o_fa rfl t_f30_0 rfl rfl) (og rfl rfl (fun _ => rfl) (nbF c6) (OpS.pur (fun F w m_ => (in2 (fd_sub sSeg_Src 4 rfl m_))) (o_lfx 4 rfl rfl sSeg_Src rfl X_int t_y3)) (og rfl rfl (fun _ => rfl) (nbF c6) (o_bin rfl rfl rfl) (ox rfl (o_pickF rfl rfl c6) (ox rfl (o_move rfl) (og rfl rfl (fun _ => rfl) (nbF c7) (o_fa rfl t_f30_7 rfl rfl) (obs_cons (ob_own rfl (gok_some rfl rfl rfl (fun _ => rfl) (nbF c7)) rfl fun f1 => (o_lfv 0 rfl rfl sSeg_Data rfl Per_sl t_y23)) (og rfl rfl (fun _ => rfl) (nbF c7) (o_ln rfl (rd_at 0 rfl) t_v23) (og rfl rfl (fun _ => rfl) (nbF c7) (o_bin rfl rfl rfl) (og rfl rfl (fun _ => rfl) (nbF c7) (o_move rfl) (og rfl rfl (fun _ => rfl) c8 (o_move rfl) (og rfl rfl (fun _ => rfl) c8 (o_bin rfl rfl rfl) (og rfl rfl (fun _ => rfl) c8 (o_move rfl) (og rfl rfl (fun _ => rfl) (nbF c9) (o_move rfl) (og rfl rfl (fun _ => rfl) (nbF c9) (o_move rfl) (og rfl rfl (fun _ => rfl) (nbF c9) (o_nilc rfl) (og rfl rfl (fun _ => rfl) (nbF c9) (o_fa rfl t_f48_3 rfl rfl) (obs_cons (ob_own rfl (gok_some rfl rfl rfl (fun _ => rfl) (nbF c9)) rfl fun f1 => (p_lfv 5 rfl rfl splayR_gave rfl t_y23)) (og rfl rfl (fun _ => rfl) (nbF c9) (o_ln rfl (rd_at 0 rfl) t_v23) (og rfl rfl (fun _ => rfl) (nbF c9) (o_fa rfl t_f30_7 rfl rfl) (obs_cons (ob_own rfl (gok_some rfl rfl rfl (fun _ => rfl) (nbF c9)) rfl fun f1 => (o_lfv 0 rfl rfl sSeg_Data rfl Per_sl t_y23)) (og rfl rfl (fun _ => rfl) (nbF c9) (o_ln rfl (rd_at 0 rfl) t_v23) (og rfl rfl (fun _ => rfl) (nbF c9) (o_bin rfl rfl rfl) (og rfl rfl (fun _ => rfl) (nbF c9) (o_bin rfl rfl rfl) (og rfl rfl (fun _ => rfl) c8 (o_pickF rfl rfl c9) (og rfl rfl (fun _ => rfl) c8 (o_move rfl) (oj rfl rfl (fun _ => rfl) (nb_t c10) (oj rfl rfl (fun _ => rfl) (nb_t c10) (oj rfl rfl (fun _ => rfl) (nb_t c10) (oj rfl rfl (fun _ => rfl) (nb_t c10) (oj rfl rfl (fun _ => rfl) (nb_t c10) (oj rfl rfl (fun _ => rfl) (nb_t c10) (oj rfl rfl (fun _ => rfl) (nb_t c10) (oj rfl rfl (fun _ => rfl) (nb_t c10) (oj rfl rfl (fun _ => rfl) (nb_t c10) (oj rfl rfl (fun _ => rfl) (nb_t c10) (oj rfl rfl (fun _ => rfl) (nb_t c10) (oj rfl rfl (fun _ => rfl) (nb_t c10) (oj rfl rfl (fun _ => rfl) (nb_t c10) (obs_nil)))))))))))))))))))))))))))))))))))))))))))))))
           replace h := h.wk (E' := [(1, .int .u32 a2), (3, pt b1), (7, pt b2), (10, .int .i64 s2), (79, .bool (!decide (x2.Dst = a1.Src))), (84, .bool (decide (0 < (x2.Data.length : Int)))), (100, .bool (decide ((IntKind.i64.wrap ((j2.gave.length : Int) - (x2.Data.length : Int))) < y3)))]) (L' := [Ent.pur (InR .i64 x2.Src), Ent.pur (InR .i64 a1.Dst), Ent.pur (InR .i64 x2.Dst), Ent.pur (InR .i64 a1.Src), Val (Kd.sl (Kd.int .u8)) (f1 14) x2.Data, Val (Kd.sl (Kd.int .u8)) (f1 25) j2.gave, Val (Kd.sl (Kd.int .u8)) (f1 28) x2.Data, Fld KSeg b3 0 x2, Val KSeg v8 x2, Val (Kd.sl KSeg) v7 j2.segs, Val (Kd.sl KSeg) v6 j2.segs, Fld KSeg b1 0 a1, Pfl KplayR b2 0 j2]) (by kernel_rfl) [0, 1, 2, 3, 4, 5, 6, 7, 8, 9, 10, 11, 12] (by decide) (by kernel_rfl)
           refine gk h rfl rfl (nb_t c10) rfl fun _ h => ?_
           refine gk h rfl rfl (nb_t c10) rfl fun _ h => ?_
           refine gg h rfl rfl c8 (o_pickT rfl rfl c10) rfl fun _ _ _ h => ?_
           refine gg h rfl rfl (nbF c7) (o_pickT rfl rfl c8) rfl fun _ _ _ h => ?_
           refine ga h (o_pickF rfl rfl c7) rfl fun h => ?_
           refine GoR.done ?_
           exact J3 true _ _ (som H).symm (h.wr [7, 11, 12])
          ·have H := ifF c10 H
           obtain ⟨x3, ex3, H⟩ := bindE H
           refine Go.draw (E := [(1, .int .u32 a2), (3, pt b1), (7, pt b2), (10, .int .i64 s2), (11, pt b3), (12, .int .i64 y3)]) [] (L := [Fld KSeg b3 0 x2, Val KSeg v8 x2, Val (Kd.sl KSeg) v7 j2.segs, Val (Kd.sl KSeg) v6 j2.segs, Fld KSeg b1 0 a1, Pfl KplayR b2 0 j2]) h rfl rfl 47 [cn (pt b3), cm [0] [] [] (.int .i64 x2.Src) fun u => [Ent.pur (InR .i64 x2.Src)], cn (.pointer (some ⟨b1, 1, none⟩)), cm [2] [] [] (.int .i64 a1.Dst) fun u => [Ent.pur (InR .i64 a1.Dst)], ce [0, 1, 2, 3] (.bool (!decide (x2.Src = a1.Dst))), ce [0, 1, 2, 3, 4] (.bool (!decide (x2.Src = a1.Dst))), ce [0, 1, 2, 3, 4, 5] (.pointer (some ⟨b3, 1, none⟩)), cm [0, 1, 2, 3, 4, 5, 6] [] [] (.int .i64 x2.Dst) fun u => [Ent.pur (InR .i64 x2.Dst)], ce [0, 1, 2, 3, 4, 5] (pt b1), cm [0, 1, 2, 3, 4, 5, 8] [] [] (.int .i64 a1.Src) fun u => [Ent.pur (InR .i64 a1.Src)], ce [0, 1, 2, 3, 4, 5, 6, 7, 8, 9] (.bool (!decide (x2.Dst = a1.Src))), ce [0, 1, 2, 3, 4, 5, 6, 7, 8, 9, 10] (.bool (!decide (x2.Dst = a1.Src))), ce [0, 1, 2, 3, 4, 5, 6, 7, 8, 9, 10, 11] (.bool (!decide (x2.Dst = a1.Src))), ce [0, 1, 2, 3, 4, 5, 6, 7, 8, 9, 10, 11, 12] (.pointer (some ⟨b3, 7, none⟩)), cw [0, 1, 2, 3, 4, 5, 6, 7, 8, 9, 10, 11, 12, 13] [] [] fun u => [Val (Kd.sl (Kd.int .u8)) u x2.Data], cm [0, 1, 2, 3, 4, 5, 6, 7, 8, 9, 10, 11, 12, 13, 14] [14] [] (.int .i64 (x2.Data.length : Int)) fun u => [], ce [0, 1, 2, 3, 4, 5, 6, 7, 8, 9, 10, 11, 12, 13, 14, 15] (.bool (decide (0 < (x2.Data.length : Int)))), ce [0, 1, 2, 3, 4, 5, 6, 7, 8, 9, 10, 11, 12, 13, 14, 15, 16] (.bool (decide (0 < (x2.Data.length : Int)))), ce [0, 1, 2, 3, 4, 5, 6, 7, 8, 9, 10, 11, 12, 13, 14, 15, 16, 17] (.int .i64 y3), ce [0, 1, 2, 3, 4, 5, 6, 7, 8, 9, 10, 11, 12, 13, 14, 15, 16, 17, 18] (.bool (decide (y3 < 0))), ce [0, 1, 2, 3, 4, 5, 6, 7, 8, 9, 10, 11, 12, 13, 14, 15, 16, 17, 18, 19] (.bool (decide (y3 < 0))), ce [0, 1, 2, 3, 4, 5, 6, 7, 8, 9, 10, 11, 12, 13, 14, 15, 16, 17, 18, 19, 20] (.int .i64 y3), ce [0, 1, 2, 3, 4, 5, 6, 7, 8, 9, 10, 11, 12, 13, 14, 15, 16, 17, 18, 19, 20] (pt b2), ce [0, 1, 2, 3, 4, 5, 6, 7, 8, 9, 10, 11, 12, 13, 14, 15, 16, 17, 18, 19, 20, 22] (pt b2), ce [0, 1, 2, 3, 4, 5, 6, 7, 8, 9, 10, 11, 12, 13, 14, 15, 16, 17, 18, 19, 20, 22, 23] (.pointer (some ⟨b2, 25, none⟩)), cw [0, 1, 2, 3, 4, 5, 6, 7, 8, 9, 10, 11, 12, 13, 14, 15, 16, 17, 18, 19, 20, 22, 23, 24] [] [] fun u => [Val (Kd.sl (Kd.int .u8)) u j2.gave], cm [0, 1, 2, 3, 4, 5, 6, 7, 8, 9, 10, 11, 12, 13, 14, 15, 16, 17, 18, 19, 20, 22, 23, 24, 25] [25] [] (.int .i64 (j2.gave.length : Int)) fun u => [], ce [0, 1, 2, 3, 4, 5, 6, 7, 8, 9, 10, 11, 12, 13, 14, 15, 16, 17, 18, 19, 20] (.pointer (some ⟨b3, 7, none⟩)), cw [0, 1, 2, 3, 4, 5, 6, 7, 8, 9, 10, 11, 12, 13, 14, 15, 16, 17, 18, 19, 20, 27] [] [] fun u => [Val (Kd.sl (Kd.int .u8)) u x2.Data], cm [0, 1, 2, 3, 4, 5, 6, 7, 8, 9, 10, 11, 12, 13, 14, 15, 16, 17, 18, 19, 20, 27, 28] [28] [] (.int .i64 (x2.Data.length : Int)) fun u => [], ce [0, 1, 2, 3, 4, 5, 6, 7, 8, 9, 10, 11, 12, 13, 14, 15, 16, 17, 18, 19, 20, 22, 23, 24, 25, 26, 27, 28, 29] (.int .i64 (IntKind.i64.wrap ((j2.gave.length : Int) - (x2.Data.length : Int)))), ce [0, 1, 2, 3, 4, 5, 6, 7, 8, 9, 10, 11, 12, 13, 14, 15, 16, 17, 18, 19, 20, 21, 22, 23, 24, 25, 26, 27, 28, 29, 30] (.bool (decide ((IntKind.i64.wrap ((j2.gave.length : Int) - (x2.Data.length : Int))) < y3))), ce [0, 1, 2, 3, 4, 5, 6, 7, 8, 9, 10, 11, 12, 13, 14, 15, 16, 17, 18, 19, 20, 21, 22, 23, 24, 25, 26, 27, 28, 29, 30, 31] (.bool (decide ((IntKind.i64.wrap ((j2.gave.length : Int) - (x2.Data.length : Int))) < y3))), ce [0, 1, 2, 3, 4, 5, 6, 7, 8, 9, 10, 11, 12, 13, 14, 15, 16, 17, 18, 19, 20, 21, 22, 23, 24, 25, 26, 27, 28, 29, 30, 31, 32] (.bool (decide ((IntKind.i64.wrap ((j2.gave.length : Int) - (x2.Data.length : Int))) < y3))), ce [0, 1, 2, 3, 4, 5, 6, 7, 8, 9, 10, 11, 12, 13, 14, 15, 16, 17, 18, 19, 20, 21, 22, 23, 24, 25, 26, 27, 28, 29, 30, 31, 32, 33] (pt b2), ce [0, 1, 2, 3, 4, 5, 6, 7, 8, 9, 10, 11, 12, 13, 14, 15, 16, 17, 18, 19, 20, 21, 22, 23, 24, 25, 26, 27, 28, 29, 30, 31, 32, 33, 34] (pt b2), ce [0, 1, 2, 3, 4, 5, 6, 7, 8, 9, 10, 11, 12, 13, 14, 15, 16, 17, 18, 19, 20, 21, 22, 23, 24, 25, 26, 27, 28, 29, 30, 31, 32, 33, 34, 35] (.pointer (some ⟨b2, 25, none⟩)), cw [0, 1, 2, 3, 4, 5, 6, 7, 8, 9, 10, 11, 12, 13, 14, 15, 16, 17, 18, 19, 20, 21, 22, 23, 24, 25, 26, 27, 28, 29, 30, 31, 32, 33, 34, 35, 36] [] [] fun u => [Val (Kd.sl (Kd.int .u8)) u j2.gave], ce [0, 1, 2, 3, 4, 5, 6, 7, 8, 9, 10, 11, 12, 13, 14, 15, 16, 17, 18, 19, 20, 21, 22, 23, 24, 25, 26, 27, 28, 29, 30, 31, 32, 33] (.int .i64 y3), ce [0, 1, 2, 3, 4, 5, 6, 7, 8, 9, 10, 11, 12, 13, 14, 15, 16, 17, 18, 19, 20, 21, 22, 23, 24, 25, 26, 27, 28, 29, 30, 31, 32, 33] (.int .i64 y3), ce [0, 1, 2, 3, 4, 5, 6, 7, 8, 9, 10, 11, 12, 13, 14, 15, 16, 17, 18, 19, 20, 21, 22, 23, 24, 25, 26, 27, 28, 29, 30, 31, 32, 33] (.pointer (some ⟨b3, 7, none⟩)), cw [0, 1, 2, 3, 4, 5, 6, 7, 8, 9, 10, 11, 12, 13, 14, 15, 16, 17, 18, 19, 20, 21, 22, 23, 24, 25, 26, 27, 28, 29, 30, 31, 32, 33, 40] [] [] fun u => [Val (Kd.sl (Kd.int .u8)) u x2.Data], cm [0, 1, 2, 3, 4, 5, 6, 7, 8, 9, 10, 11, 12, 13, 14, 15, 16, 17, 18, 19, 20, 21, 22, 23, 24, 25, 26, 27, 28, 29, 30, 31, 32, 33, 40, 41] [41] [] (.int .i64 (x2.Data.length : Int)) fun u => [], ce [0, 1, 2, 3, 4, 5, 6, 7, 8, 9, 10, 11, 12, 13, 14, 15, 16, 17, 18, 19, 20, 21, 22, 23, 24, 25, 26, 27, 28, 29, 30, 31, 32, 33, 39, 40, 41, 42] (.int .i64 (IntKind.i64.wrap (y3 + (x2.Data.length : Int)))), cw [0, 1, 2, 3, 4, 5, 6, 7, 8, 9, 10, 11, 12, 13, 14, 15, 16, 17, 18, 19, 20, 21, 22, 23, 24, 25, 26, 27, 28, 29, 30, 31, 32, 33, 34, 35, 36, 37, 38, 39, 40, 41, 42, 43] [37] [] fun u => [Val (Kd.sl (Kd.int .u8)) u x3], ce [0, 1, 2, 3, 4, 5, 6, 7, 8, 9, 10, 11, 12, 13, 14, 15, 16, 17, 18, 19, 20, 21, 22, 23, 24, 25, 26, 27, 28, 29, 30, 31, 32, 33] (.pointer (some ⟨b3, 7, none⟩)), cw [0, 1, 2, 3, 4, 5, 6, 7, 8, 9, 10, 11, 12, 13, 14, 15, 16, 17, 18, 19, 20, 21, 22, 23, 24, 25, 26, 27, 28, 29, 30, 31, 32, 33, 45] [] [] fun u => [Val (Kd.sl (Kd.int .u8)) u x2.Data]] rfl t_mxo (by kernel_rfl) (by rfl) ?_ fun f1 _ _ h => ?_
           ·exact ox rfl (o_fa rfl t_f30_0 rfl rfl) (ox rfl (OpS.pur (fun F w m_ => (in2 (fd_sub sSeg_Src 0 rfl m_))) (o_lfx 0 rfl rfl sSeg_Src rfl X_int t_y3)) (ox rfl (o_fa rfl t_f30_1 rfl rfl) (ox rfl (OpS.pur (fun F w m_ => (in2 (fd_sub sSeg_Dst 4 rfl m_))) (o_lfx 4 rfl rfl sSeg_Dst rfl X_int t_y3)) (ox rfl (o_bin rfl rfl rfl) (ox rfl (o_move rfl) (og rfl rfl (fun _ => rfl) (nbF c6) (o_fa rfl t_f30_1 rfl rfl) (og rfl rfl (fun _ => rfl) (nbF c6) (OpS.pur (fun F w m_ => (in2 (fd_sub sSeg_Dst 0 rfl m_))) (o_lfx 0 rfl rfl sSeg_Dst rfl X_int t_y3)) (og rfl rfl (fun _ => rfl) (nbF c6) (o_fa rfl t_f30_0 rfl rfl) (og rfl rfl (fun _ => rfl) (nbF c6) (OpS.pur (fun F w m_ => (in2 (fd_sub sSeg_Src 4 rfl m_))) (o_lfx 4 rfl rfl sSeg_Src rfl X_int t_y3)) (og rfl rfl (fun _ => rfl) (nbF c6) (o_bin rfl rfl rfl) (ox rfl (o_pickF rfl rfl c6) (ox rfl (o_move rfl) (og rfl rfl (fun _ => rfl) (nbF c7) (o_fa rfl t_f30_7 rfl rfl) (obs_cons (ob_own rfl (gok_some rfl rfl rfl (fun _ => rfl) (nbF c7)) rfl fun f1 => (o_lfv 0 rfl rfl sSeg_Data rfl Per_sl t_y23)) (og rfl rfl (fun _ => rfl) (nbF c7) (o_ln rfl (rd_at 0 rfl) t_v23) (og rfl rfl (fun _ => rfl) (nbF c7) (o_bin rfl rfl rfl) (og rfl rfl (fun _ => rfl) (nbF c7) (o_move rfl) (og rfl rfl (fun _ => rfl) c8 (o_move rfl) (og rfl rfl (fun _ => rfl) c8 (o_bin rfl rfl rfl) (og rfl rfl (fun _ => rfl) c8 (o_move rfl) (og rfl rfl (fun _ => rfl) (nbF c9) (o_move rfl) (og rfl rfl (fun _ => rfl) (nbF c9) (o_move rfl) (og rfl rfl (fun _ => rfl) (nbF c9) (o_nilc rfl) (og rfl rfl (fun _ => rfl) (nbF c9) (o_fa rfl t_f48_3 rfl rfl) (obs_cons (ob_own rfl (gok_some rfl rfl rfl (fun _ => rfl) (nbF c9)) rfl fun f1 => (p_lfv 5 rfl rfl splayR_gave rfl t_y23)) (og rfl rfl (fun _ => rfl) (nbF c9) (o_ln rfl (rd_at 0 rfl) t_v23) (og rfl rfl (fun _ => rfl) (nbF c9) (o_fa rfl t_f30_7 rfl rfl) (obs_cons (ob_own rfl (gok_some rfl rfl rfl (fun _ => rfl) (nbF c9)) rfl fun f1 => (o_lfv 0 rfl rfl sSeg_Data rfl Per_sl t_y23)) (og rfl rfl (fun _ => rfl) (nbF c9) (o_ln rfl (rd_at 0 rfl) t_v23) (og rfl rfl (fun _ => rfl) (nbF c9) (o_bin rfl rfl rfl) (og rfl rfl (fun _ => rfl) (nbF c9) (o_bin rfl rfl rfl) (og rfl rfl (fun _ => rfl) c8 (o_pickF rfl rfl c9) (og rfl rfl (fun _ => rfl) c8 (o_move rfl) (og rfl rfl (fun _ => rfl) (nbF c10) (o_move rfl) (og rfl rfl (fun _ => rfl) (nbF c10) (o_nilc rfl) (og rfl rfl (fun _ => rfl) (nbF c10) (o_fa rfl t_f48_3 rfl rfl) (obs_cons (ob_own rfl (gok_some rfl rfl rfl (fun _ => rfl) (nbF c10)) rfl fun f1 => (p_lfv 5 rfl rfl splayR_gave rfl t_y23)) (og rfl rfl (fun _ => rfl) (nbF c10) (o_move rfl) (og rfl rfl (fun _ => rfl) (nbF c10) (o_move rfl) (og rfl rfl (fun _ => rfl) (nbF c10) (o_fa rfl t_f30_7 rfl rfl) (obs_cons (ob_own rfl (gok_some rfl rfl rfl (fun _ => rfl) (nbF c10)) rfl fun f1 => (o_lfv 0 rfl rfl sSeg_Data rfl Per_sl t_y23)) (og rfl rfl (fun _ => rfl) (nbF c10) (o_ln rfl (rd_at 0 rfl) t_v23) (og rfl rfl (fun _ => rfl) (nbF c10) (o_bin rfl rfl rfl) (obs_cons (ob_own rfl (gok_some rfl rfl rfl (fun _ => rfl) (nbF c10)) rfl fun f1 => (o_cut rfl (pv_at Per_sl 0 rfl) rfl rfl ex3 t_v23)) (og rfl rfl (fun _ => rfl) (nbF c10) (o_fa rfl t_f30_7 rfl rfl) (obs_cons (ob_own rfl (gok_some rfl rfl rfl (fun _ => rfl) (nbF c10)) rfl fun f1 => (o_lfv 0 rfl rfl sSeg_Data rfl Per_sl t_y23)) (obs_nil)))))))))))))))))))))))))))))))))))))))))))))))
           replace h := h.wk (E' := [(1, .int .u32 a2), (3, pt b1), (7, pt b2), (10, .int .i64 s2), (79, .bool (!decide (x2.Dst = a1.Src))), (84, .bool (decide (0 < (x2.Data.length : Int)))), (100, .bool (decide ((IntKind.i64.wrap ((j2.gave.length : Int) - (x2.Data.length : Int))) < y3))), (111, (f1 44)), (113, (f1 46))]) (L' := [Ent.pur (InR .i64 x2.Src), Ent.pur (InR .i64 a1.Dst), Ent.pur (InR .i64 x2.Dst), Ent.pur (InR .i64 a1.Src), Val (Kd.sl (Kd.int .u8)) (f1 14) x2.Data, Val (Kd.sl (Kd.int .u8)) (f1 25) j2.gave, Val (Kd.sl (Kd.int .u8)) (f1 28) x2.Data, Val (Kd.sl (Kd.int .u8)) (f1 37) j2.gave, Val (Kd.sl (Kd.int .u8)) (f1 41) x2.Data, Val (Kd.sl (Kd.int .u8)) (f1 44) x3, Val (Kd.sl (Kd.int .u8)) (f1 46) x2.Data, Fld KSeg b3 0 x2, Val KSeg v8 x2, Val (Kd.sl KSeg) v7 j2.segs, Val (Kd.sl KSeg) v6 j2.segs, Fld KSeg b1 0 a1, Pfl KplayR b2 0 j2]) (by kernel_rfl) [0, 1, 2, 3, 4, 5, 6, 7, 8, 9, 10, 11, 12, 13, 14, 15, 16] (by decide) (by kernel_rfl)
           obtain ⟨r6, er6, H⟩ := bindE H
           refine gg h rfl rfl (nbF c10) (o_call (ref01_Same.spc (f1 44) x3 (f1 46) x2.Data r6 er6) rfl [9, 10] [] (by decide) rfl rfl) rfl fun _ _ _ h => ?_
           refine gg h rfl rfl (nbF c10) (o_not rfl) rfl fun _ _ _ h => ?_
           refine gg h rfl rfl c8 (o_pickF rfl rfl c10) rfl fun _ _ _ h => ?_
           refine gg h rfl rfl (nbF c7) (o_pickT rfl rfl c8) rfl fun _ _ _ h => ?_
           refine ga h (o_pickF rfl rfl c7) rfl fun h => ?_
           refine GoR.done ?_
           exact J3 (!r6) _ _ (som H).symm (h.wr [11, 15, 16])
        ·have H := ifF c8 H
         refine Go.draw (E := [(1, .int .u32 a2), (3, pt b1), (7, pt b2), (10, .int .i64 s2), (11, pt b3), (12, .int .i64 y3)]) [] (L := [Fld KSeg b3 0 x2, Val KSeg v8 x2, Val (Kd.sl KSeg) v7 j2.segs, Val (Kd.sl KSeg) v6 j2.segs, Fld KSeg b1 0 a1, Pfl KplayR b2 0 j2]) h rfl rfl 47 [cn (pt b3), cm [0] [] [] (.int .i64 x2.Src) fun u => [Ent.pur (InR .i64 x2.Src)], cn (.pointer (some ⟨b1, 1, none⟩)), cm [2] [] [] (.int .i64 a1.Dst) fun u => [Ent.pur (InR .i64 a1.Dst)], ce [0, 1, 2, 3] (.bool (!decide (x2.Src = a1.Dst))), ce [0, 1, 2, 3, 4] (.bool (!decide (x2.Src = a1.Dst))), ce [0, 1, 2, 3, 4, 5] (.pointer (some ⟨b3, 1, none⟩)), cm [0, 1, 2, 3, 4, 5, 6] [] [] (.int .i64 x2.Dst) fun u => [Ent.pur (InR .i64 x2.Dst)], ce [0, 1, 2, 3, 4, 5] (pt b1), cm [0, 1, 2, 3, 4, 5, 8] [] [] (.int .i64 a1.Src) fun u => [Ent.pur (InR .i64 a1.Src)], ce [0, 1, 2, 3, 4, 5, 6, 7, 8, 9] (.bool (!decide (x2.Dst = a1.Src))), ce [0, 1, 2, 3, 4, 5, 6, 7, 8, 9, 10] (.bool (!decide (x2.Dst = a1.Src))), ce [0, 1, 2, 3, 4, 5, 6, 7, 8, 9, 10, 11] (.bool (!decide (x2.Dst = a1.Src))), ce [0, 1, 2, 3, 4, 5, 6, 7, 8, 9, 10, 11, 12] (.pointer (some ⟨b3, 7, none⟩)), cw [0, 1, 2, 3, 4, 5, 6, 7, 8, 9, 10, 11, 12, 13] [] [] fun u => [Val (Kd.sl (Kd.int .u8)) u x2.Data], cm [0, 1, 2, 3, 4, 5, 6, 7, 8, 9, 10, 11, 12, 13, 14] [14] [] (.int .i64 (x2.Data.length : Int)) fun u => [], ce [0, 1, 2, 3, 4, 5, 6, 7, 8, 9, 10, 11, 12, 13, 14, 15] (.bool (decide (0 < (x2.Data.length : Int)))), ce [0, 1, 2, 3, 4, 5, 6, 7, 8, 9, 10, 11, 12, 13, 14, 15, 16] (.bool (decide (0 < (x2.Data.length : Int)))), ⟨[17], [], [], true, .con undef, none, fun u => [], []⟩, ⟨[17], [], [], true, .con undef, none, fun u => [], []⟩, ⟨[17], [], [], true, .con undef, none, fun u => [], []⟩, ⟨[20], [], [], true, .con undef, none, fun u => [], []⟩, ⟨[20], [], [], true, .con undef, none, fun u => [], []⟩, ⟨[20], [], [], true, .con undef, none, fun u => [], []⟩, ⟨[20], [], [], true, .con undef, none, fun u => [], []⟩, ⟨[20], [], [], true, .con undef, none, fun u => [], []⟩, ⟨[20], [], [], true, .con undef, none, fun u => [], []⟩, ⟨[20], [], [], true, .con undef, none, fun u => [], []⟩, ⟨[20], [], [], true, .con undef, none, fun u => [], []⟩, ⟨[20], [], [], true, .con undef, none, fun u => [], []⟩, ⟨[20], [], [], true, .con undef, none, fun u => [], []⟩, ⟨[20], [], [], true, .con undef, none, fun u => [], []⟩, ⟨[17], [], [], true, .con undef, none, fun u => [], []⟩, ⟨[17], [], [], true, .con undef, none, fun u => [], []⟩, ⟨[33], [], [], true, .con undef, none, fun u => [], []⟩, ⟨[33], [], [], true, .con undef, none, fun u => [], []⟩, ⟨[33], [], [], true, .con undef, none, fun u => [], []⟩, ⟨[33], [], [], true, .con undef, none, fun u => [], []⟩, ⟨[33], [], [], true, .con undef, none, fun u => [], []⟩, ⟨[33], [], [], true, .con undef, none, fun u => [], []⟩, ⟨[33], [], [], true, .con undef, none, fun u => [], []⟩, ⟨[33], [], [], true, .con undef, none, fun u => [], []⟩, ⟨[33], [], [], true, .con undef, none, fun u => [], []⟩, ⟨[33], [], [], true, .con undef, none, fun u => [], []⟩, ⟨[33], [], [], true, .con undef, none, fun u => [], []⟩, ⟨[33], [], [], true, .con undef, none, fun u => [], []⟩, ⟨[33], [], [], true, .con undef, none, fun u => [], []⟩] rfl t_mxo (by kernel_rfl) (by rfl) ?_ fun f1 _ _ h => ?_
         ·exact ox rfl (o_fa rfl t_f30_0 rfl rfl) (ox rfl (OpS.pur (fun F w m_ => (in2 (fd_sub sSeg_Src 0 rfl m_))) (o_lfx 0 rfl rfl sSeg_Src rfl X_int t_y3)) (ox rfl (o_fa rfl t_f30_1 rfl rfl) (ox rfl (OpS.pur (fun F w m_ => (in2 (fd_sub sSeg_Dst 4 rfl m_))) (o_lfx 4 rfl rfl sSeg_Dst rfl X_int t_y3)) (ox rfl (o_bin rfl rfl rfl) (ox rfl (o_move rfl) (og rfl rfl (fun _ => rfl) (nbF c6) (o_fa rfl t_f30_1 rfl rfl) (og rfl rfl (fun _ => rfl) (nbF c6) (OpS.pur (fun F w m_ => (in2 (fd_sub sSeg_Dst 0 rfl m_))) (o_lfx 0 rfl rfl sSeg_Dst rfl X_int t_y3)) (og rfl rfl (fun _ => rfl) (nbF c6) (o_fa rfl t_f30_0 rfl rfl) (og rfl rfl (fun _ => rfl) (nbF c6) (OpS.pur (fun F w m_ => (in2 (fd_sub sSeg_Src 4 rfl m_))) (o_lfx 4 rfl rfl sSeg_Src rfl X_int t_y3)) (og rfl rfl (fun _ => rfl) (nbF c6) (o_bin rfl rfl rfl) (ox rfl (o_pickF rfl rfl c6) (ox rfl (o_move rfl) (og rfl rfl (fun _ => rfl) (nbF c7) (o_fa rfl t_f30_7 rfl rfl) (obs_cons (ob_own rfl (gok_some rfl rfl rfl (fun _ => rfl) (nbF c7)) rfl fun f1 => (o_lfv 0 rfl rfl sSeg_Data rfl Per_sl t_y23)) (og rfl rfl (fun _ => rfl) (nbF c7) (o_ln rfl (rd_at 0 rfl) t_v23) (og rfl rfl (fun _ => rfl) (nbF c7) (o_bin rfl rfl rfl) (og rfl rfl (fun _ => rfl) (nbF c7) (o_move rfl) (oj rfl rfl (fun _ => rfl) (nb_f c8) (oj rfl rfl (fun _ => rfl) (nb_f c8) (oj rfl rfl (fun _ => rfl) (nb_f c8) (oj rfl rfl (fun _ => rfl) rfl (oj rfl rfl (fun _ => rfl) rfl (oj rfl rfl (fun _ => rfl) rfl (oj rfl rfl (fun _ => rfl) rfl (oj rfl rfl (fun _ => rfl) rfl (oj rfl rfl (fun _ => rfl) rfl (oj rfl rfl (fun _ => rfl) rfl (oj rfl rfl (fun _ => rfl) rfl (oj rfl rfl (fun _ => rfl) rfl (oj rfl rfl (fun _ => rfl) rfl (oj rfl rfl (fun _ => rfl) rfl (oj rfl rfl (fun _ => rfl) (nb_f c8) (oj rfl rfl (fun _ => rfl) (nb_f c8) (oj rfl rfl (fun _ => rfl) rfl (oj rfl rfl (fun _ => rfl) rfl (oj rfl rfl (fun _ => rfl) rfl (oj rfl rfl (fun _ => rfl) rfl (oj rfl rfl (fun _ => rfl) rfl (oj rfl rfl (fun _ => rfl) rfl (oj rfl rfl (fun _ => rfl) rfl (oj rfl rfl (fun _ => rfl) rfl (oj rfl rfl (fun _ => rfl) rfl (oj rfl rfl (fun _ => rfl) rfl (oj rfl rfl (fun _ => rfl) rfl (oj rfl rfl (fun _ => rfl) rfl (oj rfl rfl (fun _ => rfl) rfl (obs_nil)))))))))))))))))))))))))))))))))))))))))))))))
         replace h := h.wk (E' := [(1, .int .u32 a2), (3, pt b1), (7, pt b2), (10, .int .i64 s2), (79, .bool (!decide (x2.Dst = a1.Src))), (84, .bool (decide (0 < (x2.Data.length : Int)))), (100, undef)]) (L' := [Ent.pur (InR .i64 x2.Src), Ent.pur (InR .i64 a1.Dst), Ent.pur (InR .i64 x2.Dst), Ent.pur (InR .i64 a1.Src), Val (Kd.sl (Kd.int .u8)) (f1 14) x2.Data, Fld KSeg b3 0 x2, Val KSeg v8 x2, Val (Kd.sl KSeg) v7 j2.segs, Val (Kd.sl KSeg) v6 j2.segs, Fld KSeg b1 0 a1, Pfl KplayR b2 0 j2]) (by kernel_rfl) [0, 1, 2, 3, 4, 5, 6, 7, 8, 9, 10] (by decide) (by kernel_rfl)
         refine gk h rfl rfl rfl rfl fun _ h => ?_
         refine gk h rfl rfl rfl rfl fun _ h => ?_
         refine gk h rfl rfl (nb_f c8) rfl fun _ h => ?_
         refine gg h rfl rfl (nbF c7) (o_pickF rfl rfl c8) rfl fun _ _ _ h => ?_
         refine ga h (o_pickF rfl rfl c7) rfl fun h => ?_
         refine GoR.done ?_
         exact J3 false _ _ (som H).symm (h.wr [5, 9, 10])
     ·have H := ifF c5 H
      refine g_f h rfl c5 ?_
      refine Go.exit rfl ?_
      have e_ := som H; subst e_
      exact J4 () _ _ (nx_out i2).symm (h.wr [1, 2])
    ·exact I_ _ _ (show InR .i64 0 by decide) (h.wr [1, 0])
   refine g_loop (fun s1 G => ∀  (a : Act) (w : World), InR .i64 s1.1 → St Try.f7.ntmps F [(1, .int .u32 a2), (2, v2), (3, pt b1), (7, pt b2), (9, .int .i64 s1.1)] [Val (Kd.sl KEv) v2 a3, Fld Kplay b2 0 s1.2, Fld KSeg b1 0 a1] a w → G a w) hl (fun s1 p1 H i1 => ?_) fun I_ => ?_
   ·intro  a w g1 h
    refine Go.seq ?_
    refine Go.seq ?_
    obtain ⟨o2, H, G2⟩ := bindE H
    refine g_cut (fun G => ∀ j1 (a : Act) (w : World), o2 = j1 → St Try.f7.ntmps F [(1, .int .u32 a2), (2, v2), (3, pt b1), (7, pt b2), (9, .int .i64 s1.1), (36, .bool j1)] [Val (Kd.sl KEv) v2 a3, Fld Kplay b2 0 s1.2, Fld KSeg b1 0 a1] a w → G a w) 1 ?_ fun J1 => ?_
    ·intro j1 a w ho_ h
     rw [ho_] at G2
     have H := G2
     by_cases c4 : j1 = true
     ·have H := ifT c4 H
      refine g_t h rfl c4 ?_
      refine Go.skip ?_
      refine Go.seq ?_
      refine Go.block ?_
      refine Go.reg ?_
      iterate 3 (refine ga h (o_move rfl) rfl fun h => ?_)
      obtain ⟨x1, ex1, H⟩ := bindE H
      refine ga h (o_ix rfl rfl (rd_at 0 rfl) ex1 t_v50) rfl fun h => ?_
      refine gs h (o_lev rfl (rd_at 0 rfl) ex1 t_y46 (by decide)) rfl fun v5 _ _ h => ?_
      obtain ⟨r5, er5, H⟩ := bindE H
      refine ga h (o_call (law28_play_do.spc b2 s1.2 v5 x1 r5 er5) rfl [0] [2] (by decide) rfl rfl) rfl fun h => ?_
      refine GoR.done ?_
      refine Go.inBlock ?_
      refine Go.reg ?_
      refine mv h rfl rfl fun h => ?_
      refine ga h (o_bin rfl rfl rfl) rfl fun h => ?_
      obtain ⟨y2, ey2, H⟩ := ltE H
      refine ga h (o_assign' rfl (congrArg (fun z => Value.int .i64 z) ey2)) rfl fun h => ?_
      refine GoR.done ?_
      have e_ := som H; subst e_
      exact Go.inLoop (nx_in i1 _ _ (ey2 ▸ (wrap_in _ _)) (h.wr [2, 0, 4]))
     ·have H := ifF c4 H
      refine g_f h rfl c4 ?_
      refine Go.exit rfl ?_
      have e_ := som H; subst e_
      exact J2 s1.2 _ _ (nx_out i1).symm (h.wr [1, 2])
    refine Go.reg ?_
    refine mv h rfl rfl fun h => ?_
    refine mv h rfl rfl fun h => ?_
    have g2 := (len_at 0 rfl h.mem)
    refine ga h (o_ln rfl (rd_at 0 rfl) t_v50) rfl fun h => ?_
    refine ga h (o_bin rfl rfl rfl) rfl fun h => ?_
    refine mv h rfl rfl fun h => ?_
    by_cases c3 : decide (s1.1 < (a3.length : Int)) = true
    ·have H := ifT c3 H
     refine gg h rfl rfl c3 (o_move rfl) rfl fun _ _ _ h => ?_
     refine gg h rfl rfl c3 (o_nilc rfl) rfl fun _ _ _ h => ?_
     refine gg h rfl rfl c3 (o_fa rfl t_f48_5 rfl rfl) rfl fun _ _ _ h => ?_
     refine gg h rfl rfl c3 (o_lfx 1 rfl rfl splay_gone rfl X_bool t_y4) rfl fun _ _ _ h => ?_
     refine gg h rfl rfl c3 (o_not rfl) rfl fun _ _ _ h => ?_
     refine ga h (o_pickT rfl rfl c3) rfl fun h => ?_
     refine GoR.done ?_
     exact J1 (!s1.2.gone) _ _ (som H).symm (h.wr [0, 1, 2])
    ·have H := ifF c3 H
     iterate 5 (refine gk h rfl rfl (nb_f c3) rfl fun _ h => ?_)
     refine ga h (o_pickF rfl rfl c3) rfl fun h => ?_
     refine GoR.done ?_
     exact J1 false _ _ (som H).symm (h.wr [0, 1, 2])
   ·exact I_ _ _ (show InR .i64 0 by decide) (h.wr [4, 0, 2])
def law28_SpliceSends.g (k_ : Nat) (a1 : TSeg) (a2 : Int) (a3 : List TEv) : Option (Bool) :=
  (law28_fits.g k_ a3).bind fun r1 => (if (!r1) = true then (law28_heads.g k_).bind fun r2 => some (r2) else (law28_begin.g k_ a1 a2).bind fun r3 => (if (!r3.2) = true then (law28_heads.g k_).bind fun r4 => some (r4) else (r3.1).bind fun y1 => (loopK k_ (fun s1 => ((if decide (s1.1 < (a3.length : Int)) = true then some ((!s1.2.gone)) else some (false))).bind (fun j1 => (if j1 = true then (idx a3 s1.1).bind fun x1 => (law28_play_do.g k_ s1.2 x1).bind fun r5 => lt (IntKind.i64.wrap (s1.1 + 1)) fun y2 => some (.inl (y2, r5)) else some (.inr (s1.2))))) (0, y1)).bind (fun j2 => (loopK k_ (fun s2 => (if decide (s2 < (j2.segs.length : Int)) = true then (idx j2.segs s2).bind fun x2 => lt (IntKind.u32.wrap ((IntKind.u32.wrap (x2.Seq - a2)) - 1)) fun y3 => ((if (!decide (x2.Src = a1.Dst)) = true then some (true) else (if (!decide (x2.Dst = a1.Src)) = true then some (true) else (if decide (0 < (x2.Data.length : Int)) = true then (if decide (y3 < 0) = true then some (true) else (if decide ((IntKind.i64.wrap ((j2.gave.length : Int) - (x2.Data.length : Int))) < y3) = true then some (true) else (cut j2.gave y3 (IntKind.i64.wrap (y3 + (x2.Data.length : Int)))).bind fun x3 => (ref01_Same.g k_ x3 x2.Data).bind fun r6 => some ((!r6)))) else some (false))))).bind (fun j3 => (if j3 = true then some (.inr (.inr (false))) else lt (IntKind.i64.wrap (s2 + 1)) fun y4 => some (.inl y4))) else some (.inr (.inl (()))))) 0).bind (Sum.elim (fun j4 => (law28_heads.g k_).bind fun r7 => some (r7)) (fun z_ => some (z_))))))
theorem law28_SpliceSends.le (k_ : Nat) (a1 : TSeg) (a2 : Int) (a3 : List TEv) : Le (law28_SpliceSends.g k_ a1 a2 a3) (law28_SpliceSends.f a1 a2 a3) := by
 unfold law28_SpliceSends.g law28_SpliceSends.f
 repeat' (first | with_reducible refine le_loop fun _ => ?_ | with_reducible refine le_bind ?_ fun _ => ?_ | with_reducible refine le_ite ?_ ?_ | with_reducible refine le_lt fun _ => ?_ | with_reducible refine le_elim (fun _ => ?_) (fun _ => ?_) _ | with_reducible apply law28_begin.le | with_reducible apply law28_fits.le | with_reducible apply law28_heads.le | with_reducible apply law28_play_do.le | with_reducible apply ref01_Same.le | with_reducible exact le_refl _)
end Go.Proofs.Ytpcbhkigmnpimaa.S
