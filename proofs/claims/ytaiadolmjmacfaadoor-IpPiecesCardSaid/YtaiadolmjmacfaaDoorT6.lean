/- Contracts, printed by a program of this session. -/
import Derived.Test.YtaiadolmjmacfaaDoorT0
namespace Go.Proofs.YtaiadolmjmacfaaDoor.S
open Go Go.SL Go.RowKit
set_option linter.unusedVariables false
set_option linter.unusedSimpArgs false
/-! drawbridge/drawbridgeref17.Same -/
noncomputable def ref17_Same.f (a1 : List TIp) (a2 : List TIp) : Option (Bool) :=
  (if (!decide ((a1.length : Int) = (a2.length : Int))) = true then some (false) else (loop (fun s1 => (if decide (s1 < (a1.length : Int)) = true then (idx a1 s1).bind fun x1 => (idx a2 s1).bind fun x2 => ((if (!decide (x1.Tos = x2.Tos)) = true then some (true) else (if (!decide (x1.Id = x2.Id)) = true then some (true) else (if (!decide (x1.Flags = x2.Flags)) = true then some (true) else (if (!decide (x1.Off = x2.Off)) = true then some (true) else (if (!decide (x1.Ttl = x2.Ttl)) = true then some (true) else (if (!decide (x1.Proto = x2.Proto)) = true then some (true) else (if (!decide (x1.Src = x2.Src)) = true then some (true) else (if (!decide (x1.Dst = x2.Dst)) = true then some (true) else (if (!decide (x1.Options = x2.Options)) = true then some (true) else some ((!decide (x1.Data = x2.Data))))))))))))).bind (fun j1 => (if j1 = true then some (.inr (.inr (false))) else lt (IntKind.i64.wrap (s1 + 1)) fun y1 => some (.inl y1))) else some (.inr (.inl (()))))) 0).bind (Sum.elim (fun j2 => some (true)) (fun z_ => some (z_))))
set_option maxRecDepth 100000 in
set_option maxHeartbeats 4000000 in
theorem ref17_Same.spc (v1 : Value) (a1 : List TIp) (v2 : Value) (a2 : List TIp) (r : Bool) (H : ref17_Same.f a1 a2 = some r) : Spc Tryd.prog 13 [v1, v2] [Val (Kd.sl KIp) v1 a1, Val (Kd.sl KIp) v2 a2] [] (fun (s : Unit) => .bool r) (fun s => []) := by
 unfold ref17_Same.f at H
 refine Spc.go Tryd.func13 rfl (by kernel_rfl) rfl rfl (all_cons (Val.per Per_sl) (all_cons (Val.per Per_sl) all_nil)) fun F a w h => ?_
 refine Go.seq ?_
 refine Go.reg ?_
 refine gs h (o_assign rfl) rfl fun _ _ _ h => ?_
 refine GoR.done ?_
 refine Go.seq ?_
 refine Go.seq ?_
 refine Go.reg ?_
 refine gs h (o_move rfl) rfl fun _ _ _ h => ?_
 have g1 := (len_at 0 rfl h.mem)
 refine gs h (o_ln rfl (rd_at 0 rfl) t_v38) rfl fun _ _ _ h => ?_
 refine gs h (o_move rfl) rfl fun _ _ _ h => ?_
 have g2 := (len_at 1 rfl h.mem)
 refine gs h (o_ln rfl (rd_at 1 rfl) t_v38) rfl fun _ _ _ h => ?_
 refine gs h (o_bin rfl rfl rfl) rfl fun _ _ _ h => ?_
 refine GoR.done ?_
 by_cases c1 : (!decide ((a1.length : Int) = (a2.length : Int))) = true
 ·have H := ifT c1 H
  refine g_t h rfl c1 ?_
  refine Go.seq ?_
  refine Go.reg ?_
  refine gs h (o_assign rfl) rfl fun _ _ _ h => ?_
  refine GoR.done ?_
  rw [← som H]
  exact g_ret (vs := [.bool false]) h Tryd.func13 ⟨rfl, trivial⟩ ⟨(), rfl, (h.mem.pick [] (by decide) rfl)⟩
 ·have H := ifF c1 H
  refine g_f h rfl c1 ?_
  refine Go.skip ?_
  refine Go.seq ?_
  refine Go.seq ?_
  refine Go.reg ?_
  refine gs h (o_assign rfl) rfl fun _ _ _ h => ?_
  refine GoR.done ?_
  refine Go.block ?_
  obtain ⟨o1, hl, G1⟩ := bindE H
  refine g_cut (fun G => ∀ j2 (a : Act) (w : World), o1 = .inl (j2) → St Tryd.f13.ntmps F [] [] a w → G a w) 2 ?_ fun J2 => ?_
  ·intro j2 a w ho_ h
   rw [ho_] at G1
   have H := eInl G1
   refine Go.seq ?_
   refine Go.reg ?_
   refine gs h (o_assign rfl) rfl fun _ _ _ h => ?_
   refine GoR.done ?_
   rw [← som H]
   exact g_ret (vs := [.bool true]) h Tryd.func13 ⟨rfl, trivial⟩ ⟨(), rfl, (h.mem.pick [] (by decide) rfl)⟩
  refine g_loop (fun s1 G => ∀  (a : Act) (w : World), InR .i64 s1 → St Tryd.f13.ntmps F [(0, v1), (1, v2), (5, .int .i64 s1)] [Val (Kd.sl KIp) v1 a1, Val (Kd.sl KIp) v2 a2] a w → G a w) hl (fun s1 p1 H i1 => ?_) fun I_ => ?_
  ·intro  a w g3 h
   refine Go.seq ?_
   refine Go.seq ?_
   refine Go.reg ?_
   refine gs h (o_move rfl) rfl fun _ _ _ h => ?_
   refine gs h (o_move rfl) rfl fun _ _ _ h => ?_
   have g4 := (len_at 0 rfl h.mem)
   refine gs h (o_ln rfl (rd_at 0 rfl) t_v38) rfl fun _ _ _ h => ?_
   refine gs h (o_bin rfl rfl rfl) rfl fun _ _ _ h => ?_
   refine GoR.done ?_
   by_cases c2 : decide (s1 < (a1.length : Int)) = true
   ·have H := ifT c2 H
    refine g_t h rfl c2 ?_
    refine Go.skip ?_
    refine Go.seq ?_
    refine Go.block ?_
    refine Go.seq ?_
    replace h := h.wk (E' := [(0, v1), (1, v2), (5, .int .i64 s1)]) (L' := [Val (Kd.sl KIp) v1 a1, Val (Kd.sl KIp) v2 a2]) (by rfl) [0, 1] (by decide) (by rfl)
    obtain ⟨x1, ex1, H⟩ := bindE H
    obtain ⟨x2, ex2, H⟩ := bindE H
    refine Go.draw (E := [(0, v1), (1, v2), (5, .int .i64 s1)]) [] (L := [Val (Kd.sl KIp) v1 a1, Val (Kd.sl KIp) v2 a2]) h rfl rfl 11 [⟨[], [], [], false, .con (v1), none, fun u => [], []⟩, ⟨[], [], [], false, .con (.int .i64 s1), none, fun u => [], []⟩, ⟨[0, 1], [], [], false, .con (elemP v1 (s1.toNat * Kd.n KIp)), none, fun u => [], []⟩, ⟨[0, 1, 2], [], [], false, .own, none, fun u => [Val KIp u x1], []⟩, ⟨[], [], [], false, .con (v2), none, fun u => [], []⟩, ⟨[], [], [], false, .con (.int .i64 s1), none, fun u => [], []⟩, ⟨[4, 5], [], [], false, .con (elemP v2 (s1.toNat * Kd.n KIp)), none, fun u => [], []⟩, ⟨[4, 5, 6], [], [], false, .own, none, fun u => [Val KIp u x2], []⟩, ⟨[], [], [], false, .own, none, fun u => [Ent.pur (u = .pointer (some ⟨blk u, 0, none⟩)), Fld KIp (blk u) 0 zIp], []⟩, ⟨[], [], [], false, .own, none, fun u => [Ent.pur (u = .pointer (some ⟨blk u, 0, none⟩)), Fld KIp (blk u) 0 zIp], []⟩, ⟨[0, 1, 2, 3, 8], [8, 3], [8], false, .con (undef), (some 8), fun u => [Ent.pur (u = .pointer (some ⟨blk u, 0, none⟩)), Fld KIp (blk u) 0 x1], []⟩] rfl t_mxo (by kernel_rfl) (by rfl) ?_ fun f1 _ _ h => ?_
    ·exact obs_cons (ob_con rfl (gok_none rfl) rfl fun f1 => (o_move rfl)) (obs_cons (ob_con rfl (gok_none rfl) rfl fun f1 => (o_move rfl)) (obs_cons (ob_con rfl (gok_none rfl) rfl fun f1 => (o_ix rfl rfl (rd_at 0 rfl) ex1 t_v38)) (obs_cons (ob_own rfl (gok_none rfl) rfl fun f1 => (o_lev rfl (rd_at 0 rfl) ex1 t_y25 (by decide))) (obs_cons (ob_con rfl (gok_none rfl) rfl fun f1 => (o_move rfl)) (obs_cons (ob_con rfl (gok_none rfl) rfl fun f1 => (o_move rfl)) (obs_cons (ob_con rfl (gok_none rfl) rfl fun f1 => (o_ix rfl rfl (rd_at 1 rfl) ex2 t_v38)) (obs_cons (ob_own rfl (gok_none rfl) rfl fun f1 => (o_lev rfl (rd_at 1 rfl) ex2 t_y25 (by decide))) (obs_cons (ob_own rfl (gok_none rfl) rfl fun f1 => (ptr_d (o_alloc (K := KIp) (z := (.agg #[.int .i64 0, .int .i64 0, .int .i64 0, .int .i64 0, .int .i64 0, .int .i64 0, .int .u32 0, .int .u32 0, .slice none 0 0, .slice none 0 0])) rfl ZIp))) (obs_cons (ob_own rfl (gok_none rfl) rfl fun f1 => (ptr_d (o_alloc (K := KIp) (z := (.agg #[.int .i64 0, .int .i64 0, .int .i64 0, .int .i64 0, .int .i64 0, .int .i64 0, .int .u32 0, .int .u32 0, .slice none 0 0, .slice none 0 0])) rfl ZIp))) (obs_cons (ob_con rfl (gok_none rfl) rfl fun f1 => (OpS.fact (fun F w m_ => (Mem.pur 0 rfl m_)) fun g5 => (o_st 1 (congrArg some g5) rfl rfl (pv_at PIp 2 rfl) rfl t_w25))) (obs_nil)))))))))))
    replace h := h.wk (E' := [(0, v1), (1, v2), (5, .int .i64 s1), (26, (f1 7)), (6, (f1 8)), (7, (f1 9))]) (L' := [Val KIp (f1 3) x1, Val KIp (f1 7) x2, Ent.pur ((f1 9) = .pointer (some ⟨blk (f1 9), 0, none⟩)), Fld KIp (blk (f1 9)) 0 zIp, Ent.pur ((f1 8) = .pointer (some ⟨blk (f1 8), 0, none⟩)), Fld KIp (blk (f1 8)) 0 x1, Val (Kd.sl KIp) v1 a1, Val (Kd.sl KIp) v2 a2]) (by kernel_rfl) [0, 1, 2, 3, 4, 5, 6, 7] (by decide) (by kernel_rfl)
    have q_ := h.mem.pur 4 rfl
    generalize blk (f1 8) = b3 at h q_
    rw [q_] at h
    have q_ := h.mem.pur 2 rfl
    generalize blk (f1 9) = b4 at h q_
    rw [q_] at h
    refine gs0 h (o_st 3 rfl rfl rfl (pv_at PIp 1 rfl) rfl t_w25) fun _ _ _ h => ?_
    refine GoR.done ?_
    refine Go.seq ?_
    obtain ⟨o2, H, G2⟩ := bindE H
    refine g_cut (fun G => ∀ j1 (a : Act) (w : World), o2 = j1 → St Tryd.f13.ntmps F [(0, v1), (1, v2), (5, .int .i64 s1), (98, .bool j1)] [Val (Kd.sl KIp) v1 a1, Val (Kd.sl KIp) v2 a2, Fld KIp b4 0 x2, Fld KIp b3 0 x1] a w → G a w) 1 ?_ fun J1 => ?_
    ·intro j1 a w ho_ h
     rw [ho_] at G2
     have H := G2
     by_cases c12 : j1 = true
     ·have H := ifT c12 H
      refine g_t h rfl c12 ?_
      refine Go.seq ?_
      refine Go.reg ?_
      refine gs h (o_assign rfl) rfl fun _ _ _ h => ?_
      refine GoR.done ?_
      have e_ := som H; subst e_
      rw [← nx_out i1] at G1
      have H := G1
      rw [← som H]
      exact g_ret (vs := [.bool false]) h Tryd.func13 ⟨rfl, trivial⟩ ⟨(), rfl, (h.mem.pick [] (by decide) rfl)⟩
     ·have H := ifF c12 H
      refine g_f h rfl c12 ?_
      refine Go.skip ?_
      refine Go.inBlock ?_
      refine Go.reg ?_
      refine gs h (o_move rfl) rfl fun _ _ _ h => ?_
      refine gs h (o_bin rfl rfl rfl) rfl fun _ _ _ h => ?_
      obtain ⟨y1, ey1, H⟩ := ltE H
      refine gs h (o_assign' rfl (congrArg (fun z => Value.int .i64 z) ey1)) rfl fun _ _ _ h => ?_
      refine GoR.done ?_
      have e_ := som H; subst e_
      exact Go.inLoop (nx_in i1 _ _ (ey1 ▸ (wrap_in _ _)) (h.wk (by rfl) [0, 1] (by decide) (by rfl)))
    refine Go.reg ?_
    refine gs h (o_fa rfl t_f25_0 rfl rfl) rfl fun _ _ _ h => ?_
    have g6 := (in2 (fd_sub sIp_Tos 5 rfl h.mem))
    refine gs h (o_lfx 5 rfl rfl sIp_Tos rfl X_int t_y3) rfl fun _ _ _ h => ?_
    refine gs h (o_fa rfl t_f25_0 rfl rfl) rfl fun _ _ _ h => ?_
    have g7 := (in2 (fd_sub sIp_Tos 3 rfl h.mem))
    refine gs h (o_lfx 3 rfl rfl sIp_Tos rfl X_int t_y3) rfl fun _ _ _ h => ?_
    refine gs h (o_bin rfl rfl rfl) rfl fun _ _ _ h => ?_
    refine gs h (o_move rfl) rfl fun _ _ _ h => ?_
    by_cases c3 : (!decide (x1.Tos = x2.Tos)) = true
    ·have H := ifT c3 H
     iterate 5 (refine gk h rfl rfl (nb_t c3) rfl fun _ h => ?_)
     refine gs h (o_pickT rfl rfl c3) rfl fun _ _ _ h => ?_
     refine gs h (o_move rfl) rfl fun _ _ _ h => ?_
     iterate 5 (refine gk h rfl rfl (nb_t rfl) rfl fun _ h => ?_)
     refine gs h (o_pickT rfl rfl rfl) rfl fun _ _ _ h => ?_
     refine gs h (o_move rfl) rfl fun _ _ _ h => ?_
     iterate 5 (refine gk h rfl rfl (nb_t rfl) rfl fun _ h => ?_)
     refine gs h (o_pickT rfl rfl rfl) rfl fun _ _ _ h => ?_
     refine gs h (o_move rfl) rfl fun _ _ _ h => ?_
     iterate 5 (refine gk h rfl rfl (nb_t rfl) rfl fun _ h => ?_)
     refine gs h (o_pickT rfl rfl rfl) rfl fun _ _ _ h => ?_
     refine gs h (o_move rfl) rfl fun _ _ _ h => ?_
     iterate 5 (refine gk h rfl rfl (nb_t rfl) rfl fun _ h => ?_)
     refine gs h (o_pickT rfl rfl rfl) rfl fun _ _ _ h => ?_
     refine gs h (o_move rfl) rfl fun _ _ _ h => ?_
     iterate 5 (refine gk h rfl rfl (nb_t rfl) rfl fun _ h => ?_)
     refine gs h (o_pickT rfl rfl rfl) rfl fun _ _ _ h => ?_
     refine gs h (o_move rfl) rfl fun _ _ _ h => ?_
     iterate 5 (refine gk h rfl rfl (nb_t rfl) rfl fun _ h => ?_)
     refine gs h (o_pickT rfl rfl rfl) rfl fun _ _ _ h => ?_
     refine gs h (o_move rfl) rfl fun _ _ _ h => ?_
     iterate 7 (refine gk h rfl rfl (nb_t rfl) rfl fun _ h => ?_)
     refine gs h (o_pickT rfl rfl rfl) rfl fun _ _ _ h => ?_
     refine gs h (o_move rfl) rfl fun _ _ _ h => ?_
     iterate 7 (refine gk h rfl rfl (nb_t rfl) rfl fun _ h => ?_)
     refine gs h (o_pickT rfl rfl rfl) rfl fun _ _ _ h => ?_
     refine GoR.done ?_
     exact J1 true _ _ (som H).symm (h.wk (by rfl) [6, 7, 3, 5] (by decide) (by rfl))
    ·have H := ifF c3 H
     refine gg h rfl rfl (nbF c3) (o_fa rfl t_f25_1 rfl rfl) rfl fun _ _ _ h => ?_
     have g8 := (in2 (fd_sub sIp_Id 5 rfl h.mem))
     refine gg h rfl rfl (nbF c3) (o_lfx 5 rfl rfl sIp_Id rfl X_int t_y3) rfl fun _ _ _ h => ?_
     refine gg h rfl rfl (nbF c3) (o_fa rfl t_f25_1 rfl rfl) rfl fun _ _ _ h => ?_
     have g9 := (in2 (fd_sub sIp_Id 3 rfl h.mem))
     refine gg h rfl rfl (nbF c3) (o_lfx 3 rfl rfl sIp_Id rfl X_int t_y3) rfl fun _ _ _ h => ?_
     refine gg h rfl rfl (nbF c3) (o_bin rfl rfl rfl) rfl fun _ _ _ h => ?_
     refine gs h (o_pickF rfl rfl c3) rfl fun _ _ _ h => ?_
     refine gs h (o_move rfl) rfl fun _ _ _ h => ?_
     by_cases c4 : (!decide (x1.Id = x2.Id)) = true
     ·have H := ifT c4 H
      iterate 5 (refine gk h rfl rfl (nb_t c4) rfl fun _ h => ?_)
      refine gs h (o_pickT rfl rfl c4) rfl fun _ _ _ h => ?_
      refine gs h (o_move rfl) rfl fun _ _ _ h => ?_
      iterate 5 (refine gk h rfl rfl (nb_t rfl) rfl fun _ h => ?_)
      refine gs h (o_pickT rfl rfl rfl) rfl fun _ _ _ h => ?_
      refine gs h (o_move rfl) rfl fun _ _ _ h => ?_
      iterate 5 (refine gk h rfl rfl (nb_t rfl) rfl fun _ h => ?_)
      refine gs h (o_pickT rfl rfl rfl) rfl fun _ _ _ h => ?_
      refine gs h (o_move rfl) rfl fun _ _ _ h => ?_
      iterate 5 (refine gk h rfl rfl (nb_t rfl) rfl fun _ h => ?_)
      refine gs h (o_pickT rfl rfl rfl) rfl fun _ _ _ h => ?_
      refine gs h (o_move rfl) rfl fun _ _ _ h => ?_
      iterate 5 (refine gk h rfl rfl (nb_t rfl) rfl fun _ h => ?_)
      refine gs h (o_pickT rfl rfl rfl) rfl fun _ _ _ h => ?_
      refine gs h (o_move rfl) rfl fun _ _ _ h => ?_
      iterate 5 (refine gk h rfl rfl (nb_t rfl) rfl fun _ h => ?_)
      refine gs h (o_pickT rfl rfl rfl) rfl fun _ _ _ h => ?_
      refine gs h (o_move rfl) rfl fun _ _ _ h => ?_
      iterate 7 (refine gk h rfl rfl (nb_t rfl) rfl fun _ h => ?_)
      refine gs h (o_pickT rfl rfl rfl) rfl fun _ _ _ h => ?_
      refine gs h (o_move rfl) rfl fun _ _ _ h => ?_
      iterate 7 (refine gk h rfl rfl (nb_t rfl) rfl fun _ h => ?_)
      refine gs h (o_pickT rfl rfl rfl) rfl fun _ _ _ h => ?_
      refine GoR.done ?_
      exact J1 true _ _ (som H).symm (h.wk (by rfl) [6, 7, 3, 5] (by decide) (by rfl))
     ·have H := ifF c4 H
      refine gg h rfl rfl (nbF c4) (o_fa rfl t_f25_2 rfl rfl) rfl fun _ _ _ h => ?_
      have g10 := (in2 (fd_sub sIp_Flags 5 rfl h.mem))
      refine gg h rfl rfl (nbF c4) (o_lfx 5 rfl rfl sIp_Flags rfl X_int t_y3) rfl fun _ _ _ h => ?_
      refine gg h rfl rfl (nbF c4) (o_fa rfl t_f25_2 rfl rfl) rfl fun _ _ _ h => ?_
      have g11 := (in2 (fd_sub sIp_Flags 3 rfl h.mem))
      refine gg h rfl rfl (nbF c4) (o_lfx 3 rfl rfl sIp_Flags rfl X_int t_y3) rfl fun _ _ _ h => ?_
      refine gg h rfl rfl (nbF c4) (o_bin rfl rfl rfl) rfl fun _ _ _ h => ?_
      refine gs h (o_pickF rfl rfl c4) rfl fun _ _ _ h => ?_
      refine gs h (o_move rfl) rfl fun _ _ _ h => ?_
      by_cases c5 : (!decide (x1.Flags = x2.Flags)) = true
      ·have H := ifT c5 H
       iterate 5 (refine gk h rfl rfl (nb_t c5) rfl fun _ h => ?_)
       refine gs h (o_pickT rfl rfl c5) rfl fun _ _ _ h => ?_
       refine gs h (o_move rfl) rfl fun _ _ _ h => ?_
       iterate 5 (refine gk h rfl rfl (nb_t rfl) rfl fun _ h => ?_)
       refine gs h (o_pickT rfl rfl rfl) rfl fun _ _ _ h => ?_
       refine gs h (o_move rfl) rfl fun _ _ _ h => ?_
       iterate 5 (refine gk h rfl rfl (nb_t rfl) rfl fun _ h => ?_)
       refine gs h (o_pickT rfl rfl rfl) rfl fun _ _ _ h => ?_
       refine gs h (o_move rfl) rfl fun _ _ _ h => ?_
       iterate 5 (refine gk h rfl rfl (nb_t rfl) rfl fun _ h => ?_)
       refine gs h (o_pickT rfl rfl rfl) rfl fun _ _ _ h => ?_
       refine gs h (o_move rfl) rfl fun _ _ _ h => ?_
       iterate 5 (refine gk h rfl rfl (nb_t rfl) rfl fun _ h => ?_)
       refine gs h (o_pickT rfl rfl rfl) rfl fun _ _ _ h => ?_
       refine gs h (o_move rfl) rfl fun _ _ _ h => ?_
       iterate 7 (refine gk h rfl rfl (nb_t rfl) rfl fun _ h => ?_)
       refine gs h (o_pickT rfl rfl rfl) rfl fun _ _ _ h => ?_
       refine gs h (o_move rfl) rfl fun _ _ _ h => ?_
       iterate 7 (refine gk h rfl rfl (nb_t rfl) rfl fun _ h => ?_)
       refine gs h (o_pickT rfl rfl rfl) rfl fun _ _ _ h => ?_
       refine GoR.done ?_
       exact J1 true _ _ (som H).symm (h.wk (by rfl) [6, 7, 3, 5] (by decide) (by rfl))
      ·have H := ifF c5 H
       refine gg h rfl rfl (nbF c5) (o_fa rfl t_f25_3 rfl rfl) rfl fun _ _ _ h => ?_
       have g12 := (in2 (fd_sub sIp_Off 5 rfl h.mem))
       refine gg h rfl rfl (nbF c5) (o_lfx 5 rfl rfl sIp_Off rfl X_int t_y3) rfl fun _ _ _ h => ?_
       refine gg h rfl rfl (nbF c5) (o_fa rfl t_f25_3 rfl rfl) rfl fun _ _ _ h => ?_
       have g13 := (in2 (fd_sub sIp_Off 3 rfl h.mem))
       refine gg h rfl rfl (nbF c5) (o_lfx 3 rfl rfl sIp_Off rfl X_int t_y3) rfl fun _ _ _ h => ?_
       refine gg h rfl rfl (nbF c5) (o_bin rfl rfl rfl) rfl fun _ _ _ h => ?_
       refine gs h (o_pickF rfl rfl c5) rfl fun _ _ _ h => ?_
       refine gs h (o_move rfl) rfl fun _ _ _ h => ?_
       by_cases c6 : (!decide (x1.Off = x2.Off)) = true
       ·have H := ifT c6 H
        iterate 5 (refine gk h rfl rfl (nb_t c6) rfl fun _ h => ?_)
        refine gs h (o_pickT rfl rfl c6) rfl fun _ _ _ h => ?_
        refine gs h (o_move rfl) rfl fun _ _ _ h => ?_
        iterate 5 (refine gk h rfl rfl (nb_t rfl) rfl fun _ h => ?_)
        refine gs h (o_pickT rfl rfl rfl) rfl fun _ _ _ h => ?_
        refine gs h (o_move rfl) rfl fun _ _ _ h => ?_
        iterate 5 (refine gk h rfl rfl (nb_t rfl) rfl fun _ h => ?_)
        refine gs h (o_pickT rfl rfl rfl) rfl fun _ _ _ h => ?_
        refine gs h (o_move rfl) rfl fun _ _ _ h => ?_
        iterate 5 (refine gk h rfl rfl (nb_t rfl) rfl fun _ h => ?_)
        refine gs h (o_pickT rfl rfl rfl) rfl fun _ _ _ h => ?_
        refine gs h (o_move rfl) rfl fun _ _ _ h => ?_
        iterate 7 (refine gk h rfl rfl (nb_t rfl) rfl fun _ h => ?_)
        refine gs h (o_pickT rfl rfl rfl) rfl fun _ _ _ h => ?_
        refine gs h (o_move rfl) rfl fun _ _ _ h => ?_
        iterate 7 (refine gk h rfl rfl (nb_t rfl) rfl fun _ h => ?_)
        refine gs h (o_pickT rfl rfl rfl) rfl fun _ _ _ h => ?_
        refine GoR.done ?_
        exact J1 true _ _ (som H).symm (h.wk (by rfl) [6, 7, 3, 5] (by decide) (by rfl))
       ·have H := ifF c6 H
        refine gg h rfl rfl (nbF c6) (o_fa rfl t_f25_4 rfl rfl) rfl fun _ _ _ h => ?_
        have g14 := (in2 (fd_sub sIp_Ttl 5 rfl h.mem))
        refine gg h rfl rfl (nbF c6) (o_lfx 5 rfl rfl sIp_Ttl rfl X_int t_y3) rfl fun _ _ _ h => ?_
        refine gg h rfl rfl (nbF c6) (o_fa rfl t_f25_4 rfl rfl) rfl fun _ _ _ h => ?_
        have g15 := (in2 (fd_sub sIp_Ttl 3 rfl h.mem))
        refine gg h rfl rfl (nbF c6) (o_lfx 3 rfl rfl sIp_Ttl rfl X_int t_y3) rfl fun _ _ _ h => ?_
        refine gg h rfl rfl (nbF c6) (o_bin rfl rfl rfl) rfl fun _ _ _ h => ?_
        refine gs h (o_pickF rfl rfl c6) rfl fun _ _ _ h => ?_
        refine gs h (o_move rfl) rfl fun _ _ _ h => ?_
        by_cases c7 : (!decide (x1.Ttl = x2.Ttl)) = true
        ·have H := ifT c7 H
         iterate 5 (refine gk h rfl rfl (nb_t c7) rfl fun _ h => ?_)
         refine gs h (o_pickT rfl rfl c7) rfl fun _ _ _ h => ?_
         refine gs h (o_move rfl) rfl fun _ _ _ h => ?_
         iterate 5 (refine gk h rfl rfl (nb_t rfl) rfl fun _ h => ?_)
         refine gs h (o_pickT rfl rfl rfl) rfl fun _ _ _ h => ?_
         refine gs h (o_move rfl) rfl fun _ _ _ h => ?_
         iterate 5 (refine gk h rfl rfl (nb_t rfl) rfl fun _ h => ?_)
         refine gs h (o_pickT rfl rfl rfl) rfl fun _ _ _ h => ?_
         refine gs h (o_move rfl) rfl fun _ _ _ h => ?_
         iterate 7 (refine gk h rfl rfl (nb_t rfl) rfl fun _ h => ?_)
         refine gs h (o_pickT rfl rfl rfl) rfl fun _ _ _ h => ?_
         refine gs h (o_move rfl) rfl fun _ _ _ h => ?_
         iterate 7 (refine gk h rfl rfl (nb_t rfl) rfl fun _ h => ?_)
         refine gs h (o_pickT rfl rfl rfl) rfl fun _ _ _ h => ?_
         refine GoR.done ?_
         exact J1 true _ _ (som H).symm (h.wk (by rfl) [6, 7, 3, 5] (by decide) (by rfl))
        ·have H := ifF c7 H
         refine gg h rfl rfl (nbF c7) (o_fa rfl t_f25_5 rfl rfl) rfl fun _ _ _ h => ?_
         have g16 := (in2 (fd_sub sIp_Proto 5 rfl h.mem))
         refine gg h rfl rfl (nbF c7) (o_lfx 5 rfl rfl sIp_Proto rfl X_int t_y3) rfl fun _ _ _ h => ?_
         refine gg h rfl rfl (nbF c7) (o_fa rfl t_f25_5 rfl rfl) rfl fun _ _ _ h => ?_
         have g17 := (in2 (fd_sub sIp_Proto 3 rfl h.mem))
         refine gg h rfl rfl (nbF c7) (o_lfx 3 rfl rfl sIp_Proto rfl X_int t_y3) rfl fun _ _ _ h => ?_
         refine gg h rfl rfl (nbF c7) (o_bin rfl rfl rfl) rfl fun _ _ _ h => ?_
         refine gs h (o_pickF rfl rfl c7) rfl fun _ _ _ h => ?_
         refine gs h (o_move rfl) rfl fun _ _ _ h => ?_
         by_cases c8 : (!decide (x1.Proto = x2.Proto)) = true
         ·have H := ifT c8 H
          iterate 5 (refine gk h rfl rfl (nb_t c8) rfl fun _ h => ?_)
          refine gs h (o_pickT rfl rfl c8) rfl fun _ _ _ h => ?_
          refine gs h (o_move rfl) rfl fun _ _ _ h => ?_
          iterate 5 (refine gk h rfl rfl (nb_t rfl) rfl fun _ h => ?_)
          refine gs h (o_pickT rfl rfl rfl) rfl fun _ _ _ h => ?_
          refine gs h (o_move rfl) rfl fun _ _ _ h => ?_
          iterate 7 (refine gk h rfl rfl (nb_t rfl) rfl fun _ h => ?_)
          refine gs h (o_pickT rfl rfl rfl) rfl fun _ _ _ h => ?_
          refine gs h (o_move rfl) rfl fun _ _ _ h => ?_
          iterate 7 (refine gk h rfl rfl (nb_t rfl) rfl fun _ h => ?_)
          refine gs h (o_pickT rfl rfl rfl) rfl fun _ _ _ h => ?_
          refine GoR.done ?_
          exact J1 true _ _ (som H).symm (h.wk (by rfl) [6, 7, 3, 5] (by decide) (by rfl))
         ·have H := ifF c8 H
          refine gg h rfl rfl (nbF c8) (o_fa rfl t_f25_6 rfl rfl) rfl fun _ _ _ h => ?_
          have g18 := (in2 (fd_sub sIp_Src 5 rfl h.mem))
          refine gg h rfl rfl (nbF c8) (o_lfx 5 rfl rfl sIp_Src rfl X_int t_y22) rfl fun _ _ _ h => ?_
          refine gg h rfl rfl (nbF c8) (o_fa rfl t_f25_6 rfl rfl) rfl fun _ _ _ h => ?_
          have g19 := (in2 (fd_sub sIp_Src 3 rfl h.mem))
          refine gg h rfl rfl (nbF c8) (o_lfx 3 rfl rfl sIp_Src rfl X_int t_y22) rfl fun _ _ _ h => ?_
          refine gg h rfl rfl (nbF c8) (o_bin rfl rfl rfl) rfl fun _ _ _ h => ?_
          refine gs h (o_pickF rfl rfl c8) rfl fun _ _ _ h => ?_
          refine gs h (o_move rfl) rfl fun _ _ _ h => ?_
          by_cases c9 : (!decide (x1.Src = x2.Src)) = true
          ·have H := ifT c9 H
           iterate 5 (refine gk h rfl rfl (nb_t c9) rfl fun _ h => ?_)
           refine gs h (o_pickT rfl rfl c9) rfl fun _ _ _ h => ?_
           refine gs h (o_move rfl) rfl fun _ _ _ h => ?_
           iterate 7 (refine gk h rfl rfl (nb_t rfl) rfl fun _ h => ?_)
           refine gs h (o_pickT rfl rfl rfl) rfl fun _ _ _ h => ?_
           refine gs h (o_move rfl) rfl fun _ _ _ h => ?_
           iterate 7 (refine gk h rfl rfl (nb_t rfl) rfl fun _ h => ?_)
           refine gs h (o_pickT rfl rfl rfl) rfl fun _ _ _ h => ?_
           refine GoR.done ?_
           exact J1 true _ _ (som H).symm (h.wk (by rfl) [6, 7, 3, 5] (by decide) (by rfl))
          ·have H := ifF c9 H
           refine gg h rfl rfl (nbF c9) (o_fa rfl t_f25_7 rfl rfl) rfl fun _ _ _ h => ?_
           have g20 := (in2 (fd_sub sIp_Dst 5 rfl h.mem))
           refine gg h rfl rfl (nbF c9) (o_lfx 5 rfl rfl sIp_Dst rfl X_int t_y22) rfl fun _ _ _ h => ?_
           refine gg h rfl rfl (nbF c9) (o_fa rfl t_f25_7 rfl rfl) rfl fun _ _ _ h => ?_
           have g21 := (in2 (fd_sub sIp_Dst 3 rfl h.mem))
           refine gg h rfl rfl (nbF c9) (o_lfx 3 rfl rfl sIp_Dst rfl X_int t_y22) rfl fun _ _ _ h => ?_
           refine gg h rfl rfl (nbF c9) (o_bin rfl rfl rfl) rfl fun _ _ _ h => ?_
           refine gs h (o_pickF rfl rfl c9) rfl fun _ _ _ h => ?_
           refine gs h (o_move rfl) rfl fun _ _ _ h => ?_
           by_cases c10 : (!decide (x1.Dst = x2.Dst)) = true
           ·have H := ifT c10 H
            iterate 7 (refine gk h rfl rfl (nb_t c10) rfl fun _ h => ?_)
            refine gs h (o_pickT rfl rfl c10) rfl fun _ _ _ h => ?_
            refine gs h (o_move rfl) rfl fun _ _ _ h => ?_
            iterate 7 (refine gk h rfl rfl (nb_t rfl) rfl fun _ h => ?_)
            refine gs h (o_pickT rfl rfl rfl) rfl fun _ _ _ h => ?_
            refine GoR.done ?_
            exact J1 true _ _ (som H).symm (h.wk (by rfl) [6, 7, 3, 5] (by decide) (by rfl))
           ·have H := ifF c10 H
            refine gg h rfl rfl (nbF c10) (o_fa rfl t_f25_8 rfl rfl) rfl fun _ _ _ h => ?_
            refine gg h rfl rfl (nbF c10) (o_lfv 5 rfl rfl sIp_Options rfl Per_sl t_y23) rfl fun v5 _ _ h => ?_
            have g22 := (rd_bs (rd_at 0 rfl) h.mem)
            refine gg h rfl rfl (nbF c10) (o_b2s rfl (rd_at 0 rfl) t_u23 t_u5 t_u9) rfl fun _ _ _ h => ?_
            refine gg h rfl rfl (nbF c10) (o_fa rfl t_f25_8 rfl rfl) rfl fun _ _ _ h => ?_
            refine gg h rfl rfl (nbF c10) (o_lfv 4 rfl rfl sIp_Options rfl Per_sl t_y23) rfl fun v6 _ _ h => ?_
            have g23 := (rd_bs (rd_at 0 rfl) h.mem)
            refine gg h rfl rfl (nbF c10) (o_b2s rfl (rd_at 0 rfl) t_u23 t_u5 t_u9) rfl fun _ _ _ h => ?_
            refine gg h rfl rfl (nbF c10) (o_nes rfl rfl g22 g23) rfl fun _ _ _ h => ?_
            refine gs h (o_pickF rfl rfl c10) rfl fun _ _ _ h => ?_
            refine gs h (o_move rfl) rfl fun _ _ _ h => ?_
            by_cases c11 : (!decide (x1.Options = x2.Options)) = true
            ·have H := ifT c11 H
             iterate 7 (refine gk h rfl rfl (nb_t c11) rfl fun _ h => ?_)
             refine gs h (o_pickT rfl rfl c11) rfl fun _ _ _ h => ?_
             refine GoR.done ?_
             exact J1 true _ _ (som H).symm (h.wk (by rfl) [8, 9, 5, 7] (by decide) (by rfl))
            ·have H := ifF c11 H
             refine gg h rfl rfl (nbF c11) (o_fa rfl t_f25_9 rfl rfl) rfl fun _ _ _ h => ?_
             refine gg h rfl rfl (nbF c11) (o_lfv 7 rfl rfl sIp_Data rfl Per_sl t_y23) rfl fun v7 _ _ h => ?_
             have g24 := (rd_bs (rd_at 0 rfl) h.mem)
             refine gg h rfl rfl (nbF c11) (o_b2s rfl (rd_at 0 rfl) t_u23 t_u5 t_u9) rfl fun _ _ _ h => ?_
             refine gg h rfl rfl (nbF c11) (o_fa rfl t_f25_9 rfl rfl) rfl fun _ _ _ h => ?_
             refine gg h rfl rfl (nbF c11) (o_lfv 6 rfl rfl sIp_Data rfl Per_sl t_y23) rfl fun v8 _ _ h => ?_
             have g25 := (rd_bs (rd_at 0 rfl) h.mem)
             refine gg h rfl rfl (nbF c11) (o_b2s rfl (rd_at 0 rfl) t_u23 t_u5 t_u9) rfl fun _ _ _ h => ?_
             refine gg h rfl rfl (nbF c11) (o_nes rfl rfl g24 g25) rfl fun _ _ _ h => ?_
             refine gs h (o_pickF rfl rfl c11) rfl fun _ _ _ h => ?_
             refine GoR.done ?_
             exact J1 (!decide (x1.Data = x2.Data)) _ _ (som H).symm (h.wk (by rfl) [10, 11, 7, 9] (by decide) (by rfl))
   ·have H := ifF c2 H
    refine g_f h rfl c2 ?_
    refine Go.exit rfl ?_
    have e_ := som H; subst e_
    exact J2 () _ _ (nx_out i1).symm (h.wk (by rfl) [] (by decide) (by rfl))
  ·exact I_ _ _ (show InR .i64 0 by decide) (h.wk (by rfl) [0, 1] (by decide) (by rfl))
def ref17_Same.g (k_ : Nat) (a1 : List TIp) (a2 : List TIp) : Option (Bool) :=
  (if (!decide ((a1.length : Int) = (a2.length : Int))) = true then some (false) else (loopK k_ (fun s1 => (if decide (s1 < (a1.length : Int)) = true then (idx a1 s1).bind fun x1 => (idx a2 s1).bind fun x2 => ((if (!decide (x1.Tos = x2.Tos)) = true then some (true) else (if (!decide (x1.Id = x2.Id)) = true then some (true) else (if (!decide (x1.Flags = x2.Flags)) = true then some (true) else (if (!decide (x1.Off = x2.Off)) = true then some (true) else (if (!decide (x1.Ttl = x2.Ttl)) = true then some (true) else (if (!decide (x1.Proto = x2.Proto)) = true then some (true) else (if (!decide (x1.Src = x2.Src)) = true then some (true) else (if (!decide (x1.Dst = x2.Dst)) = true then some (true) else (if (!decide (x1.Options = x2.Options)) = true then some (true) else some ((!decide (x1.Data = x2.Data))))))))))))).bind (fun j1 => (if j1 = true then some (.inr (.inr (false))) else lt (IntKind.i64.wrap (s1 + 1)) fun y1 => some (.inl y1))) else some (.inr (.inl (()))))) 0).bind (Sum.elim (fun j2 => some (true)) (fun z_ => some (z_))))
theorem ref17_Same.le (k_ : Nat) (a1 : List TIp) (a2 : List TIp) : Le (ref17_Same.g k_ a1 a2) (ref17_Same.f a1 a2) := by
 unfold ref17_Same.g ref17_Same.f
 repeat' (first | with_reducible refine le_loop fun _ => ?_ | with_reducible refine le_bind ?_ fun _ => ?_ | with_reducible refine le_ite ?_ ?_ | with_reducible refine le_lt fun _ => ?_ | with_reducible refine le_elim (fun _ => ?_) (fun _ => ?_) _ | with_reducible exact le_refl _)
/-! drawbridge/drawbridgeref01.Same -/
noncomputable def ref01_Same.f (a1 : List Int) (a2 : List Int) : Option (Bool) :=
  lt (decide (a1 = a2)) fun y1 => some (y1)
set_option maxRecDepth 100000 in
set_option maxHeartbeats 4000000 in
theorem ref01_Same.spc (v1 : Value) (a1 : List Int) (v2 : Value) (a2 : List Int) (r : Bool) (H : ref01_Same.f a1 a2 = some r) : Spc Tryd.prog 12 [v1, v2] [Val (Kd.sl (Kd.int .u8)) v1 a1, Val (Kd.sl (Kd.int .u8)) v2 a2] [] (fun (s : Unit) => .bool r) (fun s => []) := by
 unfold ref01_Same.f at H
 refine Spc.go Tryd.func12 rfl (by kernel_rfl) rfl rfl (all_cons (Val.per Per_sl) (all_cons (Val.per Per_sl) all_nil)) fun F a w h => ?_
 refine Go.seq ?_
 refine Go.reg ?_
 refine gs h (o_assign rfl) rfl fun _ _ _ h => ?_
 refine GoR.done ?_
 refine Go.seq ?_
 refine Go.reg ?_
 refine gs h (o_move rfl) rfl fun _ _ _ h => ?_
 have g1 := (rd_bs (rd_at 0 rfl) h.mem)
 refine gs h (o_b2s rfl (rd_at 0 rfl) t_u23 t_u5 t_u9) rfl fun _ _ _ h => ?_
 refine gs h (o_move rfl) rfl fun _ _ _ h => ?_
 have g2 := (rd_bs (rd_at 1 rfl) h.mem)
 refine gs h (o_b2s rfl (rd_at 1 rfl) t_u23 t_u5 t_u9) rfl fun _ _ _ h => ?_
 refine gs h (o_eqs rfl rfl g1 g2) rfl fun _ _ _ h => ?_
 obtain ⟨y1, ey1, H⟩ := ltE H
 refine gs h (o_assign' rfl (congrArg Value.bool ey1)) rfl fun _ _ _ h => ?_
 refine GoR.done ?_
 rw [← som H]
 exact g_ret (vs := [.bool y1]) h Tryd.func12 ⟨rfl, trivial⟩ ⟨(), rfl, (h.mem.pick [] (by decide) rfl)⟩
def ref01_Same.g (k_ : Nat) (a1 : List Int) (a2 : List Int) : Option (Bool) :=
  lt (decide (a1 = a2)) fun y1 => some (y1)
theorem ref01_Same.le (k_ : Nat) (a1 : List Int) (a2 : List Int) : Le (ref01_Same.g k_ a1 a2) (ref01_Same.f a1 a2) := by
 unfold ref01_Same.g ref01_Same.f
 repeat' (first | with_reducible refine le_loop fun _ => ?_ | with_reducible refine le_bind ?_ fun _ => ?_ | with_reducible refine le_ite ?_ ?_ | with_reducible refine le_lt fun _ => ?_ | with_reducible refine le_elim (fun _ => ?_) (fun _ => ?_) _ | with_reducible exact le_refl _)
end Go.Proofs.YtaiadolmjmacfaaDoor.S
