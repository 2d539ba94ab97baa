/- Contracts, printed by a program of this session. -/
import Derived.Test.YtpcbhkigmnpimaaT1
namespace Go.Proofs.Ytpcbhkigmnpimaa.S
open Go Go.SL Go.RowKit
set_option linter.unusedVariables false
set_option linter.unusedSimpArgs false
/-! drawbridge/splice.fresh -/
noncomputable def splice_fresh.f (a1 : TConn) : Option (Bool) :=
  ((if a1.Fin = true then some (true) else (if a1.Done = true then some (true) else (if a1.Shut = true then some (true) else (if decide (0 < (a1.ToHost.length : Int)) = true then some (true) else (if decide (0 < (a1.Early.length : Int)) = true then some (true) else some ((!decide (a1.Una = a1.Begin))))))))).bind (fun j1 => (if j1 = true then some (false) else (if a1.Opening = true then ((if decide (a1.Next = a1.Begin) = true then (if (!a1.Eof) = true then (if decide ((a1.ToGuest.length : Int) = 0) = true then lt (decide (a1.At = 0)) fun y1 => some (y1) else some (false)) else some (false)) else some (false))).bind (fun j2 => some (j2)) else lt (decide ((IntKind.u32.wrap (a1.Next - a1.Begin)) = 1)) fun y2 => some (y2))))
set_option maxRecDepth 100000 in
set_option maxHeartbeats 4000000 in
theorem splice_fresh.spc (v1 : Value) (a1 : TConn) (r : Bool) (H : splice_fresh.f a1 = some r) : Spc Try.prog 23 [v1] [Val KConn v1 a1] [] (fun (s : Unit) => .bool r) (fun s => []) := by
 unfold splice_fresh.f at H
 refine Spc.go Try.func23 rfl (by kernel_rfl) rfl rfl (all_cons (Val.per PConn) all_nil) fun F a w h => ?_
 refine Go.seq ?_
 refine Go.reg ?_
 refine gs h (o_box (K := KConn) rfl (pv_at PConn 0 rfl)) rfl fun b1 _ _ h => ?_
 refine ga h (o_assign rfl) rfl fun h => ?_
 refine GoR.done ?_
 refine Go.seq ?_
 refine Go.seq ?_
 obtain ⟨o1, H, G1⟩ := bindE H
 refine g_cut (fun G => ∀ j1 (a : Act) (w : World), o1 = j1 → St Try.f23.ntmps F [(1, pt b1), (31, .bool j1)] [Fld KConn b1 0 a1] a w → G a w) 1 ?_ fun J1 => ?_
 ·intro j1 a w ho_ h
  rw [ho_] at G1
  have H := G1
  by_cases c6 : j1 = true
  ·have H := ifT c6 H
   refine g_t h rfl c6 ?_
   refine Go.seq ?_
   refine Go.reg ?_
   refine ga h (o_assign rfl) rfl fun h => ?_
   refine GoR.done ?_
   rw [← som H]
   exact g_ret (vs := [.bool false]) h Try.func23 ⟨rfl, trivial⟩ ⟨(), rfl, (h.mem.pick [] (by decide) rfl)⟩
  ·have H := ifF c6 H
   refine g_f h rfl c6 ?_
   refine Go.skip ?_
   refine Go.seq ?_
   refine Go.seq ?_
   refine Go.reg ?_
   refine ga h (o_fa rfl t_f26_5 rfl rfl) rfl fun h => ?_
   refine ga h (o_lfx 0 rfl rfl sConn_Opening rfl X_bool t_y4) rfl fun h => ?_
   refine GoR.done ?_
   by_cases c7 : a1.Opening = true
   ·have H := ifT c7 H
    refine g_t h rfl c7 ?_
    refine Go.seq ?_
    obtain ⟨o2, H, G2⟩ := bindE H
    refine g_cut (fun G => ∀ j2 (a : Act) (w : World), o2 = j2 → St Try.f23.ntmps F [(2, .bool j2)] [Fld KConn b1 0 a1] a w → G a w) 1 ?_ fun J2 => ?_
    ·intro j2 a w ho_ h
     rw [ho_] at G2
     have H := G2
     rw [← som H]
     exact g_ret (vs := [.bool j2]) h Try.func23 ⟨rfl, trivial⟩ ⟨(), rfl, (h.mem.pick [] (by decide) rfl)⟩
    refine Go.reg ?_
    refine ga h (o_fa rfl t_f26_10 rfl rfl) rfl fun h => ?_
    have g5 := (in2 (fd_sub sConn_Next 0 rfl h.mem))
    refine ga h (o_lfx 0 rfl rfl sConn_Next rfl X_int t_y22) rfl fun h => ?_
    refine ga h (o_fa rfl t_f26_8 rfl rfl) rfl fun h => ?_
    have g6 := (in2 (fd_sub sConn_Begin 0 rfl h.mem))
    refine ga h (o_lfx 0 rfl rfl sConn_Begin rfl X_int t_y22) rfl fun h => ?_
    refine ga h (o_bin rfl rfl rfl) rfl fun h => ?_
    refine mv h rfl rfl fun h => ?_
    by_cases c8 : decide (a1.Next = a1.Begin) = true
    ·have H := ifT c8 H
     refine gg h rfl rfl c8 (o_fa rfl t_f26_18 rfl rfl) rfl fun _ _ _ h => ?_
     refine gg h rfl rfl c8 (o_lfx 0 rfl rfl sConn_Eof rfl X_bool t_y4) rfl fun _ _ _ h => ?_
     refine gg h rfl rfl c8 (o_not rfl) rfl fun _ _ _ h => ?_
     refine ga h (o_pickT rfl rfl c8) rfl fun h => ?_
     refine mv h rfl rfl fun h => ?_
     by_cases c9 : (!a1.Eof) = true
     ·have H := ifT c9 H
      refine gg h rfl rfl c9 (o_fa rfl t_f26_15 rfl rfl) rfl fun _ _ _ h => ?_
      refine gg h rfl rfl c9 (o_lfv 0 rfl rfl sConn_ToGuest rfl Per_sl t_y23) rfl fun v4 _ _ h => ?_
      have g7 := (len_at 0 rfl h.mem)
      refine gg h rfl rfl c9 (o_ln rfl (rd_at 0 rfl) t_v23) rfl fun _ _ _ h => ?_
      refine gg h rfl rfl c9 (o_bin rfl rfl rfl) rfl fun _ _ _ h => ?_
      refine ga h (o_pickT rfl rfl c9) rfl fun h => ?_
      refine mv h rfl rfl fun h => ?_
      by_cases c10 : decide ((a1.ToGuest.length : Int) = 0) = true
      ·have H := ifT c10 H
       refine gg h rfl rfl c10 (o_fa rfl t_f26_20 rfl rfl) rfl fun _ _ _ h => ?_
       have g8 := (in2 (fd_sub sConn_At 1 rfl h.mem))
       refine gg h rfl rfl c10 (o_lfx 1 rfl rfl sConn_At rfl X_int t_y3) rfl fun _ _ _ h => ?_
       refine gg h rfl rfl c10 (o_bin rfl rfl rfl) rfl fun _ _ _ h => ?_
       refine ga h (o_pickT rfl rfl c10) rfl fun h => ?_
       obtain ⟨y1, ey1, H⟩ := ltE H
       refine ga h (o_assign' rfl (congrArg Value.bool ey1)) rfl fun h => ?_
       refine GoR.done ?_
       exact J2 y1 _ _ (som H).symm (h.wr [1])
      ·have H := ifF c10 H
       iterate 3 (refine gk h rfl rfl (nb_f c10) rfl fun _ h => ?_)
       refine ga h (o_pickF rfl rfl c10) rfl fun h => ?_
       refine ga h (o_assign rfl) rfl fun h => ?_
       refine GoR.done ?_
       exact J2 false _ _ (som H).symm (h.wr [1])
     ·have H := ifF c9 H
      iterate 4 (refine gk h rfl rfl (nb_f c9) rfl fun _ h => ?_)
      refine ga h (o_pickF rfl rfl c9) rfl fun h => ?_
      refine mv h rfl rfl fun h => ?_
      iterate 3 (refine gk h rfl rfl (nb_f Bool.false_ne_true) rfl fun _ h => ?_)
      refine ga h (o_pickF rfl rfl Bool.false_ne_true) rfl fun h => ?_
      refine ga h (o_assign rfl) rfl fun h => ?_
      refine GoR.done ?_
      exact J2 false _ _ (som H).symm (h.wr [0])
    ·have H := ifF c8 H
     iterate 3 (refine gk h rfl rfl (nb_f c8) rfl fun _ h => ?_)
     refine ga h (o_pickF rfl rfl c8) rfl fun h => ?_
     refine mv h rfl rfl fun h => ?_
     iterate 4 (refine gk h rfl rfl (nb_f Bool.false_ne_true) rfl fun _ h => ?_)
     refine ga h (o_pickF rfl rfl Bool.false_ne_true) rfl fun h => ?_
     refine mv h rfl rfl fun h => ?_
     iterate 3 (refine gk h rfl rfl (nb_f Bool.false_ne_true) rfl fun _ h => ?_)
     refine ga h (o_pickF rfl rfl Bool.false_ne_true) rfl fun h => ?_
     refine ga h (o_assign rfl) rfl fun h => ?_
     refine GoR.done ?_
     exact J2 false _ _ (som H).symm (h.wr [0])
   ·have H := ifF c7 H
    refine g_f h rfl c7 ?_
    refine Go.skip ?_
    refine Go.seq ?_
    refine Go.reg ?_
    refine ga h (o_fa rfl t_f26_10 rfl rfl) rfl fun h => ?_
    have g9 := (in2 (fd_sub sConn_Next 0 rfl h.mem))
    refine ga h (o_lfx 0 rfl rfl sConn_Next rfl X_int t_y22) rfl fun h => ?_
    refine ga h (o_fa rfl t_f26_8 rfl rfl) rfl fun h => ?_
    have g10 := (in2 (fd_sub sConn_Begin 0 rfl h.mem))
    refine ga h (o_lfx 0 rfl rfl sConn_Begin rfl X_int t_y22) rfl fun h => ?_
    refine ga h (o_bin rfl rfl rfl) rfl fun h => ?_
    refine ga h (o_bin rfl rfl rfl) rfl fun h => ?_
    obtain ⟨y2, ey2, H⟩ := ltE H
    refine ga h (o_assign' rfl (congrArg Value.bool ey2)) rfl fun h => ?_
    refine GoR.done ?_
    rw [← som H]
    exact g_ret (vs := [.bool y2]) h Try.func23 ⟨rfl, trivial⟩ ⟨(), rfl, (h.mem.pick [] (by decide) rfl)⟩
 refine Go.reg ?_
 refine ga h (o_fa rfl t_f26_17 rfl rfl) rfl fun h => ?_
 refine ga h (o_lfx 0 rfl rfl sConn_Fin rfl X_bool t_y4) rfl fun h => ?_
 refine mv h rfl rfl fun h => ?_
 by_cases c1 : a1.Fin = true
 ·have H := ifT c1 H
  refine gk h rfl rfl (nb_t c1) rfl fun _ h => ?_
  refine gk h rfl rfl (nb_t c1) rfl fun _ h => ?_
  refine ga h (o_pickT rfl rfl c1) rfl fun h => ?_
  refine mv h rfl rfl fun h => ?_
  refine gk h rfl rfl (nb_t rfl) rfl fun _ h => ?_
  refine gk h rfl rfl (nb_t rfl) rfl fun _ h => ?_
  refine ga h (o_pickT rfl rfl rfl) rfl fun h => ?_
  refine mv h rfl rfl fun h => ?_
  iterate 4 (refine gk h rfl rfl (nb_t rfl) rfl fun _ h => ?_)
  refine ga h (o_pickT rfl rfl rfl) rfl fun h => ?_
  refine mv h rfl rfl fun h => ?_
  iterate 4 (refine gk h rfl rfl (nb_t rfl) rfl fun _ h => ?_)
  refine ga h (o_pickT rfl rfl rfl) rfl fun h => ?_
  refine mv h rfl rfl fun h => ?_
  iterate 5 (refine gk h rfl rfl (nb_t rfl) rfl fun _ h => ?_)
  refine ga h (o_pickT rfl rfl rfl) rfl fun h => ?_
  refine GoR.done ?_
  exact J1 true _ _ (som H).symm (h.wr [0])
 ·have H := ifF c1 H
  refine gg h rfl rfl (nbF c1) (o_fa rfl t_f26_7 rfl rfl) rfl fun _ _ _ h => ?_
  refine gg h rfl rfl (nbF c1) (o_lfx 0 rfl rfl sConn_Done rfl X_bool t_y4) rfl fun _ _ _ h => ?_
  refine ga h (o_pickF rfl rfl c1) rfl fun h => ?_
  refine mv h rfl rfl fun h => ?_
  by_cases c2 : a1.Done = true
  ·have H := ifT c2 H
   refine gk h rfl rfl (nb_t c2) rfl fun _ h => ?_
   refine gk h rfl rfl (nb_t c2) rfl fun _ h => ?_
   refine ga h (o_pickT rfl rfl c2) rfl fun h => ?_
   refine mv h rfl rfl fun h => ?_
   iterate 4 (refine gk h rfl rfl (nb_t rfl) rfl fun _ h => ?_)
   refine ga h (o_pickT rfl rfl rfl) rfl fun h => ?_
   refine mv h rfl rfl fun h => ?_
   iterate 4 (refine gk h rfl rfl (nb_t rfl) rfl fun _ h => ?_)
   refine ga h (o_pickT rfl rfl rfl) rfl fun h => ?_
   refine mv h rfl rfl fun h => ?_
   iterate 5 (refine gk h rfl rfl (nb_t rfl) rfl fun _ h => ?_)
   refine ga h (o_pickT rfl rfl rfl) rfl fun h => ?_
   refine GoR.done ?_
   exact J1 true _ _ (som H).symm (h.wr [0])
  ·have H := ifF c2 H
   refine gg h rfl rfl (nbF c2) (o_fa rfl t_f26_19 rfl rfl) rfl fun _ _ _ h => ?_
   refine gg h rfl rfl (nbF c2) (o_lfx 0 rfl rfl sConn_Shut rfl X_bool t_y4) rfl fun _ _ _ h => ?_
   refine ga h (o_pickF rfl rfl c2) rfl fun h => ?_
   refine mv h rfl rfl fun h => ?_
   by_cases c3 : a1.Shut = true
   ·have H := ifT c3 H
    iterate 4 (refine gk h rfl rfl (nb_t c3) rfl fun _ h => ?_)
    refine ga h (o_pickT rfl rfl c3) rfl fun h => ?_
    refine mv h rfl rfl fun h => ?_
    iterate 4 (refine gk h rfl rfl (nb_t rfl) rfl fun _ h => ?_)
    refine ga h (o_pickT rfl rfl rfl) rfl fun h => ?_
    refine mv h rfl rfl fun h => ?_
    iterate 5 (refine gk h rfl rfl (nb_t rfl) rfl fun _ h => ?_)
    refine ga h (o_pickT rfl rfl rfl) rfl fun h => ?_
    refine GoR.done ?_
    exact J1 true _ _ (som H).symm (h.wr [0])
   ·have H := ifF c3 H
    refine gg h rfl rfl (nbF c3) (o_fa rfl t_f26_14 rfl rfl) rfl fun _ _ _ h => ?_
    refine gg h rfl rfl (nbF c3) (o_lfv 0 rfl rfl sConn_ToHost rfl Per_sl t_y23) rfl fun v2 _ _ h => ?_
    have g1 := (len_at 0 rfl h.mem)
    refine gg h rfl rfl (nbF c3) (o_ln rfl (rd_at 0 rfl) t_v23) rfl fun _ _ _ h => ?_
    refine gg h rfl rfl (nbF c3) (o_bin rfl rfl rfl) rfl fun _ _ _ h => ?_
    refine ga h (o_pickF rfl rfl c3) rfl fun h => ?_
    refine mv h rfl rfl fun h => ?_
    by_cases c4 : decide (0 < (a1.ToHost.length : Int)) = true
    ·have H := ifT c4 H
     iterate 4 (refine gk h rfl rfl (nb_t c4) rfl fun _ h => ?_)
     refine ga h (o_pickT rfl rfl c4) rfl fun h => ?_
     refine mv h rfl rfl fun h => ?_
     iterate 5 (refine gk h rfl rfl (nb_t rfl) rfl fun _ h => ?_)
     refine ga h (o_pickT rfl rfl rfl) rfl fun h => ?_
     refine GoR.done ?_
     exact J1 true _ _ (som H).symm (h.wr [1])
    ·have H := ifF c4 H
     refine gg h rfl rfl (nbF c4) (o_fa rfl t_f26_16 rfl rfl) rfl fun _ _ _ h => ?_
     refine gg h rfl rfl (nbF c4) (o_lfv 1 rfl rfl sConn_Early rfl Per_sl t_y24) rfl fun v3 _ _ h => ?_
     have g2 := (len_at 0 rfl h.mem)
     refine gg h rfl rfl (nbF c4) (o_ln rfl (rd_at 0 rfl) t_v24) rfl fun _ _ _ h => ?_
     refine gg h rfl rfl (nbF c4) (o_bin rfl rfl rfl) rfl fun _ _ _ h => ?_
     refine ga h (o_pickF rfl rfl c4) rfl fun h => ?_
     refine mv h rfl rfl fun h => ?_
     by_cases c5 : decide (0 < (a1.Early.length : Int)) = true
     ·have H := ifT c5 H
      iterate 5 (refine gk h rfl rfl (nb_t c5) rfl fun _ h => ?_)
      refine ga h (o_pickT rfl rfl c5) rfl fun h => ?_
      refine GoR.done ?_
      exact J1 true _ _ (som H).symm (h.wr [2])
     ·have H := ifF c5 H
      refine gg h rfl rfl (nbF c5) (o_fa rfl t_f26_9 rfl rfl) rfl fun _ _ _ h => ?_
      have g3 := (in2 (fd_sub sConn_Una 2 rfl h.mem))
      refine gg h rfl rfl (nbF c5) (o_lfx 2 rfl rfl sConn_Una rfl X_int t_y22) rfl fun _ _ _ h => ?_
      refine gg h rfl rfl (nbF c5) (o_fa rfl t_f26_8 rfl rfl) rfl fun _ _ _ h => ?_
      have g4 := (in2 (fd_sub sConn_Begin 2 rfl h.mem))
      refine gg h rfl rfl (nbF c5) (o_lfx 2 rfl rfl sConn_Begin rfl X_int t_y22) rfl fun _ _ _ h => ?_
      refine gg h rfl rfl (nbF c5) (o_bin rfl rfl rfl) rfl fun _ _ _ h => ?_
      refine ga h (o_pickF rfl rfl c5) rfl fun h => ?_
      refine GoR.done ?_
      exact J1 (!decide (a1.Una = a1.Begin)) _ _ (som H).symm (h.wr [2])
def splice_fresh.g (k_ : Nat) (a1 : TConn) : Option (Bool) :=
  ((if a1.Fin = true then some (true) else (if a1.Done = true then some (true) else (if a1.Shut = true then some (true) else (if decide (0 < (a1.ToHost.length : Int)) = true then some (true) else (if decide (0 < (a1.Early.length : Int)) = true then some (true) else some ((!decide (a1.Una = a1.Begin))))))))).bind (fun j1 => (if j1 = true then some (false) else (if a1.Opening = true then ((if decide (a1.Next = a1.Begin) = true then (if (!a1.Eof) = true then (if decide ((a1.ToGuest.length : Int) = 0) = true then lt (decide (a1.At = 0)) fun y1 => some (y1) else some (false)) else some (false)) else some (false))).bind (fun j2 => some (j2)) else lt (decide ((IntKind.u32.wrap (a1.Next - a1.Begin)) = 1)) fun y2 => some (y2))))
theorem splice_fresh.le (k_ : Nat) (a1 : TConn) : Le (splice_fresh.g k_ a1) (splice_fresh.f a1) := by
 unfold splice_fresh.g splice_fresh.f
 repeat' (first | with_reducible refine le_loop fun _ => ?_ | with_reducible refine le_bind ?_ fun _ => ?_ | with_reducible refine le_ite ?_ ?_ | with_reducible refine le_lt fun _ => ?_ | with_reducible refine le_elim (fun _ => ?_) (fun _ => ?_) _ | with_reducible exact le_refl _)
/-! slices.IndexFunc[[]drawbridge/api.Early,drawbridge/api.Early] -/
noncomputable def slices_IndexFunc_s_api_Early_api_Early_at_splice_Check_1.f (a1 : List TEarly) (a2 : TConn) : Option (Int) :=
  (loop (fun s1 => (if decide (s1 < (a1.length : Int)) = true then (idx a1 s1).bind fun x1 => (splice_Check_1.f x1 a2).bind fun r1 => (if r1 = true then some (.inr (.inr (s1))) else some (.inl (IntKind.i64.wrap (s1 + 1)))) else some (.inr (.inl (()))))) 0).bind (Sum.elim (fun j1 => some ((-1))) (fun z_ => some (z_)))
set_option maxRecDepth 100000 in
set_option maxHeartbeats 4000000 in
theorem slices_IndexFunc_s_api_Early_api_Early_at_splice_Check_1.spc (v1 : Value) (a1 : List TEarly) (b1 : Nat) (a2 : TConn) (r : Int) (H : slices_IndexFunc_s_api_Early_api_Early_at_splice_Check_1.f a1 a2 = some r) : Spc Try.prog 31 [v1, .func (.func 20) #[] #[pt b1]] [Val (Kd.sl KEarly) v1 a1, Pfl KConn b1 0 a2] [] (fun (s : Unit) => .int .i64 r) (fun s => [Ent.pur (InR .i64 r)]) := by
 unfold slices_IndexFunc_s_api_Early_api_Early_at_splice_Check_1.f at H
 refine Spc.go Try.func31 rfl (by kernel_rfl) rfl rfl (all_cons (Val.per Per_sl) (all_cons Per_pfl all_nil)) fun F a w h => ?_
 refine Go.seq ?_
 refine Go.reg ?_
 refine ga h (o_assign rfl) rfl fun h => ?_
 refine GoR.done ?_
 refine Go.seq ?_
 refine Go.seq ?_
 refine Go.reg ?_
 refine mv h rfl rfl fun h => ?_
 have g1 := (len_at 0 rfl h.mem)
 refine ga h (o_ln rfl (rd_at 0 rfl) t_v24) rfl fun h => ?_
 refine mv h rfl rfl fun h => ?_
 refine GoR.done ?_
 refine Go.block ?_
 obtain ⟨o1, hl, G1⟩ := bindE H
 refine g_cut (fun G => ∀ j1 (a : Act) (w : World), o1 = .inl (j1) → St Try.f31.ntmps F [] [Pfl KConn b1 0 a2] a w → G a w) 2 ?_ fun J1 => ?_
 ·intro j1 a w ho_ h
  rw [ho_] at G1
  have H := eInl G1
  refine Go.seq ?_
  refine Go.reg ?_
  refine ga h (o_assign rfl) rfl fun h => ?_
  refine GoR.done ?_
  rw [← som H]
  exact g_ret (vs := [.int .i64 (-1)]) h Try.func31 ⟨rfl, trivial⟩ ⟨(), rfl, ((h.mem.pick [] (by decide) rfl).addpur (show InR .i64 (-1) by decide))⟩
 refine g_loop (fun s1 G => ∀  (a : Act) (w : World), InR .i64 s1 → St Try.f31.ntmps F [(0, v1), (1, .func (.func 20) #[] #[pt b1]), (7, .int .i64 (a1.length : Int)), (8, .int .i64 s1)] [Val (Kd.sl KEarly) v1 a1, Pfl KConn b1 0 a2] a w → G a w) hl (fun s1 p1 H i1 => ?_) fun I_ => ?_
 ·intro  a w g2 h
  refine Go.seq ?_
  refine Go.reg ?_
  refine ga h (o_bin rfl rfl rfl) rfl fun h => ?_
  refine GoR.done ?_
  refine Go.seq ?_
  by_cases c1 : decide (s1 < (a1.length : Int)) = true
  ·have H := ifT c1 H
   refine g_t h rfl c1 ?_
   refine Go.skip ?_
   refine Go.seq ?_
   refine Go.block ?_
   refine Go.seq ?_
   refine Go.reg ?_
   refine mv h rfl rfl fun h => ?_
   refine ga h (o_assign rfl) rfl fun h => ?_
   refine GoR.done ?_
   refine Go.seq ?_
   refine Go.reg ?_
   iterate 3 (refine ga h (o_move rfl) rfl fun h => ?_)
   obtain ⟨x1, ex1, H⟩ := bindE H
   refine ga h (o_ix rfl rfl (rd_at 0 rfl) ex1 t_v24) rfl fun h => ?_
   refine gs h (o_lev rfl (rd_at 0 rfl) ex1 t_y58 (by decide)) rfl fun v2 _ _ h => ?_
   obtain ⟨r1, er1, H⟩ := bindE H
   refine ga h (o_callv (vs := [v2]) (caps := [pt b1]) rfl rfl (splice_Check_1.spc v2 x1 b1 a2 r1 er1) [0, 2] [] (by decide) rfl rfl) rfl fun h => ?_
   refine GoR.done ?_
   by_cases c2 : r1 = true
   ·have H := ifT c2 H
    refine g_t h rfl c2 ?_
    refine Go.seq ?_
    refine Go.reg ?_
    refine mv h rfl rfl fun h => ?_
    refine ga h (o_assign rfl) rfl fun h => ?_
    refine GoR.done ?_
    have e_ := som H; subst e_
    rw [← nx_out i1] at G1
    have H := G1
    rw [← som H]
    exact g_ret (vs := [.int .i64 s1]) h Try.func31 ⟨rfl, trivial⟩ ⟨(), rfl, ((h.mem.pick [] (by decide) rfl).addpur g2)⟩
   ·have H := ifF c2 H
    refine g_f h rfl c2 ?_
    refine Go.skip ?_
    refine Go.inBlock ?_
    refine Go.reg ?_
    refine ga h (o_bin rfl rfl rfl) rfl fun h => ?_
    refine mv h rfl rfl fun h => ?_
    refine GoR.done ?_
    have e_ := som H; subst e_
    exact Go.inLoop (nx_in i1 _ _ (wrap_in _ _) (h.wr [1, 2]))
  ·have H := ifF c1 H
   refine g_f h rfl c1 ?_
   refine Go.exit rfl ?_
   have e_ := som H; subst e_
   exact J1 () _ _ (nx_out i1).symm (h.wr [1])
 ·exact I_ _ _ (show InR .i64 0 by decide) (h.wr [0, 1])
def slices_IndexFunc_s_api_Early_api_Early_at_splice_Check_1.g (k_ : Nat) (a1 : List TEarly) (a2 : TConn) : Option (Int) :=
  (loopK k_ (fun s1 => (if decide (s1 < (a1.length : Int)) = true then (idx a1 s1).bind fun x1 => (splice_Check_1.g k_ x1 a2).bind fun r1 => (if r1 = true then some (.inr (.inr (s1))) else some (.inl (IntKind.i64.wrap (s1 + 1)))) else some (.inr (.inl (()))))) 0).bind (Sum.elim (fun j1 => some ((-1))) (fun z_ => some (z_)))
theorem slices_IndexFunc_s_api_Early_api_Early_at_splice_Check_1.le (k_ : Nat) (a1 : List TEarly) (a2 : TConn) : Le (slices_IndexFunc_s_api_Early_api_Early_at_splice_Check_1.g k_ a1 a2) (slices_IndexFunc_s_api_Early_api_Early_at_splice_Check_1.f a1 a2) := by
 unfold slices_IndexFunc_s_api_Early_api_Early_at_splice_Check_1.g slices_IndexFunc_s_api_Early_api_Early_at_splice_Check_1.f
 repeat' (first | with_reducible refine le_loop fun _ => ?_ | with_reducible refine le_bind ?_ fun _ => ?_ | with_reducible refine le_ite ?_ ?_ | with_reducible refine le_lt fun _ => ?_ | with_reducible refine le_elim (fun _ => ?_) (fun _ => ?_) _ | with_reducible apply splice_Check_1.le | with_reducible exact le_refl _)
/-! slices.ContainsFunc[[]drawbridge/api.Early,drawbridge/api.Early] -/
noncomputable def slices_ContainsFunc_s_api_Early_api_Early_at_splice_Check_1.f (a1 : List TEarly) (a2 : TConn) : Option (Bool) :=
  (slices_IndexFunc_s_api_Early_api_Early_at_splice_Check_1.f a1 a2).bind fun r1 => lt (decide (0 ≤ r1)) fun y1 => some (y1)
set_option maxRecDepth 100000 in
set_option maxHeartbeats 4000000 in
theorem slices_ContainsFunc_s_api_Early_api_Early_at_splice_Check_1.spc (v1 : Value) (a1 : List TEarly) (b1 : Nat) (a2 : TConn) (r : Bool) (H : slices_ContainsFunc_s_api_Early_api_Early_at_splice_Check_1.f a1 a2 = some r) : Spc Try.prog 22 [v1, .func (.func 20) #[] #[pt b1]] [Val (Kd.sl KEarly) v1 a1, Pfl KConn b1 0 a2] [] (fun (s : Unit) => .bool r) (fun s => []) := by
 unfold slices_ContainsFunc_s_api_Early_api_Early_at_splice_Check_1.f at H
 refine Spc.go Try.func22 rfl (by kernel_rfl) rfl rfl (all_cons (Val.per Per_sl) (all_cons Per_pfl all_nil)) fun F a w h => ?_
 refine Go.seq ?_
 refine Go.reg ?_
 refine ga h (o_assign rfl) rfl fun h => ?_
 refine GoR.done ?_
 refine Go.seq ?_
 refine Go.reg ?_
 refine mv h rfl rfl fun h => ?_
 refine mv h rfl rfl fun h => ?_
 obtain ⟨r1, er1, H⟩ := bindE H
 refine ga h (o_call (slices_IndexFunc_s_api_Early_api_Early_at_splice_Check_1.spc v1 a1 b1 a2 r1 er1) rfl [0, 1] [] (by decide) rfl rfl) rfl fun h => ?_
 have g1 := h.mem.pur 0 rfl
 refine ga h (o_bin rfl rfl rfl) rfl fun h => ?_
 obtain ⟨y1, ey1, H⟩ := ltE H
 refine ga h (o_assign' rfl (congrArg Value.bool ey1)) rfl fun h => ?_
 refine GoR.done ?_
 rw [← som H]
 exact g_ret (vs := [.bool y1]) h Try.func22 ⟨rfl, trivial⟩ ⟨(), rfl, (h.mem.pick [] (by decide) rfl)⟩
def slices_ContainsFunc_s_api_Early_api_Early_at_splice_Check_1.g (k_ : Nat) (a1 : List TEarly) (a2 : TConn) : Option (Bool) :=
  (slices_IndexFunc_s_api_Early_api_Early_at_splice_Check_1.g k_ a1 a2).bind fun r1 => lt (decide (0 ≤ r1)) fun y1 => some (y1)
theorem slices_ContainsFunc_s_api_Early_api_Early_at_splice_Check_1.le (k_ : Nat) (a1 : List TEarly) (a2 : TConn) : Le (slices_ContainsFunc_s_api_Early_api_Early_at_splice_Check_1.g k_ a1 a2) (slices_ContainsFunc_s_api_Early_api_Early_at_splice_Check_1.f a1 a2) := by
 unfold slices_ContainsFunc_s_api_Early_api_Early_at_splice_Check_1.g slices_ContainsFunc_s_api_Early_api_Early_at_splice_Check_1.f
 repeat' (first | with_reducible refine le_loop fun _ => ?_ | with_reducible refine le_bind ?_ fun _ => ?_ | with_reducible refine le_ite ?_ ?_ | with_reducible refine le_lt fun _ => ?_ | with_reducible refine le_elim (fun _ => ?_) (fun _ => ?_) _ | with_reducible apply slices_IndexFunc_s_api_Early_api_Early_at_splice_Check_1.le | with_reducible exact le_refl _)
/-! drawbridge/splice.Check -/
noncomputable def splice_Check.f (a1 : TConn) : Option (Bool) :=
  (splice_ranges.f a1).bind fun r1 => (if (!r1) = true then some (false) else (slices_ContainsFunc_s_api_Early_api_Early_at_splice_Check_1.f a1.Early a1).bind fun r2 => (if r2 = true then some (false) else (if (!a1.Up) = true then (splice_fresh.f a1).bind fun r3 => some (r3) else lt (IntKind.u32.wrap (a1.Next - a1.Una)) fun y1 => lt (a1.ToGuest.length : Int) fun y2 => ((((if a1.Opening = true then some (true) else (if a1.Shut = true then (if (!a1.Fin) = true then some (true) else lt (decide (0 < (a1.ToHost.length : Int))) fun y3 => some (y3)) else some (false)))).bind (fun j1 => (if j1 = true then some (.inr (false)) else (if a1.Done = true then ((if a1.Eof = true then (if decide (y2 = 0) = true then lt (decide (y1 = 0)) fun y4 => some (y4) else some (false)) else some (false))).bind (fun j2 => some (.inr (j2))) else (if a1.Eof = true then lt (IntKind.i64.wrap (y2 + 1)) fun y5 => some (.inl (y5)) else some (.inl (y2))))))).bind (Sum.elim (fun j3 => some (.inl (j3))) (fun z_ => some (.inr (z_))))).bind (Sum.elim (fun j4 => lt (decide (y1 ≤ j4)) fun y6 => some (y6)) (fun z_ => some (z_))))))
set_option maxRecDepth 100000 in
set_option maxHeartbeats 4000000 in
theorem splice_Check.spc (v1 : Value) (a1 : TConn) (r : Bool) (H : splice_Check.f a1 = some r) : Spc Try.prog 10 [v1] [Val KConn v1 a1] [] (fun (s : Unit) => .bool r) (fun s => []) := by
 unfold splice_Check.f at H
 refine Spc.go Try.func10 rfl (by kernel_rfl) rfl rfl (all_cons (Val.per PConn) all_nil) fun F a w h => ?_
 refine Go.seq ?_
 refine Go.reg ?_
 refine gs h (o_box (K := KConn) rfl (pv_at PConn 0 rfl)) rfl fun b1 _ _ h => ?_
 refine ga h (o_assign rfl) rfl fun h => ?_
 refine GoR.done ?_
 refine Go.seq ?_
 refine Go.seq ?_
 refine Go.reg ?_
 refine gs h (o_ldv 0 rfl rfl PConn t_y26) rfl fun v2 _ _ h => ?_
 obtain ⟨r1, er1, H⟩ := bindE H
 refine ga h (o_call (splice_ranges.spc v2 a1 r1 er1) rfl [0] [] (by decide) rfl rfl) rfl fun h => ?_
 refine ga h (o_not rfl) rfl fun h => ?_
 refine GoR.done ?_
 by_cases c1 : (!r1) = true
 ·have H := ifT c1 H
  refine g_t h rfl c1 ?_
  refine Go.seq ?_
  refine Go.reg ?_
  refine ga h (o_assign rfl) rfl fun h => ?_
  refine GoR.done ?_
  rw [← som H]
  exact g_ret (vs := [.bool false]) h Try.func10 ⟨rfl, trivial⟩ ⟨(), rfl, (h.mem.pick [] (by decide) rfl)⟩
 ·have H := ifF c1 H
  refine g_f h rfl c1 ?_
  refine Go.skip ?_
  refine Go.seq ?_
  refine Go.reg ?_
  refine ga h (o_makeFunc (vs := [pt b1]) rfl) rfl fun h => ?_
  refine ga h (o_assign rfl) rfl fun h => ?_
  refine GoR.done ?_
  refine Go.seq ?_
  refine Go.seq ?_
  refine Go.reg ?_
  refine ga h (o_fa rfl t_f26_16 rfl rfl) rfl fun h => ?_
  refine gs h (o_lfv 1 rfl rfl sConn_Early rfl Per_sl t_y24) rfl fun v3 _ _ h => ?_
  refine mv h rfl rfl fun h => ?_
  replace h := h.mm fun m => m.frz PConn 2 rfl
  obtain ⟨r2, er2, H⟩ := bindE H
  refine ga h (o_call (slices_ContainsFunc_s_api_Early_api_Early_at_splice_Check_1.spc v3 a1.Early b1 a1 r2 er2) rfl [0, 2] [] (by decide) rfl rfl) rfl fun h => ?_
  refine GoR.done ?_
  by_cases c2 : r2 = true
  ·have H := ifT c2 H
   refine g_t h rfl c2 ?_
   refine Go.seq ?_
   refine Go.reg ?_
   refine ga h (o_assign rfl) rfl fun h => ?_
   refine GoR.done ?_
   rw [← som H]
   exact g_ret (vs := [.bool false]) h Try.func10 ⟨rfl, trivial⟩ ⟨(), rfl, (h.mem.pick [] (by decide) rfl)⟩
  ·have H := ifF c2 H
   refine g_f h rfl c2 ?_
   refine Go.skip ?_
   refine Go.seq ?_
   refine Go.seq ?_
   refine Go.reg ?_
   refine ga h (o_fa rfl t_f26_6 rfl rfl) rfl fun h => ?_
   refine ga h (p_lfx 2 rfl rfl sConn_Up rfl X_bool t_y4) rfl fun h => ?_
   refine ga h (o_not rfl) rfl fun h => ?_
   refine GoR.done ?_
   by_cases c3 : (!a1.Up) = true
   ·have H := ifT c3 H
    refine g_t h rfl c3 ?_
    refine Go.seq ?_
    refine Go.reg ?_
    refine gs h (p_lfv 2 rfl rfl sub_self rfl t_y26) rfl fun v4 _ _ h => ?_
    obtain ⟨r3, er3, H⟩ := bindE H
    refine ga h (o_call (splice_fresh.spc v4 a1 r3 er3) rfl [0] [] (by decide) rfl rfl) rfl fun h => ?_
    refine ga h (o_assign rfl) rfl fun h => ?_
    refine GoR.done ?_
    rw [← som H]
    exact g_ret (vs := [.bool r3]) h Try.func10 ⟨rfl, trivial⟩ ⟨(), rfl, (h.mem.pick [] (by decide) rfl)⟩
   ·have H := ifF c3 H
    refine g_f h rfl c3 ?_
    refine Go.skip ?_
    refine Go.seq ?_
    replace h := h.wq [(1, pt b1), (2, .bool false)] [Val (Kd.sl KEarly) v3 a1.Early, Val KConn v2 a1, Pfl KConn b1 0 a1, Val KConn v1 a1] [0, 1, 2, 3]
    obtain ⟨y1, ey1, H⟩ := ltE H
    refine Go.draw (E := [(1, pt b1), (2, .bool false)]) [] (L := [Val (Kd.sl KEarly) v3 a1.Early, Val KConn v2 a1, Pfl KConn b1 0 a1, Val KConn v1 a1]) h rfl rfl 10 [cn (.pointer (some ⟨b1, 10, none⟩)), cm [0] [] [] (.int .u32 a1.Next) fun u => [Ent.pur (InR .u32 a1.Next)], cn (.pointer (some ⟨b1, 9, none⟩)), cm [2] [] [] (.int .u32 a1.Una) fun u => [Ent.pur (InR .u32 a1.Una)], ce [0, 1, 2, 3] (.int .u32 (IntKind.u32.wrap (a1.Next - a1.Una))), ce [0, 1, 2, 3, 4] (.int .i64 (IntKind.u32.wrap (a1.Next - a1.Una))), cn (.pointer (some ⟨b1, 15, none⟩)), cw [6] [] [] fun u => [Val (Kd.sl (Kd.int .u8)) u a1.ToGuest], cm [6, 7] [7] [] (.int .i64 (a1.ToGuest.length : Int)) fun u => [], ce [0, 1, 2, 3, 4, 5] (.int .i64 y1)] rfl t_mxo (by kernel_rfl) (by rfl) ?_ fun f1 _ _ h => ?_
    ·exact ox rfl (o_fa rfl t_f26_10 rfl rfl) (ox rfl (OpS.pur (fun F w m_ => (in2 (pf_sub sConn_Next 2 rfl m_))) (p_lfx 2 rfl rfl sConn_Next rfl X_int t_y22)) (ox rfl (o_fa rfl t_f26_9 rfl rfl) (ox rfl (OpS.pur (fun F w m_ => (in2 (pf_sub sConn_Una 2 rfl m_))) (p_lfx 2 rfl rfl sConn_Una rfl X_int t_y22)) (ox rfl (o_bin rfl rfl rfl) (ox rfl (o_convw rfl t_q22 t_u3 (wrap_in _ _) rfl) (ox rfl (o_fa rfl t_f26_15 rfl rfl) (oy rfl (p_lfv 2 rfl rfl sConn_ToGuest rfl t_y23) (ox rfl (o_ln rfl (rd_at 0 rfl) t_v23) (ox rfl (o_assign' rfl (congrArg (fun z => Value.int .i64 z) ey1)) (obs_nil))))))))))
    replace h := h.wk (E' := [(1, pt b1), (2, .bool false), (27, .int .i64 (a1.ToGuest.length : Int)), (4, .int .i64 y1)]) (L' := [Ent.pur (InR .u32 a1.Next), Ent.pur (InR .u32 a1.Una), Val (Kd.sl (Kd.int .u8)) (f1 7) a1.ToGuest, Val (Kd.sl KEarly) v3 a1.Early, Val KConn v2 a1, Pfl KConn b1 0 a1, Val KConn v1 a1]) (by kernel_rfl) [0, 1, 2, 3, 4, 5, 6] (by decide) (by kernel_rfl)
    have g1 := (len_at 2 rfl h.mem)
    obtain ⟨y2, ey2, H⟩ := ltE H
    refine ga h (o_assign' rfl (congrArg (fun z => Value.int .i64 z) ey2)) rfl fun h => ?_
    refine GoR.done ?_
    refine Go.seq ?_
    obtain ⟨o1, H, G1⟩ := bindE H
    refine g_cut (fun G => ∀ j4 (a : Act) (w : World), o1 = .inl (j4) → InR .i64 j4 → St Try.f10.ntmps F [(4, .int .i64 y1), (5, .int .i64 j4)] [Pfl KConn b1 0 a1] a w → G a w) 1 ?_ fun J4 => ?_
    ·intro j4 a w ho_ g4 h
     rw [ho_] at G1
     have H := eInl G1
     refine Go.seq ?_
     refine Go.reg ?_
     refine mv h rfl rfl fun h => ?_
     refine mv h rfl rfl fun h => ?_
     refine ga h (o_bin rfl rfl rfl) rfl fun h => ?_
     obtain ⟨y6, ey6, H⟩ := ltE H
     refine ga h (o_assign' rfl (congrArg Value.bool ey6)) rfl fun h => ?_
     refine GoR.done ?_
     rw [← som H]
     exact g_ret (vs := [.bool y6]) h Try.func10 ⟨rfl, trivial⟩ ⟨(), rfl, (h.mem.pick [] (by decide) rfl)⟩
    refine Go.block ?_
    obtain ⟨o2, H, G2⟩ := bindE H
    refine g_cut (fun G => ∀ j3 (a : Act) (w : World), o2 = .inl (j3) → InR .i64 j3 → St Try.f10.ntmps F [(4, .int .i64 y1), (5, .int .i64 j3)] [Pfl KConn b1 0 a1] a w → G a w) 2 ?_ fun J3 => ?_
    ·intro j3 a w ho_ g3 h
     rw [ho_] at G2
     have H := eInl G2
     exact J4 j3 _ _ (som H).symm g3 (h.wr [0])
    refine Go.seq ?_
    obtain ⟨o3, H, G3⟩ := bindE H
    refine g_cut (fun G => ∀ j1 (a : Act) (w : World), o3 = j1 → St Try.f10.ntmps F [(1, pt b1), (4, .int .i64 y1), (5, .int .i64 y2), (28, .bool j1)] [Pfl KConn b1 0 a1] a w → G a w) 1 ?_ fun J1 => ?_
    ·intro j1 a w ho_ h
     rw [ho_] at G3
     have H := G3
     by_cases c7 : j1 = true
     ·have H := ifT c7 H
      refine g_t h rfl c7 ?_
      refine Go.seq ?_
      refine Go.reg ?_
      refine ga h (o_assign rfl) rfl fun h => ?_
      refine GoR.done ?_
      rw [← som H] at G2
      have H := G2
      rw [← som H] at G1
      have H := G1
      rw [← som H]
      exact g_ret (vs := [.bool false]) h Try.func10 ⟨rfl, trivial⟩ ⟨(), rfl, (h.mem.pick [] (by decide) rfl)⟩
     ·have H := ifF c7 H
      refine g_f h rfl c7 ?_
      refine Go.seq ?_
      refine Go.reg ?_
      refine ga h (o_fa rfl t_f26_7 rfl rfl) rfl fun h => ?_
      refine ga h (p_lfx 0 rfl rfl sConn_Done rfl X_bool t_y4) rfl fun h => ?_
      refine ga h (o_assign rfl) rfl fun h => ?_
      refine GoR.done ?_
      by_cases c8 : a1.Done = true
      ·have H := ifT c8 H
       refine g_t h rfl c8 ?_
       refine Go.seq ?_
       obtain ⟨o4, H, G4⟩ := bindE H
       refine g_cut (fun G => ∀ j2 (a : Act) (w : World), o4 = j2 → St Try.f10.ntmps F [(2, .bool j2)] [Pfl KConn b1 0 a1] a w → G a w) 1 ?_ fun J2 => ?_
       ·intro j2 a w ho_ h
        rw [ho_] at G4
        have H := G4
        rw [← som H] at G2
        have H := G2
        rw [← som H] at G1
        have H := G1
        rw [← som H]
        exact g_ret (vs := [.bool j2]) h Try.func10 ⟨rfl, trivial⟩ ⟨(), rfl, (h.mem.pick [] (by decide) rfl)⟩
       refine Go.reg ?_
       refine ga h (o_fa rfl t_f26_18 rfl rfl) rfl fun h => ?_
       refine ga h (p_lfx 0 rfl rfl sConn_Eof rfl X_bool t_y4) rfl fun h => ?_
       refine mv h rfl rfl fun h => ?_
       by_cases c9 : a1.Eof = true
       ·have H := ifT c9 H
        refine gg h rfl rfl c9 (o_move rfl) rfl fun _ _ _ h => ?_
        refine gg h rfl rfl c9 (o_bin rfl rfl rfl) rfl fun _ _ _ h => ?_
        refine ga h (o_pickT rfl rfl c9) rfl fun h => ?_
        refine mv h rfl rfl fun h => ?_
        by_cases c10 : decide (y2 = 0) = true
        ·have H := ifT c10 H
         refine gg h rfl rfl c10 (o_move rfl) rfl fun _ _ _ h => ?_
         refine gg h rfl rfl c10 (o_bin rfl rfl rfl) rfl fun _ _ _ h => ?_
         refine ga h (o_pickT rfl rfl c10) rfl fun h => ?_
         obtain ⟨y4, ey4, H⟩ := ltE H
         refine ga h (o_assign' rfl (congrArg Value.bool ey4)) rfl fun h => ?_
         refine GoR.done ?_
         exact J2 y4 _ _ (som H).symm (h.wr [0])
        ·have H := ifF c10 H
         refine gk h rfl rfl (nb_f c10) rfl fun _ h => ?_
         refine gk h rfl rfl (nb_f c10) rfl fun _ h => ?_
         refine ga h (o_pickF rfl rfl c10) rfl fun h => ?_
         refine ga h (o_assign rfl) rfl fun h => ?_
         refine GoR.done ?_
         exact J2 false _ _ (som H).symm (h.wr [0])
       ·have H := ifF c9 H
        refine gk h rfl rfl (nb_f c9) rfl fun _ h => ?_
        refine gk h rfl rfl (nb_f c9) rfl fun _ h => ?_
        refine ga h (o_pickF rfl rfl c9) rfl fun h => ?_
        refine mv h rfl rfl fun h => ?_
        refine gk h rfl rfl (nb_f Bool.false_ne_true) rfl fun _ h => ?_
        refine gk h rfl rfl (nb_f Bool.false_ne_true) rfl fun _ h => ?_
        refine ga h (o_pickF rfl rfl Bool.false_ne_true) rfl fun h => ?_
        refine ga h (o_assign rfl) rfl fun h => ?_
        refine GoR.done ?_
        exact J2 false _ _ (som H).symm (h.wr [0])
      ·have H := ifF c8 H
       refine g_f h rfl c8 ?_
       refine Go.seq ?_
       refine Go.reg ?_
       refine ga h (o_fa rfl t_f26_18 rfl rfl) rfl fun h => ?_
       refine ga h (p_lfx 0 rfl rfl sConn_Eof rfl X_bool t_y4) rfl fun h => ?_
       refine ga h (o_assign rfl) rfl fun h => ?_
       refine GoR.done ?_
       by_cases c11 : a1.Eof = true
       ·have H := ifT c11 H
        refine g_t h rfl c11 ?_
        refine Go.reg ?_
        refine mv h rfl rfl fun h => ?_
        refine ga h (o_bin rfl rfl rfl) rfl fun h => ?_
        obtain ⟨y5, ey5, H⟩ := ltE H
        refine ga h (o_assign' rfl (congrArg (fun z => Value.int .i64 z) ey5)) rfl fun h => ?_
        refine GoR.done ?_
        refine Go.inBlock ?_
        exact J3 y5 _ _ (som H).symm (ey5 ▸ (wrap_in _ _)) (h.wr [0])
       ·have H := ifF c11 H
        refine g_f h rfl c11 ?_
        refine Go.skip ?_
        refine Go.inBlock ?_
        exact J3 y2 _ _ (som H).symm (ey2 ▸ g1) (h.wr [0])
    refine Go.reg ?_
    refine ga h (o_fa rfl t_f26_5 rfl rfl) rfl fun h => ?_
    refine ga h (p_lfx 5 rfl rfl sConn_Opening rfl X_bool t_y4) rfl fun h => ?_
    refine mv h rfl rfl fun h => ?_
    by_cases c4 : a1.Opening = true
    ·have H := ifT c4 H
     iterate 3 (refine gk h rfl rfl (nb_t c4) rfl fun _ h => ?_)
     iterate 9 (refine gk h rfl rfl rfl rfl fun _ h => ?_)
     refine gk h rfl rfl (nb_t c4) rfl fun _ h => ?_
     refine ga h (o_pickT rfl rfl c4) rfl fun h => ?_
     refine ga h (o_assign rfl) rfl fun h => ?_
     refine GoR.done ?_
     exact J1 true _ _ (som H).symm (h.wr [5])
    ·have H := ifF c4 H
     refine gg h rfl rfl (nbF c4) (o_fa rfl t_f26_19 rfl rfl) rfl fun _ _ _ h => ?_
     refine gg h rfl rfl (nbF c4) (p_lfx 5 rfl rfl sConn_Shut rfl X_bool t_y4) rfl fun _ _ _ h => ?_
     refine gg h rfl rfl (nbF c4) (o_move rfl) rfl fun _ _ _ h => ?_
     by_cases c5 : a1.Shut = true
     ·have H := ifT c5 H
      refine gg h rfl rfl c5 (o_fa rfl t_f26_17 rfl rfl) rfl fun _ _ _ h => ?_
      refine gg h rfl rfl c5 (p_lfx 5 rfl rfl sConn_Fin rfl X_bool t_y4) rfl fun _ _ _ h => ?_
      refine gg h rfl rfl c5 (o_not rfl) rfl fun _ _ _ h => ?_
      refine gg h rfl rfl c5 (o_move rfl) rfl fun _ _ _ h => ?_
      by_cases c6 : (!a1.Fin) = true
      ·have H := ifT c6 H
       iterate 4 (refine gk h rfl rfl (nb_t c6) rfl fun _ h => ?_)
       refine gg h rfl rfl c5 (o_pickT rfl rfl c6) rfl fun _ _ _ h => ?_
       refine gg h rfl rfl (nbF c4) (o_pickT rfl rfl c5) rfl fun _ _ _ h => ?_
       refine ga h (o_pickF rfl rfl c4) rfl fun h => ?_
       refine ga h (o_assign rfl) rfl fun h => ?_
       refine GoR.done ?_
       exact J1 true _ _ (som H).symm (h.wr [5])
      ·have H := ifF c6 H
       refine gg h rfl rfl (nbF c6) (o_fa rfl t_f26_14 rfl rfl) rfl fun _ _ _ h => ?_
       refine gg h rfl rfl (nbF c6) (p_lfv 5 rfl rfl sConn_ToHost rfl t_y23) rfl fun v6 _ _ h => ?_
       have g2 := (len_at 0 rfl h.mem)
       refine gg h rfl rfl (nbF c6) (o_ln rfl (rd_at 0 rfl) t_v23) rfl fun _ _ _ h => ?_
       refine gg h rfl rfl (nbF c6) (o_bin rfl rfl rfl) rfl fun _ _ _ h => ?_
       refine gg h rfl rfl c5 (o_pickF rfl rfl c6) rfl fun _ _ _ h => ?_
       refine gg h rfl rfl (nbF c4) (o_pickT rfl rfl c5) rfl fun _ _ _ h => ?_
       refine ga h (o_pickF rfl rfl c4) rfl fun h => ?_
       obtain ⟨y3, ey3, H⟩ := ltE H
       refine ga h (o_assign' rfl (congrArg Value.bool ey3)) rfl fun h => ?_
       refine GoR.done ?_
       exact J1 y3 _ _ (som H).symm (h.wr [6])
     ·have H := ifF c5 H
      iterate 4 (refine gk h rfl rfl (nb_f c5) rfl fun _ h => ?_)
      iterate 4 (refine gk h rfl rfl rfl rfl fun _ h => ?_)
      refine gk h rfl rfl (nb_f c5) rfl fun _ h => ?_
      refine gg h rfl rfl (nbF c4) (o_pickF rfl rfl c5) rfl fun _ _ _ h => ?_
      refine ga h (o_pickF rfl rfl c4) rfl fun h => ?_
      refine ga h (o_assign rfl) rfl fun h => ?_
      refine GoR.done ?_
      exact J1 false _ _ (som H).symm (h.wr [5])
def splice_Check.g (k_ : Nat) (a1 : TConn) : Option (Bool) :=
  (splice_ranges.g k_ a1).bind fun r1 => (if (!r1) = true then some (false) else (slices_ContainsFunc_s_api_Early_api_Early_at_splice_Check_1.g k_ a1.Early a1).bind fun r2 => (if r2 = true then some (false) else (if (!a1.Up) = true then (splice_fresh.g k_ a1).bind fun r3 => some (r3) else lt (IntKind.u32.wrap (a1.Next - a1.Una)) fun y1 => lt (a1.ToGuest.length : Int) fun y2 => ((((if a1.Opening = true then some (true) else (if a1.Shut = true then (if (!a1.Fin) = true then some (true) else lt (decide (0 < (a1.ToHost.length : Int))) fun y3 => some (y3)) else some (false)))).bind (fun j1 => (if j1 = true then some (.inr (false)) else (if a1.Done = true then ((if a1.Eof = true then (if decide (y2 = 0) = true then lt (decide (y1 = 0)) fun y4 => some (y4) else some (false)) else some (false))).bind (fun j2 => some (.inr (j2))) else (if a1.Eof = true then lt (IntKind.i64.wrap (y2 + 1)) fun y5 => some (.inl (y5)) else some (.inl (y2))))))).bind (Sum.elim (fun j3 => some (.inl (j3))) (fun z_ => some (.inr (z_))))).bind (Sum.elim (fun j4 => lt (decide (y1 ≤ j4)) fun y6 => some (y6)) (fun z_ => some (z_))))))
theorem splice_Check.le (k_ : Nat) (a1 : TConn) : Le (splice_Check.g k_ a1) (splice_Check.f a1) := by
 unfold splice_Check.g splice_Check.f
 repeat' (first | with_reducible refine le_loop fun _ => ?_ | with_reducible refine le_bind ?_ fun _ => ?_ | with_reducible refine le_ite ?_ ?_ | with_reducible refine le_lt fun _ => ?_ | with_reducible refine le_elim (fun _ => ?_) (fun _ => ?_) _ | with_reducible apply slices_ContainsFunc_s_api_Early_api_Early_at_splice_Check_1.le | with_reducible apply splice_fresh.le | with_reducible apply splice_ranges.le | with_reducible exact le_refl _)
/-! drawbridge/splice.begin -/
noncomputable def splice_begin.f (a1 : TConn) (a2 : Int) : Option ((Option Tstep) × Bool) :=
  (splice_Check.f a1).bind fun r1 => (if r1 = true then (if decide (0 ≤ a2) = true then lt (decide (a2 ≤ 549755813888)) fun y1 => some (((some (⟨a1, a2, [], [], false⟩ : Tstep)), y1)) else some (((some (⟨a1, a2, [], [], false⟩ : Tstep)), false))) else some (((some (⟨a1, a2, [], [], false⟩ : Tstep)), false)))
set_option maxRecDepth 100000 in
set_option maxHeartbeats 4000000 in
theorem splice_begin.spc (v1 : Value) (a1 : TConn) (a2 : Int) (ha2 : InR .i64 a2) (r : (Option Tstep) × Bool) (H : splice_begin.f a1 a2 = some r) : Spc Try.prog 27 [v1, .int .i64 a2] [Val KConn v1 a1] [] (fun (s : Value) => .tuple #[s, .bool r.2]) (fun s => [Val (Kd.obx Kstep) s r.1]) := by
 unfold splice_begin.f at H
 refine Spc.go Try.func27 rfl (by kernel_rfl) rfl rfl (all_cons (Val.per PConn) all_nil) fun F a w h => ?_
 refine Go.seq ?_
 refine Go.reg ?_
 refine gs h (o_box (K := KConn) rfl (pv_at PConn 0 rfl)) rfl fun b1 _ _ h => ?_
 refine ga h (o_assign rfl) rfl fun h => ?_
 refine ga h (o_assign rfl) rfl fun h => ?_
 refine GoR.done ?_
 refine Go.seq ?_
 replace h := h.wq [(1, .int .i64 a2), (2, pt b1), (5, .bool false)] [Fld KConn b1 0 a1, Val KConn v1 a1] [0, 1]
 obtain ⟨r1, er1, H⟩ := bindE H
 by_cases c1 : r1 = true
 ·have H := ifT c1 H
  by_cases c2 : decide (0 ≤ a2) = true
  ·have H := ifT c2 H
   refine Go.draw (E := [(1, .int .i64 a2), (2, pt b1), (5, .bool false)]) [] (L := [Fld KConn b1 0 a1, Val KConn v1 a1]) h rfl rfl 15 [cw [] [] [] fun u => [Val KConn u a1], cn (.int .i64 a2), cw [0, 1] [0] [] fun u => [Val Kstep u (⟨a1, a2, [], [], false⟩ : Tstep)], cw [0, 1, 2] [2] [2] fun u => [Ent.pur (u = .pointer (some ⟨blk u, 0, none⟩)), Fld Kstep (blk u) 0 (⟨a1, a2, [], [], false⟩ : Tstep), Ent.nul], cw [] [] [] fun u => [Val KConn u a1], cm [4] [4] [] (.bool r1) fun u => [], ce [4, 5] (.bool r1), ce [4, 5, 6] (.int .i64 a2), ce [4, 5, 6, 7] (.bool (decide (0 ≤ a2))), ce [4, 5, 6, 7, 8] (.bool (decide (0 ≤ a2))), ce [4, 5, 6, 7, 8, 9] (.bool (decide (0 ≤ a2))), ce [4, 5, 6, 7, 8, 9, 10] (.int .i64 a2), ce [4, 5, 6, 7, 8, 9, 10, 11] (.bool (decide (a2 ≤ 549755813888))), ce [4, 5, 6, 7, 8, 9, 10, 11, 12] (.bool (decide (a2 ≤ 549755813888))), ⟨[0, 1, 2, 3], [], [], false, .fn (fun u => u) 3, none, fun u => [], []⟩] rfl t_mxo (by kernel_rfl) (by rfl) ?_ fun f1 _ _ h => ?_
   ·exact oy rfl (o_ldv 0 rfl rfl PConn t_y26) (ox rfl (o_move rfl) (ow rfl rfl rfl (fun f1 => (o_build (K := Kstep) (x := (⟨a1, a2, [], [], false⟩ : Tstep)) (ps := [(0, (f1 0)), (1, .int .i64 a2)]) rfl (zs := zsstep) rfl t_b75 rfl (show PB (Kd.pair KConn (Kd.pair (Kd.int .i64) (Kd.pair (Kd.osl KSeg) (Kd.pair (Kd.osl KCall) (Kd.last Kd.bool))))) (a1, a2, [], [], false) 0 zsstep _ _ from (pb_part (pv_at PConn 0 rfl) rfl (pb_part (pv_int ha2) rfl (pb_zero z_osl (pb_zero z_osl (pb_lastz z_bool)))))))) (oy rfl (ptr_do (o_boxo (K := Kstep) 0 rfl rfl)) (oy rfl (o_ldv 0 rfl rfl PConn t_y26) (oc rfl rfl rfl (fun f1 => (o_call (splice_Check.spc (f1 4) a1 r1 er1) rfl [0] [] (by decide) rfl rfl)) (ox rfl (o_move rfl) (og rfl rfl (fun _ => rfl) c1 (o_move rfl) (og rfl rfl (fun _ => rfl) c1 (o_bin rfl rfl rfl) (ox rfl (o_pickT rfl rfl c1) (ox rfl (o_move rfl) (og rfl rfl (fun _ => rfl) c2 (o_move rfl) (og rfl rfl (fun _ => rfl) c2 (o_bin rfl rfl rfl) (ox rfl (o_pickT rfl rfl c2) (obs_cons (ob_fn rfl (gok_none rfl) rfl fun f1 => (o_assign rfl)) (obs_nil)))))))))))))))
   replace h := h.wk (E' := [(5, .bool false), (19, .bool (decide (a2 ≤ 549755813888))), (4, (f1 3))]) (L' := [Val KConn (f1 0) a1, Ent.pur ((f1 3) = .pointer (some ⟨blk (f1 3), 0, none⟩)), Fld Kstep (blk (f1 3)) 0 (⟨a1, a2, [], [], false⟩ : Tstep), Ent.nul, Val KConn (f1 4) a1, Fld KConn b1 0 a1, Val KConn v1 a1]) (by kernel_rfl) [0, 1, 2, 3, 4, 5, 6] (by decide) (by kernel_rfl)
   have q_ := h.mem.pur 1 rfl
   generalize blk (f1 3) = b3 at h q_
   rw [q_] at h
   obtain ⟨y1, ey1, H⟩ := ltE H
   refine ga h (o_assign' rfl (congrArg Value.bool ey1)) rfl fun h => ?_
   refine GoR.done ?_
   replace h := h.mm fun m => m.pkb 2 rfl
   rw [← som H]
   exact g_ret (vs := [pt b3, .bool y1]) h Try.func27 ⟨rfl, ⟨rfl, trivial⟩⟩ ⟨pt b3, rfl, (h.mem.pick [2] (by decide) rfl)⟩
  ·have H := ifF c2 H
   refine Go.draw (E := [(1, .int .i64 a2), (2, pt b1), (5, .bool false)]) [] (L := [Fld KConn b1 0 a1, Val KConn v1 a1]) h rfl rfl 15 [cw [] [] [] fun u => [Val KConn u a1], cn (.int .i64 a2), cw [0, 1] [0] [] fun u => [Val Kstep u (⟨a1, a2, [], [], false⟩ : Tstep)], cw [0, 1, 2] [2] [2] fun u => [Ent.pur (u = .pointer (some ⟨blk u, 0, none⟩)), Fld Kstep (blk u) 0 (⟨a1, a2, [], [], false⟩ : Tstep), Ent.nul], cw [] [] [] fun u => [Val KConn u a1], cm [4] [4] [] (.bool r1) fun u => [], ce [4, 5] (.bool r1), ce [4, 5, 6] (.int .i64 a2), ce [4, 5, 6, 7] (.bool (decide (0 ≤ a2))), ce [4, 5, 6, 7, 8] (.bool (decide (0 ≤ a2))), ce [4, 5, 6, 7, 8, 9] (.bool (decide (0 ≤ a2))), ⟨[10], [], [], true, .con undef, none, fun u => [], []⟩, ⟨[10], [], [], true, .con undef, none, fun u => [], []⟩, ce [4, 5, 6, 7, 8, 9, 10, 11, 12] (.bool false), ⟨[0, 1, 2, 3], [], [], false, .fn (fun u => u) 3, none, fun u => [], []⟩] rfl t_mxo (by kernel_rfl) (by rfl) ?_ fun f1 _ _ h => ?_
   ·exact oy rfl (o_ldv 0 rfl rfl PConn t_y26) (ox rfl (o_move rfl) (ow rfl rfl rfl (fun f1 => (o_build (K := Kstep) (x := (⟨a1, a2, [], [], false⟩ : Tstep)) (ps := [(0, (f1 0)), (1, .int .i64 a2)]) rfl (zs := zsstep) rfl t_b75 rfl (show PB (Kd.pair KConn (Kd.pair (Kd.int .i64) (Kd.pair (Kd.osl KSeg) (Kd.pair (Kd.osl KCall) (Kd.last Kd.bool))))) (a1, a2, [], [], false) 0 zsstep _ _ from (pb_part (pv_at PConn 0 rfl) rfl (pb_part (pv_int ha2) rfl (pb_zero z_osl (pb_zero z_osl (pb_lastz z_bool)))))))) (oy rfl (ptr_do (o_boxo (K := Kstep) 0 rfl rfl)) (oy rfl (o_ldv 0 rfl rfl PConn t_y26) (oc rfl rfl rfl (fun f1 => (o_call (splice_Check.spc (f1 4) a1 r1 er1) rfl [0] [] (by decide) rfl rfl)) (ox rfl (o_move rfl) (og rfl rfl (fun _ => rfl) c1 (o_move rfl) (og rfl rfl (fun _ => rfl) c1 (o_bin rfl rfl rfl) (ox rfl (o_pickT rfl rfl c1) (ox rfl (o_move rfl) (oj rfl rfl (fun _ => rfl) (nb_f c2) (oj rfl rfl (fun _ => rfl) (nb_f c2) (ox rfl (o_pickF rfl rfl c2) (obs_cons (ob_fn rfl (gok_none rfl) rfl fun f1 => (o_assign rfl)) (obs_nil)))))))))))))))
   replace h := h.wk (E' := [(5, .bool false), (19, .bool false), (4, (f1 3))]) (L' := [Val KConn (f1 0) a1, Ent.pur ((f1 3) = .pointer (some ⟨blk (f1 3), 0, none⟩)), Fld Kstep (blk (f1 3)) 0 (⟨a1, a2, [], [], false⟩ : Tstep), Ent.nul, Val KConn (f1 4) a1, Fld KConn b1 0 a1, Val KConn v1 a1]) (by kernel_rfl) [0, 1, 2, 3, 4, 5, 6] (by decide) (by kernel_rfl)
   have q_ := h.mem.pur 1 rfl
   generalize blk (f1 3) = b4 at h q_
   rw [q_] at h
   refine ga h (o_assign rfl) rfl fun h => ?_
   refine GoR.done ?_
   replace h := h.mm fun m => m.pkb 2 rfl
   rw [← som H]
   exact g_ret (vs := [pt b4, .bool false]) h Try.func27 ⟨rfl, ⟨rfl, trivial⟩⟩ ⟨pt b4, rfl, (h.mem.pick [2] (by decide) rfl)⟩
 ·have H := ifF c1 H
  refine Go.draw (E := [(1, .int .i64 a2), (2, pt b1), (5, .bool false)]) [] (L := [Fld KConn b1 0 a1, Val KConn v1 a1]) h rfl rfl 15 [cw [] [] [] fun u => [Val KConn u a1], cn (.int .i64 a2), cw [0, 1] [0] [] fun u => [Val Kstep u (⟨a1, a2, [], [], false⟩ : Tstep)], cw [0, 1, 2] [2] [2] fun u => [Ent.pur (u = .pointer (some ⟨blk u, 0, none⟩)), Fld Kstep (blk u) 0 (⟨a1, a2, [], [], false⟩ : Tstep), Ent.nul], cw [] [] [] fun u => [Val KConn u a1], cm [4] [4] [] (.bool r1) fun u => [], ce [4, 5] (.bool r1), ⟨[6], [], [], true, .con undef, none, fun u => [], []⟩, ⟨[6], [], [], true, .con undef, none, fun u => [], []⟩, ce [4, 5, 6, 7, 8] (.bool false), ce [4, 5, 6, 7, 8, 9] (.bool false), ⟨[10], [], [], true, .con undef, none, fun u => [], []⟩, ⟨[10], [], [], true, .con undef, none, fun u => [], []⟩, ce [4, 5, 6, 7, 8, 9, 10, 11, 12] (.bool false), ⟨[0, 1, 2, 3], [], [], false, .fn (fun u => u) 3, none, fun u => [], []⟩] rfl t_mxo (by kernel_rfl) (by rfl) ?_ fun f1 _ _ h => ?_
  ·exact oy rfl (o_ldv 0 rfl rfl PConn t_y26) (ox rfl (o_move rfl) (ow rfl rfl rfl (fun f1 => (o_build (K := Kstep) (x := (⟨a1, a2, [], [], false⟩ : Tstep)) (ps := [(0, (f1 0)), (1, .int .i64 a2)]) rfl (zs := zsstep) rfl t_b75 rfl (show PB (Kd.pair KConn (Kd.pair (Kd.int .i64) (Kd.pair (Kd.osl KSeg) (Kd.pair (Kd.osl KCall) (Kd.last Kd.bool))))) (a1, a2, [], [], false) 0 zsstep _ _ from (pb_part (pv_at PConn 0 rfl) rfl (pb_part (pv_int ha2) rfl (pb_zero z_osl (pb_zero z_osl (pb_lastz z_bool)))))))) (oy rfl (ptr_do (o_boxo (K := Kstep) 0 rfl rfl)) (oy rfl (o_ldv 0 rfl rfl PConn t_y26) (oc rfl rfl rfl (fun f1 => (o_call (splice_Check.spc (f1 4) a1 r1 er1) rfl [0] [] (by decide) rfl rfl)) (ox rfl (o_move rfl) (oj rfl rfl (fun _ => rfl) (nb_f c1) (oj rfl rfl (fun _ => rfl) (nb_f c1) (ox rfl (o_pickF rfl rfl c1) (ox rfl (o_move rfl) (obs_cons (ob_skip rfl rfl rfl rfl (fun _ => rfl) (nb_f Bool.false_ne_true) rfl rfl rfl rfl) (obs_cons (ob_skip rfl rfl rfl rfl (fun _ => rfl) (nb_f Bool.false_ne_true) rfl rfl rfl rfl) (ox rfl (o_pickF rfl rfl Bool.false_ne_true) (obs_cons (ob_fn rfl (gok_none rfl) rfl fun f1 => (o_assign rfl)) (obs_nil)))))))))))))))
  replace h := h.wk (E' := [(5, .bool false), (19, .bool false), (4, (f1 3))]) (L' := [Val KConn (f1 0) a1, Ent.pur ((f1 3) = .pointer (some ⟨blk (f1 3), 0, none⟩)), Fld Kstep (blk (f1 3)) 0 (⟨a1, a2, [], [], false⟩ : Tstep), Ent.nul, Val KConn (f1 4) a1, Fld KConn b1 0 a1, Val KConn v1 a1]) (by kernel_rfl) [0, 1, 2, 3, 4, 5, 6] (by decide) (by kernel_rfl)
  have q_ := h.mem.pur 1 rfl
  generalize blk (f1 3) = b5 at h q_
  rw [q_] at h
  refine ga h (o_assign rfl) rfl fun h => ?_
  refine GoR.done ?_
  replace h := h.mm fun m => m.pkb 2 rfl
  rw [← som H]
  exact g_ret (vs := [pt b5, .bool false]) h Try.func27 ⟨rfl, ⟨rfl, trivial⟩⟩ ⟨pt b5, rfl, (h.mem.pick [2] (by decide) rfl)⟩
def splice_begin.g (k_ : Nat) (a1 : TConn) (a2 : Int) : Option ((Option Tstep) × Bool) :=
  (splice_Check.g k_ a1).bind fun r1 => (if r1 = true then (if decide (0 ≤ a2) = true then lt (decide (a2 ≤ 549755813888)) fun y1 => some (((some (⟨a1, a2, [], [], false⟩ : Tstep)), y1)) else some (((some (⟨a1, a2, [], [], false⟩ : Tstep)), false))) else some (((some (⟨a1, a2, [], [], false⟩ : Tstep)), false)))
theorem splice_begin.le (k_ : Nat) (a1 : TConn) (a2 : Int) : Le (splice_begin.g k_ a1 a2) (splice_begin.f a1 a2) := by
 unfold splice_begin.g splice_begin.f
 repeat' (first | with_reducible refine le_loop fun _ => ?_ | with_reducible refine le_bind ?_ fun _ => ?_ | with_reducible refine le_ite ?_ ?_ | with_reducible refine le_lt fun _ => ?_ | with_reducible refine le_elim (fun _ => ?_) (fun _ => ?_) _ | with_reducible apply splice_Check.le | with_reducible exact le_refl _)
/-! (*drawbridge/splice.step).other -/
noncomputable def splice_step_other.f (a1 : Tstep) (a2 : TTell) : Option (Int × Tstep) :=
  some ((0, a1))
set_option maxRecDepth 100000 in
set_option maxHeartbeats 4000000 in
theorem splice_step_other.spc (b1 : Nat) (a1 : Tstep) (v1 : Value) (a2 : TTell) (r : Int × Tstep) (H : splice_step_other.f a1 a2 = some r) : Spc Try.prog 33 [pt b1, v1] [Val KTell v1 a2] [Fld Kstep b1 0 a1] (fun (s : Unit) => .int .i64 r.1) (fun s => [Ent.pur (InR .i64 r.1), Fld Kstep b1 0 r.2]) := by
 unfold splice_step_other.f at H
 refine Spc.go Try.func33 rfl (by kernel_rfl) rfl rfl (all_cons (Val.per PTell) all_nil) fun F a w h => ?_
 refine Go.seq ?_
 refine Go.reg ?_
 refine gs h (o_box (K := KTell) rfl (pv_at PTell 0 rfl)) rfl fun b2 _ _ h => ?_
 refine ga h (o_assign rfl) rfl fun h => ?_
 refine GoR.done ?_
 refine Go.seq ?_
 refine Go.reg ?_
 refine ga h (o_assign rfl) rfl fun h => ?_
 refine GoR.done ?_
 rw [← som H]
 exact g_ret (vs := [.int .i64 0]) h Try.func33 ⟨rfl, trivial⟩ ⟨(), rfl, ((h.mem.pick [2] (by decide) rfl).addpur (show InR .i64 0 by decide))⟩
def splice_step_other.g (k_ : Nat) (a1 : Tstep) (a2 : TTell) : Option (Int × Tstep) :=
  some ((0, a1))
theorem splice_step_other.le (k_ : Nat) (a1 : Tstep) (a2 : TTell) : Le (splice_step_other.g k_ a1 a2) (splice_step_other.f a1 a2) := by
 unfold splice_step_other.g splice_step_other.f
 repeat' (first | with_reducible refine le_loop fun _ => ?_ | with_reducible refine le_bind ?_ fun _ => ?_ | with_reducible refine le_ite ?_ ?_ | with_reducible refine le_lt fun _ => ?_ | with_reducible refine le_elim (fun _ => ?_) (fun _ => ?_) _ | with_reducible exact le_refl _)
/-! (*drawbridge/splice.step).arm -/
noncomputable def splice_step_arm.f (a1 : Tstep) : Option (Tstep) :=
  lt (⟨(⟨a1.Conn.Id, a1.Conn.Guest, a1.Conn.Gport, a1.Conn.Remote, a1.Conn.Rport, a1.Conn.Opening, a1.Conn.Up, a1.Conn.Done, a1.Conn.Begin, a1.Conn.Una, a1.Conn.Next, a1.Conn.Want, a1.Conn.Win, a1.Conn.Mss, a1.Conn.ToHost, a1.Conn.ToGuest, a1.Conn.Early, a1.Conn.Fin, a1.Conn.Eof, a1.Conn.Shut, a1.Conn.At, 2, a1.Conn.Tries⟩ : TConn), a1.now, a1.segs, a1.calls, a1.gone⟩ : Tstep) fun y1 => lt (⟨(⟨y1.Conn.Id, y1.Conn.Guest, y1.Conn.Gport, y1.Conn.Remote, y1.Conn.Rport, y1.Conn.Opening, y1.Conn.Up, y1.Conn.Done, y1.Conn.Begin, y1.Conn.Una, y1.Conn.Next, y1.Conn.Want, y1.Conn.Win, y1.Conn.Mss, y1.Conn.ToHost, y1.Conn.ToGuest, y1.Conn.Early, y1.Conn.Fin, y1.Conn.Eof, y1.Conn.Shut, IntKind.i64.wrap (a1.now + 2), y1.Conn.Wait, y1.Conn.Tries⟩ : TConn), y1.now, y1.segs, y1.calls, y1.gone⟩ : Tstep) fun y2 => some (y2)
set_option maxRecDepth 100000 in
set_option maxHeartbeats 4000000 in
theorem splice_step_arm.spc (b1 : Nat) (a1 : Tstep) (r : Tstep) (H : splice_step_arm.f a1 = some r) : Spc Try.prog 53 [pt b1] [] [Fld Kstep b1 0 a1] (fun (s : Unit) => .tuple #[]) (fun s => [Fld Kstep b1 0 r]) := by
 unfold splice_step_arm.f at H
 refine Spc.go Try.func53 rfl (by kernel_rfl) rfl rfl all_nil fun F a w h => ?_
 refine Go.reg ?_
 iterate 3 (refine ga h (o_move rfl) rfl fun h => ?_)
 refine ga h (o_nilc rfl) rfl fun h => ?_
 refine ga h (o_fa rfl t_f75_1 rfl rfl) rfl fun h => ?_
 have g1 := (in2 (fd_sub sstep_now 0 rfl h.mem))
 refine ga h (o_lfx 0 rfl rfl sstep_now rfl X_int t_y3) rfl fun h => ?_
 refine ga h (o_bin rfl rfl rfl) rfl fun h => ?_
 refine ga h (o_nilc rfl) rfl fun h => ?_
 refine ga h (o_fa rfl t_f75_0 rfl rfl) rfl fun h => ?_
 refine ga h (o_fa rfl t_f26_21 rfl rfl) rfl fun h => ?_
 obtain ⟨y1, ey1, H⟩ := ltE H
 refine gs0 h (o_stp (x0 := a1) (y := 2) 0 t_ustep_21_1 rfl rfl rfl rfl (pv_int (show InR .i64 2 by decide)) t_w3) fun _ _ _ h => ?_
 rw [ey1] at h
 refine ga h (o_nilc rfl) rfl fun h => ?_
 refine ga h (o_fa rfl t_f75_0 rfl rfl) rfl fun h => ?_
 refine ga h (o_fa rfl t_f26_20 rfl rfl) rfl fun h => ?_
 obtain ⟨y2, ey2, H⟩ := ltE H
 refine gs0 h (o_stp (x0 := y1) (y := IntKind.i64.wrap (a1.now + 2)) 0 t_ustep_20_1 rfl rfl rfl rfl (pv_int (wrap_in _ _)) t_w3) fun _ _ _ h => ?_
 rw [ey2] at h
 refine GoR.done ?_
 rw [← som H]
 exact g_fin (vs := []) h Try.func53 trivial ⟨(), rfl, (h.mem.pick [0] (by decide) rfl)⟩
def splice_step_arm.g (k_ : Nat) (a1 : Tstep) : Option (Tstep) :=
  lt (⟨(⟨a1.Conn.Id, a1.Conn.Guest, a1.Conn.Gport, a1.Conn.Remote, a1.Conn.Rport, a1.Conn.Opening, a1.Conn.Up, a1.Conn.Done, a1.Conn.Begin, a1.Conn.Una, a1.Conn.Next, a1.Conn.Want, a1.Conn.Win, a1.Conn.Mss, a1.Conn.ToHost, a1.Conn.ToGuest, a1.Conn.Early, a1.Conn.Fin, a1.Conn.Eof, a1.Conn.Shut, a1.Conn.At, 2, a1.Conn.Tries⟩ : TConn), a1.now, a1.segs, a1.calls, a1.gone⟩ : Tstep) fun y1 => lt (⟨(⟨y1.Conn.Id, y1.Conn.Guest, y1.Conn.Gport, y1.Conn.Remote, y1.Conn.Rport, y1.Conn.Opening, y1.Conn.Up, y1.Conn.Done, y1.Conn.Begin, y1.Conn.Una, y1.Conn.Next, y1.Conn.Want, y1.Conn.Win, y1.Conn.Mss, y1.Conn.ToHost, y1.Conn.ToGuest, y1.Conn.Early, y1.Conn.Fin, y1.Conn.Eof, y1.Conn.Shut, IntKind.i64.wrap (a1.now + 2), y1.Conn.Wait, y1.Conn.Tries⟩ : TConn), y1.now, y1.segs, y1.calls, y1.gone⟩ : Tstep) fun y2 => some (y2)
theorem splice_step_arm.le (k_ : Nat) (a1 : Tstep) : Le (splice_step_arm.g k_ a1) (splice_step_arm.f a1) := by
 unfold splice_step_arm.g splice_step_arm.f
 repeat' (first | with_reducible refine le_loop fun _ => ?_ | with_reducible refine le_bind ?_ fun _ => ?_ | with_reducible refine le_ite ?_ ?_ | with_reducible refine le_lt fun _ => ?_ | with_reducible refine le_elim (fun _ => ?_) (fun _ => ?_) _ | with_reducible exact le_refl _)
/-! slices.Clone[[]byte,byte] -/
noncomputable def slices_Clone_s_byte_byte.f (a1 : List Int) : Option ((List Int)) :=
  (app ([] : List Int) a1).bind fun x1 => some (x1)
set_option maxRecDepth 100000 in
set_option maxHeartbeats 4000000 in
theorem slices_Clone_s_byte_byte.spc (v1 : Value) (a1 : List Int) (r : (List Int)) (H : slices_Clone_s_byte_byte.f a1 = some r) : Spc Try.prog 56 [v1] [Val (Kd.sl (Kd.int .u8)) v1 a1] [] (fun (s : Value) => s) (fun s => [Val (Kd.osl (Kd.int .u8)) s r]) := by
 unfold slices_Clone_s_byte_byte.f at H
 refine Spc.go Try.func56 rfl (by kernel_rfl) rfl rfl (all_cons (Val.per Per_sl) all_nil) fun F a w h => ?_
 refine Go.seq ?_
 refine Go.reg ?_
 refine ga h (o_assign rfl) rfl fun h => ?_
 refine GoR.done ?_
 refine Go.seq ?_
 refine Go.seq ?_
 refine Go.reg ?_
 refine mv h rfl rfl fun h => ?_
 refine gs h (o_eqn rfl rfl (rd_at 0 rfl) t_v23) rfl fun t1 _ _ h => ?_
 refine GoR.done ?_
 by_cases c1 : t1 = true
 ·have q_ := h.mem.pur 0 rfl c1
  have H : (some ([])) = some r := by rw [q_] at H; simpa [app, app1] using H
  refine g_t h rfl c1 ?_
  refine Go.seq ?_
  refine Go.reg ?_
  refine ga h (o_assign rfl) rfl fun h => ?_
  refine GoR.done ?_
  replace h := h.mm fun m => m.nilo (Kd.int .u8)
  rw [← som H]
  exact g_ret (vs := [.slice none 0 0]) h Try.func56 ⟨rfl, trivial⟩ ⟨.slice none 0 0, rfl, (h.mem.pick [0] (by decide) rfl)⟩
 ·refine g_f h rfl c1 ?_
  refine Go.skip ?_
  refine Go.seq ?_
  refine Go.reg ?_
  refine gs h (o_bs (K := (Kd.int .u8)) (vs := []) (xs := ([] : List Int)) rfl rfl pvs_nil t_a23 (by decide) (by decide)) rfl fun v2 _ _ h => ?_
  refine mv h rfl rfl fun h => ?_
  obtain ⟨x1, ex1, H⟩ := bindE H
  refine gs h (o_app (K := (Kd.int .u8)) 0 rfl rfl rfl (rd_at 2 rfl) ex1 t_a23 t_n23) rfl fun v3 _ _ h => ?_
  refine ga h (o_assign rfl) rfl fun h => ?_
  refine GoR.done ?_
  rw [← som H]
  exact g_ret (vs := [v3]) h Try.func56 ⟨rfl, trivial⟩ ⟨v3, rfl, (h.mem.pick [0] (by decide) rfl)⟩
def slices_Clone_s_byte_byte.g (k_ : Nat) (a1 : List Int) : Option ((List Int)) :=
  (app ([] : List Int) a1).bind fun x1 => some (x1)
theorem slices_Clone_s_byte_byte.le (k_ : Nat) (a1 : List Int) : Le (slices_Clone_s_byte_byte.g k_ a1) (slices_Clone_s_byte_byte.f a1) := by
 unfold slices_Clone_s_byte_byte.g slices_Clone_s_byte_byte.f
 repeat' (first | with_reducible refine le_loop fun _ => ?_ | with_reducible refine le_bind ?_ fun _ => ?_ | with_reducible refine le_ite ?_ ?_ | with_reducible refine le_lt fun _ => ?_ | with_reducible refine le_elim (fun _ => ?_) (fun _ => ?_) _ | with_reducible exact le_refl _)
end Go.Proofs.Ytpcbhkigmnpimaa.S
