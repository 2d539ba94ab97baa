/- Contracts, printed by a program of this session. -/
import Derived.Test.YtpcbhkigmnpimaaT0
namespace Go.Proofs.Ytpcbhkigmnpimaa.S
open Go Go.SL Go.RowKit
set_option linter.unusedVariables false
set_option linter.unusedSimpArgs false
/-! drawbridge/drawbridgeref28.Same -/
noncomputable def ref28_Same.f (a1 : TConn) (a2 : TConn) : Option (Bool) :=
  ((if (!decide ((a1.Early.length : Int) = (a2.Early.length : Int))) = true then some (true) else (if (!decide (a1.ToHost = a2.ToHost)) = true then some (true) else some ((!decide (a1.ToGuest = a2.ToGuest)))))).bind (fun j1 => (if j1 = true then some (false) else (loop (fun s1 => (if decide (s1 < (a1.Early.length : Int)) = true then ((idx a1.Early s1).bind fun x1 => (idx a2.Early s1).bind fun x2 => (if (!decide (x1.Seq = x2.Seq)) = true then some (true) else (idx a1.Early s1).bind fun x3 => (idx a2.Early s1).bind fun x4 => some ((!decide (x3.Data = x4.Data))))).bind (fun j2 => (if j2 = true then some (.inr (.inr (false))) else lt (IntKind.i64.wrap (s1 + 1)) fun y1 => some (.inl y1))) else some (.inr (.inl (()))))) 0).bind (Sum.elim (fun j3 => ((if (!decide (a1.Id = a2.Id)) = true then some (true) else (if (!decide (a1.Guest = a2.Guest)) = true then some (true) else (if (!decide (a1.Gport = a2.Gport)) = true then some (true) else (if (!decide (a1.Remote = a2.Remote)) = true then some (true) else (if (!decide (a1.Rport = a2.Rport)) = true then some (true) else (if (!(a1.Opening == a2.Opening)) = true then some (true) else (if (!(a1.Up == a2.Up)) = true then some (true) else some ((!(a1.Done == a2.Done))))))))))).bind (fun j4 => (if j4 = true then some (false) else ((if (!decide (a1.Begin = a2.Begin)) = true then some (true) else (if (!decide (a1.Una = a2.Una)) = true then some (true) else (if (!decide (a1.Next = a2.Next)) = true then some (true) else (if (!decide (a1.Want = a2.Want)) = true then some (true) else (if (!decide (a1.Win = a2.Win)) = true then some (true) else some ((!decide (a1.Mss = a2.Mss))))))))).bind (fun j5 => (if j5 = true then some (false) else ((if (a1.Fin == a2.Fin) = true then (if (a1.Eof == a2.Eof) = true then (if (a1.Shut == a2.Shut) = true then (if decide (a1.At = a2.At) = true then (if decide (a1.Wait = a2.Wait) = true then lt (decide (a1.Tries = a2.Tries)) fun y2 => some (y2) else some (false)) else some (false)) else some (false)) else some (false)) else some (false))).bind (fun j6 => some (j6))))))) (fun z_ => some (z_)))))
set_option maxRecDepth 100000 in
set_option maxHeartbeats 4000000 in
theorem ref28_Same.spc (v1 : Value) (a1 : TConn) (v2 : Value) (a2 : TConn) (r : Bool) (H : ref28_Same.f a1 a2 = some r) : Spc Try.prog 13 [v1, v2] [Val KConn v1 a1, Val KConn v2 a2] [] (fun (s : Unit) => .bool r) (fun s => []) := by
 unfold ref28_Same.f at H
 refine Spc.go Try.func13 rfl (by kernel_rfl) rfl rfl (all_cons (Val.per PConn) (all_cons (Val.per PConn) all_nil)) fun F a w h => ?_
 refine Go.seq ?_
 refine Go.reg ?_
 refine gs h (o_box (K := KConn) rfl (pv_at PConn 0 rfl)) rfl fun b1 _ _ h => ?_
 refine gs h (o_box (K := KConn) rfl (pv_at PConn 2 rfl)) rfl fun b2 _ _ h => ?_
 refine gs h (o_assign rfl) rfl fun _ _ _ h => ?_
 refine GoR.done ?_
 refine Go.seq ?_
 refine Go.seq ?_
 obtain ⟨o1, H, G1⟩ := bindE H
 refine g_cut (fun G => ∀ j1 (a : Act) (w : World), o1 = j1 → St Try.f13.ntmps F [(2, .pointer (some ⟨b1, 0, none⟩)), (3, .pointer (some ⟨b2, 0, none⟩)), (30, .bool j1)] [Fld KConn b2 0 a2, Fld KConn b1 0 a1] a w → G a w) 1 ?_ fun J1 => ?_
 ·intro j1 a w ho_ h
  rw [ho_] at G1
  have H := G1
  by_cases c3 : j1 = true
  ·have H := ifT c3 H
   refine g_t h rfl c3 ?_
   refine Go.seq ?_
   refine Go.reg ?_
   refine gs h (o_assign rfl) rfl fun _ _ _ h => ?_
   refine GoR.done ?_
   rw [← som H]
   exact g_ret (vs := [.bool false]) h Try.func13 ⟨rfl, trivial⟩ ⟨(), rfl, (h.mem.pick [] (by decide) rfl)⟩
  ·have H := ifF c3 H
   refine g_f h rfl c3 ?_
   refine Go.skip ?_
   refine Go.seq ?_
   refine Go.seq ?_
   refine Go.reg ?_
   refine gs h (o_assign rfl) rfl fun _ _ _ h => ?_
   refine GoR.done ?_
   refine Go.block ?_
   obtain ⟨o2, hl, G2⟩ := bindE H
   refine g_cut (fun G => ∀ j3 (a : Act) (w : World), o2 = .inl (j3) → St Try.f13.ntmps F [(2, .pointer (some ⟨b1, 0, none⟩)), (3, .pointer (some ⟨b2, 0, none⟩))] [Fld KConn b2 0 a2, Fld KConn b1 0 a1] a w → G a w) 2 ?_ fun J3 => ?_
   ·intro j3 a w ho_ h
    rw [ho_] at G2
    have H := eInl G2
    refine Go.seq ?_
    refine Go.seq ?_
    obtain ⟨o4, H, G4⟩ := bindE H
    refine g_cut (fun G => ∀ j4 (a : Act) (w : World), o4 = j4 → St Try.f13.ntmps F [(2, .pointer (some ⟨b1, 0, none⟩)), (3, .pointer (some ⟨b2, 0, none⟩)), (121, .bool j4)] [Fld KConn b2 0 a2, Fld KConn b1 0 a1] a w → G a w) 1 ?_ fun J4 => ?_
    ·intro j4 a w ho_ h
     rw [ho_] at G4
     have H := G4
     by_cases c14 : j4 = true
     ·have H := ifT c14 H
      refine g_t h rfl c14 ?_
      refine Go.seq ?_
      refine Go.reg ?_
      refine gs h (o_assign rfl) rfl fun _ _ _ h => ?_
      refine GoR.done ?_
      rw [← som H]
      exact g_ret (vs := [.bool false]) h Try.func13 ⟨rfl, trivial⟩ ⟨(), rfl, (h.mem.pick [] (by decide) rfl)⟩
     ·have H := ifF c14 H
      refine g_f h rfl c14 ?_
      refine Go.skip ?_
      refine Go.seq ?_
      refine Go.seq ?_
      obtain ⟨o5, H, G5⟩ := bindE H
      refine g_cut (fun G => ∀ j5 (a : Act) (w : World), o5 = j5 → St Try.f13.ntmps F [(2, .pointer (some ⟨b1, 0, none⟩)), (3, .pointer (some ⟨b2, 0, none⟩)), (161, .bool j5)] [Fld KConn b2 0 a2, Fld KConn b1 0 a1] a w → G a w) 1 ?_ fun J5 => ?_
      ·intro j5 a w ho_ h
       rw [ho_] at G5
       have H := G5
       by_cases c20 : j5 = true
       ·have H := ifT c20 H
        refine g_t h rfl c20 ?_
        refine Go.seq ?_
        refine Go.reg ?_
        refine gs h (o_assign rfl) rfl fun _ _ _ h => ?_
        refine GoR.done ?_
        rw [← som H]
        exact g_ret (vs := [.bool false]) h Try.func13 ⟨rfl, trivial⟩ ⟨(), rfl, (h.mem.pick [] (by decide) rfl)⟩
       ·have H := ifF c20 H
        refine g_f h rfl c20 ?_
        refine Go.skip ?_
        refine Go.seq ?_
        obtain ⟨o6, H, G6⟩ := bindE H
        refine g_cut (fun G => ∀ j6 (a : Act) (w : World), o6 = j6 → St Try.f13.ntmps F [(4, .bool j6)] [Fld KConn b2 0 a2, Fld KConn b1 0 a1] a w → G a w) 1 ?_ fun J6 => ?_
        ·intro j6 a w ho_ h
         rw [ho_] at G6
         have H := G6
         rw [← som H]
         exact g_ret (vs := [.bool j6]) h Try.func13 ⟨rfl, trivial⟩ ⟨(), rfl, (h.mem.pick [] (by decide) rfl)⟩
        refine Go.reg ?_
        refine gs h (o_fa rfl t_f26_17 rfl rfl) rfl fun _ _ _ h => ?_
        refine gs h (o_lfx 1 rfl rfl sConn_Fin rfl X_bool t_y4) rfl fun _ _ _ h => ?_
        refine gs h (o_fa rfl t_f26_17 rfl rfl) rfl fun _ _ _ h => ?_
        refine gs h (o_lfx 0 rfl rfl sConn_Fin rfl X_bool t_y4) rfl fun _ _ _ h => ?_
        refine gs h (o_eqb rfl rfl t_u4) rfl fun _ _ _ h => ?_
        refine gs h (o_move rfl) rfl fun _ _ _ h => ?_
        by_cases c21 : (a1.Fin == a2.Fin) = true
        ·have H := ifT c21 H
         refine gg h rfl rfl c21 (o_fa rfl t_f26_18 rfl rfl) rfl fun _ _ _ h => ?_
         refine gg h rfl rfl c21 (o_lfx 1 rfl rfl sConn_Eof rfl X_bool t_y4) rfl fun _ _ _ h => ?_
         refine gg h rfl rfl c21 (o_fa rfl t_f26_18 rfl rfl) rfl fun _ _ _ h => ?_
         refine gg h rfl rfl c21 (o_lfx 0 rfl rfl sConn_Eof rfl X_bool t_y4) rfl fun _ _ _ h => ?_
         refine gg h rfl rfl c21 (o_eqb rfl rfl t_u4) rfl fun _ _ _ h => ?_
         refine gs h (o_pickT rfl rfl c21) rfl fun _ _ _ h => ?_
         refine gs h (o_move rfl) rfl fun _ _ _ h => ?_
         by_cases c22 : (a1.Eof == a2.Eof) = true
         ·have H := ifT c22 H
          refine gg h rfl rfl c22 (o_fa rfl t_f26_19 rfl rfl) rfl fun _ _ _ h => ?_
          refine gg h rfl rfl c22 (o_lfx 1 rfl rfl sConn_Shut rfl X_bool t_y4) rfl fun _ _ _ h => ?_
          refine gg h rfl rfl c22 (o_fa rfl t_f26_19 rfl rfl) rfl fun _ _ _ h => ?_
          refine gg h rfl rfl c22 (o_lfx 0 rfl rfl sConn_Shut rfl X_bool t_y4) rfl fun _ _ _ h => ?_
          refine gg h rfl rfl c22 (o_eqb rfl rfl t_u4) rfl fun _ _ _ h => ?_
          refine gs h (o_pickT rfl rfl c22) rfl fun _ _ _ h => ?_
          refine gs h (o_move rfl) rfl fun _ _ _ h => ?_
          by_cases c23 : (a1.Shut == a2.Shut) = true
          ·have H := ifT c23 H
           refine gg h rfl rfl c23 (o_fa rfl t_f26_20 rfl rfl) rfl fun _ _ _ h => ?_
           have g33 := (in2 (fd_sub sConn_At 1 rfl h.mem))
           refine gg h rfl rfl c23 (o_lfx 1 rfl rfl sConn_At rfl X_int t_y3) rfl fun _ _ _ h => ?_
           refine gg h rfl rfl c23 (o_fa rfl t_f26_20 rfl rfl) rfl fun _ _ _ h => ?_
           have g34 := (in2 (fd_sub sConn_At 0 rfl h.mem))
           refine gg h rfl rfl c23 (o_lfx 0 rfl rfl sConn_At rfl X_int t_y3) rfl fun _ _ _ h => ?_
           refine gg h rfl rfl c23 (o_bin rfl rfl rfl) rfl fun _ _ _ h => ?_
           refine gs h (o_pickT rfl rfl c23) rfl fun _ _ _ h => ?_
           refine gs h (o_move rfl) rfl fun _ _ _ h => ?_
           by_cases c24 : decide (a1.At = a2.At) = true
           ·have H := ifT c24 H
            refine gg h rfl rfl c24 (o_fa rfl t_f26_21 rfl rfl) rfl fun _ _ _ h => ?_
            have g35 := (in2 (fd_sub sConn_Wait 1 rfl h.mem))
            refine gg h rfl rfl c24 (o_lfx 1 rfl rfl sConn_Wait rfl X_int t_y3) rfl fun _ _ _ h => ?_
            refine gg h rfl rfl c24 (o_fa rfl t_f26_21 rfl rfl) rfl fun _ _ _ h => ?_
            have g36 := (in2 (fd_sub sConn_Wait 0 rfl h.mem))
            refine gg h rfl rfl c24 (o_lfx 0 rfl rfl sConn_Wait rfl X_int t_y3) rfl fun _ _ _ h => ?_
            refine gg h rfl rfl c24 (o_bin rfl rfl rfl) rfl fun _ _ _ h => ?_
            refine gs h (o_pickT rfl rfl c24) rfl fun _ _ _ h => ?_
            refine gs h (o_move rfl) rfl fun _ _ _ h => ?_
            by_cases c25 : decide (a1.Wait = a2.Wait) = true
            ·have H := ifT c25 H
             refine gg h rfl rfl c25 (o_fa rfl t_f26_22 rfl rfl) rfl fun _ _ _ h => ?_
             have g37 := (in2 (fd_sub sConn_Tries 1 rfl h.mem))
             refine gg h rfl rfl c25 (o_lfx 1 rfl rfl sConn_Tries rfl X_int t_y3) rfl fun _ _ _ h => ?_
             refine gg h rfl rfl c25 (o_fa rfl t_f26_22 rfl rfl) rfl fun _ _ _ h => ?_
             have g38 := (in2 (fd_sub sConn_Tries 0 rfl h.mem))
             refine gg h rfl rfl c25 (o_lfx 0 rfl rfl sConn_Tries rfl X_int t_y3) rfl fun _ _ _ h => ?_
             refine gg h rfl rfl c25 (o_bin rfl rfl rfl) rfl fun _ _ _ h => ?_
             refine gs h (o_pickT rfl rfl c25) rfl fun _ _ _ h => ?_
             obtain ⟨y2, ey2, H⟩ := ltE H
             refine gs h (o_assign' rfl (congrArg Value.bool ey2)) rfl fun _ _ _ h => ?_
             refine GoR.done ?_
             exact J6 y2 _ _ (som H).symm (h.wk (by rfl) [0, 1] (by decide) (by rfl))
            ·have H := ifF c25 H
             iterate 5 (refine gk h rfl rfl (nb_f c25) rfl fun _ h => ?_)
             refine gs h (o_pickF rfl rfl c25) rfl fun _ _ _ h => ?_
             refine gs h (o_assign rfl) rfl fun _ _ _ h => ?_
             refine GoR.done ?_
             exact J6 false _ _ (som H).symm (h.wk (by rfl) [0, 1] (by decide) (by rfl))
           ·have H := ifF c24 H
            iterate 5 (refine gk h rfl rfl (nb_f c24) rfl fun _ h => ?_)
            refine gs h (o_pickF rfl rfl c24) rfl fun _ _ _ h => ?_
            refine gs h (o_move rfl) rfl fun _ _ _ h => ?_
            iterate 5 (refine gk h rfl rfl (nb_f Bool.false_ne_true) rfl fun _ h => ?_)
            refine gs h (o_pickF rfl rfl Bool.false_ne_true) rfl fun _ _ _ h => ?_
            refine gs h (o_assign rfl) rfl fun _ _ _ h => ?_
            refine GoR.done ?_
            exact J6 false _ _ (som H).symm (h.wk (by rfl) [0, 1] (by decide) (by rfl))
          ·have H := ifF c23 H
           iterate 5 (refine gk h rfl rfl (nb_f c23) rfl fun _ h => ?_)
           refine gs h (o_pickF rfl rfl c23) rfl fun _ _ _ h => ?_
           refine gs h (o_move rfl) rfl fun _ _ _ h => ?_
           iterate 5 (refine gk h rfl rfl (nb_f Bool.false_ne_true) rfl fun _ h => ?_)
           refine gs h (o_pickF rfl rfl Bool.false_ne_true) rfl fun _ _ _ h => ?_
           refine gs h (o_move rfl) rfl fun _ _ _ h => ?_
           iterate 5 (refine gk h rfl rfl (nb_f Bool.false_ne_true) rfl fun _ h => ?_)
           refine gs h (o_pickF rfl rfl Bool.false_ne_true) rfl fun _ _ _ h => ?_
           refine gs h (o_assign rfl) rfl fun _ _ _ h => ?_
           refine GoR.done ?_
           exact J6 false _ _ (som H).symm (h.wk (by rfl) [0, 1] (by decide) (by rfl))
         ·have H := ifF c22 H
          iterate 5 (refine gk h rfl rfl (nb_f c22) rfl fun _ h => ?_)
          refine gs h (o_pickF rfl rfl c22) rfl fun _ _ _ h => ?_
          refine gs h (o_move rfl) rfl fun _ _ _ h => ?_
          iterate 5 (refine gk h rfl rfl (nb_f Bool.false_ne_true) rfl fun _ h => ?_)
          refine gs h (o_pickF rfl rfl Bool.false_ne_true) rfl fun _ _ _ h => ?_
          refine gs h (o_move rfl) rfl fun _ _ _ h => ?_
          iterate 5 (refine gk h rfl rfl (nb_f Bool.false_ne_true) rfl fun _ h => ?_)
          refine gs h (o_pickF rfl rfl Bool.false_ne_true) rfl fun _ _ _ h => ?_
          refine gs h (o_move rfl) rfl fun _ _ _ h => ?_
          iterate 5 (refine gk h rfl rfl (nb_f Bool.false_ne_true) rfl fun _ h => ?_)
          refine gs h (o_pickF rfl rfl Bool.false_ne_true) rfl fun _ _ _ h => ?_
          refine gs h (o_assign rfl) rfl fun _ _ _ h => ?_
          refine GoR.done ?_
          exact J6 false _ _ (som H).symm (h.wk (by rfl) [0, 1] (by decide) (by rfl))
        ·have H := ifF c21 H
         iterate 5 (refine gk h rfl rfl (nb_f c21) rfl fun _ h => ?_)
         refine gs h (o_pickF rfl rfl c21) rfl fun _ _ _ h => ?_
         refine gs h (o_move rfl) rfl fun _ _ _ h => ?_
         iterate 5 (refine gk h rfl rfl (nb_f Bool.false_ne_true) rfl fun _ h => ?_)
         refine gs h (o_pickF rfl rfl Bool.false_ne_true) rfl fun _ _ _ h => ?_
         refine gs h (o_move rfl) rfl fun _ _ _ h => ?_
         iterate 5 (refine gk h rfl rfl (nb_f Bool.false_ne_true) rfl fun _ h => ?_)
         refine gs h (o_pickF rfl rfl Bool.false_ne_true) rfl fun _ _ _ h => ?_
         refine gs h (o_move rfl) rfl fun _ _ _ h => ?_
         iterate 5 (refine gk h rfl rfl (nb_f Bool.false_ne_true) rfl fun _ h => ?_)
         refine gs h (o_pickF rfl rfl Bool.false_ne_true) rfl fun _ _ _ h => ?_
         refine gs h (o_move rfl) rfl fun _ _ _ h => ?_
         iterate 5 (refine gk h rfl rfl (nb_f Bool.false_ne_true) rfl fun _ h => ?_)
         refine gs h (o_pickF rfl rfl Bool.false_ne_true) rfl fun _ _ _ h => ?_
         refine gs h (o_assign rfl) rfl fun _ _ _ h => ?_
         refine GoR.done ?_
         exact J6 false _ _ (som H).symm (h.wk (by rfl) [0, 1] (by decide) (by rfl))
      refine Go.reg ?_
      refine gs h (o_fa rfl t_f26_8 rfl rfl) rfl fun _ _ _ h => ?_
      have g21 := (in2 (fd_sub sConn_Begin 1 rfl h.mem))
      refine gs h (o_lfx 1 rfl rfl sConn_Begin rfl X_int t_y22) rfl fun _ _ _ h => ?_
      refine gs h (o_fa rfl t_f26_8 rfl rfl) rfl fun _ _ _ h => ?_
      have g22 := (in2 (fd_sub sConn_Begin 0 rfl h.mem))
      refine gs h (o_lfx 0 rfl rfl sConn_Begin rfl X_int t_y22) rfl fun _ _ _ h => ?_
      refine gs h (o_bin rfl rfl rfl) rfl fun _ _ _ h => ?_
      refine gs h (o_move rfl) rfl fun _ _ _ h => ?_
      by_cases c15 : (!decide (a1.Begin = a2.Begin)) = true
      ·have H := ifT c15 H
       iterate 5 (refine gk h rfl rfl (nb_t c15) rfl fun _ h => ?_)
       refine gs h (o_pickT rfl rfl c15) rfl fun _ _ _ h => ?_
       refine gs h (o_move rfl) rfl fun _ _ _ h => ?_
       iterate 5 (refine gk h rfl rfl (nb_t rfl) rfl fun _ h => ?_)
       refine gs h (o_pickT rfl rfl rfl) rfl fun _ _ _ h => ?_
       refine gs h (o_move rfl) rfl fun _ _ _ h => ?_
       iterate 5 (refine gk h rfl rfl (nb_t rfl) rfl fun _ h => ?_)
       refine gs h (o_pickT rfl rfl rfl) rfl fun _ _ _ h => ?_
       refine gs h (o_move rfl) rfl fun _ _ _ h => ?_
       iterate 5 (refine gk h rfl rfl (nb_t rfl) rfl fun _ h => ?_)
       refine gs h (o_pickT rfl rfl rfl) rfl fun _ _ _ h => ?_
       refine gs h (o_move rfl) rfl fun _ _ _ h => ?_
       iterate 5 (refine gk h rfl rfl (nb_t rfl) rfl fun _ h => ?_)
       refine gs h (o_pickT rfl rfl rfl) rfl fun _ _ _ h => ?_
       refine GoR.done ?_
       exact J5 true _ _ (som H).symm (h.wk (by rfl) [0, 1] (by decide) (by rfl))
      ·have H := ifF c15 H
       refine gg h rfl rfl (nbF c15) (o_fa rfl t_f26_9 rfl rfl) rfl fun _ _ _ h => ?_
       have g23 := (in2 (fd_sub sConn_Una 1 rfl h.mem))
       refine gg h rfl rfl (nbF c15) (o_lfx 1 rfl rfl sConn_Una rfl X_int t_y22) rfl fun _ _ _ h => ?_
       refine gg h rfl rfl (nbF c15) (o_fa rfl t_f26_9 rfl rfl) rfl fun _ _ _ h => ?_
       have g24 := (in2 (fd_sub sConn_Una 0 rfl h.mem))
       refine gg h rfl rfl (nbF c15) (o_lfx 0 rfl rfl sConn_Una rfl X_int t_y22) rfl fun _ _ _ h => ?_
       refine gg h rfl rfl (nbF c15) (o_bin rfl rfl rfl) rfl fun _ _ _ h => ?_
       refine gs h (o_pickF rfl rfl c15) rfl fun _ _ _ h => ?_
       refine gs h (o_move rfl) rfl fun _ _ _ h => ?_
       by_cases c16 : (!decide (a1.Una = a2.Una)) = true
       ·have H := ifT c16 H
        iterate 5 (refine gk h rfl rfl (nb_t c16) rfl fun _ h => ?_)
        refine gs h (o_pickT rfl rfl c16) rfl fun _ _ _ h => ?_
        refine gs h (o_move rfl) rfl fun _ _ _ h => ?_
        iterate 5 (refine gk h rfl rfl (nb_t rfl) rfl fun _ h => ?_)
        refine gs h (o_pickT rfl rfl rfl) rfl fun _ _ _ h => ?_
        refine gs h (o_move rfl) rfl fun _ _ _ h => ?_
        iterate 5 (refine gk h rfl rfl (nb_t rfl) rfl fun _ h => ?_)
        refine gs h (o_pickT rfl rfl rfl) rfl fun _ _ _ h => ?_
        refine gs h (o_move rfl) rfl fun _ _ _ h => ?_
        iterate 5 (refine gk h rfl rfl (nb_t rfl) rfl fun _ h => ?_)
        refine gs h (o_pickT rfl rfl rfl) rfl fun _ _ _ h => ?_
        refine GoR.done ?_
        exact J5 true _ _ (som H).symm (h.wk (by rfl) [0, 1] (by decide) (by rfl))
       ·have H := ifF c16 H
        refine gg h rfl rfl (nbF c16) (o_fa rfl t_f26_10 rfl rfl) rfl fun _ _ _ h => ?_
        have g25 := (in2 (fd_sub sConn_Next 1 rfl h.mem))
        refine gg h rfl rfl (nbF c16) (o_lfx 1 rfl rfl sConn_Next rfl X_int t_y22) rfl fun _ _ _ h => ?_
        refine gg h rfl rfl (nbF c16) (o_fa rfl t_f26_10 rfl rfl) rfl fun _ _ _ h => ?_
        have g26 := (in2 (fd_sub sConn_Next 0 rfl h.mem))
        refine gg h rfl rfl (nbF c16) (o_lfx 0 rfl rfl sConn_Next rfl X_int t_y22) rfl fun _ _ _ h => ?_
        refine gg h rfl rfl (nbF c16) (o_bin rfl rfl rfl) rfl fun _ _ _ h => ?_
        refine gs h (o_pickF rfl rfl c16) rfl fun _ _ _ h => ?_
        refine gs h (o_move rfl) rfl fun _ _ _ h => ?_
        by_cases c17 : (!decide (a1.Next = a2.Next)) = true
        ·have H := ifT c17 H
         iterate 5 (refine gk h rfl rfl (nb_t c17) rfl fun _ h => ?_)
         refine gs h (o_pickT rfl rfl c17) rfl fun _ _ _ h => ?_
         refine gs h (o_move rfl) rfl fun _ _ _ h => ?_
         iterate 5 (refine gk h rfl rfl (nb_t rfl) rfl fun _ h => ?_)
         refine gs h (o_pickT rfl rfl rfl) rfl fun _ _ _ h => ?_
         refine gs h (o_move rfl) rfl fun _ _ _ h => ?_
         iterate 5 (refine gk h rfl rfl (nb_t rfl) rfl fun _ h => ?_)
         refine gs h (o_pickT rfl rfl rfl) rfl fun _ _ _ h => ?_
         refine GoR.done ?_
         exact J5 true _ _ (som H).symm (h.wk (by rfl) [0, 1] (by decide) (by rfl))
        ·have H := ifF c17 H
         refine gg h rfl rfl (nbF c17) (o_fa rfl t_f26_11 rfl rfl) rfl fun _ _ _ h => ?_
         have g27 := (in2 (fd_sub sConn_Want 1 rfl h.mem))
         refine gg h rfl rfl (nbF c17) (o_lfx 1 rfl rfl sConn_Want rfl X_int t_y22) rfl fun _ _ _ h => ?_
         refine gg h rfl rfl (nbF c17) (o_fa rfl t_f26_11 rfl rfl) rfl fun _ _ _ h => ?_
         have g28 := (in2 (fd_sub sConn_Want 0 rfl h.mem))
         refine gg h rfl rfl (nbF c17) (o_lfx 0 rfl rfl sConn_Want rfl X_int t_y22) rfl fun _ _ _ h => ?_
         refine gg h rfl rfl (nbF c17) (o_bin rfl rfl rfl) rfl fun _ _ _ h => ?_
         refine gs h (o_pickF rfl rfl c17) rfl fun _ _ _ h => ?_
         refine gs h (o_move rfl) rfl fun _ _ _ h => ?_
         by_cases c18 : (!decide (a1.Want = a2.Want)) = true
         ·have H := ifT c18 H
          iterate 5 (refine gk h rfl rfl (nb_t c18) rfl fun _ h => ?_)
          refine gs h (o_pickT rfl rfl c18) rfl fun _ _ _ h => ?_
          refine gs h (o_move rfl) rfl fun _ _ _ h => ?_
          iterate 5 (refine gk h rfl rfl (nb_t rfl) rfl fun _ h => ?_)
          refine gs h (o_pickT rfl rfl rfl) rfl fun _ _ _ h => ?_
          refine GoR.done ?_
          exact J5 true _ _ (som H).symm (h.wk (by rfl) [0, 1] (by decide) (by rfl))
         ·have H := ifF c18 H
          refine gg h rfl rfl (nbF c18) (o_fa rfl t_f26_12 rfl rfl) rfl fun _ _ _ h => ?_
          have g29 := (in2 (fd_sub sConn_Win 1 rfl h.mem))
          refine gg h rfl rfl (nbF c18) (o_lfx 1 rfl rfl sConn_Win rfl X_int t_y3) rfl fun _ _ _ h => ?_
          refine gg h rfl rfl (nbF c18) (o_fa rfl t_f26_12 rfl rfl) rfl fun _ _ _ h => ?_
          have g30 := (in2 (fd_sub sConn_Win 0 rfl h.mem))
          refine gg h rfl rfl (nbF c18) (o_lfx 0 rfl rfl sConn_Win rfl X_int t_y3) rfl fun _ _ _ h => ?_
          refine gg h rfl rfl (nbF c18) (o_bin rfl rfl rfl) rfl fun _ _ _ h => ?_
          refine gs h (o_pickF rfl rfl c18) rfl fun _ _ _ h => ?_
          refine gs h (o_move rfl) rfl fun _ _ _ h => ?_
          by_cases c19 : (!decide (a1.Win = a2.Win)) = true
          ·have H := ifT c19 H
           iterate 5 (refine gk h rfl rfl (nb_t c19) rfl fun _ h => ?_)
           refine gs h (o_pickT rfl rfl c19) rfl fun _ _ _ h => ?_
           refine GoR.done ?_
           exact J5 true _ _ (som H).symm (h.wk (by rfl) [0, 1] (by decide) (by rfl))
          ·have H := ifF c19 H
           refine gg h rfl rfl (nbF c19) (o_fa rfl t_f26_13 rfl rfl) rfl fun _ _ _ h => ?_
           have g31 := (in2 (fd_sub sConn_Mss 1 rfl h.mem))
           refine gg h rfl rfl (nbF c19) (o_lfx 1 rfl rfl sConn_Mss rfl X_int t_y3) rfl fun _ _ _ h => ?_
           refine gg h rfl rfl (nbF c19) (o_fa rfl t_f26_13 rfl rfl) rfl fun _ _ _ h => ?_
           have g32 := (in2 (fd_sub sConn_Mss 0 rfl h.mem))
           refine gg h rfl rfl (nbF c19) (o_lfx 0 rfl rfl sConn_Mss rfl X_int t_y3) rfl fun _ _ _ h => ?_
           refine gg h rfl rfl (nbF c19) (o_bin rfl rfl rfl) rfl fun _ _ _ h => ?_
           refine gs h (o_pickF rfl rfl c19) rfl fun _ _ _ h => ?_
           refine GoR.done ?_
           exact J5 (!decide (a1.Mss = a2.Mss)) _ _ (som H).symm (h.wk (by rfl) [0, 1] (by decide) (by rfl))
    refine Go.reg ?_
    refine gs h (o_fa rfl t_f26_0 rfl rfl) rfl fun _ _ _ h => ?_
    have g11 := (in2 (fd_sub sConn_Id 1 rfl h.mem))
    refine gs h (o_lfx 1 rfl rfl sConn_Id rfl X_int t_y3) rfl fun _ _ _ h => ?_
    refine gs h (o_fa rfl t_f26_0 rfl rfl) rfl fun _ _ _ h => ?_
    have g12 := (in2 (fd_sub sConn_Id 0 rfl h.mem))
    refine gs h (o_lfx 0 rfl rfl sConn_Id rfl X_int t_y3) rfl fun _ _ _ h => ?_
    refine gs h (o_bin rfl rfl rfl) rfl fun _ _ _ h => ?_
    refine gs h (o_move rfl) rfl fun _ _ _ h => ?_
    by_cases c7 : (!decide (a1.Id = a2.Id)) = true
    ·have H := ifT c7 H
     iterate 5 (refine gk h rfl rfl (nb_t c7) rfl fun _ h => ?_)
     refine gs h (o_pickT rfl rfl c7) rfl fun _ _ _ h => ?_
     refine gs h (o_move rfl) rfl fun _ _ _ h => ?_
     iterate 5 (refine gk h rfl rfl (nb_t rfl) rfl fun _ h => ?_)
     refine gs h (o_pickT rfl rfl rfl) rfl fun _ _ _ h => ?_
     refine gs h (o_move rfl) rfl fun _ _ _ h => ?_
     iterate 5 (refine gk h rfl rfl (nb_t rfl) rfl fun _ h => ?_)
     refine gs h (o_pickT rfl rfl rfl) rfl fun _ _ _ h => ?_
     refine gs h (o_move rfl) rfl fun _ _ _ h => ?_
     iterate 5 (refine gk h rfl rfl (nb_t rfl) rfl fun _ h => ?_)
     refine gs h (o_pickT rfl rfl rfl) rfl fun _ _ _ h => ?_
     refine gs h (o_move rfl) rfl fun _ _ _ h => ?_
     iterate 5 (refine gk h rfl rfl (nb_t rfl) rfl fun _ h => ?_)
     refine gs h (o_pickT rfl rfl rfl) rfl fun _ _ _ h => ?_
     refine gs h (o_move rfl) rfl fun _ _ _ h => ?_
     iterate 5 (refine gk h rfl rfl (nb_t rfl) rfl fun _ h => ?_)
     refine gs h (o_pickT rfl rfl rfl) rfl fun _ _ _ h => ?_
     refine gs h (o_move rfl) rfl fun _ _ _ h => ?_
     iterate 5 (refine gk h rfl rfl (nb_t rfl) rfl fun _ h => ?_)
     refine gs h (o_pickT rfl rfl rfl) rfl fun _ _ _ h => ?_
     refine GoR.done ?_
     exact J4 true _ _ (som H).symm (h.wk (by rfl) [0, 1] (by decide) (by rfl))
    ·have H := ifF c7 H
     refine gg h rfl rfl (nbF c7) (o_fa rfl t_f26_1 rfl rfl) rfl fun _ _ _ h => ?_
     have g13 := (in2 (fd_sub sConn_Guest 1 rfl h.mem))
     refine gg h rfl rfl (nbF c7) (o_lfx 1 rfl rfl sConn_Guest rfl X_int t_y22) rfl fun _ _ _ h => ?_
     refine gg h rfl rfl (nbF c7) (o_fa rfl t_f26_1 rfl rfl) rfl fun _ _ _ h => ?_
     have g14 := (in2 (fd_sub sConn_Guest 0 rfl h.mem))
     refine gg h rfl rfl (nbF c7) (o_lfx 0 rfl rfl sConn_Guest rfl X_int t_y22) rfl fun _ _ _ h => ?_
     refine gg h rfl rfl (nbF c7) (o_bin rfl rfl rfl) rfl fun _ _ _ h => ?_
     refine gs h (o_pickF rfl rfl c7) rfl fun _ _ _ h => ?_
     refine gs h (o_move rfl) rfl fun _ _ _ h => ?_
     by_cases c8 : (!decide (a1.Guest = a2.Guest)) = true
     ·have H := ifT c8 H
      iterate 5 (refine gk h rfl rfl (nb_t c8) rfl fun _ h => ?_)
      refine gs h (o_pickT rfl rfl c8) rfl fun _ _ _ h => ?_
      refine gs h (o_move rfl) rfl fun _ _ _ h => ?_
      iterate 5 (refine gk h rfl rfl (nb_t rfl) rfl fun _ h => ?_)
      refine gs h (o_pickT rfl rfl rfl) rfl fun _ _ _ h => ?_
      refine gs h (o_move rfl) rfl fun _ _ _ h => ?_
      iterate 5 (refine gk h rfl rfl (nb_t rfl) rfl fun _ h => ?_)
      refine gs h (o_pickT rfl rfl rfl) rfl fun _ _ _ h => ?_
      refine gs h (o_move rfl) rfl fun _ _ _ h => ?_
      iterate 5 (refine gk h rfl rfl (nb_t rfl) rfl fun _ h => ?_)
      refine gs h (o_pickT rfl rfl rfl) rfl fun _ _ _ h => ?_
      refine gs h (o_move rfl) rfl fun _ _ _ h => ?_
      iterate 5 (refine gk h rfl rfl (nb_t rfl) rfl fun _ h => ?_)
      refine gs h (o_pickT rfl rfl rfl) rfl fun _ _ _ h => ?_
      refine gs h (o_move rfl) rfl fun _ _ _ h => ?_
      iterate 5 (refine gk h rfl rfl (nb_t rfl) rfl fun _ h => ?_)
      refine gs h (o_pickT rfl rfl rfl) rfl fun _ _ _ h => ?_
      refine GoR.done ?_
      exact J4 true _ _ (som H).symm (h.wk (by rfl) [0, 1] (by decide) (by rfl))
     ·have H := ifF c8 H
      refine gg h rfl rfl (nbF c8) (o_fa rfl t_f26_2 rfl rfl) rfl fun _ _ _ h => ?_
      have g15 := (in2 (fd_sub sConn_Gport 1 rfl h.mem))
      refine gg h rfl rfl (nbF c8) (o_lfx 1 rfl rfl sConn_Gport rfl X_int t_y3) rfl fun _ _ _ h => ?_
      refine gg h rfl rfl (nbF c8) (o_fa rfl t_f26_2 rfl rfl) rfl fun _ _ _ h => ?_
      have g16 := (in2 (fd_sub sConn_Gport 0 rfl h.mem))
      refine gg h rfl rfl (nbF c8) (o_lfx 0 rfl rfl sConn_Gport rfl X_int t_y3) rfl fun _ _ _ h => ?_
      refine gg h rfl rfl (nbF c8) (o_bin rfl rfl rfl) rfl fun _ _ _ h => ?_
      refine gs h (o_pickF rfl rfl c8) rfl fun _ _ _ h => ?_
      refine gs h (o_move rfl) rfl fun _ _ _ h => ?_
      by_cases c9 : (!decide (a1.Gport = a2.Gport)) = true
      ·have H := ifT c9 H
       iterate 5 (refine gk h rfl rfl (nb_t c9) rfl fun _ h => ?_)
       refine gs h (o_pickT rfl rfl c9) rfl fun _ _ _ h => ?_
       refine gs h (o_move rfl) rfl fun _ _ _ h => ?_
       iterate 5 (refine gk h rfl rfl (nb_t rfl) rfl fun _ h => ?_)
       refine gs h (o_pickT rfl rfl rfl) rfl fun _ _ _ h => ?_
       refine gs h (o_move rfl) rfl fun _ _ _ h => ?_
       iterate 5 (refine gk h rfl rfl (nb_t rfl) rfl fun _ h => ?_)
       refine gs h (o_pickT rfl rfl rfl) rfl fun _ _ _ h => ?_
       refine gs h (o_move rfl) rfl fun _ _ _ h => ?_
       iterate 5 (refine gk h rfl rfl (nb_t rfl) rfl fun _ h => ?_)
       refine gs h (o_pickT rfl rfl rfl) rfl fun _ _ _ h => ?_
       refine gs h (o_move rfl) rfl fun _ _ _ h => ?_
       iterate 5 (refine gk h rfl rfl (nb_t rfl) rfl fun _ h => ?_)
       refine gs h (o_pickT rfl rfl rfl) rfl fun _ _ _ h => ?_
       refine GoR.done ?_
       exact J4 true _ _ (som H).symm (h.wk (by rfl) [0, 1] (by decide) (by rfl))
      ·have H := ifF c9 H
       refine gg h rfl rfl (nbF c9) (o_fa rfl t_f26_3 rfl rfl) rfl fun _ _ _ h => ?_
       have g17 := (in2 (fd_sub sConn_Remote 1 rfl h.mem))
       refine gg h rfl rfl (nbF c9) (o_lfx 1 rfl rfl sConn_Remote rfl X_int t_y22) rfl fun _ _ _ h => ?_
       refine gg h rfl rfl (nbF c9) (o_fa rfl t_f26_3 rfl rfl) rfl fun _ _ _ h => ?_
       have g18 := (in2 (fd_sub sConn_Remote 0 rfl h.mem))
       refine gg h rfl rfl (nbF c9) (o_lfx 0 rfl rfl sConn_Remote rfl X_int t_y22) rfl fun _ _ _ h => ?_
       refine gg h rfl rfl (nbF c9) (o_bin rfl rfl rfl) rfl fun _ _ _ h => ?_
       refine gs h (o_pickF rfl rfl c9) rfl fun _ _ _ h => ?_
       refine gs h (o_move rfl) rfl fun _ _ _ h => ?_
       by_cases c10 : (!decide (a1.Remote = a2.Remote)) = true
       ·have H := ifT c10 H
        iterate 5 (refine gk h rfl rfl (nb_t c10) rfl fun _ h => ?_)
        refine gs h (o_pickT rfl rfl c10) rfl fun _ _ _ h => ?_
        refine gs h (o_move rfl) rfl fun _ _ _ h => ?_
        iterate 5 (refine gk h rfl rfl (nb_t rfl) rfl fun _ h => ?_)
        refine gs h (o_pickT rfl rfl rfl) rfl fun _ _ _ h => ?_
        refine gs h (o_move rfl) rfl fun _ _ _ h => ?_
        iterate 5 (refine gk h rfl rfl (nb_t rfl) rfl fun _ h => ?_)
        refine gs h (o_pickT rfl rfl rfl) rfl fun _ _ _ h => ?_
        refine gs h (o_move rfl) rfl fun _ _ _ h => ?_
        iterate 5 (refine gk h rfl rfl (nb_t rfl) rfl fun _ h => ?_)
        refine gs h (o_pickT rfl rfl rfl) rfl fun _ _ _ h => ?_
        refine GoR.done ?_
        exact J4 true _ _ (som H).symm (h.wk (by rfl) [0, 1] (by decide) (by rfl))
       ·have H := ifF c10 H
        refine gg h rfl rfl (nbF c10) (o_fa rfl t_f26_4 rfl rfl) rfl fun _ _ _ h => ?_
        have g19 := (in2 (fd_sub sConn_Rport 1 rfl h.mem))
        refine gg h rfl rfl (nbF c10) (o_lfx 1 rfl rfl sConn_Rport rfl X_int t_y3) rfl fun _ _ _ h => ?_
        refine gg h rfl rfl (nbF c10) (o_fa rfl t_f26_4 rfl rfl) rfl fun _ _ _ h => ?_
        have g20 := (in2 (fd_sub sConn_Rport 0 rfl h.mem))
        refine gg h rfl rfl (nbF c10) (o_lfx 0 rfl rfl sConn_Rport rfl X_int t_y3) rfl fun _ _ _ h => ?_
        refine gg h rfl rfl (nbF c10) (o_bin rfl rfl rfl) rfl fun _ _ _ h => ?_
        refine gs h (o_pickF rfl rfl c10) rfl fun _ _ _ h => ?_
        refine gs h (o_move rfl) rfl fun _ _ _ h => ?_
        by_cases c11 : (!decide (a1.Rport = a2.Rport)) = true
        ·have H := ifT c11 H
         iterate 5 (refine gk h rfl rfl (nb_t c11) rfl fun _ h => ?_)
         refine gs h (o_pickT rfl rfl c11) rfl fun _ _ _ h => ?_
         refine gs h (o_move rfl) rfl fun _ _ _ h => ?_
         iterate 5 (refine gk h rfl rfl (nb_t rfl) rfl fun _ h => ?_)
         refine gs h (o_pickT rfl rfl rfl) rfl fun _ _ _ h => ?_
         refine gs h (o_move rfl) rfl fun _ _ _ h => ?_
         iterate 5 (refine gk h rfl rfl (nb_t rfl) rfl fun _ h => ?_)
         refine gs h (o_pickT rfl rfl rfl) rfl fun _ _ _ h => ?_
         refine GoR.done ?_
         exact J4 true _ _ (som H).symm (h.wk (by rfl) [0, 1] (by decide) (by rfl))
        ·have H := ifF c11 H
         refine gg h rfl rfl (nbF c11) (o_fa rfl t_f26_5 rfl rfl) rfl fun _ _ _ h => ?_
         refine gg h rfl rfl (nbF c11) (o_lfx 1 rfl rfl sConn_Opening rfl X_bool t_y4) rfl fun _ _ _ h => ?_
         refine gg h rfl rfl (nbF c11) (o_fa rfl t_f26_5 rfl rfl) rfl fun _ _ _ h => ?_
         refine gg h rfl rfl (nbF c11) (o_lfx 0 rfl rfl sConn_Opening rfl X_bool t_y4) rfl fun _ _ _ h => ?_
         refine gg h rfl rfl (nbF c11) (o_neb rfl rfl t_u4) rfl fun _ _ _ h => ?_
         refine gs h (o_pickF rfl rfl c11) rfl fun _ _ _ h => ?_
         refine gs h (o_move rfl) rfl fun _ _ _ h => ?_
         by_cases c12 : (!(a1.Opening == a2.Opening)) = true
         ·have H := ifT c12 H
          iterate 5 (refine gk h rfl rfl (nb_t c12) rfl fun _ h => ?_)
          refine gs h (o_pickT rfl rfl c12) rfl fun _ _ _ h => ?_
          refine gs h (o_move rfl) rfl fun _ _ _ h => ?_
          iterate 5 (refine gk h rfl rfl (nb_t rfl) rfl fun _ h => ?_)
          refine gs h (o_pickT rfl rfl rfl) rfl fun _ _ _ h => ?_
          refine GoR.done ?_
          exact J4 true _ _ (som H).symm (h.wk (by rfl) [0, 1] (by decide) (by rfl))
         ·have H := ifF c12 H
          refine gg h rfl rfl (nbF c12) (o_fa rfl t_f26_6 rfl rfl) rfl fun _ _ _ h => ?_
          refine gg h rfl rfl (nbF c12) (o_lfx 1 rfl rfl sConn_Up rfl X_bool t_y4) rfl fun _ _ _ h => ?_
          refine gg h rfl rfl (nbF c12) (o_fa rfl t_f26_6 rfl rfl) rfl fun _ _ _ h => ?_
          refine gg h rfl rfl (nbF c12) (o_lfx 0 rfl rfl sConn_Up rfl X_bool t_y4) rfl fun _ _ _ h => ?_
          refine gg h rfl rfl (nbF c12) (o_neb rfl rfl t_u4) rfl fun _ _ _ h => ?_
          refine gs h (o_pickF rfl rfl c12) rfl fun _ _ _ h => ?_
          refine gs h (o_move rfl) rfl fun _ _ _ h => ?_
          by_cases c13 : (!(a1.Up == a2.Up)) = true
          ·have H := ifT c13 H
           iterate 5 (refine gk h rfl rfl (nb_t c13) rfl fun _ h => ?_)
           refine gs h (o_pickT rfl rfl c13) rfl fun _ _ _ h => ?_
           refine GoR.done ?_
           exact J4 true _ _ (som H).symm (h.wk (by rfl) [0, 1] (by decide) (by rfl))
          ·have H := ifF c13 H
           refine gg h rfl rfl (nbF c13) (o_fa rfl t_f26_7 rfl rfl) rfl fun _ _ _ h => ?_
           refine gg h rfl rfl (nbF c13) (o_lfx 1 rfl rfl sConn_Done rfl X_bool t_y4) rfl fun _ _ _ h => ?_
           refine gg h rfl rfl (nbF c13) (o_fa rfl t_f26_7 rfl rfl) rfl fun _ _ _ h => ?_
           refine gg h rfl rfl (nbF c13) (o_lfx 0 rfl rfl sConn_Done rfl X_bool t_y4) rfl fun _ _ _ h => ?_
           refine gg h rfl rfl (nbF c13) (o_neb rfl rfl t_u4) rfl fun _ _ _ h => ?_
           refine gs h (o_pickF rfl rfl c13) rfl fun _ _ _ h => ?_
           refine GoR.done ?_
           exact J4 (!(a1.Done == a2.Done)) _ _ (som H).symm (h.wk (by rfl) [0, 1] (by decide) (by rfl))
   refine g_loop (fun s1 G => ∀  (a : Act) (w : World), InR .i64 s1 → St Try.f13.ntmps F [(2, .pointer (some ⟨b1, 0, none⟩)), (3, .pointer (some ⟨b2, 0, none⟩)), (5, .int .i64 s1)] [Fld KConn b2 0 a2, Fld KConn b1 0 a1] a w → G a w) hl (fun s1 p1 H i1 => ?_) fun I_ => ?_
   ·intro  a w g7 h
    refine Go.seq ?_
    refine Go.seq ?_
    refine Go.reg ?_
    refine gs h (o_move rfl) rfl fun _ _ _ h => ?_
    refine gs h (o_fa rfl t_f26_16 rfl rfl) rfl fun _ _ _ h => ?_
    refine gs h (o_lfv 1 rfl rfl sConn_Early rfl Per_sl t_y24) rfl fun v9 _ _ h => ?_
    have g8 := (len_at 0 rfl h.mem)
    refine gs h (o_ln rfl (rd_at 0 rfl) t_v24) rfl fun _ _ _ h => ?_
    refine gs h (o_bin rfl rfl rfl) rfl fun _ _ _ h => ?_
    refine GoR.done ?_
    by_cases c4 : decide (s1 < (a1.Early.length : Int)) = true
    ·have H := ifT c4 H
     refine g_t h rfl c4 ?_
     refine Go.skip ?_
     refine Go.seq ?_
     refine Go.block ?_
     refine Go.seq ?_
     replace h := h.wk (E' := [(2, .pointer (some ⟨b1, 0, none⟩)), (3, .pointer (some ⟨b2, 0, none⟩)), (5, .int .i64 s1)]) (L' := [Val (Kd.sl KEarly) v9 a1.Early, Fld KConn b2 0 a2, Fld KConn b1 0 a1]) (by rfl) [0, 1, 2] (by decide) (by rfl)
     obtain ⟨o3, H, G3⟩ := bindE H
     refine g_cut (fun G => ∀ j2 (a : Act) (w : World), o3 = j2 → St Try.f13.ntmps F [(2, .pointer (some ⟨b1, 0, none⟩)), (3, .pointer (some ⟨b2, 0, none⟩)), (5, .int .i64 s1), (67, .bool j2)] [Fld KConn b2 0 a2, Fld KConn b1 0 a1] a w → G a w) 1 ?_ fun J2 => ?_
     ·intro j2 a w ho_ h
      rw [ho_] at G3
      have H := G3
      by_cases c6 : j2 = true
      ·have H := ifT c6 H
       refine g_t h rfl c6 ?_
       refine Go.seq ?_
       refine Go.reg ?_
       refine gs h (o_assign rfl) rfl fun _ _ _ h => ?_
       refine GoR.done ?_
       have e_ := som H; subst e_
       rw [← nx_out i1] at G2
       have H := G2
       rw [← som H]
       exact g_ret (vs := [.bool false]) h Try.func13 ⟨rfl, trivial⟩ ⟨(), rfl, (h.mem.pick [] (by decide) rfl)⟩
      ·have H := ifF c6 H
       refine g_f h rfl c6 ?_
       refine Go.skip ?_
       refine Go.inBlock ?_
       refine Go.reg ?_
       refine gs h (o_move rfl) rfl fun _ _ _ h => ?_
       refine gs h (o_bin rfl rfl rfl) rfl fun _ _ _ h => ?_
       obtain ⟨y1, ey1, H⟩ := ltE H
       refine gs h (o_assign' rfl (congrArg (fun z => Value.int .i64 z) ey1)) rfl fun _ _ _ h => ?_
       refine GoR.done ?_
       have e_ := som H; subst e_
       exact Go.inLoop (nx_in i1 _ _ (ey1 ▸ (wrap_in _ _)) (h.wk (by rfl) [0, 1] (by decide) (by rfl)))
     obtain ⟨x1, ex1, H⟩ := bindE H
     obtain ⟨x2, ex2, H⟩ := bindE H
     by_cases c5 : (!decide (x1.Seq = x2.Seq)) = true
     ·have H := ifT c5 H
      refine Go.draw (E := [(2, .pointer (some ⟨b1, 0, none⟩)), (3, .pointer (some ⟨b2, 0, none⟩)), (5, .int .i64 s1)]) [] (L := [Val (Kd.sl KEarly) v9 a1.Early, Fld KConn b2 0 a2, Fld KConn b1 0 a1]) h rfl rfl 28 [⟨[], [], [], false, .con (.pointer (some ⟨b1, 16, none⟩)), none, fun u => [], []⟩, ⟨[0], [], [], false, .own, none, fun u => [Val (Kd.sl KEarly) u a1.Early], []⟩, ⟨[], [], [], false, .con (.int .i64 s1), none, fun u => [], []⟩, ⟨[0, 1, 2], [1], [], false, .fn (fun u => elemP u (s1.toNat * Kd.n KEarly)) 1, none, fun u => [], []⟩, ⟨[0, 1, 2, 3], [1], [], false, .fn (fun u => elemP u (s1.toNat * Kd.n KEarly + 0)) 1, none, fun u => [], []⟩, ⟨[0, 1, 2, 3, 4], [1], [], false, .con (.int .u32 x1.Seq), none, fun u => [Ent.pur (InR .u32 x1.Seq)], []⟩, ⟨[], [], [], false, .con (.pointer (some ⟨b2, 16, none⟩)), none, fun u => [], []⟩, ⟨[6], [], [], false, .own, none, fun u => [Val (Kd.sl KEarly) u a2.Early], []⟩, ⟨[], [], [], false, .con (.int .i64 s1), none, fun u => [], []⟩, ⟨[6, 7, 8], [7], [], false, .fn (fun u => elemP u (s1.toNat * Kd.n KEarly)) 7, none, fun u => [], []⟩, ⟨[6, 7, 8, 9], [7], [], false, .fn (fun u => elemP u (s1.toNat * Kd.n KEarly + 0)) 7, none, fun u => [], []⟩, ⟨[6, 7, 8, 9, 10], [7], [], false, .con (.int .u32 x2.Seq), none, fun u => [Ent.pur (InR .u32 x2.Seq)], []⟩, ⟨[0, 1, 2, 3, 4, 5, 6, 7, 8, 9, 10, 11], [], [], false, .con (.bool (!decide (x1.Seq = x2.Seq))), none, fun u => [], []⟩, ⟨[0, 1, 2, 3, 4, 5, 6, 7, 8, 9, 10, 11, 12], [], [], false, .con (.bool (!decide (x1.Seq = x2.Seq))), none, fun u => [], []⟩, ⟨[13], [], [], true, .con undef, none, fun u => [], []⟩, ⟨[13], [], [], true, .con undef, none, fun u => [], []⟩, ⟨[13], [], [], true, .con undef, none, fun u => [], []⟩, ⟨[13], [], [], true, .con undef, none, fun u => [], []⟩, ⟨[13], [], [], true, .con undef, none, fun u => [], []⟩, ⟨[13], [], [], true, .con undef, none, fun u => [], []⟩, ⟨[13], [], [], true, .con undef, none, fun u => [], []⟩, ⟨[13], [], [], true, .con undef, none, fun u => [], []⟩, ⟨[13], [], [], true, .con undef, none, fun u => [], []⟩, ⟨[13], [], [], true, .con undef, none, fun u => [], []⟩, ⟨[13], [], [], true, .con undef, none, fun u => [], []⟩, ⟨[13], [], [], true, .con undef, none, fun u => [], []⟩, ⟨[13], [], [], true, .con undef, none, fun u => [], []⟩, ⟨[13], [], [], true, .con undef, none, fun u => [], []⟩] rfl t_mxo (by kernel_rfl) (by rfl) ?_ fun f1 _ _ h => ?_
      ·exact obs_cons (ob_con rfl (gok_none rfl) rfl fun f1 => (o_fa rfl t_f26_16 rfl rfl)) (obs_cons (ob_own rfl (gok_none rfl) rfl fun f1 => (o_lfv 2 rfl rfl sConn_Early rfl Per_sl t_y24)) (obs_cons (ob_con rfl (gok_none rfl) rfl fun f1 => (o_move rfl)) (obs_cons (ob_fn rfl (gok_none rfl) rfl fun f1 => (o_ix rfl rfl (rd_at 0 rfl) ex1 t_v24)) (obs_cons (ob_fn rfl (gok_none rfl) rfl fun f1 => (o_fae (k' := s1.toNat * Kd.n KEarly + 0) rfl (rd_at 0 rfl) ex1 (by decide) t_f58_0 rfl rfl)) (obs_cons (ob_con rfl (gok_none rfl) rfl fun f1 => (OpS.pur (fun F w m_ => (in1 (rd_sub sEarly_Seq (rd_at 0 rfl) ex1 m_))) (o_lsx rfl (rd_at 0 rfl) ex1 sEarly_Seq X_int t_y22 (by decide)))) (obs_cons (ob_con rfl (gok_none rfl) rfl fun f1 => (o_fa rfl t_f26_16 rfl rfl)) (obs_cons (ob_own rfl (gok_none rfl) rfl fun f1 => (o_lfv 1 rfl rfl sConn_Early rfl Per_sl t_y24)) (obs_cons (ob_con rfl (gok_none rfl) rfl fun f1 => (o_move rfl)) (obs_cons (ob_fn rfl (gok_none rfl) rfl fun f1 => (o_ix rfl rfl (rd_at 0 rfl) ex2 t_v24)) (obs_cons (ob_fn rfl (gok_none rfl) rfl fun f1 => (o_fae (k' := s1.toNat * Kd.n KEarly + 0) rfl (rd_at 0 rfl) ex2 (by decide) t_f58_0 rfl rfl)) (obs_cons (ob_con rfl (gok_none rfl) rfl fun f1 => (OpS.pur (fun F w m_ => (in1 (rd_sub sEarly_Seq (rd_at 0 rfl) ex2 m_))) (o_lsx rfl (rd_at 0 rfl) ex2 sEarly_Seq X_int t_y22 (by decide)))) (obs_cons (ob_con rfl (gok_none rfl) rfl fun f1 => (o_bin rfl rfl rfl)) (obs_cons (ob_con rfl (gok_none rfl) rfl fun f1 => (o_move rfl)) (obs_cons (ob_skip rfl rfl rfl rfl (fun _ => rfl) (nb_t c5) rfl rfl rfl rfl) (obs_cons (ob_skip rfl rfl rfl rfl (fun _ => rfl) (nb_t c5) rfl rfl rfl rfl) (obs_cons (ob_skip rfl rfl rfl rfl (fun _ => rfl) (nb_t c5) rfl rfl rfl rfl) (obs_cons (ob_skip rfl rfl rfl rfl (fun _ => rfl) (nb_t c5) rfl rfl rfl rfl) (obs_cons (ob_skip rfl rfl rfl rfl (fun _ => rfl) (nb_t c5) rfl rfl rfl rfl) (obs_cons (ob_skip rfl rfl rfl rfl (fun _ => rfl) (nb_t c5) rfl rfl rfl rfl) (obs_cons (ob_skip rfl rfl rfl rfl (fun _ => rfl) (nb_t c5) rfl rfl rfl rfl) (obs_cons (ob_skip rfl rfl rfl rfl (fun _ => rfl) (nb_t c5) rfl rfl rfl rfl) (obs_cons (ob_skip rfl rfl rfl rfl (fun _ => rfl) (nb_t c5) rfl rfl rfl rfl) (obs_cons (ob_skip rfl rfl rfl rfl (fun _ => rfl) (nb_t c5) rfl rfl rfl rfl) (obs_cons (ob_skip rfl rfl rfl rfl (fun _ => rfl) (nb_t c5) rfl rfl rfl rfl) (obs_cons (ob_skip rfl rfl rfl rfl (fun _ => rfl) (nb_t c5) rfl rfl rfl rfl) (obs_cons (ob_skip rfl rfl rfl rfl (fun _ => rfl) (nb_t c5) rfl rfl rfl rfl) (obs_cons (ob_skip rfl rfl rfl rfl (fun _ => rfl) (nb_t c5) rfl rfl rfl rfl) (obs_nil))))))))))))))))))))))))))))
      replace h := h.wk (E' := [(2, .pointer (some ⟨b1, 0, none⟩)), (3, .pointer (some ⟨b2, 0, none⟩)), (5, .int .i64 s1), (51, .bool (!decide (x1.Seq = x2.Seq)))]) (L' := [Val (Kd.sl KEarly) (f1 1) a1.Early, Ent.pur (InR .u32 x1.Seq), Val (Kd.sl KEarly) (f1 7) a2.Early, Ent.pur (InR .u32 x2.Seq), Val (Kd.sl KEarly) v9 a1.Early, Fld KConn b2 0 a2, Fld KConn b1 0 a1]) (by kernel_rfl) [0, 1, 2, 3, 4, 5, 6] (by decide) (by kernel_rfl)
      refine gk h rfl rfl (nb_t c5) rfl fun _ h => ?_
      refine gs h (o_pickT rfl rfl c5) rfl fun _ _ _ h => ?_
      refine GoR.done ?_
      exact J2 true _ _ (som H).symm (h.wk (by rfl) [5, 6] (by decide) (by rfl))
     ·have H := ifF c5 H
      obtain ⟨x3, ex3, H⟩ := bindE H
      obtain ⟨x4, ex4, H⟩ := bindE H
      refine Go.draw (E := [(2, .pointer (some ⟨b1, 0, none⟩)), (3, .pointer (some ⟨b2, 0, none⟩)), (5, .int .i64 s1)]) [] (L := [Val (Kd.sl KEarly) v9 a1.Early, Fld KConn b2 0 a2, Fld KConn b1 0 a1]) h rfl rfl 28 [⟨[], [], [], false, .con (.pointer (some ⟨b1, 16, none⟩)), none, fun u => [], []⟩, ⟨[0], [], [], false, .own, none, fun u => [Val (Kd.sl KEarly) u a1.Early], []⟩, ⟨[], [], [], false, .con (.int .i64 s1), none, fun u => [], []⟩, ⟨[0, 1, 2], [1], [], false, .fn (fun u => elemP u (s1.toNat * Kd.n KEarly)) 1, none, fun u => [], []⟩, ⟨[0, 1, 2, 3], [1], [], false, .fn (fun u => elemP u (s1.toNat * Kd.n KEarly + 0)) 1, none, fun u => [], []⟩, ⟨[0, 1, 2, 3, 4], [1], [], false, .con (.int .u32 x1.Seq), none, fun u => [Ent.pur (InR .u32 x1.Seq)], []⟩, ⟨[], [], [], false, .con (.pointer (some ⟨b2, 16, none⟩)), none, fun u => [], []⟩, ⟨[6], [], [], false, .own, none, fun u => [Val (Kd.sl KEarly) u a2.Early], []⟩, ⟨[], [], [], false, .con (.int .i64 s1), none, fun u => [], []⟩, ⟨[6, 7, 8], [7], [], false, .fn (fun u => elemP u (s1.toNat * Kd.n KEarly)) 7, none, fun u => [], []⟩, ⟨[6, 7, 8, 9], [7], [], false, .fn (fun u => elemP u (s1.toNat * Kd.n KEarly + 0)) 7, none, fun u => [], []⟩, ⟨[6, 7, 8, 9, 10], [7], [], false, .con (.int .u32 x2.Seq), none, fun u => [Ent.pur (InR .u32 x2.Seq)], []⟩, ⟨[0, 1, 2, 3, 4, 5, 6, 7, 8, 9, 10, 11], [], [], false, .con (.bool (!decide (x1.Seq = x2.Seq))), none, fun u => [], []⟩, ⟨[0, 1, 2, 3, 4, 5, 6, 7, 8, 9, 10, 11, 12], [], [], false, .con (.bool (!decide (x1.Seq = x2.Seq))), none, fun u => [], []⟩, ⟨[0, 1, 2, 3, 4, 5, 6, 7, 8, 9, 10, 11, 12, 13], [], [], false, .con (.pointer (some ⟨b1, 16, none⟩)), none, fun u => [], []⟩, ⟨[0, 1, 2, 3, 4, 5, 6, 7, 8, 9, 10, 11, 12, 13, 14], [], [], false, .own, none, fun u => [Val (Kd.sl KEarly) u a1.Early], []⟩, ⟨[0, 1, 2, 3, 4, 5, 6, 7, 8, 9, 10, 11, 12, 13], [], [], false, .con (.int .i64 s1), none, fun u => [], []⟩, ⟨[0, 1, 2, 3, 4, 5, 6, 7, 8, 9, 10, 11, 12, 13, 14, 15, 16], [15], [], false, .fn (fun u => elemP u (s1.toNat * Kd.n KEarly)) 15, none, fun u => [], []⟩, ⟨[0, 1, 2, 3, 4, 5, 6, 7, 8, 9, 10, 11, 12, 13, 14, 15, 16, 17], [15], [], false, .fn (fun u => elemP u (s1.toNat * Kd.n KEarly + 1)) 15, none, fun u => [], []⟩, ⟨[0, 1, 2, 3, 4, 5, 6, 7, 8, 9, 10, 11, 12, 13, 14, 15, 16, 17, 18], [15], [], false, .own, none, fun u => [Val (Kd.sl (Kd.int .u8)) u x3.Data], []⟩, ⟨[0, 1, 2, 3, 4, 5, 6, 7, 8, 9, 10, 11, 12, 13, 14, 15, 16, 17, 18, 19], [19], [], false, .con (.string (mkS x3.Data)), none, fun u => [], []⟩, ⟨[0, 1, 2, 3, 4, 5, 6, 7, 8, 9, 10, 11, 12, 13], [], [], false, .con (.pointer (some ⟨b2, 16, none⟩)), none, fun u => [], []⟩, ⟨[0, 1, 2, 3, 4, 5, 6, 7, 8, 9, 10, 11, 12, 13, 21], [], [], false, .own, none, fun u => [Val (Kd.sl KEarly) u a2.Early], []⟩, ⟨[0, 1, 2, 3, 4, 5, 6, 7, 8, 9, 10, 11, 12, 13], [], [], false, .con (.int .i64 s1), none, fun u => [], []⟩, ⟨[0, 1, 2, 3, 4, 5, 6, 7, 8, 9, 10, 11, 12, 13, 21, 22, 23], [22], [], false, .fn (fun u => elemP u (s1.toNat * Kd.n KEarly)) 22, none, fun u => [], []⟩, ⟨[0, 1, 2, 3, 4, 5, 6, 7, 8, 9, 10, 11, 12, 13, 21, 22, 23, 24], [22], [], false, .fn (fun u => elemP u (s1.toNat * Kd.n KEarly + 1)) 22, none, fun u => [], []⟩, ⟨[0, 1, 2, 3, 4, 5, 6, 7, 8, 9, 10, 11, 12, 13, 21, 22, 23, 24, 25], [22], [], false, .own, none, fun u => [Val (Kd.sl (Kd.int .u8)) u x4.Data], []⟩, ⟨[0, 1, 2, 3, 4, 5, 6, 7, 8, 9, 10, 11, 12, 13, 21, 22, 23, 24, 25, 26], [26], [], false, .con (.string (mkS x4.Data)), none, fun u => [], []⟩] rfl t_mxo (by kernel_rfl) (by rfl) ?_ fun f1 _ _ h => ?_
      ·exact obs_cons (ob_con rfl (gok_none rfl) rfl fun f1 => (o_fa rfl t_f26_16 rfl rfl)) (obs_cons (ob_own rfl (gok_none rfl) rfl fun f1 => (o_lfv 2 rfl rfl sConn_Early rfl Per_sl t_y24)) (obs_cons (ob_con rfl (gok_none rfl) rfl fun f1 => (o_move rfl)) (obs_cons (ob_fn rfl (gok_none rfl) rfl fun f1 => (o_ix rfl rfl (rd_at 0 rfl) ex1 t_v24)) (obs_cons (ob_fn rfl (gok_none rfl) rfl fun f1 => (o_fae (k' := s1.toNat * Kd.n KEarly + 0) rfl (rd_at 0 rfl) ex1 (by decide) t_f58_0 rfl rfl)) (obs_cons (ob_con rfl (gok_none rfl) rfl fun f1 => (OpS.pur (fun F w m_ => (in1 (rd_sub sEarly_Seq (rd_at 0 rfl) ex1 m_))) (o_lsx rfl (rd_at 0 rfl) ex1 sEarly_Seq X_int t_y22 (by decide)))) (obs_cons (ob_con rfl (gok_none rfl) rfl fun f1 => (o_fa rfl t_f26_16 rfl rfl)) (obs_cons (ob_own rfl (gok_none rfl) rfl fun f1 => (o_lfv 1 rfl rfl sConn_Early rfl Per_sl t_y24)) (obs_cons (ob_con rfl (gok_none rfl) rfl fun f1 => (o_move rfl)) (obs_cons (ob_fn rfl (gok_none rfl) rfl fun f1 => (o_ix rfl rfl (rd_at 0 rfl) ex2 t_v24)) (obs_cons (ob_fn rfl (gok_none rfl) rfl fun f1 => (o_fae (k' := s1.toNat * Kd.n KEarly + 0) rfl (rd_at 0 rfl) ex2 (by decide) t_f58_0 rfl rfl)) (obs_cons (ob_con rfl (gok_none rfl) rfl fun f1 => (OpS.pur (fun F w m_ => (in1 (rd_sub sEarly_Seq (rd_at 0 rfl) ex2 m_))) (o_lsx rfl (rd_at 0 rfl) ex2 sEarly_Seq X_int t_y22 (by decide)))) (obs_cons (ob_con rfl (gok_none rfl) rfl fun f1 => (o_bin rfl rfl rfl)) (obs_cons (ob_con rfl (gok_none rfl) rfl fun f1 => (o_move rfl)) (obs_cons (ob_con rfl (gok_some rfl rfl rfl (fun _ => rfl) (nbF c5)) rfl fun f1 => (o_fa rfl t_f26_16 rfl rfl)) (obs_cons (ob_own rfl (gok_some rfl rfl rfl (fun _ => rfl) (nbF c5)) rfl fun f1 => (o_lfv 2 rfl rfl sConn_Early rfl Per_sl t_y24)) (obs_cons (ob_con rfl (gok_some rfl rfl rfl (fun _ => rfl) (nbF c5)) rfl fun f1 => (o_move rfl)) (obs_cons (ob_fn rfl (gok_some rfl rfl rfl (fun _ => rfl) (nbF c5)) rfl fun f1 => (o_ix rfl rfl (rd_at 0 rfl) ex3 t_v24)) (obs_cons (ob_fn rfl (gok_some rfl rfl rfl (fun _ => rfl) (nbF c5)) rfl fun f1 => (o_fae (k' := s1.toNat * Kd.n KEarly + 1) rfl (rd_at 0 rfl) ex3 (by decide) t_f58_1 rfl rfl)) (obs_cons (ob_own rfl (gok_some rfl rfl rfl (fun _ => rfl) (nbF c5)) rfl fun f1 => (o_lsv rfl (rd_at 0 rfl) ex3 sEarly_Data t_y23 (by decide))) (obs_cons (ob_con rfl (gok_some rfl rfl rfl (fun _ => rfl) (nbF c5)) rfl fun f1 => (o_b2s rfl (rd_at 0 rfl) t_u23 t_u5 t_u9)) (obs_cons (ob_con rfl (gok_some rfl rfl rfl (fun _ => rfl) (nbF c5)) rfl fun f1 => (o_fa rfl t_f26_16 rfl rfl)) (obs_cons (ob_own rfl (gok_some rfl rfl rfl (fun _ => rfl) (nbF c5)) rfl fun f1 => (o_lfv 1 rfl rfl sConn_Early rfl Per_sl t_y24)) (obs_cons (ob_con rfl (gok_some rfl rfl rfl (fun _ => rfl) (nbF c5)) rfl fun f1 => (o_move rfl)) (obs_cons (ob_fn rfl (gok_some rfl rfl rfl (fun _ => rfl) (nbF c5)) rfl fun f1 => (o_ix rfl rfl (rd_at 0 rfl) ex4 t_v24)) (obs_cons (ob_fn rfl (gok_some rfl rfl rfl (fun _ => rfl) (nbF c5)) rfl fun f1 => (o_fae (k' := s1.toNat * Kd.n KEarly + 1) rfl (rd_at 0 rfl) ex4 (by decide) t_f58_1 rfl rfl)) (obs_cons (ob_own rfl (gok_some rfl rfl rfl (fun _ => rfl) (nbF c5)) rfl fun f1 => (o_lsv rfl (rd_at 0 rfl) ex4 sEarly_Data t_y23 (by decide))) (obs_cons (ob_con rfl (gok_some rfl rfl rfl (fun _ => rfl) (nbF c5)) rfl fun f1 => (o_b2s rfl (rd_at 0 rfl) t_u23 t_u5 t_u9)) (obs_nil))))))))))))))))))))))))))))
      replace h := h.wk (E' := [(2, .pointer (some ⟨b1, 0, none⟩)), (3, .pointer (some ⟨b2, 0, none⟩)), (5, .int .i64 s1), (51, .bool (!decide (x1.Seq = x2.Seq))), (58, .string (mkS x3.Data)), (65, .string (mkS x4.Data))]) (L' := [Val (Kd.sl KEarly) (f1 1) a1.Early, Ent.pur (InR .u32 x1.Seq), Val (Kd.sl KEarly) (f1 7) a2.Early, Ent.pur (InR .u32 x2.Seq), Val (Kd.sl KEarly) (f1 15) a1.Early, Val (Kd.sl (Kd.int .u8)) (f1 19) x3.Data, Val (Kd.sl KEarly) (f1 22) a2.Early, Val (Kd.sl (Kd.int .u8)) (f1 26) x4.Data, Val (Kd.sl KEarly) v9 a1.Early, Fld KConn b2 0 a2, Fld KConn b1 0 a1]) (by kernel_rfl) [0, 1, 2, 3, 4, 5, 6, 7, 8, 9, 10] (by decide) (by kernel_rfl)
      have g9 := (rd_bs (rd_at 5 rfl) h.mem)
      have g10 := (rd_bs (rd_at 7 rfl) h.mem)
      refine gg h rfl rfl (nbF c5) (o_nes rfl rfl g9 g10) rfl fun _ _ _ h => ?_
      refine gs h (o_pickF rfl rfl c5) rfl fun _ _ _ h => ?_
      refine GoR.done ?_
      exact J2 (!decide (x3.Data = x4.Data)) _ _ (som H).symm (h.wk (by rfl) [9, 10] (by decide) (by rfl))
    ·have H := ifF c4 H
     refine g_f h rfl c4 ?_
     refine Go.exit rfl ?_
     have e_ := som H; subst e_
     exact J3 () _ _ (nx_out i1).symm (h.wk (by rfl) [1, 2] (by decide) (by rfl))
   ·exact I_ _ _ (show InR .i64 0 by decide) (h.wk (by rfl) [0, 1] (by decide) (by rfl))
 refine Go.reg ?_
 refine gs h (o_fa rfl t_f26_16 rfl rfl) rfl fun _ _ _ h => ?_
 refine gs h (o_lfv 1 rfl rfl sConn_Early rfl Per_sl t_y24) rfl fun v3 _ _ h => ?_
 have g1 := (len_at 0 rfl h.mem)
 refine gs h (o_ln rfl (rd_at 0 rfl) t_v24) rfl fun _ _ _ h => ?_
 refine gs h (o_fa rfl t_f26_16 rfl rfl) rfl fun _ _ _ h => ?_
 refine gs h (o_lfv 1 rfl rfl sConn_Early rfl Per_sl t_y24) rfl fun v4 _ _ h => ?_
 have g2 := (len_at 0 rfl h.mem)
 refine gs h (o_ln rfl (rd_at 0 rfl) t_v24) rfl fun _ _ _ h => ?_
 refine gs h (o_bin rfl rfl rfl) rfl fun _ _ _ h => ?_
 refine gs h (o_move rfl) rfl fun _ _ _ h => ?_
 by_cases c1 : (!decide ((a1.Early.length : Int) = (a2.Early.length : Int))) = true
 ·have H := ifT c1 H
  iterate 7 (refine gk h rfl rfl (nb_t c1) rfl fun _ h => ?_)
  refine gs h (o_pickT rfl rfl c1) rfl fun _ _ _ h => ?_
  refine gs h (o_move rfl) rfl fun _ _ _ h => ?_
  iterate 7 (refine gk h rfl rfl (nb_t rfl) rfl fun _ h => ?_)
  refine gs h (o_pickT rfl rfl rfl) rfl fun _ _ _ h => ?_
  refine GoR.done ?_
  exact J1 true _ _ (som H).symm (h.wk (by rfl) [2, 3] (by decide) (by rfl))
 ·have H := ifF c1 H
  refine gg h rfl rfl (nbF c1) (o_fa rfl t_f26_14 rfl rfl) rfl fun _ _ _ h => ?_
  refine gg h rfl rfl (nbF c1) (o_lfv 3 rfl rfl sConn_ToHost rfl Per_sl t_y23) rfl fun v5 _ _ h => ?_
  have g3 := (rd_bs (rd_at 0 rfl) h.mem)
  refine gg h rfl rfl (nbF c1) (o_b2s rfl (rd_at 0 rfl) t_u23 t_u5 t_u9) rfl fun _ _ _ h => ?_
  refine gg h rfl rfl (nbF c1) (o_fa rfl t_f26_14 rfl rfl) rfl fun _ _ _ h => ?_
  refine gg h rfl rfl (nbF c1) (o_lfv 3 rfl rfl sConn_ToHost rfl Per_sl t_y23) rfl fun v6 _ _ h => ?_
  have g4 := (rd_bs (rd_at 0 rfl) h.mem)
  refine gg h rfl rfl (nbF c1) (o_b2s rfl (rd_at 0 rfl) t_u23 t_u5 t_u9) rfl fun _ _ _ h => ?_
  refine gg h rfl rfl (nbF c1) (o_nes rfl rfl g3 g4) rfl fun _ _ _ h => ?_
  refine gs h (o_pickF rfl rfl c1) rfl fun _ _ _ h => ?_
  refine gs h (o_move rfl) rfl fun _ _ _ h => ?_
  by_cases c2 : (!decide (a1.ToHost = a2.ToHost)) = true
  ·have H := ifT c2 H
   iterate 7 (refine gk h rfl rfl (nb_t c2) rfl fun _ h => ?_)
   refine gs h (o_pickT rfl rfl c2) rfl fun _ _ _ h => ?_
   refine GoR.done ?_
   exact J1 true _ _ (som H).symm (h.wk (by rfl) [4, 5] (by decide) (by rfl))
  ·have H := ifF c2 H
   refine gg h rfl rfl (nbF c2) (o_fa rfl t_f26_15 rfl rfl) rfl fun _ _ _ h => ?_
   refine gg h rfl rfl (nbF c2) (o_lfv 5 rfl rfl sConn_ToGuest rfl Per_sl t_y23) rfl fun v7 _ _ h => ?_
   have g5 := (rd_bs (rd_at 0 rfl) h.mem)
   refine gg h rfl rfl (nbF c2) (o_b2s rfl (rd_at 0 rfl) t_u23 t_u5 t_u9) rfl fun _ _ _ h => ?_
   refine gg h rfl rfl (nbF c2) (o_fa rfl t_f26_15 rfl rfl) rfl fun _ _ _ h => ?_
   refine gg h rfl rfl (nbF c2) (o_lfv 5 rfl rfl sConn_ToGuest rfl Per_sl t_y23) rfl fun v8 _ _ h => ?_
   have g6 := (rd_bs (rd_at 0 rfl) h.mem)
   refine gg h rfl rfl (nbF c2) (o_b2s rfl (rd_at 0 rfl) t_u23 t_u5 t_u9) rfl fun _ _ _ h => ?_
   refine gg h rfl rfl (nbF c2) (o_nes rfl rfl g5 g6) rfl fun _ _ _ h => ?_
   refine gs h (o_pickF rfl rfl c2) rfl fun _ _ _ h => ?_
   refine GoR.done ?_
   exact J1 (!decide (a1.ToGuest = a2.ToGuest)) _ _ (som H).symm (h.wk (by rfl) [6, 7] (by decide) (by rfl))
def ref28_Same.g (k_ : Nat) (a1 : TConn) (a2 : TConn) : Option (Bool) :=
  ((if (!decide ((a1.Early.length : Int) = (a2.Early.length : Int))) = true then some (true) else (if (!decide (a1.ToHost = a2.ToHost)) = true then some (true) else some ((!decide (a1.ToGuest = a2.ToGuest)))))).bind (fun j1 => (if j1 = true then some (false) else (loopK k_ (fun s1 => (if decide (s1 < (a1.Early.length : Int)) = true then ((idx a1.Early s1).bind fun x1 => (idx a2.Early s1).bind fun x2 => (if (!decide (x1.Seq = x2.Seq)) = true then some (true) else (idx a1.Early s1).bind fun x3 => (idx a2.Early s1).bind fun x4 => some ((!decide (x3.Data = x4.Data))))).bind (fun j2 => (if j2 = true then some (.inr (.inr (false))) else lt (IntKind.i64.wrap (s1 + 1)) fun y1 => some (.inl y1))) else some (.inr (.inl (()))))) 0).bind (Sum.elim (fun j3 => ((if (!decide (a1.Id = a2.Id)) = true then some (true) else (if (!decide (a1.Guest = a2.Guest)) = true then some (true) else (if (!decide (a1.Gport = a2.Gport)) = true then some (true) else (if (!decide (a1.Remote = a2.Remote)) = true then some (true) else (if (!decide (a1.Rport = a2.Rport)) = true then some (true) else (if (!(a1.Opening == a2.Opening)) = true then some (true) else (if (!(a1.Up == a2.Up)) = true then some (true) else some ((!(a1.Done == a2.Done))))))))))).bind (fun j4 => (if j4 = true then some (false) else ((if (!decide (a1.Begin = a2.Begin)) = true then some (true) else (if (!decide (a1.Una = a2.Una)) = true then some (true) else (if (!decide (a1.Next = a2.Next)) = true then some (true) else (if (!decide (a1.Want = a2.Want)) = true then some (true) else (if (!decide (a1.Win = a2.Win)) = true then some (true) else some ((!decide (a1.Mss = a2.Mss))))))))).bind (fun j5 => (if j5 = true then some (false) else ((if (a1.Fin == a2.Fin) = true then (if (a1.Eof == a2.Eof) = true then (if (a1.Shut == a2.Shut) = true then (if decide (a1.At = a2.At) = true then (if decide (a1.Wait = a2.Wait) = true then lt (decide (a1.Tries = a2.Tries)) fun y2 => some (y2) else some (false)) else some (false)) else some (false)) else some (false)) else some (false))).bind (fun j6 => some (j6))))))) (fun z_ => some (z_)))))
theorem ref28_Same.le (k_ : Nat) (a1 : TConn) (a2 : TConn) : Le (ref28_Same.g k_ a1 a2) (ref28_Same.f a1 a2) := by
 unfold ref28_Same.g ref28_Same.f
 repeat' (first | with_reducible refine le_loop fun _ => ?_ | with_reducible refine le_bind ?_ fun _ => ?_ | with_reducible refine le_ite ?_ ?_ | with_reducible refine le_lt fun _ => ?_ | with_reducible refine le_elim (fun _ => ?_) (fun _ => ?_) _ | with_reducible exact le_refl _)
end Go.Proofs.Ytpcbhkigmnpimaa.S
