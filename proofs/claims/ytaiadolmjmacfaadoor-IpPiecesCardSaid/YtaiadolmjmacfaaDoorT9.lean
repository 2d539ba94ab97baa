/- Contracts, printed by a program of this session. -/
import Derived.Test.YtaiadolmjmacfaaDoorT0
namespace Go.Proofs.YtaiadolmjmacfaaDoor.S
open Go Go.SL Go.RowKit
set_option linter.unusedVariables false
set_option linter.unusedSimpArgs false
/-! drawbridge/drawbridgeref17.within -/
noncomputable def ref17_within.f (a1 : Int) (a2 : Int) : Option (Bool) :=
  ((if decide (0 ≤ a1) = true then lt (decide (a1 ≤ a2)) fun y1 => some (y1) else some (false))).bind (fun j1 => some (j1))
set_option maxRecDepth 100000 in
set_option maxHeartbeats 4000000 in
theorem ref17_within.spc (a1 : Int) (ha1 : InR .i64 a1) (a2 : Int) (ha2 : InR .i64 a2) (r : Bool) (H : ref17_within.f a1 a2 = some r) : Spc Tryd.prog 39 [.int .i64 a1, .int .i64 a2] [] [] (fun (s : Unit) => .bool r) (fun s => []) := by
 unfold ref17_within.f at H
 refine Spc.go Tryd.func39 rfl (by kernel_rfl) rfl rfl all_nil fun F a w h => ?_
 refine Go.seq ?_
 refine Go.reg ?_
 refine gs h (o_assign rfl) rfl fun _ _ _ h => ?_
 refine GoR.done ?_
 refine Go.seq ?_
 obtain ⟨o1, H, G1⟩ := bindE H
 refine g_cut (fun G => ∀ j1 (a : Act) (w : World), o1 = j1 → St Tryd.f39.ntmps F [(4, .bool j1)] [] a w → G a w) 1 ?_ fun J1 => ?_
 ·intro j1 a w ho_ h
  rw [ho_] at G1
  have H := G1
  rw [← som H]
  exact g_ret (vs := [.bool j1]) h Tryd.func39 ⟨rfl, trivial⟩ ⟨(), rfl, (h.mem.pick [] (by decide) rfl)⟩
 refine Go.reg ?_
 refine gs h (o_move rfl) rfl fun _ _ _ h => ?_
 refine gs h (o_bin rfl rfl rfl) rfl fun _ _ _ h => ?_
 refine gs h (o_move rfl) rfl fun _ _ _ h => ?_
 by_cases c1 : decide (0 ≤ a1) = true
 ·have H := ifT c1 H
  refine gg h rfl rfl c1 (o_move rfl) rfl fun _ _ _ h => ?_
  refine gg h rfl rfl c1 (o_move rfl) rfl fun _ _ _ h => ?_
  refine gg h rfl rfl c1 (o_bin rfl rfl rfl) rfl fun _ _ _ h => ?_
  refine gs h (o_pickT rfl rfl c1) rfl fun _ _ _ h => ?_
  obtain ⟨y1, ey1, H⟩ := ltE H
  refine gs h (o_assign' rfl (congrArg Value.bool ey1)) rfl fun _ _ _ h => ?_
  refine GoR.done ?_
  exact J1 y1 _ _ (som H).symm (h.wk (by rfl) [] (by decide) (by rfl))
 ·have H := ifF c1 H
  iterate 3 (refine gk h rfl rfl (nb_f c1) rfl fun _ h => ?_)
  refine gs h (o_pickF rfl rfl c1) rfl fun _ _ _ h => ?_
  refine gs h (o_assign rfl) rfl fun _ _ _ h => ?_
  refine GoR.done ?_
  exact J1 false _ _ (som H).symm (h.wk (by rfl) [] (by decide) (by rfl))
def ref17_within.g (k_ : Nat) (a1 : Int) (a2 : Int) : Option (Bool) :=
  ((if decide (0 ≤ a1) = true then lt (decide (a1 ≤ a2)) fun y1 => some (y1) else some (false))).bind (fun j1 => some (j1))
theorem ref17_within.le (k_ : Nat) (a1 : Int) (a2 : Int) : Le (ref17_within.g k_ a1 a2) (ref17_within.f a1 a2) := by
 unfold ref17_within.g ref17_within.f
 repeat' (first | with_reducible refine le_loop fun _ => ?_ | with_reducible refine le_bind ?_ fun _ => ?_ | with_reducible refine le_ite ?_ ?_ | with_reducible refine le_lt fun _ => ?_ | with_reducible refine le_elim (fun _ => ?_) (fun _ => ?_) _ | with_reducible exact le_refl _)
/-! drawbridge/drawbridgeref17.right -/
noncomputable def ref17_right.f (a1 : TIp) : Option (Bool) :=
  ((ref17_within.f a1.Tos 255).bind fun r1 => (if r1 = true then (ref17_within.f a1.Ttl 255).bind fun r2 => (if r2 = true then (ref17_within.f a1.Proto 255).bind fun r3 => (if r3 = true then (ref17_within.f a1.Id 65535).bind fun r4 => (if r4 = true then (ref17_within.f a1.Flags 7).bind fun r5 => (if r5 = true then (ref17_within.f a1.Off 8191).bind fun r6 => some (r6) else some (false)) else some (false)) else some (false)) else some (false)) else some (false))).bind (fun j1 => ((if j1 = true then (if decide ((a1.Options.length : Int) ≤ 40) = true then (if decide ((Int.tmod (a1.Options.length : Int) 4) = 0) = true then lt (decide ((a1.Data.length : Int) ≤ (IntKind.i64.wrap (65515 - (a1.Options.length : Int))))) fun y1 => some (y1) else some (false)) else some (false)) else some (false))).bind (fun j2 => some (j2)))
set_option maxRecDepth 100000 in
set_option maxHeartbeats 4000000 in
theorem ref17_right.spc (v1 : Value) (a1 : TIp) (r : Bool) (H : ref17_right.f a1 = some r) : Spc Tryd.prog 23 [v1] [Val KIp v1 a1] [] (fun (s : Unit) => .bool r) (fun s => []) := by
 unfold ref17_right.f at H
 refine Spc.go Tryd.func23 rfl (by kernel_rfl) rfl rfl (all_cons (Val.per PIp) all_nil) fun F a w h => ?_
 refine Go.seq ?_
 refine Go.reg ?_
 refine gs h (o_box (K := KIp) rfl (pv_at PIp 0 rfl)) rfl fun b1 _ _ h => ?_
 refine gs h (o_assign rfl) rfl fun _ _ _ h => ?_
 refine GoR.done ?_
 refine Go.seq ?_
 obtain ⟨o1, H, G1⟩ := bindE H
 refine g_cut (fun G => ∀ j1 (a : Act) (w : World), o1 = j1 → St Tryd.f23.ntmps F [(1, .pointer (some ⟨b1, 0, none⟩)), (3, .bool j1)] [Fld KIp b1 0 a1] a w → G a w) 1 ?_ fun J1 => ?_
 ·intro j1 a w ho_ h
  rw [ho_] at G1
  have H := G1
  refine Go.seq ?_
  obtain ⟨o2, H, G2⟩ := bindE H
  refine g_cut (fun G => ∀ j2 (a : Act) (w : World), o2 = j2 → St Tryd.f23.ntmps F [(2, .bool j2)] [Fld KIp b1 0 a1] a w → G a w) 1 ?_ fun J2 => ?_
  ·intro j2 a w ho_ h
   rw [ho_] at G2
   have H := G2
   rw [← som H]
   exact g_ret (vs := [.bool j2]) h Tryd.func23 ⟨rfl, trivial⟩ ⟨(), rfl, (h.mem.pick [] (by decide) rfl)⟩
  refine Go.reg ?_
  refine gs h (o_move rfl) rfl fun _ _ _ h => ?_
  refine gs h (o_move rfl) rfl fun _ _ _ h => ?_
  by_cases c6 : j1 = true
  ·have H := ifT c6 H
   refine gg h rfl rfl c6 (o_fa rfl t_f25_8 rfl rfl) rfl fun _ _ _ h => ?_
   refine gg h rfl rfl c6 (o_lfv 0 rfl rfl sIp_Options rfl Per_sl t_y23) rfl fun v2 _ _ h => ?_
   have g7 := (len_at 0 rfl h.mem)
   refine gg h rfl rfl c6 (o_ln rfl (rd_at 0 rfl) t_v23) rfl fun _ _ _ h => ?_
   refine gg h rfl rfl c6 (o_bin rfl rfl rfl) rfl fun _ _ _ h => ?_
   refine gs h (o_pickT rfl rfl c6) rfl fun _ _ _ h => ?_
   refine gs h (o_move rfl) rfl fun _ _ _ h => ?_
   by_cases c7 : decide ((a1.Options.length : Int) ≤ 40) = true
   ·have H := ifT c7 H
    refine gg h rfl rfl c7 (o_fa rfl t_f25_8 rfl rfl) rfl fun _ _ _ h => ?_
    refine gg h rfl rfl c7 (o_lfv 1 rfl rfl sIp_Options rfl Per_sl t_y23) rfl fun v3 _ _ h => ?_
    have g8 := (len_at 0 rfl h.mem)
    refine gg h rfl rfl c7 (o_ln rfl (rd_at 0 rfl) t_v23) rfl fun _ _ _ h => ?_
    refine gg h rfl rfl c7 (o_rem rfl rfl (show (4 : Int) ≠ 0 by decide)) rfl fun _ _ _ h => ?_
    refine gg h rfl rfl c7 (o_bin rfl rfl rfl) rfl fun _ _ _ h => ?_
    refine gs h (o_pickT rfl rfl c7) rfl fun _ _ _ h => ?_
    refine gs h (o_move rfl) rfl fun _ _ _ h => ?_
    by_cases c8 : decide ((Int.tmod (a1.Options.length : Int) 4) = 0) = true
    ·have H := ifT c8 H
     refine gg h rfl rfl c8 (o_fa rfl t_f25_9 rfl rfl) rfl fun _ _ _ h => ?_
     refine gg h rfl rfl c8 (o_lfv 2 rfl rfl sIp_Data rfl Per_sl t_y23) rfl fun v4 _ _ h => ?_
     have g9 := (len_at 0 rfl h.mem)
     refine gg h rfl rfl c8 (o_ln rfl (rd_at 0 rfl) t_v23) rfl fun _ _ _ h => ?_
     refine gg h rfl rfl c8 (o_fa rfl t_f25_8 rfl rfl) rfl fun _ _ _ h => ?_
     refine gg h rfl rfl c8 (o_lfv 3 rfl rfl sIp_Options rfl Per_sl t_y23) rfl fun v5 _ _ h => ?_
     have g10 := (len_at 0 rfl h.mem)
     refine gg h rfl rfl c8 (o_ln rfl (rd_at 0 rfl) t_v23) rfl fun _ _ _ h => ?_
     refine gg h rfl rfl c8 (o_bin rfl rfl rfl) rfl fun _ _ _ h => ?_
     refine gg h rfl rfl c8 (o_bin rfl rfl rfl) rfl fun _ _ _ h => ?_
     refine gs h (o_pickT rfl rfl c8) rfl fun _ _ _ h => ?_
     obtain ⟨y1, ey1, H⟩ := ltE H
     refine gs h (o_assign' rfl (congrArg Value.bool ey1)) rfl fun _ _ _ h => ?_
     refine GoR.done ?_
     exact J2 y1 _ _ (som H).symm (h.wk (by rfl) [4] (by decide) (by rfl))
    ·have H := ifF c8 H
     iterate 8 (refine gk h rfl rfl (nb_f c8) rfl fun _ h => ?_)
     refine gs h (o_pickF rfl rfl c8) rfl fun _ _ _ h => ?_
     refine gs h (o_assign rfl) rfl fun _ _ _ h => ?_
     refine GoR.done ?_
     exact J2 false _ _ (som H).symm (h.wk (by rfl) [2] (by decide) (by rfl))
   ·have H := ifF c7 H
    iterate 5 (refine gk h rfl rfl (nb_f c7) rfl fun _ h => ?_)
    refine gs h (o_pickF rfl rfl c7) rfl fun _ _ _ h => ?_
    refine gs h (o_move rfl) rfl fun _ _ _ h => ?_
    iterate 8 (refine gk h rfl rfl (nb_f Bool.false_ne_true) rfl fun _ h => ?_)
    refine gs h (o_pickF rfl rfl Bool.false_ne_true) rfl fun _ _ _ h => ?_
    refine gs h (o_assign rfl) rfl fun _ _ _ h => ?_
    refine GoR.done ?_
    exact J2 false _ _ (som H).symm (h.wk (by rfl) [1] (by decide) (by rfl))
  ·have H := ifF c6 H
   iterate 4 (refine gk h rfl rfl (nb_f c6) rfl fun _ h => ?_)
   refine gs h (o_pickF rfl rfl c6) rfl fun _ _ _ h => ?_
   refine gs h (o_move rfl) rfl fun _ _ _ h => ?_
   iterate 5 (refine gk h rfl rfl (nb_f Bool.false_ne_true) rfl fun _ h => ?_)
   refine gs h (o_pickF rfl rfl Bool.false_ne_true) rfl fun _ _ _ h => ?_
   refine gs h (o_move rfl) rfl fun _ _ _ h => ?_
   iterate 8 (refine gk h rfl rfl (nb_f Bool.false_ne_true) rfl fun _ h => ?_)
   refine gs h (o_pickF rfl rfl Bool.false_ne_true) rfl fun _ _ _ h => ?_
   refine gs h (o_assign rfl) rfl fun _ _ _ h => ?_
   refine GoR.done ?_
   exact J2 false _ _ (som H).symm (h.wk (by rfl) [0] (by decide) (by rfl))
 refine Go.reg ?_
 refine gs h (o_fa rfl t_f25_0 rfl rfl) rfl fun _ _ _ h => ?_
 have g1 := (in2 (fd_sub sIp_Tos 0 rfl h.mem))
 refine gs h (o_lfx 0 rfl rfl sIp_Tos rfl X_int t_y3) rfl fun _ _ _ h => ?_
 obtain ⟨r1, er1, H⟩ := bindE H
 refine gs h (o_call (ref17_within.spc a1.Tos g1 255 (show InR .i64 255 by decide) r1 er1) rfl [] [] (by decide) rfl rfl) rfl fun _ _ _ h => ?_
 refine gs h (o_move rfl) rfl fun _ _ _ h => ?_
 by_cases c1 : r1 = true
 ·have H := ifT c1 H
  refine gg h rfl rfl c1 (o_fa rfl t_f25_4 rfl rfl) rfl fun _ _ _ h => ?_
  have g2 := (in2 (fd_sub sIp_Ttl 0 rfl h.mem))
  refine gg h rfl rfl c1 (o_lfx 0 rfl rfl sIp_Ttl rfl X_int t_y3) rfl fun _ _ _ h => ?_
  obtain ⟨r2, er2, H⟩ := bindE H
  refine gg h rfl rfl c1 (o_call (ref17_within.spc a1.Ttl g2 255 (show InR .i64 255 by decide) r2 er2) rfl [] [] (by decide) rfl rfl) rfl fun _ _ _ h => ?_
  refine gs h (o_pickT rfl rfl c1) rfl fun _ _ _ h => ?_
  refine gs h (o_move rfl) rfl fun _ _ _ h => ?_
  by_cases c2 : r2 = true
  ·have H := ifT c2 H
   refine gg h rfl rfl c2 (o_fa rfl t_f25_5 rfl rfl) rfl fun _ _ _ h => ?_
   have g3 := (in2 (fd_sub sIp_Proto 0 rfl h.mem))
   refine gg h rfl rfl c2 (o_lfx 0 rfl rfl sIp_Proto rfl X_int t_y3) rfl fun _ _ _ h => ?_
   obtain ⟨r3, er3, H⟩ := bindE H
   refine gg h rfl rfl c2 (o_call (ref17_within.spc a1.Proto g3 255 (show InR .i64 255 by decide) r3 er3) rfl [] [] (by decide) rfl rfl) rfl fun _ _ _ h => ?_
   refine gs h (o_pickT rfl rfl c2) rfl fun _ _ _ h => ?_
   refine gs h (o_move rfl) rfl fun _ _ _ h => ?_
   by_cases c3 : r3 = true
   ·have H := ifT c3 H
    refine gg h rfl rfl c3 (o_fa rfl t_f25_1 rfl rfl) rfl fun _ _ _ h => ?_
    have g4 := (in2 (fd_sub sIp_Id 0 rfl h.mem))
    refine gg h rfl rfl c3 (o_lfx 0 rfl rfl sIp_Id rfl X_int t_y3) rfl fun _ _ _ h => ?_
    obtain ⟨r4, er4, H⟩ := bindE H
    refine gg h rfl rfl c3 (o_call (ref17_within.spc a1.Id g4 65535 (show InR .i64 65535 by decide) r4 er4) rfl [] [] (by decide) rfl rfl) rfl fun _ _ _ h => ?_
    refine gs h (o_pickT rfl rfl c3) rfl fun _ _ _ h => ?_
    refine gs h (o_move rfl) rfl fun _ _ _ h => ?_
    by_cases c4 : r4 = true
    ·have H := ifT c4 H
     refine gg h rfl rfl c4 (o_fa rfl t_f25_2 rfl rfl) rfl fun _ _ _ h => ?_
     have g5 := (in2 (fd_sub sIp_Flags 0 rfl h.mem))
     refine gg h rfl rfl c4 (o_lfx 0 rfl rfl sIp_Flags rfl X_int t_y3) rfl fun _ _ _ h => ?_
     obtain ⟨r5, er5, H⟩ := bindE H
     refine gg h rfl rfl c4 (o_call (ref17_within.spc a1.Flags g5 7 (show InR .i64 7 by decide) r5 er5) rfl [] [] (by decide) rfl rfl) rfl fun _ _ _ h => ?_
     refine gs h (o_pickT rfl rfl c4) rfl fun _ _ _ h => ?_
     refine gs h (o_move rfl) rfl fun _ _ _ h => ?_
     by_cases c5 : r5 = true
     ·have H := ifT c5 H
      refine gg h rfl rfl c5 (o_fa rfl t_f25_3 rfl rfl) rfl fun _ _ _ h => ?_
      have g6 := (in2 (fd_sub sIp_Off 0 rfl h.mem))
      refine gg h rfl rfl c5 (o_lfx 0 rfl rfl sIp_Off rfl X_int t_y3) rfl fun _ _ _ h => ?_
      obtain ⟨r6, er6, H⟩ := bindE H
      refine gg h rfl rfl c5 (o_call (ref17_within.spc a1.Off g6 8191 (show InR .i64 8191 by decide) r6 er6) rfl [] [] (by decide) rfl rfl) rfl fun _ _ _ h => ?_
      refine gs h (o_pickT rfl rfl c5) rfl fun _ _ _ h => ?_
      refine gs h (o_assign rfl) rfl fun _ _ _ h => ?_
      refine GoR.done ?_
      exact J1 r6 _ _ (som H).symm (h.wk (by rfl) [0] (by decide) (by rfl))
     ·have H := ifF c5 H
      iterate 3 (refine gk h rfl rfl (nb_f c5) rfl fun _ h => ?_)
      refine gs h (o_pickF rfl rfl c5) rfl fun _ _ _ h => ?_
      refine gs h (o_assign rfl) rfl fun _ _ _ h => ?_
      refine GoR.done ?_
      exact J1 false _ _ (som H).symm (h.wk (by rfl) [0] (by decide) (by rfl))
    ·have H := ifF c4 H
     iterate 3 (refine gk h rfl rfl (nb_f c4) rfl fun _ h => ?_)
     refine gs h (o_pickF rfl rfl c4) rfl fun _ _ _ h => ?_
     refine gs h (o_move rfl) rfl fun _ _ _ h => ?_
     iterate 3 (refine gk h rfl rfl (nb_f Bool.false_ne_true) rfl fun _ h => ?_)
     refine gs h (o_pickF rfl rfl Bool.false_ne_true) rfl fun _ _ _ h => ?_
     refine gs h (o_assign rfl) rfl fun _ _ _ h => ?_
     refine GoR.done ?_
     exact J1 false _ _ (som H).symm (h.wk (by rfl) [0] (by decide) (by rfl))
   ·have H := ifF c3 H
    iterate 3 (refine gk h rfl rfl (nb_f c3) rfl fun _ h => ?_)
    refine gs h (o_pickF rfl rfl c3) rfl fun _ _ _ h => ?_
    refine gs h (o_move rfl) rfl fun _ _ _ h => ?_
    iterate 3 (refine gk h rfl rfl (nb_f Bool.false_ne_true) rfl fun _ h => ?_)
    refine gs h (o_pickF rfl rfl Bool.false_ne_true) rfl fun _ _ _ h => ?_
    refine gs h (o_move rfl) rfl fun _ _ _ h => ?_
    iterate 3 (refine gk h rfl rfl (nb_f Bool.false_ne_true) rfl fun _ h => ?_)
    refine gs h (o_pickF rfl rfl Bool.false_ne_true) rfl fun _ _ _ h => ?_
    refine gs h (o_assign rfl) rfl fun _ _ _ h => ?_
    refine GoR.done ?_
    exact J1 false _ _ (som H).symm (h.wk (by rfl) [0] (by decide) (by rfl))
  ·have H := ifF c2 H
   iterate 3 (refine gk h rfl rfl (nb_f c2) rfl fun _ h => ?_)
   refine gs h (o_pickF rfl rfl c2) rfl fun _ _ _ h => ?_
   refine gs h (o_move rfl) rfl fun _ _ _ h => ?_
   iterate 3 (refine gk h rfl rfl (nb_f Bool.false_ne_true) rfl fun _ h => ?_)
   refine gs h (o_pickF rfl rfl Bool.false_ne_true) rfl fun _ _ _ h => ?_
   refine gs h (o_move rfl) rfl fun _ _ _ h => ?_
   iterate 3 (refine gk h rfl rfl (nb_f Bool.false_ne_true) rfl fun _ h => ?_)
   refine gs h (o_pickF rfl rfl Bool.false_ne_true) rfl fun _ _ _ h => ?_
   refine gs h (o_move rfl) rfl fun _ _ _ h => ?_
   iterate 3 (refine gk h rfl rfl (nb_f Bool.false_ne_true) rfl fun _ h => ?_)
   refine gs h (o_pickF rfl rfl Bool.false_ne_true) rfl fun _ _ _ h => ?_
   refine gs h (o_assign rfl) rfl fun _ _ _ h => ?_
   refine GoR.done ?_
   exact J1 false _ _ (som H).symm (h.wk (by rfl) [0] (by decide) (by rfl))
 ·have H := ifF c1 H
  iterate 3 (refine gk h rfl rfl (nb_f c1) rfl fun _ h => ?_)
  refine gs h (o_pickF rfl rfl c1) rfl fun _ _ _ h => ?_
  refine gs h (o_move rfl) rfl fun _ _ _ h => ?_
  iterate 3 (refine gk h rfl rfl (nb_f Bool.false_ne_true) rfl fun _ h => ?_)
  refine gs h (o_pickF rfl rfl Bool.false_ne_true) rfl fun _ _ _ h => ?_
  refine gs h (o_move rfl) rfl fun _ _ _ h => ?_
  iterate 3 (refine gk h rfl rfl (nb_f Bool.false_ne_true) rfl fun _ h => ?_)
  refine gs h (o_pickF rfl rfl Bool.false_ne_true) rfl fun _ _ _ h => ?_
  refine gs h (o_move rfl) rfl fun _ _ _ h => ?_
  iterate 3 (refine gk h rfl rfl (nb_f Bool.false_ne_true) rfl fun _ h => ?_)
  refine gs h (o_pickF rfl rfl Bool.false_ne_true) rfl fun _ _ _ h => ?_
  refine gs h (o_move rfl) rfl fun _ _ _ h => ?_
  iterate 3 (refine gk h rfl rfl (nb_f Bool.false_ne_true) rfl fun _ h => ?_)
  refine gs h (o_pickF rfl rfl Bool.false_ne_true) rfl fun _ _ _ h => ?_
  refine gs h (o_assign rfl) rfl fun _ _ _ h => ?_
  refine GoR.done ?_
  exact J1 false _ _ (som H).symm (h.wk (by rfl) [0] (by decide) (by rfl))
def ref17_right.g (k_ : Nat) (a1 : TIp) : Option (Bool) :=
  ((ref17_within.g k_ a1.Tos 255).bind fun r1 => (if r1 = true then (ref17_within.g k_ a1.Ttl 255).bind fun r2 => (if r2 = true then (ref17_within.g k_ a1.Proto 255).bind fun r3 => (if r3 = true then (ref17_within.g k_ a1.Id 65535).bind fun r4 => (if r4 = true then (ref17_within.g k_ a1.Flags 7).bind fun r5 => (if r5 = true then (ref17_within.g k_ a1.Off 8191).bind fun r6 => some (r6) else some (false)) else some (false)) else some (false)) else some (false)) else some (false))).bind (fun j1 => ((if j1 = true then (if decide ((a1.Options.length : Int) ≤ 40) = true then (if decide ((Int.tmod (a1.Options.length : Int) 4) = 0) = true then lt (decide ((a1.Data.length : Int) ≤ (IntKind.i64.wrap (65515 - (a1.Options.length : Int))))) fun y1 => some (y1) else some (false)) else some (false)) else some (false))).bind (fun j2 => some (j2)))
theorem ref17_right.le (k_ : Nat) (a1 : TIp) : Le (ref17_right.g k_ a1) (ref17_right.f a1) := by
 unfold ref17_right.g ref17_right.f
 repeat' (first | with_reducible refine le_loop fun _ => ?_ | with_reducible refine le_bind ?_ fun _ => ?_ | with_reducible refine le_ite ?_ ?_ | with_reducible refine le_lt fun _ => ?_ | with_reducible refine le_elim (fun _ => ?_) (fun _ => ?_) _ | with_reducible apply ref17_within.le | with_reducible exact le_refl _)
/-! drawbridge/drawbridgeref01.Put -/
noncomputable def ref01_Put.f (a1 : Int) (a2 : Int) (a3 : Bool) : Option ((List Int)) :=
  (loop (fun s1 => ((if decide (s1.2 < a2) = true then some (decide (s1.2 < 8)) else some (false))).bind (fun j1 => (if j1 = true then ((if 0 ≤ (IntKind.u64.wrap (IntKind.i64.wrap (8 * s1.2))) then (lt (IntKind.u8.wrap (ishr .u64 a1 (IntKind.u64.wrap (IntKind.i64.wrap (8 * s1.2))))) fun y1 => (if a3 = true then (app ([y1] : List Int) s1.1).bind fun x1 => some (x1) else (app s1.1 ([y1] : List Int)).bind fun x2 => some (x2))) else none).bind (fun j2 => some (j2))).bind (fun j3 => lt (IntKind.i64.wrap (s1.2 + 1)) fun y2 => some (.inl (j3, y2))) else some (.inr (s1.1))))) (([] : List Int), 0)).bind (fun j4 => some (j4))
set_option maxRecDepth 100000 in
set_option maxHeartbeats 4000000 in
theorem ref01_Put.spc (a1 : Int) (ha1 : InR .u64 a1) (a2 : Int) (ha2 : InR .i64 a2) (a3 : Bool) (r : (List Int)) (H : ref01_Put.f a1 a2 a3 = some r) : Spc Tryd.prog 25 [.int .u64 a1, .int .i64 a2, .bool a3] [] [] (fun (s : Value) => s) (fun s => [Val (Kd.osl (Kd.int .u8)) s r]) := by
 unfold ref01_Put.f at H
 refine Spc.go Tryd.func25 rfl (by kernel_rfl) rfl rfl all_nil fun F a w h => ?_
 refine Go.seq ?_
 refine Go.reg ?_
 refine gs h (o_assign rfl) rfl fun _ _ _ h => ?_
 refine GoR.done ?_
 refine Go.seq ?_
 refine Go.reg ?_
 refine gs h (o_assign rfl) rfl fun _ _ _ h => ?_
 refine GoR.done ?_
 refine Go.seq ?_
 refine Go.seq ?_
 refine Go.reg ?_
 refine gs h (o_assign rfl) rfl fun _ _ _ h => ?_
 refine GoR.done ?_
 refine Go.block ?_
 obtain ⟨o1, hl, G1⟩ := bindE H
 refine g_cut (fun G => ∀ j4 (v8 : Value) (a : Act) (w : World), o1 = j4 → St Tryd.f25.ntmps F [(7, v8)] [Val (Kd.osl (Kd.int .u8)) v8 j4] a w → G a w) 2 ?_ fun J4 => ?_
 ·intro j4 v8 a w ho_ h
  rw [ho_] at G1
  have H := G1
  refine Go.seq ?_
  refine Go.reg ?_
  refine gs h (o_move rfl) rfl fun _ _ _ h => ?_
  refine gs h (o_assign rfl) rfl fun _ _ _ h => ?_
  refine GoR.done ?_
  rw [← som H]
  exact g_ret (vs := [v8]) h Tryd.func25 ⟨rfl, trivial⟩ ⟨v8, rfl, (h.mem.pick [0] (by decide) rfl)⟩
 refine g_loop (fun s1 G => ∀ (v1 : Value) (a : Act) (w : World), InR .i64 s1.2 → St Tryd.f25.ntmps F [(0, .int .u64 a1), (1, .int .i64 a2), (2, .bool a3), (7, v1), (8, .int .i64 s1.2)] [Val (Kd.osl (Kd.int .u8)) v1 s1.1] a w → G a w) hl (fun s1 p1 H i1 => ?_) fun I_ => ?_
 ·intro v1 a w g1 h
  refine Go.seq ?_
  refine Go.seq ?_
  obtain ⟨o2, H, G2⟩ := bindE H
  refine g_cut (fun G => ∀ j1 (a : Act) (w : World), o2 = j1 → St Tryd.f25.ntmps F [(0, .int .u64 a1), (1, .int .i64 a2), (2, .bool a3), (7, v1), (8, .int .i64 s1.2), (16, .bool j1)] [Val (Kd.osl (Kd.int .u8)) v1 s1.1] a w → G a w) 1 ?_ fun J1 => ?_
  ·intro j1 a w ho_ h
   rw [ho_] at G2
   have H := G2
   by_cases c2 : j1 = true
   ·have H := ifT c2 H
    refine g_t h rfl c2 ?_
    refine Go.skip ?_
    refine Go.seq ?_
    obtain ⟨o3, H, G3⟩ := bindE H
    refine g_cut (fun G => ∀ j3 (v7 : Value) (a : Act) (w : World), o3 = j3 → St Tryd.f25.ntmps F [(0, .int .u64 a1), (1, .int .i64 a2), (2, .bool a3), (7, v7), (8, .int .i64 s1.2)] [Val (Kd.osl (Kd.int .u8)) v7 j3] a w → G a w) 1 ?_ fun J3 => ?_
    ·intro j3 v7 a w ho_ h
     rw [ho_] at G3
     have H := G3
     refine Go.reg ?_
     refine gs h (o_move rfl) rfl fun _ _ _ h => ?_
     refine gs h (o_bin rfl rfl rfl) rfl fun _ _ _ h => ?_
     obtain ⟨y2, ey2, H⟩ := ltE H
     refine gs h (o_assign' rfl (congrArg (fun z => Value.int .i64 z) ey2)) rfl fun _ _ _ h => ?_
     refine GoR.done ?_
     have e_ := som H; subst e_
     exact Go.inLoop (nx_in i1 v7 _ _ (ey2 ▸ (wrap_in _ _)) (h.wk (by rfl) [0] (by decide) (by rfl)))
    refine Go.block ?_
    obtain ⟨o4, H, G4⟩ := bindE H
    refine g_cut (fun G => ∀ j2 (v6 : Value) (a : Act) (w : World), o4 = j2 → St Tryd.f25.ntmps F [(0, .int .u64 a1), (1, .int .i64 a2), (2, .bool a3), (7, v6), (8, .int .i64 s1.2)] [Val (Kd.osl (Kd.int .u8)) v6 j2] a w → G a w) 2 ?_ fun J2 => ?_
    ·intro j2 v6 a w ho_ h
     rw [ho_] at G4
     have H := G4
     exact J3 j2 v6 _ _ (som H).symm (h.wk (by rfl) [0] (by decide) (by rfl))
    refine Go.seq ?_
    refine Go.reg ?_
    refine gs h (o_move rfl) rfl fun _ _ _ h => ?_
    refine gs h (o_move rfl) rfl fun _ _ _ h => ?_
    refine gs h (o_bin rfl rfl rfl) rfl fun _ _ _ h => ?_
    refine gs h (o_conv rfl t_q3 t_u52) rfl fun _ _ _ h => ?_
    obtain ⟨q1, H⟩ := ifS H
    refine gs h (o_shr rfl rfl q1) rfl fun _ _ _ h => ?_
    refine gs h (o_conv rfl t_q49 t_u5) rfl fun _ _ _ h => ?_
    obtain ⟨y1, ey1, H⟩ := ltE H
    refine gs h (o_assign' rfl (congrArg (fun z => Value.int .u8 z) ey1)) rfl fun _ _ _ h => ?_
    refine GoR.done ?_
    refine Go.seq ?_
    refine Go.reg ?_
    refine gs h (o_move rfl) rfl fun _ _ _ h => ?_
    refine GoR.done ?_
    by_cases c3 : a3 = true
    ·have H := ifT c3 H
     refine g_t h rfl c3 ?_
     refine Go.reg ?_
     refine gs h (o_move rfl) rfl fun _ _ _ h => ?_
     refine gs h (o_bs (K := (Kd.int .u8)) (vs := [.int .u8 y1]) (xs := ([y1] : List Int)) rfl rfl (pvs_cons (pv_int (ey1 ▸ (wrap_in _ _))) pvs_nil) t_a23 (by decide) (by decide)) rfl fun v2 _ _ h => ?_
     refine gs h (o_move rfl) rfl fun _ _ _ h => ?_
     obtain ⟨x1, ex1, H⟩ := bindE H
     refine gs h (o_app (K := (Kd.int .u8)) 0 rfl rfl rfl (rd_own 1 rfl) ex1 t_a23 t_n23) rfl fun v3 _ _ h => ?_
     refine gs h (o_assign rfl) rfl fun _ _ _ h => ?_
     refine GoR.done ?_
     refine Go.inBlock ?_
     exact J2 x1 v3 _ _ (som H).symm (h.wk (by rfl) [0] (by decide) (by rfl))
    ·have H := ifF c3 H
     refine g_f h rfl c3 ?_
     refine Go.reg ?_
     refine gs h (o_move rfl) rfl fun _ _ _ h => ?_
     refine gs h (o_move rfl) rfl fun _ _ _ h => ?_
     refine gs h (o_bs (K := (Kd.int .u8)) (vs := [.int .u8 y1]) (xs := ([y1] : List Int)) rfl rfl (pvs_cons (pv_int (ey1 ▸ (wrap_in _ _))) pvs_nil) t_a23 (by decide) (by decide)) rfl fun v4 _ _ h => ?_
     obtain ⟨x2, ex2, H⟩ := bindE H
     refine gs h (o_app (K := (Kd.int .u8)) 1 rfl rfl rfl (rd_own 0 rfl) ex2 t_a23 t_n23) rfl fun v5 _ _ h => ?_
     refine gs h (o_assign rfl) rfl fun _ _ _ h => ?_
     refine GoR.done ?_
     refine Go.inBlock ?_
     exact J2 x2 v5 _ _ (som H).symm (h.wk (by rfl) [1] (by decide) (by rfl))
   ·have H := ifF c2 H
    refine g_f h rfl c2 ?_
    refine Go.exit rfl ?_
    have e_ := som H; subst e_
    exact J4 s1.1 v1 _ _ (nx_out i1).symm (h.wk (by rfl) [0] (by decide) (by rfl))
  refine Go.reg ?_
  refine gs h (o_move rfl) rfl fun _ _ _ h => ?_
  refine gs h (o_move rfl) rfl fun _ _ _ h => ?_
  refine gs h (o_bin rfl rfl rfl) rfl fun _ _ _ h => ?_
  refine gs h (o_move rfl) rfl fun _ _ _ h => ?_
  by_cases c1 : decide (s1.2 < a2) = true
  ·have H := ifT c1 H
   refine gg h rfl rfl c1 (o_move rfl) rfl fun _ _ _ h => ?_
   refine gg h rfl rfl c1 (o_bin rfl rfl rfl) rfl fun _ _ _ h => ?_
   refine gs h (o_pickT rfl rfl c1) rfl fun _ _ _ h => ?_
   refine GoR.done ?_
   exact J1 (decide (s1.2 < 8)) _ _ (som H).symm (h.wk (by rfl) [0] (by decide) (by rfl))
  ·have H := ifF c1 H
   refine gk h rfl rfl (nb_f c1) rfl fun _ h => ?_
   refine gk h rfl rfl (nb_f c1) rfl fun _ h => ?_
   refine gs h (o_pickF rfl rfl c1) rfl fun _ _ _ h => ?_
   refine GoR.done ?_
   exact J1 false _ _ (som H).symm (h.wk (by rfl) [0] (by decide) (by rfl))
 ·replace h := h.mm fun m => m.nilo (Kd.int .u8)
  exact I_ (.slice none 0 0) _ _ (show InR .i64 0 by decide) (h.wk (by rfl) [0] (by decide) (by rfl))
def ref01_Put.g (k_ : Nat) (a1 : Int) (a2 : Int) (a3 : Bool) : Option ((List Int)) :=
  (loopK k_ (fun s1 => ((if decide (s1.2 < a2) = true then some (decide (s1.2 < 8)) else some (false))).bind (fun j1 => (if j1 = true then ((if 0 ≤ (IntKind.u64.wrap (IntKind.i64.wrap (8 * s1.2))) then (lt (IntKind.u8.wrap (ishr .u64 a1 (IntKind.u64.wrap (IntKind.i64.wrap (8 * s1.2))))) fun y1 => (if a3 = true then (app ([y1] : List Int) s1.1).bind fun x1 => some (x1) else (app s1.1 ([y1] : List Int)).bind fun x2 => some (x2))) else none).bind (fun j2 => some (j2))).bind (fun j3 => lt (IntKind.i64.wrap (s1.2 + 1)) fun y2 => some (.inl (j3, y2))) else some (.inr (s1.1))))) (([] : List Int), 0)).bind (fun j4 => some (j4))
theorem ref01_Put.le (k_ : Nat) (a1 : Int) (a2 : Int) (a3 : Bool) : Le (ref01_Put.g k_ a1 a2 a3) (ref01_Put.f a1 a2 a3) := by
 unfold ref01_Put.g ref01_Put.f
 repeat' (first | with_reducible refine le_loop fun _ => ?_ | with_reducible refine le_bind ?_ fun _ => ?_ | with_reducible refine le_ite ?_ ?_ | with_reducible refine le_lt fun _ => ?_ | with_reducible refine le_elim (fun _ => ?_) (fun _ => ?_) _ | with_reducible exact le_refl _)
/-! drawbridge/drawbridgeref17.two -/
noncomputable def ref17_two.f (a1 : Int) : Option ((List Int)) :=
  (ref01_Put.f (IntKind.u64.wrap a1) 2 true).bind fun r1 => some (r1)
set_option maxRecDepth 100000 in
set_option maxHeartbeats 4000000 in
theorem ref17_two.spc (a1 : Int) (ha1 : InR .i64 a1) (r : (List Int)) (H : ref17_two.f a1 = some r) : Spc Tryd.prog 24 [.int .i64 a1] [] [] (fun (s : Value) => s) (fun s => [Val (Kd.osl (Kd.int .u8)) s r]) := by
 unfold ref17_two.f at H
 refine Spc.go Tryd.func24 rfl (by kernel_rfl) rfl rfl all_nil fun F a w h => ?_
 refine Go.seq ?_
 refine Go.reg ?_
 refine gs h (o_assign rfl) rfl fun _ _ _ h => ?_
 refine GoR.done ?_
 refine Go.seq ?_
 refine Go.reg ?_
 refine gs h (o_move rfl) rfl fun _ _ _ h => ?_
 refine gs h (o_conv rfl t_q3 t_u49) rfl fun _ _ _ h => ?_
 obtain ⟨r1, er1, H⟩ := bindE H
 refine gs h (o_call (ref01_Put.spc (IntKind.u64.wrap a1) (wrap_in _ _) 2 (show InR .i64 2 by decide) true r1 er1) rfl [] [] (by decide) rfl rfl) rfl fun v1 _ _ h => ?_
 refine gs h (o_assign rfl) rfl fun _ _ _ h => ?_
 refine GoR.done ?_
 rw [← som H]
 exact g_ret (vs := [v1]) h Tryd.func24 ⟨rfl, trivial⟩ ⟨v1, rfl, (h.mem.pick [0] (by decide) rfl)⟩
def ref17_two.g (k_ : Nat) (a1 : Int) : Option ((List Int)) :=
  (ref01_Put.g k_ (IntKind.u64.wrap a1) 2 true).bind fun r1 => some (r1)
theorem ref17_two.le (k_ : Nat) (a1 : Int) : Le (ref17_two.g k_ a1) (ref17_two.f a1) := by
 unfold ref17_two.g ref17_two.f
 repeat' (first | with_reducible refine le_loop fun _ => ?_ | with_reducible refine le_bind ?_ fun _ => ?_ | with_reducible refine le_ite ?_ ?_ | with_reducible refine le_lt fun _ => ?_ | with_reducible refine le_elim (fun _ => ?_) (fun _ => ?_) _ | with_reducible apply ref01_Put.le | with_reducible exact le_refl _)
/-! drawbridge/drawbridgeref15.Sum -/
noncomputable def ref15_Sum.f (a1 : List Int) : Option (Int) :=
  (loop (fun s1 => (if decide (s1.2 < (a1.length : Int)) = true then (((idx a1 s1.2).bind fun x1 => lt (IntKind.i64.wrap (s1.1 + (IntKind.i64.wrap (256 * x1)))) fun y1 => ((if decide ((IntKind.i64.wrap (s1.2 + 1)) < (a1.length : Int)) = true then (idx a1 (IntKind.i64.wrap (s1.2 + 1))).bind fun x2 => lt (IntKind.i64.wrap (y1 + x2)) fun y2 => some (y2) else some (y1))).bind (fun j1 => (if decide (65535 < j1) = true then lt (IntKind.i64.wrap (j1 - 65535)) fun y3 => some (y3) else some (j1)))).bind (fun j2 => some (j2))).bind (fun j3 => lt (IntKind.i64.wrap (s1.2 + 2)) fun y4 => some (.inl (j3, y4))) else some (.inr (s1.1)))) (0, 0)).bind (fun j4 => lt (IntKind.i64.wrap (65535 - j4)) fun y5 => some (y5))
set_option maxRecDepth 100000 in
set_option maxHeartbeats 4000000 in
theorem ref15_Sum.spc (v1 : Value) (a1 : List Int) (r : Int) (H : ref15_Sum.f a1 = some r) : Spc Tryd.prog 33 [v1] [Val (Kd.sl (Kd.int .u8)) v1 a1] [] (fun (s : Unit) => .int .i64 r) (fun s => [Ent.pur (InR .i64 r)]) := by
 unfold ref15_Sum.f at H
 refine Spc.go Tryd.func33 rfl (by kernel_rfl) rfl rfl (all_cons (Val.per Per_sl) all_nil) fun F a w h => ?_
 refine Go.seq ?_
 refine Go.reg ?_
 refine gs h (o_assign rfl) rfl fun _ _ _ h => ?_
 refine GoR.done ?_
 refine Go.seq ?_
 refine Go.reg ?_
 refine gs h (o_assign rfl) rfl fun _ _ _ h => ?_
 refine GoR.done ?_
 refine Go.seq ?_
 refine Go.seq ?_
 refine Go.reg ?_
 refine gs h (o_assign rfl) rfl fun _ _ _ h => ?_
 refine GoR.done ?_
 refine Go.block ?_
 obtain ⟨o1, hl, G1⟩ := bindE H
 refine g_cut (fun G => ∀ j4 (a : Act) (w : World), o1 = j4 → InR .i64 j4 → St Tryd.f33.ntmps F [(3, .int .i64 j4)] [] a w → G a w) 2 ?_ fun J4 => ?_
 ·intro j4 a w ho_ g10 h
  rw [ho_] at G1
  have H := G1
  refine Go.seq ?_
  refine Go.reg ?_
  refine gs h (o_move rfl) rfl fun _ _ _ h => ?_
  refine gs h (o_bin rfl rfl rfl) rfl fun _ _ _ h => ?_
  obtain ⟨y5, ey5, H⟩ := ltE H
  refine gs h (o_assign' rfl (congrArg (fun z => Value.int .i64 z) ey5)) rfl fun _ _ _ h => ?_
  refine GoR.done ?_
  rw [← som H]
  exact g_ret (vs := [.int .i64 y5]) h Tryd.func33 ⟨rfl, trivial⟩ ⟨(), rfl, ((h.mem.pick [] (by decide) rfl).addpur (ey5 ▸ (wrap_in _ _)))⟩
 refine g_loop (fun s1 G => ∀  (a : Act) (w : World), InR .i64 s1.1 → InR .i64 s1.2 → St Tryd.f33.ntmps F [(0, v1), (3, .int .i64 s1.1), (4, .int .i64 s1.2)] [Val (Kd.sl (Kd.int .u8)) v1 a1] a w → G a w) hl (fun s1 p1 H i1 => ?_) fun I_ => ?_
 ·intro  a w g1 g2 h
  refine Go.seq ?_
  refine Go.seq ?_
  refine Go.reg ?_
  refine gs h (o_move rfl) rfl fun _ _ _ h => ?_
  refine gs h (o_move rfl) rfl fun _ _ _ h => ?_
  have g3 := (len_at 0 rfl h.mem)
  refine gs h (o_ln rfl (rd_at 0 rfl) t_v23) rfl fun _ _ _ h => ?_
  refine gs h (o_bin rfl rfl rfl) rfl fun _ _ _ h => ?_
  refine GoR.done ?_
  by_cases c1 : decide (s1.2 < (a1.length : Int)) = true
  ·have H := ifT c1 H
   refine g_t h rfl c1 ?_
   refine Go.skip ?_
   refine Go.seq ?_
   obtain ⟨o2, H, G2⟩ := bindE H
   refine g_cut (fun G => ∀ j3 (a : Act) (w : World), o2 = j3 → InR .i64 j3 → St Tryd.f33.ntmps F [(0, v1), (3, .int .i64 j3), (4, .int .i64 s1.2)] [Val (Kd.sl (Kd.int .u8)) v1 a1] a w → G a w) 1 ?_ fun J3 => ?_
   ·intro j3 a w ho_ g9 h
    rw [ho_] at G2
    have H := G2
    refine Go.reg ?_
    refine gs h (o_move rfl) rfl fun _ _ _ h => ?_
    refine gs h (o_bin rfl rfl rfl) rfl fun _ _ _ h => ?_
    obtain ⟨y4, ey4, H⟩ := ltE H
    refine gs h (o_assign' rfl (congrArg (fun z => Value.int .i64 z) ey4)) rfl fun _ _ _ h => ?_
    refine GoR.done ?_
    have e_ := som H; subst e_
    exact Go.inLoop (nx_in i1 _ _ g9 (ey4 ▸ (wrap_in _ _)) (h.wk (by rfl) [0] (by decide) (by rfl)))
   refine Go.block ?_
   obtain ⟨o3, H, G3⟩ := bindE H
   refine g_cut (fun G => ∀ j2 (a : Act) (w : World), o3 = j2 → InR .i64 j2 → St Tryd.f33.ntmps F [(0, v1), (3, .int .i64 j2), (4, .int .i64 s1.2)] [Val (Kd.sl (Kd.int .u8)) v1 a1] a w → G a w) 2 ?_ fun J2 => ?_
   ·intro j2 a w ho_ g8 h
    rw [ho_] at G3
    have H := G3
    exact J3 j2 _ _ (som H).symm g8 (h.wk (by rfl) [0] (by decide) (by rfl))
   refine Go.seq ?_
   refine Go.reg ?_
   iterate 3 (refine gs h (o_move rfl) rfl fun _ _ _ h => ?_)
   obtain ⟨x1, ex1, H⟩ := bindE H
   refine gs h (o_ix rfl rfl (rd_at 0 rfl) ex1 t_v23) rfl fun _ _ _ h => ?_
   have g4 := (rd_inr (rd_at 0 rfl) ex1 h.mem)
   refine gs h (o_lex rfl (rd_at 0 rfl) ex1 X_int t_y5 (by decide)) rfl fun _ _ _ h => ?_
   refine gs h (o_convw rfl t_q5 t_u3 g4 rfl) rfl fun _ _ _ h => ?_
   refine gs h (o_bin rfl rfl rfl) rfl fun _ _ _ h => ?_
   refine gs h (o_bin rfl rfl rfl) rfl fun _ _ _ h => ?_
   obtain ⟨y1, ey1, H⟩ := ltE H
   refine gs h (o_assign' rfl (congrArg (fun z => Value.int .i64 z) ey1)) rfl fun _ _ _ h => ?_
   refine GoR.done ?_
   refine Go.seq ?_
   obtain ⟨o4, H, G4⟩ := bindE H
   refine g_cut (fun G => ∀ j1 (a : Act) (w : World), o4 = j1 → InR .i64 j1 → St Tryd.f33.ntmps F [(0, v1), (3, .int .i64 j1), (4, .int .i64 s1.2)] [Val (Kd.sl (Kd.int .u8)) v1 a1] a w → G a w) 1 ?_ fun J1 => ?_
   ·intro j1 a w ho_ g7 h
    rw [ho_] at G4
    have H := G4
    refine Go.seq ?_
    refine Go.reg ?_
    refine gs h (o_move rfl) rfl fun _ _ _ h => ?_
    refine gs h (o_bin rfl rfl rfl) rfl fun _ _ _ h => ?_
    refine GoR.done ?_
    by_cases c3 : decide (65535 < j1) = true
    ·have H := ifT c3 H
     refine g_t h rfl c3 ?_
     refine Go.reg ?_
     refine gs h (o_move rfl) rfl fun _ _ _ h => ?_
     refine gs h (o_bin rfl rfl rfl) rfl fun _ _ _ h => ?_
     obtain ⟨y3, ey3, H⟩ := ltE H
     refine gs h (o_assign' rfl (congrArg (fun z => Value.int .i64 z) ey3)) rfl fun _ _ _ h => ?_
     refine GoR.done ?_
     refine Go.inBlock ?_
     exact J2 y3 _ _ (som H).symm (ey3 ▸ (wrap_in _ _)) (h.wk (by rfl) [0] (by decide) (by rfl))
    ·have H := ifF c3 H
     refine g_f h rfl c3 ?_
     refine Go.skip ?_
     refine Go.inBlock ?_
     exact J2 j1 _ _ (som H).symm g7 (h.wk (by rfl) [0] (by decide) (by rfl))
   refine Go.seq ?_
   refine Go.reg ?_
   refine gs h (o_move rfl) rfl fun _ _ _ h => ?_
   refine gs h (o_bin rfl rfl rfl) rfl fun _ _ _ h => ?_
   refine gs h (o_move rfl) rfl fun _ _ _ h => ?_
   have g5 := (len_at 0 rfl h.mem)
   refine gs h (o_ln rfl (rd_at 0 rfl) t_v23) rfl fun _ _ _ h => ?_
   refine gs h (o_bin rfl rfl rfl) rfl fun _ _ _ h => ?_
   refine GoR.done ?_
   by_cases c2 : decide ((IntKind.i64.wrap (s1.2 + 1)) < (a1.length : Int)) = true
   ·have H := ifT c2 H
    refine g_t h rfl c2 ?_
    refine Go.reg ?_
    iterate 3 (refine gs h (o_move rfl) rfl fun _ _ _ h => ?_)
    refine gs h (o_bin rfl rfl rfl) rfl fun _ _ _ h => ?_
    obtain ⟨x2, ex2, H⟩ := bindE H
    refine gs h (o_ix rfl rfl (rd_at 0 rfl) ex2 t_v23) rfl fun _ _ _ h => ?_
    have g6 := (rd_inr (rd_at 0 rfl) ex2 h.mem)
    refine gs h (o_lex rfl (rd_at 0 rfl) ex2 X_int t_y5 (by decide)) rfl fun _ _ _ h => ?_
    refine gs h (o_convw rfl t_q5 t_u3 g6 rfl) rfl fun _ _ _ h => ?_
    refine gs h (o_bin rfl rfl rfl) rfl fun _ _ _ h => ?_
    obtain ⟨y2, ey2, H⟩ := ltE H
    refine gs h (o_assign' rfl (congrArg (fun z => Value.int .i64 z) ey2)) rfl fun _ _ _ h => ?_
    refine GoR.done ?_
    exact J1 y2 _ _ (som H).symm (ey2 ▸ (wrap_in _ _)) (h.wk (by rfl) [0] (by decide) (by rfl))
   ·have H := ifF c2 H
    refine g_f h rfl c2 ?_
    refine Go.skip ?_
    exact J1 y1 _ _ (som H).symm (ey1 ▸ (wrap_in _ _)) (h.wk (by rfl) [0] (by decide) (by rfl))
  ·have H := ifF c1 H
   refine g_f h rfl c1 ?_
   refine Go.exit rfl ?_
   have e_ := som H; subst e_
   exact J4 s1.1 _ _ (nx_out i1).symm g1 (h.wk (by rfl) [] (by decide) (by rfl))
 ·exact I_ _ _ (show InR .i64 0 by decide) (show InR .i64 0 by decide) (h.wk (by rfl) [0] (by decide) (by rfl))
def ref15_Sum.g (k_ : Nat) (a1 : List Int) : Option (Int) :=
  (loopK k_ (fun s1 => (if decide (s1.2 < (a1.length : Int)) = true then (((idx a1 s1.2).bind fun x1 => lt (IntKind.i64.wrap (s1.1 + (IntKind.i64.wrap (256 * x1)))) fun y1 => ((if decide ((IntKind.i64.wrap (s1.2 + 1)) < (a1.length : Int)) = true then (idx a1 (IntKind.i64.wrap (s1.2 + 1))).bind fun x2 => lt (IntKind.i64.wrap (y1 + x2)) fun y2 => some (y2) else some (y1))).bind (fun j1 => (if decide (65535 < j1) = true then lt (IntKind.i64.wrap (j1 - 65535)) fun y3 => some (y3) else some (j1)))).bind (fun j2 => some (j2))).bind (fun j3 => lt (IntKind.i64.wrap (s1.2 + 2)) fun y4 => some (.inl (j3, y4))) else some (.inr (s1.1)))) (0, 0)).bind (fun j4 => lt (IntKind.i64.wrap (65535 - j4)) fun y5 => some (y5))
theorem ref15_Sum.le (k_ : Nat) (a1 : List Int) : Le (ref15_Sum.g k_ a1) (ref15_Sum.f a1) := by
 unfold ref15_Sum.g ref15_Sum.f
 repeat' (first | with_reducible refine le_loop fun _ => ?_ | with_reducible refine le_bind ?_ fun _ => ?_ | with_reducible refine le_ite ?_ ?_ | with_reducible refine le_lt fun _ => ?_ | with_reducible refine le_elim (fun _ => ?_) (fun _ => ?_) _ | with_reducible exact le_refl _)
/-! drawbridge/drawbridgeref15.Patch -/
noncomputable def ref15_Patch.f (a1 : List Int) (a2 : Int) : Option ((List Int)) :=
  (app ([] : List Int) a1).bind fun x1 => ((if decide (a2 < 0) = true then some (true) else (if (!decide ((Int.tmod a2 2) = 0)) = true then some (true) else some (decide ((IntKind.i64.wrap ((a1.length : Int) - 1)) ≤ a2))))).bind (fun j1 => (if j1 = true then some (x1) else (idx x1 a2).bind fun x2 => lt (x1.set a2.toNat 0) fun y1 => (idx y1 (IntKind.i64.wrap (a2 + 1))).bind fun x3 => lt (y1.set (IntKind.i64.wrap (a2 + 1)).toNat 0) fun y2 => (ref15_Sum.f y2).bind fun r1 => (idx y2 a2).bind fun x4 => lt (y2.set a2.toNat (IntKind.u8.wrap (IntKind.i64.wrap (Int.tdiv r1 256)))) fun y3 => (idx y3 (IntKind.i64.wrap (a2 + 1))).bind fun x5 => lt (y3.set (IntKind.i64.wrap (a2 + 1)).toNat (IntKind.u8.wrap (Int.tmod r1 256))) fun y4 => some (y4)))
set_option maxRecDepth 100000 in
set_option maxHeartbeats 4000000 in
theorem ref15_Patch.spc (v1 : Value) (a1 : List Int) (a2 : Int) (ha2 : InR .i64 a2) (r : (List Int)) (H : ref15_Patch.f a1 a2 = some r) : Spc Tryd.prog 26 [v1, .int .i64 a2] [Val (Kd.sl (Kd.int .u8)) v1 a1] [] (fun (s : Value) => s) (fun s => [Val (Kd.osl (Kd.int .u8)) s r]) := by
 unfold ref15_Patch.f at H
 refine Spc.go Tryd.func26 rfl (by kernel_rfl) rfl rfl (all_cons (Val.per Per_sl) all_nil) fun F a w h => ?_
 refine Go.seq ?_
 refine Go.reg ?_
 refine gs h (o_assign rfl) rfl fun _ _ _ h => ?_
 refine GoR.done ?_
 refine Go.seq ?_
 refine Go.reg ?_
 refine gs h (o_bs (K := (Kd.int .u8)) (vs := []) (xs := ([] : List Int)) rfl rfl pvs_nil t_a23 (by decide) (by decide)) rfl fun v2 _ _ h => ?_
 refine gs h (o_move rfl) rfl fun _ _ _ h => ?_
 obtain ⟨x1, ex1, H⟩ := bindE H
 refine gs h (o_app (K := (Kd.int .u8)) 0 rfl rfl rfl (rd_at 1 rfl) ex1 t_a23 t_n23) rfl fun v3 _ _ h => ?_
 refine gs h (o_assign rfl) rfl fun _ _ _ h => ?_
 refine GoR.done ?_
 refine Go.seq ?_
 refine Go.seq ?_
 obtain ⟨o1, H, G1⟩ := bindE H
 refine g_cut (fun G => ∀ j1 (a : Act) (w : World), o1 = j1 → St Tryd.f26.ntmps F [(1, .int .i64 a2), (5, v3), (23, .bool j1)] [Val (Kd.osl (Kd.int .u8)) v3 x1] a w → G a w) 1 ?_ fun J1 => ?_
 ·intro j1 a w ho_ h
  rw [ho_] at G1
  have H := G1
  by_cases c3 : j1 = true
  ·have H := ifT c3 H
   refine g_t h rfl c3 ?_
   refine Go.seq ?_
   refine Go.reg ?_
   refine gs h (o_move rfl) rfl fun _ _ _ h => ?_
   refine gs h (o_assign rfl) rfl fun _ _ _ h => ?_
   refine GoR.done ?_
   rw [← som H]
   exact g_ret (vs := [v3]) h Tryd.func26 ⟨rfl, trivial⟩ ⟨v3, rfl, (h.mem.pick [0] (by decide) rfl)⟩
  ·have H := ifF c3 H
   refine g_f h rfl c3 ?_
   refine Go.skip ?_
   refine Go.seq ?_
   refine Go.reg ?_
   iterate 4 (refine gs h (o_move rfl) rfl fun _ _ _ h => ?_)
   refine gs h (o_bin rfl rfl rfl) rfl fun _ _ _ h => ?_
   obtain ⟨x2, ex2, H⟩ := bindE H
   refine gs h (o_ix rfl rfl (rd_own 0 rfl) ex2 t_v23) rfl fun _ _ _ h => ?_
   obtain ⟨y1, ey1, H⟩ := ltE H
   refine gs0 h (o_ste 0 rfl rfl rfl (pv_int (show InR .u8 0 by decide)) ex2 t_w5 (by decide)) fun _ _ _ h => ?_
   rw [ey1] at h
   obtain ⟨x3, ex3, H⟩ := bindE H
   refine gs h (o_ix rfl rfl (rd_own 0 rfl) ex3 t_v23) rfl fun _ _ _ h => ?_
   obtain ⟨y2, ey2, H⟩ := ltE H
   refine gs0 h (o_ste 0 rfl rfl rfl (pv_int (show InR .u8 0 by decide)) ex3 t_w5 (by decide)) fun _ _ _ h => ?_
   rw [ey2] at h
   refine GoR.done ?_
   refine Go.seq ?_
   refine Go.reg ?_
   refine gs h (o_move rfl) rfl fun _ _ _ h => ?_
   obtain ⟨r1, er1, H⟩ := bindE H
   refine gs h (OpS.lend (Lp := [Val (Kd.sl (Kd.int .u8)) v3 y2]) (lent_cons (lent_own 0 rfl) lent_nil) (o_call (ref15_Sum.spc v3 y2 r1 er1) rfl [0] [] (by decide) rfl rfl) (fun _ => (clo_cons cl_pur clo_nil))) rfl fun _ _ _ h => ?_
   have g2 := h.mem.pur 0 rfl
   refine gs h (o_assign rfl) rfl fun _ _ _ h => ?_
   refine GoR.done ?_
   refine Go.seq ?_
   refine Go.reg ?_
   iterate 4 (refine gs h (o_move rfl) rfl fun _ _ _ h => ?_)
   refine gs h (o_bin rfl rfl rfl) rfl fun _ _ _ h => ?_
   refine gs h (o_move rfl) rfl fun _ _ _ h => ?_
   refine gs h (o_quo rfl rfl (show (256 : Int) ≠ 0 by decide)) rfl fun _ _ _ h => ?_
   refine gs h (o_conv rfl t_q3 t_u5) rfl fun _ _ _ h => ?_
   refine gs h (o_move rfl) rfl fun _ _ _ h => ?_
   refine gs h (o_rem rfl rfl (show (256 : Int) ≠ 0 by decide)) rfl fun _ _ _ h => ?_
   refine gs h (o_conv rfl t_q3 t_u5) rfl fun _ _ _ h => ?_
   obtain ⟨x4, ex4, H⟩ := bindE H
   refine gs h (o_ix rfl rfl (rd_own 1 rfl) ex4 t_v23) rfl fun _ _ _ h => ?_
   obtain ⟨y3, ey3, H⟩ := ltE H
   refine gs0 h (o_ste 1 rfl rfl rfl (pv_int (wrap_in _ _)) ex4 t_w5 (by decide)) fun _ _ _ h => ?_
   rw [ey3] at h
   obtain ⟨x5, ex5, H⟩ := bindE H
   refine gs h (o_ix rfl rfl (rd_own 1 rfl) ex5 t_v23) rfl fun _ _ _ h => ?_
   obtain ⟨y4, ey4, H⟩ := ltE H
   refine gs0 h (o_ste 1 rfl rfl rfl (pv_int (wrap_in _ _)) ex5 t_w5 (by decide)) fun _ _ _ h => ?_
   rw [ey4] at h
   refine GoR.done ?_
   refine Go.seq ?_
   refine Go.reg ?_
   refine gs h (o_move rfl) rfl fun _ _ _ h => ?_
   refine gs h (o_assign rfl) rfl fun _ _ _ h => ?_
   refine GoR.done ?_
   rw [← som H]
   exact g_ret (vs := [v3]) h Tryd.func26 ⟨rfl, trivial⟩ ⟨v3, rfl, (h.mem.pick [1] (by decide) rfl)⟩
 refine Go.reg ?_
 refine gs h (o_move rfl) rfl fun _ _ _ h => ?_
 refine gs h (o_bin rfl rfl rfl) rfl fun _ _ _ h => ?_
 refine gs h (o_move rfl) rfl fun _ _ _ h => ?_
 by_cases c1 : decide (a2 < 0) = true
 ·have H := ifT c1 H
  iterate 3 (refine gk h rfl rfl (nb_t c1) rfl fun _ h => ?_)
  refine gs h (o_pickT rfl rfl c1) rfl fun _ _ _ h => ?_
  refine gs h (o_move rfl) rfl fun _ _ _ h => ?_
  iterate 5 (refine gk h rfl rfl (nb_t rfl) rfl fun _ h => ?_)
  refine gs h (o_pickT rfl rfl rfl) rfl fun _ _ _ h => ?_
  refine GoR.done ?_
  exact J1 true _ _ (som H).symm (h.wk (by rfl) [0] (by decide) (by rfl))
 ·have H := ifF c1 H
  refine gg h rfl rfl (nbF c1) (o_move rfl) rfl fun _ _ _ h => ?_
  refine gg h rfl rfl (nbF c1) (o_rem rfl rfl (show (2 : Int) ≠ 0 by decide)) rfl fun _ _ _ h => ?_
  refine gg h rfl rfl (nbF c1) (o_bin rfl rfl rfl) rfl fun _ _ _ h => ?_
  refine gs h (o_pickF rfl rfl c1) rfl fun _ _ _ h => ?_
  refine gs h (o_move rfl) rfl fun _ _ _ h => ?_
  by_cases c2 : (!decide ((Int.tmod a2 2) = 0)) = true
  ·have H := ifT c2 H
   iterate 5 (refine gk h rfl rfl (nb_t c2) rfl fun _ h => ?_)
   refine gs h (o_pickT rfl rfl c2) rfl fun _ _ _ h => ?_
   refine GoR.done ?_
   exact J1 true _ _ (som H).symm (h.wk (by rfl) [0] (by decide) (by rfl))
  ·have H := ifF c2 H
   refine gg h rfl rfl (nbF c2) (o_move rfl) rfl fun _ _ _ h => ?_
   refine gg h rfl rfl (nbF c2) (o_move rfl) rfl fun _ _ _ h => ?_
   have g1 := (len_at 1 rfl h.mem)
   refine gg h rfl rfl (nbF c2) (o_ln rfl (rd_at 1 rfl) t_v23) rfl fun _ _ _ h => ?_
   refine gg h rfl rfl (nbF c2) (o_bin rfl rfl rfl) rfl fun _ _ _ h => ?_
   refine gg h rfl rfl (nbF c2) (o_bin rfl rfl rfl) rfl fun _ _ _ h => ?_
   refine gs h (o_pickF rfl rfl c2) rfl fun _ _ _ h => ?_
   refine GoR.done ?_
   exact J1 (decide ((IntKind.i64.wrap ((a1.length : Int) - 1)) ≤ a2)) _ _ (som H).symm (h.wk (by rfl) [0] (by decide) (by rfl))
def ref15_Patch.g (k_ : Nat) (a1 : List Int) (a2 : Int) : Option ((List Int)) :=
  (app ([] : List Int) a1).bind fun x1 => ((if decide (a2 < 0) = true then some (true) else (if (!decide ((Int.tmod a2 2) = 0)) = true then some (true) else some (decide ((IntKind.i64.wrap ((a1.length : Int) - 1)) ≤ a2))))).bind (fun j1 => (if j1 = true then some (x1) else (idx x1 a2).bind fun x2 => lt (x1.set a2.toNat 0) fun y1 => (idx y1 (IntKind.i64.wrap (a2 + 1))).bind fun x3 => lt (y1.set (IntKind.i64.wrap (a2 + 1)).toNat 0) fun y2 => (ref15_Sum.g k_ y2).bind fun r1 => (idx y2 a2).bind fun x4 => lt (y2.set a2.toNat (IntKind.u8.wrap (IntKind.i64.wrap (Int.tdiv r1 256)))) fun y3 => (idx y3 (IntKind.i64.wrap (a2 + 1))).bind fun x5 => lt (y3.set (IntKind.i64.wrap (a2 + 1)).toNat (IntKind.u8.wrap (Int.tmod r1 256))) fun y4 => some (y4)))
theorem ref15_Patch.le (k_ : Nat) (a1 : List Int) (a2 : Int) : Le (ref15_Patch.g k_ a1 a2) (ref15_Patch.f a1 a2) := by
 unfold ref15_Patch.g ref15_Patch.f
 repeat' (first | with_reducible refine le_loop fun _ => ?_ | with_reducible refine le_bind ?_ fun _ => ?_ | with_reducible refine le_ite ?_ ?_ | with_reducible refine le_lt fun _ => ?_ | with_reducible refine le_elim (fun _ => ?_) (fun _ => ?_) _ | with_reducible apply ref15_Sum.le | with_reducible exact le_refl _)
end Go.Proofs.YtaiadolmjmacfaaDoor.S
