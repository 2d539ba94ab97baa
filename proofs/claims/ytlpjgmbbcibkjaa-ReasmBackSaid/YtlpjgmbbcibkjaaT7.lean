/- Contracts, printed by a program of this session. -/
import Derived.Test.YtlpjgmbbcibkjaaT6
namespace Go.Proofs.Ytlpjgmbbcibkjaa.S
open Go Go.SL Go.RowKit
set_option linter.unusedVariables false
set_option linter.unusedSimpArgs false
/-! drawbridge/drawbridgeref17.right -/
noncomputable def ref17_right.f (a1 : TIp) : Option (Bool) :=
  ((ref17_within.f a1.Tos 255).bind fun r1 => (if r1 = true then (ref17_within.f a1.Ttl 255).bind fun r2 => (if r2 = true then (ref17_within.f a1.Proto 255).bind fun r3 => (if r3 = true then (ref17_within.f a1.Id 65535).bind fun r4 => (if r4 = true then (ref17_within.f a1.Flags 7).bind fun r5 => (if r5 = true then (ref17_within.f a1.Off 8191).bind fun r6 => some (r6) else some (false)) else some (false)) else some (false)) else some (false)) else some (false))).bind (fun j1 => ((if j1 = true then (if decide ((a1.Options.length : Int) ≤ 40) = true then (if decide ((Int.tmod (a1.Options.length : Int) 4) = 0) = true then lt (decide ((a1.Data.length : Int) ≤ (IntKind.i64.wrap (65515 - (a1.Options.length : Int))))) fun y1 => some (y1) else some (false)) else some (false)) else some (false))).bind (fun j2 => some (j2)))
set_option maxRecDepth 100000 in
set_option maxHeartbeats 4000000 in
theorem ref17_right.spc (v1 : Value) (a1 : TIp) (r : Bool) (H : ref17_right.f a1 = some r) : Spc Try.prog 24 [v1] [Val KIp v1 a1] [] (fun (s : Unit) => .bool r) (fun s => []) := by
 unfold ref17_right.f at H
 refine Spc.go Try.func24 rfl (by kernel_rfl) rfl rfl (all_cons (Val.per PIp) all_nil) fun F a w h => ?_
 refine Go.seq ?_
 refine Go.reg ?_
 refine gs h (o_box (K := KIp) rfl (pv_at PIp 0 rfl)) rfl fun b1 _ _ h => ?_
 refine gs h (o_assign rfl) rfl fun _ _ _ h => ?_
 refine GoR.done ?_
 refine Go.seq ?_
 obtain ⟨o1, H, G1⟩ := bindE H
 refine g_cut (fun G => ∀ j1 (a : Act) (w : World), o1 = j1 → St Try.f24.ntmps F [(1, .pointer (some ⟨b1, 0, none⟩)), (3, .bool j1)] [Fld KIp b1 0 a1] a w → G a w) 1 ?_ fun J1 => ?_
 ·intro j1 a w ho_ h
  rw [ho_] at G1
  have H := G1
  refine Go.seq ?_
  obtain ⟨o2, H, G2⟩ := bindE H
  refine g_cut (fun G => ∀ j2 (a : Act) (w : World), o2 = j2 → St Try.f24.ntmps F [(2, .bool j2)] [Fld KIp b1 0 a1] a w → G a w) 1 ?_ fun J2 => ?_
  ·intro j2 a w ho_ h
   rw [ho_] at G2
   have H := G2
   rw [← som H]
   exact g_ret (vs := [.bool j2]) h Try.func24 ⟨rfl, trivial⟩ ⟨(), rfl, (h.mem.pick [] (by decide) rfl)⟩
  refine Go.reg ?_
  refine gs h (o_move rfl) rfl fun _ _ _ h => ?_
  refine gs h (o_move rfl) rfl fun _ _ _ h => ?_
  by_cases c6 : j1 = true
  ·have H := ifT c6 H
   refine gg h rfl rfl c6 (o_fa rfl t_f27_8 rfl rfl) rfl fun _ _ _ h => ?_
   refine gg h rfl rfl c6 (o_lfv 0 rfl rfl sIp_Options rfl Per_sl t_y25) rfl fun v2 _ _ h => ?_
   have g7 := (len_at 0 rfl h.mem)
   refine gg h rfl rfl c6 (o_ln rfl (rd_at 0 rfl) t_v25) rfl fun _ _ _ h => ?_
   refine gg h rfl rfl c6 (o_bin rfl rfl rfl) rfl fun _ _ _ h => ?_
   refine gs h (o_pickT rfl rfl c6) rfl fun _ _ _ h => ?_
   refine gs h (o_move rfl) rfl fun _ _ _ h => ?_
   by_cases c7 : decide ((a1.Options.length : Int) ≤ 40) = true
   ·have H := ifT c7 H
    refine gg h rfl rfl c7 (o_fa rfl t_f27_8 rfl rfl) rfl fun _ _ _ h => ?_
    refine gg h rfl rfl c7 (o_lfv 1 rfl rfl sIp_Options rfl Per_sl t_y25) rfl fun v3 _ _ h => ?_
    have g8 := (len_at 0 rfl h.mem)
    refine gg h rfl rfl c7 (o_ln rfl (rd_at 0 rfl) t_v25) rfl fun _ _ _ h => ?_
    refine gg h rfl rfl c7 (o_rem rfl rfl (show (4 : Int) ≠ 0 by decide)) rfl fun _ _ _ h => ?_
    refine gg h rfl rfl c7 (o_bin rfl rfl rfl) rfl fun _ _ _ h => ?_
    refine gs h (o_pickT rfl rfl c7) rfl fun _ _ _ h => ?_
    refine gs h (o_move rfl) rfl fun _ _ _ h => ?_
    by_cases c8 : decide ((Int.tmod (a1.Options.length : Int) 4) = 0) = true
    ·have H := ifT c8 H
     refine gg h rfl rfl c8 (o_fa rfl t_f27_9 rfl rfl) rfl fun _ _ _ h => ?_
     refine gg h rfl rfl c8 (o_lfv 2 rfl rfl sIp_Data rfl Per_sl t_y25) rfl fun v4 _ _ h => ?_
     have g9 := (len_at 0 rfl h.mem)
     refine gg h rfl rfl c8 (o_ln rfl (rd_at 0 rfl) t_v25) rfl fun _ _ _ h => ?_
     refine gg h rfl rfl c8 (o_fa rfl t_f27_8 rfl rfl) rfl fun _ _ _ h => ?_
     refine gg h rfl rfl c8 (o_lfv 3 rfl rfl sIp_Options rfl Per_sl t_y25) rfl fun v5 _ _ h => ?_
     have g10 := (len_at 0 rfl h.mem)
     refine gg h rfl rfl c8 (o_ln rfl (rd_at 0 rfl) t_v25) rfl fun _ _ _ h => ?_
     refine gg h rfl rfl c8 (o_bin rfl rfl rfl) rfl fun _ _ _ h => ?_
     refine gg h rfl rfl c8 (o_bin rfl rfl rfl) rfl fun _ _ _ h => ?_
     refine gs h (o_pickT rfl rfl c8) rfl fun _ _ _ h => ?_
     obtain ⟨y1, ey1, H⟩ := ltE H
     refine gs h (o_assign' rfl (congrArg Value.bool ey1)) rfl fun _ _ _ h => ?_
     refine GoR.done ?_
     exact J2 y1 _ _ (som H).symm (h.wk (by rfl) [4] (by decide) (by rfl))
    ·have H := ifF c8 H
     refine gk h rfl rfl (nb_f c8) rfl fun _ h => ?_
     refine gk h rfl rfl (nb_f c8) rfl fun _ h => ?_
     refine gk h rfl rfl (nb_f c8) rfl fun _ h => ?_
     refine gk h rfl rfl (nb_f c8) rfl fun _ h => ?_
     refine gk h rfl rfl (nb_f c8) rfl fun _ h => ?_
     refine gk h rfl rfl (nb_f c8) rfl fun _ h => ?_
     refine gk h rfl rfl (nb_f c8) rfl fun _ h => ?_
     refine gk h rfl rfl (nb_f c8) rfl fun _ h => ?_
     refine gs h (o_pickF rfl rfl c8) rfl fun _ _ _ h => ?_
     refine gs h (o_assign rfl) rfl fun _ _ _ h => ?_
     refine GoR.done ?_
     exact J2 false _ _ (som H).symm (h.wk (by rfl) [2] (by decide) (by rfl))
   ·have H := ifF c7 H
    refine gk h rfl rfl (nb_f c7) rfl fun _ h => ?_
    refine gk h rfl rfl (nb_f c7) rfl fun _ h => ?_
    refine gk h rfl rfl (nb_f c7) rfl fun _ h => ?_
    refine gk h rfl rfl (nb_f c7) rfl fun _ h => ?_
    refine gk h rfl rfl (nb_f c7) rfl fun _ h => ?_
    refine gs h (o_pickF rfl rfl c7) rfl fun _ _ _ h => ?_
    refine gs h (o_move rfl) rfl fun _ _ _ h => ?_
    refine gk h rfl rfl (nb_f Bool.false_ne_true) rfl fun _ h => ?_
    refine gk h rfl rfl (nb_f Bool.false_ne_true) rfl fun _ h => ?_
    refine gk h rfl rfl (nb_f Bool.false_ne_true) rfl fun _ h => ?_
    refine gk h rfl rfl (nb_f Bool.false_ne_true) rfl fun _ h => ?_
    refine gk h rfl rfl (nb_f Bool.false_ne_true) rfl fun _ h => ?_
    refine gk h rfl rfl (nb_f Bool.false_ne_true) rfl fun _ h => ?_
    refine gk h rfl rfl (nb_f Bool.false_ne_true) rfl fun _ h => ?_
    refine gk h rfl rfl (nb_f Bool.false_ne_true) rfl fun _ h => ?_
    refine gs h (o_pickF rfl rfl Bool.false_ne_true) rfl fun _ _ _ h => ?_
    refine gs h (o_assign rfl) rfl fun _ _ _ h => ?_
    refine GoR.done ?_
    exact J2 false _ _ (som H).symm (h.wk (by rfl) [1] (by decide) (by rfl))
  ·have H := ifF c6 H
   refine gk h rfl rfl (nb_f c6) rfl fun _ h => ?_
   refine gk h rfl rfl (nb_f c6) rfl fun _ h => ?_
   refine gk h rfl rfl (nb_f c6) rfl fun _ h => ?_
   refine gk h rfl rfl (nb_f c6) rfl fun _ h => ?_
   refine gs h (o_pickF rfl rfl c6) rfl fun _ _ _ h => ?_
   refine gs h (o_move rfl) rfl fun _ _ _ h => ?_
   refine gk h rfl rfl (nb_f Bool.false_ne_true) rfl fun _ h => ?_
   refine gk h rfl rfl (nb_f Bool.false_ne_true) rfl fun _ h => ?_
   refine gk h rfl rfl (nb_f Bool.false_ne_true) rfl fun _ h => ?_
   refine gk h rfl rfl (nb_f Bool.false_ne_true) rfl fun _ h => ?_
   refine gk h rfl rfl (nb_f Bool.false_ne_true) rfl fun _ h => ?_
   refine gs h (o_pickF rfl rfl Bool.false_ne_true) rfl fun _ _ _ h => ?_
   refine gs h (o_move rfl) rfl fun _ _ _ h => ?_
   refine gk h rfl rfl (nb_f Bool.false_ne_true) rfl fun _ h => ?_
   refine gk h rfl rfl (nb_f Bool.false_ne_true) rfl fun _ h => ?_
   refine gk h rfl rfl (nb_f Bool.false_ne_true) rfl fun _ h => ?_
   refine gk h rfl rfl (nb_f Bool.false_ne_true) rfl fun _ h => ?_
   refine gk h rfl rfl (nb_f Bool.false_ne_true) rfl fun _ h => ?_
   refine gk h rfl rfl (nb_f Bool.false_ne_true) rfl fun _ h => ?_
   refine gk h rfl rfl (nb_f Bool.false_ne_true) rfl fun _ h => ?_
   refine gk h rfl rfl (nb_f Bool.false_ne_true) rfl fun _ h => ?_
   refine gs h (o_pickF rfl rfl Bool.false_ne_true) rfl fun _ _ _ h => ?_
   refine gs h (o_assign rfl) rfl fun _ _ _ h => ?_
   refine GoR.done ?_
   exact J2 false _ _ (som H).symm (h.wk (by rfl) [0] (by decide) (by rfl))
 refine Go.reg ?_
 refine gs h (o_fa rfl t_f27_0 rfl rfl) rfl fun _ _ _ h => ?_
 have g1 := (in2 (fd_sub sIp_Tos 0 rfl h.mem))
 refine gs h (o_lfx 0 rfl rfl sIp_Tos rfl X_int t_y3) rfl fun _ _ _ h => ?_
 obtain ⟨r1, er1, H⟩ := bindE H
 refine gs h (o_call (ref17_within.spc a1.Tos g1 255 (show InR .i64 255 by decide) r1 er1) rfl [] [] (by decide) rfl rfl) rfl fun _ _ _ h => ?_
 refine gs h (o_move rfl) rfl fun _ _ _ h => ?_
 by_cases c1 : r1 = true
 ·have H := ifT c1 H
  refine gg h rfl rfl c1 (o_fa rfl t_f27_4 rfl rfl) rfl fun _ _ _ h => ?_
  have g2 := (in2 (fd_sub sIp_Ttl 0 rfl h.mem))
  refine gg h rfl rfl c1 (o_lfx 0 rfl rfl sIp_Ttl rfl X_int t_y3) rfl fun _ _ _ h => ?_
  obtain ⟨r2, er2, H⟩ := bindE H
  refine gg h rfl rfl c1 (o_call (ref17_within.spc a1.Ttl g2 255 (show InR .i64 255 by decide) r2 er2) rfl [] [] (by decide) rfl rfl) rfl fun _ _ _ h => ?_
  refine gs h (o_pickT rfl rfl c1) rfl fun _ _ _ h => ?_
  refine gs h (o_move rfl) rfl fun _ _ _ h => ?_
  by_cases c2 : r2 = true
  ·have H := ifT c2 H
   refine gg h rfl rfl c2 (o_fa rfl t_f27_5 rfl rfl) rfl fun _ _ _ h => ?_
   have g3 := (in2 (fd_sub sIp_Proto 0 rfl h.mem))
   refine gg h rfl rfl c2 (o_lfx 0 rfl rfl sIp_Proto rfl X_int t_y3) rfl fun _ _ _ h => ?_
   obtain ⟨r3, er3, H⟩ := bindE H
   refine gg h rfl rfl c2 (o_call (ref17_within.spc a1.Proto g3 255 (show InR .i64 255 by decide) r3 er3) rfl [] [] (by decide) rfl rfl) rfl fun _ _ _ h => ?_
   refine gs h (o_pickT rfl rfl c2) rfl fun _ _ _ h => ?_
   refine gs h (o_move rfl) rfl fun _ _ _ h => ?_
   by_cases c3 : r3 = true
   ·have H := ifT c3 H
    refine gg h rfl rfl c3 (o_fa rfl t_f27_1 rfl rfl) rfl fun _ _ _ h => ?_
    have g4 := (in2 (fd_sub sIp_Id 0 rfl h.mem))
    refine gg h rfl rfl c3 (o_lfx 0 rfl rfl sIp_Id rfl X_int t_y3) rfl fun _ _ _ h => ?_
    obtain ⟨r4, er4, H⟩ := bindE H
    refine gg h rfl rfl c3 (o_call (ref17_within.spc a1.Id g4 65535 (show InR .i64 65535 by decide) r4 er4) rfl [] [] (by decide) rfl rfl) rfl fun _ _ _ h => ?_
    refine gs h (o_pickT rfl rfl c3) rfl fun _ _ _ h => ?_
    refine gs h (o_move rfl) rfl fun _ _ _ h => ?_
    by_cases c4 : r4 = true
    ·have H := ifT c4 H
     refine gg h rfl rfl c4 (o_fa rfl t_f27_2 rfl rfl) rfl fun _ _ _ h => ?_
     have g5 := (in2 (fd_sub sIp_Flags 0 rfl h.mem))
     refine gg h rfl rfl c4 (o_lfx 0 rfl rfl sIp_Flags rfl X_int t_y3) rfl fun _ _ _ h => ?_
     obtain ⟨r5, er5, H⟩ := bindE H
     refine gg h rfl rfl c4 (o_call (ref17_within.spc a1.Flags g5 7 (show InR .i64 7 by decide) r5 er5) rfl [] [] (by decide) rfl rfl) rfl fun _ _ _ h => ?_
     refine gs h (o_pickT rfl rfl c4) rfl fun _ _ _ h => ?_
     refine gs h (o_move rfl) rfl fun _ _ _ h => ?_
     by_cases c5 : r5 = true
     ·have H := ifT c5 H
      refine gg h rfl rfl c5 (o_fa rfl t_f27_3 rfl rfl) rfl fun _ _ _ h => ?_
      have g6 := (in2 (fd_sub sIp_Off 0 rfl h.mem))
      refine gg h rfl rfl c5 (o_lfx 0 rfl rfl sIp_Off rfl X_int t_y3) rfl fun _ _ _ h => ?_
      obtain ⟨r6, er6, H⟩ := bindE H
      refine gg h rfl rfl c5 (o_call (ref17_within.spc a1.Off g6 8191 (show InR .i64 8191 by decide) r6 er6) rfl [] [] (by decide) rfl rfl) rfl fun _ _ _ h => ?_
      refine gs h (o_pickT rfl rfl c5) rfl fun _ _ _ h => ?_
      refine gs h (o_assign rfl) rfl fun _ _ _ h => ?_
      refine GoR.done ?_
      exact J1 r6 _ _ (som H).symm (h.wk (by rfl) [0] (by decide) (by rfl))
     ·have H := ifF c5 H
      refine gk h rfl rfl (nb_f c5) rfl fun _ h => ?_
      refine gk h rfl rfl (nb_f c5) rfl fun _ h => ?_
      refine gk h rfl rfl (nb_f c5) rfl fun _ h => ?_
      refine gs h (o_pickF rfl rfl c5) rfl fun _ _ _ h => ?_
      refine gs h (o_assign rfl) rfl fun _ _ _ h => ?_
      refine GoR.done ?_
      exact J1 false _ _ (som H).symm (h.wk (by rfl) [0] (by decide) (by rfl))
    ·have H := ifF c4 H
     refine gk h rfl rfl (nb_f c4) rfl fun _ h => ?_
     refine gk h rfl rfl (nb_f c4) rfl fun _ h => ?_
     refine gk h rfl rfl (nb_f c4) rfl fun _ h => ?_
     refine gs h (o_pickF rfl rfl c4) rfl fun _ _ _ h => ?_
     refine gs h (o_move rfl) rfl fun _ _ _ h => ?_
     refine gk h rfl rfl (nb_f Bool.false_ne_true) rfl fun _ h => ?_
     refine gk h rfl rfl (nb_f Bool.false_ne_true) rfl fun _ h => ?_
     refine gk h rfl rfl (nb_f Bool.false_ne_true) rfl fun _ h => ?_
     refine gs h (o_pickF rfl rfl Bool.false_ne_true) rfl fun _ _ _ h => ?_
     refine gs h (o_assign rfl) rfl fun _ _ _ h => ?_
     refine GoR.done ?_
     exact J1 false _ _ (som H).symm (h.wk (by rfl) [0] (by decide) (by rfl))
   ·have H := ifF c3 H
    refine gk h rfl rfl (nb_f c3) rfl fun _ h => ?_
    refine gk h rfl rfl (nb_f c3) rfl fun _ h => ?_
    refine gk h rfl rfl (nb_f c3) rfl fun _ h => ?_
    refine gs h (o_pickF rfl rfl c3) rfl fun _ _ _ h => ?_
    refine gs h (o_move rfl) rfl fun _ _ _ h => ?_
    refine gk h rfl rfl (nb_f Bool.false_ne_true) rfl fun _ h => ?_
    refine gk h rfl rfl (nb_f Bool.false_ne_true) rfl fun _ h => ?_
    refine gk h rfl rfl (nb_f Bool.false_ne_true) rfl fun _ h => ?_
    refine gs h (o_pickF rfl rfl Bool.false_ne_true) rfl fun _ _ _ h => ?_
    refine gs h (o_move rfl) rfl fun _ _ _ h => ?_
    refine gk h rfl rfl (nb_f Bool.false_ne_true) rfl fun _ h => ?_
    refine gk h rfl rfl (nb_f Bool.false_ne_true) rfl fun _ h => ?_
    refine gk h rfl rfl (nb_f Bool.false_ne_true) rfl fun _ h => ?_
    refine gs h (o_pickF rfl rfl Bool.false_ne_true) rfl fun _ _ _ h => ?_
    refine gs h (o_assign rfl) rfl fun _ _ _ h => ?_
    refine GoR.done ?_
    exact J1 false _ _ (som H).symm (h.wk (by rfl) [0] (by decide) (by rfl))
  ·have H := ifF c2 H
   refine gk h rfl rfl (nb_f c2) rfl fun _ h => ?_
   refine gk h rfl rfl (nb_f c2) rfl fun _ h => ?_
   refine gk h rfl rfl (nb_f c2) rfl fun _ h => ?_
   refine gs h (o_pickF rfl rfl c2) rfl fun _ _ _ h => ?_
   refine gs h (o_move rfl) rfl fun _ _ _ h => ?_
   refine gk h rfl rfl (nb_f Bool.false_ne_true) rfl fun _ h => ?_
   refine gk h rfl rfl (nb_f Bool.false_ne_true) rfl fun _ h => ?_
   refine gk h rfl rfl (nb_f Bool.false_ne_true) rfl fun _ h => ?_
   refine gs h (o_pickF rfl rfl Bool.false_ne_true) rfl fun _ _ _ h => ?_
   refine gs h (o_move rfl) rfl fun _ _ _ h => ?_
   refine gk h rfl rfl (nb_f Bool.false_ne_true) rfl fun _ h => ?_
   refine gk h rfl rfl (nb_f Bool.false_ne_true) rfl fun _ h => ?_
   refine gk h rfl rfl (nb_f Bool.false_ne_true) rfl fun _ h => ?_
   refine gs h (o_pickF rfl rfl Bool.false_ne_true) rfl fun _ _ _ h => ?_
   refine gs h (o_move rfl) rfl fun _ _ _ h => ?_
   refine gk h rfl rfl (nb_f Bool.false_ne_true) rfl fun _ h => ?_
   refine gk h rfl rfl (nb_f Bool.false_ne_true) rfl fun _ h => ?_
   refine gk h rfl rfl (nb_f Bool.false_ne_true) rfl fun _ h => ?_
   refine gs h (o_pickF rfl rfl Bool.false_ne_true) rfl fun _ _ _ h => ?_
   refine gs h (o_assign rfl) rfl fun _ _ _ h => ?_
   refine GoR.done ?_
   exact J1 false _ _ (som H).symm (h.wk (by rfl) [0] (by decide) (by rfl))
 ·have H := ifF c1 H
  refine gk h rfl rfl (nb_f c1) rfl fun _ h => ?_
  refine gk h rfl rfl (nb_f c1) rfl fun _ h => ?_
  refine gk h rfl rfl (nb_f c1) rfl fun _ h => ?_
  refine gs h (o_pickF rfl rfl c1) rfl fun _ _ _ h => ?_
  refine gs h (o_move rfl) rfl fun _ _ _ h => ?_
  refine gk h rfl rfl (nb_f Bool.false_ne_true) rfl fun _ h => ?_
  refine gk h rfl rfl (nb_f Bool.false_ne_true) rfl fun _ h => ?_
  refine gk h rfl rfl (nb_f Bool.false_ne_true) rfl fun _ h => ?_
  refine gs h (o_pickF rfl rfl Bool.false_ne_true) rfl fun _ _ _ h => ?_
  refine gs h (o_move rfl) rfl fun _ _ _ h => ?_
  refine gk h rfl rfl (nb_f Bool.false_ne_true) rfl fun _ h => ?_
  refine gk h rfl rfl (nb_f Bool.false_ne_true) rfl fun _ h => ?_
  refine gk h rfl rfl (nb_f Bool.false_ne_true) rfl fun _ h => ?_
  refine gs h (o_pickF rfl rfl Bool.false_ne_true) rfl fun _ _ _ h => ?_
  refine gs h (o_move rfl) rfl fun _ _ _ h => ?_
  refine gk h rfl rfl (nb_f Bool.false_ne_true) rfl fun _ h => ?_
  refine gk h rfl rfl (nb_f Bool.false_ne_true) rfl fun _ h => ?_
  refine gk h rfl rfl (nb_f Bool.false_ne_true) rfl fun _ h => ?_
  refine gs h (o_pickF rfl rfl Bool.false_ne_true) rfl fun _ _ _ h => ?_
  refine gs h (o_move rfl) rfl fun _ _ _ h => ?_
  refine gk h rfl rfl (nb_f Bool.false_ne_true) rfl fun _ h => ?_
  refine gk h rfl rfl (nb_f Bool.false_ne_true) rfl fun _ h => ?_
  refine gk h rfl rfl (nb_f Bool.false_ne_true) rfl fun _ h => ?_
  refine gs h (o_pickF rfl rfl Bool.false_ne_true) rfl fun _ _ _ h => ?_
  refine gs h (o_assign rfl) rfl fun _ _ _ h => ?_
  refine GoR.done ?_
  exact J1 false _ _ (som H).symm (h.wk (by rfl) [0] (by decide) (by rfl))
def ref17_right.g (k_ : Nat) (a1 : TIp) : Option (Bool) :=
  ((ref17_within.g k_ a1.Tos 255).bind fun r1 => (if r1 = true then (ref17_within.g k_ a1.Ttl 255).bind fun r2 => (if r2 = true then (ref17_within.g k_ a1.Proto 255).bind fun r3 => (if r3 = true then (ref17_within.g k_ a1.Id 65535).bind fun r4 => (if r4 = true then (ref17_within.g k_ a1.Flags 7).bind fun r5 => (if r5 = true then (ref17_within.g k_ a1.Off 8191).bind fun r6 => some (r6) else some (false)) else some (false)) else some (false)) else some (false)) else some (false))).bind (fun j1 => ((if j1 = true then (if decide ((a1.Options.length : Int) ≤ 40) = true then (if decide ((Int.tmod (a1.Options.length : Int) 4) = 0) = true then lt (decide ((a1.Data.length : Int) ≤ (IntKind.i64.wrap (65515 - (a1.Options.length : Int))))) fun y1 => some (y1) else some (false)) else some (false)) else some (false))).bind (fun j2 => some (j2)))
theorem ref17_right.le (k_ : Nat) (a1 : TIp) : Le (ref17_right.g k_ a1) (ref17_right.f a1) := by
 unfold ref17_right.g ref17_right.f
 repeat' (first | with_reducible refine le_loop fun _ => ?_ | with_reducible refine le_bind ?_ fun _ => ?_ | with_reducible refine le_ite ?_ ?_ | with_reducible refine le_lt fun _ => ?_ | with_reducible refine le_elim (fun _ => ?_) (fun _ => ?_) _ | with_reducible apply ref17_within.le | with_reducible exact le_refl _)
/-! drawbridge/drawbridgeref17.Cut -/
noncomputable def ref17_Cut.f (a1 : TIp) (a2 : Int) : Option ((List TIp) × Int) :=
  (ref17_right.f a1).bind fun r1 => (if (!r1) = true then some (([], 2)) else lt (IntKind.i64.wrap (20 + (a1.Options.length : Int))) fun y1 => (if decide ((IntKind.i64.wrap (y1 + (a1.Data.length : Int))) ≤ a2) = true then some ((([a1] : List TIp), 0)) else (if decide ((Int.tmod (IntKind.i64.wrap (Int.tdiv a1.Flags 2)) 2) = 1) = true then some (([], 161)) else ((if decide (a2 < (IntKind.i64.wrap (y1 + 8))) = true then some (true) else some (decide (8191 < (IntKind.i64.wrap (a1.Off + (IntKind.i64.wrap (Int.tdiv (IntKind.i64.wrap ((a1.Data.length : Int) + 7)) 8)))))))).bind (fun j1 => (if j1 = true then some (([], 2)) else lt (IntKind.i64.wrap ((IntKind.i64.wrap (Int.tdiv (IntKind.i64.wrap (a2 - y1)) 8)) * 8)) fun y2 => (loop (fun s1 => (if decide (s1.2 < (a1.Data.length : Int)) = true then lt (IntKind.i64.wrap (s1.2 + y2)) fun y3 => ((if decide ((a1.Data.length : Int) ≤ y3) = true then lt (a1.Data.length : Int) fun y4 => some ((y4, a1)) else (if decide ((Int.tmod a1.Flags 2) = 0) = true then some ((y3, (⟨a1.Tos, a1.Id, IntKind.i64.wrap (a1.Flags + 1), a1.Off, a1.Ttl, a1.Proto, a1.Src, a1.Dst, a1.Options, a1.Data⟩ : TIp))) else some ((y3, a1))))).bind (fun j2 => (cut a1.Data s1.2 j2.1).bind fun x1 => (app ([] : List Int) x1).bind fun x2 => (app s1.1 ([(⟨j2.2.Tos, j2.2.Id, j2.2.Flags, IntKind.i64.wrap (a1.Off + (IntKind.i64.wrap (Int.tdiv s1.2 8))), j2.2.Ttl, j2.2.Proto, j2.2.Src, j2.2.Dst, j2.2.Options, x2⟩ : TIp)] : List TIp)).bind fun x3 => lt (IntKind.i64.wrap (s1.2 + y2)) fun y5 => some (.inl (x3, y5))) else some (.inr (s1.1)))) (([] : List TIp), 0)).bind (fun j3 => some ((j3, 0))))))))
set_option maxRecDepth 100000 in
set_option maxHeartbeats 4000000 in
theorem ref17_Cut.spc (v1 : Value) (a1 : TIp) (a2 : Int) (ha2 : InR .i64 a2) (r : (List TIp) × Int) (H : ref17_Cut.f a1 a2 = some r) : Spc Try.prog 10 [v1, .int .i64 a2] [Val KIp v1 a1] [] (fun (s : Value) => .tuple #[s, .int .i64 r.2]) (fun s => [Ent.pur (InR .i64 r.2), Val (Kd.osl KIp) s r.1]) := by
 unfold ref17_Cut.f at H
 refine Spc.go Try.func10 rfl (by kernel_rfl) rfl rfl (all_cons (Val.per PIp) all_nil) fun F a w h => ?_
 refine Go.seq ?_
 refine Go.reg ?_
 refine gs h (o_box (K := KIp) rfl (pv_at PIp 0 rfl)) rfl fun b1 _ _ h => ?_
 refine gs h (o_assign rfl) rfl fun _ _ _ h => ?_
 refine gs h (o_assign rfl) rfl fun _ _ _ h => ?_
 refine GoR.done ?_
 refine Go.seq ?_
 refine Go.seq ?_
 refine Go.reg ?_
 refine gs h (o_ldv 0 rfl rfl PIp t_y27) rfl fun v2 _ _ h => ?_
 obtain ⟨r1, er1, H⟩ := bindE H
 refine gs h (o_call (ref17_right.spc v2 a1 r1 er1) rfl [0] [] (by decide) rfl rfl) rfl fun _ _ _ h => ?_
 refine gs h (o_not rfl) rfl fun _ _ _ h => ?_
 refine GoR.done ?_
 by_cases c1 : (!r1) = true
 ·have H := ifT c1 H
  refine g_t h rfl c1 ?_
  refine Go.seq ?_
  refine Go.reg ?_
  refine gs h (o_assign rfl) rfl fun _ _ _ h => ?_
  refine gs h (o_assign rfl) rfl fun _ _ _ h => ?_
  refine GoR.done ?_
  replace h := h.mm fun m => m.nilo KIp
  rw [← som H]
  exact g_ret (vs := [.slice none 0 0, .int .i64 2]) h Try.func10 ⟨rfl, ⟨rfl, trivial⟩⟩ ⟨.slice none 0 0, rfl, ((h.mem.pick [0] (by decide) rfl).addpur (show InR .i64 2 by decide))⟩
 ·have H := ifF c1 H
  refine g_f h rfl c1 ?_
  refine Go.skip ?_
  refine Go.seq ?_
  refine Go.reg ?_
  refine gs h (o_fa rfl t_f27_8 rfl rfl) rfl fun _ _ _ h => ?_
  refine gs h (o_lfv 1 rfl rfl sIp_Options rfl Per_sl t_y25) rfl fun v3 _ _ h => ?_
  have g1 := (len_at 0 rfl h.mem)
  refine gs h (o_ln rfl (rd_at 0 rfl) t_v25) rfl fun _ _ _ h => ?_
  refine gs h (o_bin rfl rfl rfl) rfl fun _ _ _ h => ?_
  obtain ⟨y1, ey1, H⟩ := ltE H
  refine gs h (o_assign' rfl (congrArg (fun z => Value.int .i64 z) ey1)) rfl fun _ _ _ h => ?_
  refine GoR.done ?_
  refine Go.seq ?_
  refine Go.seq ?_
  refine Go.reg ?_
  refine gs h (o_move rfl) rfl fun _ _ _ h => ?_
  refine gs h (o_fa rfl t_f27_9 rfl rfl) rfl fun _ _ _ h => ?_
  refine gs h (o_lfv 2 rfl rfl sIp_Data rfl Per_sl t_y25) rfl fun v4 _ _ h => ?_
  have g2 := (len_at 0 rfl h.mem)
  refine gs h (o_ln rfl (rd_at 0 rfl) t_v25) rfl fun _ _ _ h => ?_
  refine gs h (o_bin rfl rfl rfl) rfl fun _ _ _ h => ?_
  refine gs h (o_move rfl) rfl fun _ _ _ h => ?_
  refine gs h (o_bin rfl rfl rfl) rfl fun _ _ _ h => ?_
  refine GoR.done ?_
  by_cases c2 : decide ((IntKind.i64.wrap (y1 + (a1.Data.length : Int))) ≤ a2) = true
  ·have H := ifT c2 H
   refine g_t h rfl c2 ?_
   refine Go.seq ?_
   refine Go.reg ?_
   refine gs h (o_ldv 3 rfl rfl PIp t_y27) rfl fun v5 _ _ h => ?_
   refine gs h (o_bs (K := KIp) (vs := [v5]) (xs := ([a1] : List TIp)) rfl rfl (pvs_cons (pv_at PIp 0 rfl) pvs_nil) t_a35 (by decide) (by decide)) rfl fun v6 _ _ h => ?_
   refine gs h (o_assign rfl) rfl fun _ _ _ h => ?_
   refine gs h (o_assign rfl) rfl fun _ _ _ h => ?_
   refine GoR.done ?_
   rw [← som H]
   exact g_ret (vs := [v6, .int .i64 0]) h Try.func10 ⟨rfl, ⟨rfl, trivial⟩⟩ ⟨v6, rfl, ((h.mem.pick [0] (by decide) rfl).addpur (show InR .i64 0 by decide))⟩
  ·have H := ifF c2 H
   refine g_f h rfl c2 ?_
   refine Go.skip ?_
   refine Go.seq ?_
   refine Go.seq ?_
   refine Go.reg ?_
   refine gs h (o_fa rfl t_f27_2 rfl rfl) rfl fun _ _ _ h => ?_
   have g3 := (in2 (fd_sub sIp_Flags 3 rfl h.mem))
   refine gs h (o_lfx 3 rfl rfl sIp_Flags rfl X_int t_y3) rfl fun _ _ _ h => ?_
   refine gs h (o_quo rfl rfl (show (2 : Int) ≠ 0 by decide)) rfl fun _ _ _ h => ?_
   refine gs h (o_rem rfl rfl (show (2 : Int) ≠ 0 by decide)) rfl fun _ _ _ h => ?_
   refine gs h (o_bin rfl rfl rfl) rfl fun _ _ _ h => ?_
   refine GoR.done ?_
   by_cases c3 : decide ((Int.tmod (IntKind.i64.wrap (Int.tdiv a1.Flags 2)) 2) = 1) = true
   ·have H := ifT c3 H
    refine g_t h rfl c3 ?_
    refine Go.seq ?_
    refine Go.reg ?_
    refine gs h (o_assign rfl) rfl fun _ _ _ h => ?_
    refine gs h (o_assign rfl) rfl fun _ _ _ h => ?_
    refine GoR.done ?_
    replace h := h.mm fun m => m.nilo KIp
    rw [← som H]
    exact g_ret (vs := [.slice none 0 0, .int .i64 161]) h Try.func10 ⟨rfl, ⟨rfl, trivial⟩⟩ ⟨.slice none 0 0, rfl, ((h.mem.pick [0] (by decide) rfl).addpur (show InR .i64 161 by decide))⟩
   ·have H := ifF c3 H
    refine g_f h rfl c3 ?_
    refine Go.skip ?_
    refine Go.seq ?_
    refine Go.seq ?_
    obtain ⟨o1, H, G1⟩ := bindE H
    refine g_cut (fun G => ∀ j1 (a : Act) (w : World), o1 = j1 → St Try.f10.ntmps F [(1, .int .i64 a2), (2, .pointer (some ⟨b1, 0, none⟩)), (6, .int .i64 y1), (47, .bool j1)] [Fld KIp b1 0 a1] a w → G a w) 1 ?_ fun J1 => ?_
    ·intro j1 a w ho_ h
     rw [ho_] at G1
     have H := G1
     by_cases c5 : j1 = true
     ·have H := ifT c5 H
      refine g_t h rfl c5 ?_
      refine Go.seq ?_
      refine Go.reg ?_
      refine gs h (o_assign rfl) rfl fun _ _ _ h => ?_
      refine gs h (o_assign rfl) rfl fun _ _ _ h => ?_
      refine GoR.done ?_
      replace h := h.mm fun m => m.nilo KIp
      rw [← som H]
      exact g_ret (vs := [.slice none 0 0, .int .i64 2]) h Try.func10 ⟨rfl, ⟨rfl, trivial⟩⟩ ⟨.slice none 0 0, rfl, ((h.mem.pick [0] (by decide) rfl).addpur (show InR .i64 2 by decide))⟩
     ·have H := ifF c5 H
      refine g_f h rfl c5 ?_
      refine Go.skip ?_
      refine Go.seq ?_
      refine Go.reg ?_
      refine gs h (o_move rfl) rfl fun _ _ _ h => ?_
      refine gs h (o_move rfl) rfl fun _ _ _ h => ?_
      refine gs h (o_bin rfl rfl rfl) rfl fun _ _ _ h => ?_
      refine gs h (o_quo rfl rfl (show (8 : Int) ≠ 0 by decide)) rfl fun _ _ _ h => ?_
      refine gs h (o_bin rfl rfl rfl) rfl fun _ _ _ h => ?_
      obtain ⟨y2, ey2, H⟩ := ltE H
      refine gs h (o_assign' rfl (congrArg (fun z => Value.int .i64 z) ey2)) rfl fun _ _ _ h => ?_
      refine GoR.done ?_
      refine Go.seq ?_
      refine Go.reg ?_
      refine gs h (o_assign rfl) rfl fun _ _ _ h => ?_
      refine GoR.done ?_
      refine Go.seq ?_
      refine Go.seq ?_
      refine Go.reg ?_
      refine gs h (o_assign rfl) rfl fun _ _ _ h => ?_
      refine GoR.done ?_
      refine Go.block ?_
      obtain ⟨o2, hl, G2⟩ := bindE H
      refine g_cut (fun G => ∀ j3 (v20 : Value) (a : Act) (w : World), o2 = j3 → St Try.f10.ntmps F [(8, v20)] [Val (Kd.osl KIp) v20 j3, Fld KIp b1 0 a1] a w → G a w) 2 ?_ fun J3 => ?_
      ·intro j3 v20 a w ho_ h
       rw [ho_] at G2
       have H := G2
       refine Go.seq ?_
       refine Go.reg ?_
       refine gs h (o_move rfl) rfl fun _ _ _ h => ?_
       refine gs h (o_assign rfl) rfl fun _ _ _ h => ?_
       refine gs h (o_assign rfl) rfl fun _ _ _ h => ?_
       refine GoR.done ?_
       rw [← som H]
       exact g_ret (vs := [v20, .int .i64 0]) h Try.func10 ⟨rfl, ⟨rfl, trivial⟩⟩ ⟨v20, rfl, ((h.mem.pick [0] (by decide) rfl).addpur (show InR .i64 0 by decide))⟩
      refine g_loop (fun s1 G => ∀ (v8 : Value) (a : Act) (w : World), InR .i64 s1.2 → St Try.f10.ntmps F [(2, .pointer (some ⟨b1, 0, none⟩)), (7, .int .i64 y2), (8, v8), (9, .int .i64 s1.2)] [Val (Kd.osl KIp) v8 s1.1, Fld KIp b1 0 a1] a w → G a w) hl (fun s1 p1 H i1 => ?_) fun I_ => ?_
      ·intro v8 a w g6 h
       refine Go.seq ?_
       refine Go.seq ?_
       refine Go.reg ?_
       refine gs h (o_move rfl) rfl fun _ _ _ h => ?_
       refine gs h (o_fa rfl t_f27_9 rfl rfl) rfl fun _ _ _ h => ?_
       refine gs h (o_lfv 1 rfl rfl sIp_Data rfl Per_sl t_y25) rfl fun v9 _ _ h => ?_
       have g7 := (len_at 0 rfl h.mem)
       refine gs h (o_ln rfl (rd_at 0 rfl) t_v25) rfl fun _ _ _ h => ?_
       refine gs h (o_bin rfl rfl rfl) rfl fun _ _ _ h => ?_
       refine GoR.done ?_
       by_cases c6 : decide (s1.2 < (a1.Data.length : Int)) = true
       ·have H := ifT c6 H
        refine g_t h rfl c6 ?_
        refine Go.skip ?_
        refine Go.seq ?_
        refine Go.block ?_
        refine Go.seq ?_
        refine Go.reg ?_
        refine gs h (o_ldv 2 rfl rfl PIp t_y27) rfl fun v10 _ _ h => ?_
        refine gs h (o_alloc (K := KIp) (z := (.agg #[.int .i64 0, .int .i64 0, .int .i64 0, .int .i64 0, .int .i64 0, .int .i64 0, .int .u32 0, .int .u32 0, .slice none 0 0, .slice none 0 0])) rfl ZIp) rfl fun b2 _ _ h => ?_
        refine gs0 h (o_st 0 rfl rfl rfl (pv_at PIp 1 rfl) rfl t_w27) fun _ _ _ h => ?_
        refine GoR.done ?_
        refine Go.seq ?_
        refine Go.reg ?_
        refine gs h (o_move rfl) rfl fun _ _ _ h => ?_
        refine gs h (o_move rfl) rfl fun _ _ _ h => ?_
        refine gs h (o_bin rfl rfl rfl) rfl fun _ _ _ h => ?_
        obtain ⟨y3, ey3, H⟩ := ltE H
        refine gs h (o_assign' rfl (congrArg (fun z => Value.int .i64 z) ey3)) rfl fun _ _ _ h => ?_
        refine GoR.done ?_
        refine Go.seq ?_
        obtain ⟨o3, H, G3⟩ := bindE H
        refine g_cut (fun G => ∀ j2 (a : Act) (w : World), o3 = j2 → InR .i64 j2.1 → St Try.f10.ntmps F [(2, .pointer (some ⟨b1, 0, none⟩)), (7, .int .i64 y2), (8, v8), (9, .int .i64 s1.2), (10, .pointer (some ⟨b2, 0, none⟩)), (11, .int .i64 j2.1)] [Val (Kd.osl KIp) v8 s1.1, Fld KIp b2 0 j2.2, Fld KIp b1 0 a1] a w → G a w) 1 ?_ fun J2 => ?_
        ·intro j2 a w ho_ g12 h
         rw [ho_] at G3
         have H := G3
         refine Go.seq ?_
         refine Go.reg ?_
         refine gs h (o_fa rfl t_f27_3 rfl rfl) rfl fun _ _ _ h => ?_
         have g13 := (in2 (fd_sub sIp_Off 2 rfl h.mem))
         refine gs h (o_lfx 2 rfl rfl sIp_Off rfl X_int t_y3) rfl fun _ _ _ h => ?_
         refine gs h (o_move rfl) rfl fun _ _ _ h => ?_
         refine gs h (o_quo rfl rfl (show (8 : Int) ≠ 0 by decide)) rfl fun _ _ _ h => ?_
         refine gs h (o_bin rfl rfl rfl) rfl fun _ _ _ h => ?_
         refine gs h (o_fa rfl t_f27_3 rfl rfl) rfl fun _ _ _ h => ?_
         replace h := h.mm fun m => (m.take (i := 1) rfl).opn (cIp _ _)
         refine gs0 h (o_st 3 rfl rfl rfl (pv_int (wrap_in _ _)) rfl t_w3) fun _ _ _ h => ?_
         refine GoR.done ?_
         refine Go.seq ?_
         refine Go.reg ?_
         refine gs h (o_bs (K := (Kd.int .u8)) (vs := []) (xs := ([] : List Int)) rfl rfl pvs_nil t_a25 (by decide) (by decide)) rfl fun v13 _ _ h => ?_
         refine gs h (o_fa rfl t_f27_9 rfl rfl) rfl fun _ _ _ h => ?_
         refine gs h (o_lfv 13 rfl rfl sIp_Data rfl Per_sl t_y25) rfl fun v14 _ _ h => ?_
         refine gs h (o_move rfl) rfl fun _ _ _ h => ?_
         refine gs h (o_move rfl) rfl fun _ _ _ h => ?_
         obtain ⟨x1, ex1, H⟩ := bindE H
         refine gs h (o_cut rfl (pv_at Per_sl 0 rfl) rfl rfl ex1 t_v25) rfl fun v15 _ _ h => ?_
         obtain ⟨x2, ex2, H⟩ := bindE H
         refine gs h (o_app (K := (Kd.int .u8)) 2 rfl rfl rfl (rd_at 0 rfl) ex2 t_a25 t_n25) rfl fun v16 _ _ h => ?_
         refine gs h (o_fa rfl t_f27_9 rfl rfl) rfl fun _ _ _ h => ?_
         replace h := h.mm fun m => m.freeze 2 rfl
         refine gs0 h (o_st 12 rfl rfl rfl (pv_at Per_sl 2 rfl) rfl t_w25) fun _ _ _ h => ?_
         refine GoR.done ?_
         refine Go.reg ?_
         refine gs h (o_move rfl) rfl fun _ _ _ h => ?_
         replace h := h.mm fun m => (m.pull (Lo := [Fld (Kd.int .i64) b2 0 j2.2.Tos, Fld (Kd.int .i64) b2 1 j2.2.Id, Fld (Kd.int .i64) b2 2 j2.2.Flags, Fld (Kd.int .i64) b2 3 (IntKind.i64.wrap (a1.Off + (IntKind.i64.wrap (Int.tdiv s1.2 8)))), Fld (Kd.int .i64) b2 4 j2.2.Ttl, Fld (Kd.int .i64) b2 5 j2.2.Proto, Fld (Kd.int .u32) b2 6 j2.2.Src, Fld (Kd.int .u32) b2 7 j2.2.Dst, Fld (Kd.sl (Kd.int .u8)) b2 8 j2.2.Options, Fld (Kd.sl (Kd.int .u8)) b2 9 x2]) [3, 4, 5, 6, 7, 8, 9, 10, 11, 12] (by decide) rfl).cls (cIp _ (⟨j2.2.Tos, j2.2.Id, j2.2.Flags, IntKind.i64.wrap (a1.Off + (IntKind.i64.wrap (Int.tdiv s1.2 8))), j2.2.Ttl, j2.2.Proto, j2.2.Src, j2.2.Dst, j2.2.Options, x2⟩ : TIp))
         refine gs h (o_ldv 0 rfl rfl PIp t_y27) rfl fun v17 _ _ h => ?_
         refine gs h (o_bs (K := KIp) (vs := [v17]) (xs := ([(⟨j2.2.Tos, j2.2.Id, j2.2.Flags, IntKind.i64.wrap (a1.Off + (IntKind.i64.wrap (Int.tdiv s1.2 8))), j2.2.Ttl, j2.2.Proto, j2.2.Src, j2.2.Dst, j2.2.Options, x2⟩ : TIp)] : List TIp)) rfl rfl (pvs_cons (pv_at PIp 0 rfl) pvs_nil) t_a35 (by decide) (by decide)) rfl fun v18 _ _ h => ?_
         obtain ⟨x3, ex3, H⟩ := bindE H
         refine gs h (o_app (K := KIp) 16 rfl rfl rfl (rd_own 0 rfl) ex3 t_a35 t_n35) rfl fun v19 _ _ h => ?_
         refine gs h (o_assign rfl) rfl fun _ _ _ h => ?_
         refine GoR.done ?_
         refine Go.inBlock ?_
         refine Go.reg ?_
         refine gs h (o_move rfl) rfl fun _ _ _ h => ?_
         refine gs h (o_move rfl) rfl fun _ _ _ h => ?_
         refine gs h (o_bin rfl rfl rfl) rfl fun _ _ _ h => ?_
         obtain ⟨y5, ey5, H⟩ := ltE H
         refine gs h (o_assign' rfl (congrArg (fun z => Value.int .i64 z) ey5)) rfl fun _ _ _ h => ?_
         refine GoR.done ?_
         have e_ := som H; subst e_
         exact Go.inLoop (nx_in i1 v19 _ _ (ey5 ▸ (wrap_in _ _)) (h.wk (by rfl) [16, 18] (by decide) (by rfl)))
        refine Go.seq ?_
        refine Go.reg ?_
        refine gs h (o_move rfl) rfl fun _ _ _ h => ?_
        refine gs h (o_fa rfl t_f27_9 rfl rfl) rfl fun _ _ _ h => ?_
        refine gs h (o_lfv 4 rfl rfl sIp_Data rfl Per_sl t_y25) rfl fun v11 _ _ h => ?_
        have g8 := (len_at 0 rfl h.mem)
        refine gs h (o_ln rfl (rd_at 0 rfl) t_v25) rfl fun _ _ _ h => ?_
        refine gs h (o_bin rfl rfl rfl) rfl fun _ _ _ h => ?_
        refine GoR.done ?_
        by_cases c7 : decide ((a1.Data.length : Int) ≤ y3) = true
        ·have H := ifT c7 H
         refine g_t h rfl c7 ?_
         refine Go.reg ?_
         refine gs h (o_fa rfl t_f27_9 rfl rfl) rfl fun _ _ _ h => ?_
         refine gs h (o_lfv 5 rfl rfl sIp_Data rfl Per_sl t_y25) rfl fun v12 _ _ h => ?_
         have g9 := (len_at 0 rfl h.mem)
         refine gs h (o_ln rfl (rd_at 0 rfl) t_v25) rfl fun _ _ _ h => ?_
         obtain ⟨y4, ey4, H⟩ := ltE H
         refine gs h (o_assign' rfl (congrArg (fun z => Value.int .i64 z) ey4)) rfl fun _ _ _ h => ?_
         refine GoR.done ?_
         exact J2 (y4, a1) _ _ (som H).symm (ey4 ▸ g9) (h.wk (by rfl) [5, 2, 6] (by decide) (by rfl))
        ·have H := ifF c7 H
         refine g_f h rfl c7 ?_
         refine Go.seq ?_
         refine Go.reg ?_
         refine gs h (o_fa rfl t_f27_2 rfl rfl) rfl fun _ _ _ h => ?_
         have g10 := (in2 (fd_sub sIp_Flags 5 rfl h.mem))
         refine gs h (o_lfx 5 rfl rfl sIp_Flags rfl X_int t_y3) rfl fun _ _ _ h => ?_
         refine gs h (o_rem rfl rfl (show (2 : Int) ≠ 0 by decide)) rfl fun _ _ _ h => ?_
         refine gs h (o_bin rfl rfl rfl) rfl fun _ _ _ h => ?_
         refine GoR.done ?_
         by_cases c8 : decide ((Int.tmod a1.Flags 2) = 0) = true
         ·have H := ifT c8 H
          refine g_t h rfl c8 ?_
          refine Go.reg ?_
          refine gs h (o_fa rfl t_f27_2 rfl rfl) rfl fun _ _ _ h => ?_
          have g11 := (in2 (fd_sub sIp_Flags 5 rfl h.mem))
          refine gs h (o_lfx 5 rfl rfl sIp_Flags rfl X_int t_y3) rfl fun _ _ _ h => ?_
          refine gs h (o_bin rfl rfl rfl) rfl fun _ _ _ h => ?_
          refine gs h (o_fa rfl t_f27_2 rfl rfl) rfl fun _ _ _ h => ?_
          replace h := h.mm fun m => (m.take (i := 1) rfl).opn (cIp _ _)
          refine gs0 h (o_st 2 rfl rfl rfl (pv_int (wrap_in _ _)) rfl t_w3) fun _ _ _ h => ?_
          refine GoR.done ?_
          replace h := h.mm fun m => (m.pull (Lo := [Fld (Kd.int .i64) b2 0 a1.Tos, Fld (Kd.int .i64) b2 1 a1.Id, Fld (Kd.int .i64) b2 2 (IntKind.i64.wrap (a1.Flags + 1)), Fld (Kd.int .i64) b2 3 a1.Off, Fld (Kd.int .i64) b2 4 a1.Ttl, Fld (Kd.int .i64) b2 5 a1.Proto, Fld (Kd.int .u32) b2 6 a1.Src, Fld (Kd.int .u32) b2 7 a1.Dst, Fld (Kd.sl (Kd.int .u8)) b2 8 a1.Options, Fld (Kd.sl (Kd.int .u8)) b2 9 a1.Data]) [0, 1, 2, 3, 4, 5, 6, 7, 8, 9] (by decide) rfl).cls (cIp _ (⟨a1.Tos, a1.Id, IntKind.i64.wrap (a1.Flags + 1), a1.Off, a1.Ttl, a1.Proto, a1.Src, a1.Dst, a1.Options, a1.Data⟩ : TIp))
          exact J2 (y3, (⟨a1.Tos, a1.Id, IntKind.i64.wrap (a1.Flags + 1), a1.Off, a1.Ttl, a1.Proto, a1.Src, a1.Dst, a1.Options, a1.Data⟩ : TIp)) _ _ (som H).symm (ey3 ▸ (wrap_in _ _)) (h.wk (by rfl) [15, 0, 16] (by decide) (by rfl))
         ·have H := ifF c8 H
          refine g_f h rfl c8 ?_
          refine Go.skip ?_
          exact J2 (y3, a1) _ _ (som H).symm (ey3 ▸ (wrap_in _ _)) (h.wk (by rfl) [4, 1, 5] (by decide) (by rfl))
       ·have H := ifF c6 H
        refine g_f h rfl c6 ?_
        refine Go.exit rfl ?_
        have e_ := som H; subst e_
        exact J3 s1.1 v8 _ _ (nx_out i1).symm (h.wk (by rfl) [1, 2] (by decide) (by rfl))
      ·replace h := h.mm fun m => m.nilo KIp
       exact I_ (.slice none 0 0) _ _ (show InR .i64 0 by decide) (h.wk (by rfl) [0, 1] (by decide) (by rfl))
    refine Go.reg ?_
    refine gs h (o_move rfl) rfl fun _ _ _ h => ?_
    refine gs h (o_move rfl) rfl fun _ _ _ h => ?_
    refine gs h (o_bin rfl rfl rfl) rfl fun _ _ _ h => ?_
    refine gs h (o_bin rfl rfl rfl) rfl fun _ _ _ h => ?_
    refine gs h (o_move rfl) rfl fun _ _ _ h => ?_
    by_cases c4 : decide (a2 < (IntKind.i64.wrap (y1 + 8))) = true
    ·have H := ifT c4 H
     refine gk h rfl rfl (nb_t c4) rfl fun _ h => ?_
     refine gk h rfl rfl (nb_t c4) rfl fun _ h => ?_
     refine gk h rfl rfl (nb_t c4) rfl fun _ h => ?_
     refine gk h rfl rfl (nb_t c4) rfl fun _ h => ?_
     refine gk h rfl rfl (nb_t c4) rfl fun _ h => ?_
     refine gk h rfl rfl (nb_t c4) rfl fun _ h => ?_
     refine gk h rfl rfl (nb_t c4) rfl fun _ h => ?_
     refine gk h rfl rfl (nb_t c4) rfl fun _ h => ?_
     refine gk h rfl rfl (nb_t c4) rfl fun _ h => ?_
     refine gs h (o_pickT rfl rfl c4) rfl fun _ _ _ h => ?_
     refine GoR.done ?_
     exact J1 true _ _ (som H).symm (h.wk (by rfl) [3] (by decide) (by rfl))
    ·have H := ifF c4 H
     refine gg h rfl rfl (nbF c4) (o_fa rfl t_f27_3 rfl rfl) rfl fun _ _ _ h => ?_
     have g4 := (in2 (fd_sub sIp_Off 3 rfl h.mem))
     refine gg h rfl rfl (nbF c4) (o_lfx 3 rfl rfl sIp_Off rfl X_int t_y3) rfl fun _ _ _ h => ?_
     refine gg h rfl rfl (nbF c4) (o_fa rfl t_f27_9 rfl rfl) rfl fun _ _ _ h => ?_
     refine gg h rfl rfl (nbF c4) (o_lfv 3 rfl rfl sIp_Data rfl Per_sl t_y25) rfl fun v7 _ _ h => ?_
     have g5 := (len_at 0 rfl h.mem)
     refine gg h rfl rfl (nbF c4) (o_ln rfl (rd_at 0 rfl) t_v25) rfl fun _ _ _ h => ?_
     refine gg h rfl rfl (nbF c4) (o_bin rfl rfl rfl) rfl fun _ _ _ h => ?_
     refine gg h rfl rfl (nbF c4) (o_quo rfl rfl (show (8 : Int) ≠ 0 by decide)) rfl fun _ _ _ h => ?_
     refine gg h rfl rfl (nbF c4) (o_bin rfl rfl rfl) rfl fun _ _ _ h => ?_
     refine gg h rfl rfl (nbF c4) (o_bin rfl rfl rfl) rfl fun _ _ _ h => ?_
     refine gs h (o_pickF rfl rfl c4) rfl fun _ _ _ h => ?_
     refine GoR.done ?_
     exact J1 (decide (8191 < (IntKind.i64.wrap (a1.Off + (IntKind.i64.wrap (Int.tdiv (IntKind.i64.wrap ((a1.Data.length : Int) + 7)) 8)))))) _ _ (som H).symm (h.wk (by rfl) [4] (by decide) (by rfl))
def ref17_Cut.g (k_ : Nat) (a1 : TIp) (a2 : Int) : Option ((List TIp) × Int) :=
  (ref17_right.g k_ a1).bind fun r1 => (if (!r1) = true then some (([], 2)) else lt (IntKind.i64.wrap (20 + (a1.Options.length : Int))) fun y1 => (if decide ((IntKind.i64.wrap (y1 + (a1.Data.length : Int))) ≤ a2) = true then some ((([a1] : List TIp), 0)) else (if decide ((Int.tmod (IntKind.i64.wrap (Int.tdiv a1.Flags 2)) 2) = 1) = true then some (([], 161)) else ((if decide (a2 < (IntKind.i64.wrap (y1 + 8))) = true then some (true) else some (decide (8191 < (IntKind.i64.wrap (a1.Off + (IntKind.i64.wrap (Int.tdiv (IntKind.i64.wrap ((a1.Data.length : Int) + 7)) 8)))))))).bind (fun j1 => (if j1 = true then some (([], 2)) else lt (IntKind.i64.wrap ((IntKind.i64.wrap (Int.tdiv (IntKind.i64.wrap (a2 - y1)) 8)) * 8)) fun y2 => (loopK k_ (fun s1 => (if decide (s1.2 < (a1.Data.length : Int)) = true then lt (IntKind.i64.wrap (s1.2 + y2)) fun y3 => ((if decide ((a1.Data.length : Int) ≤ y3) = true then lt (a1.Data.length : Int) fun y4 => some ((y4, a1)) else (if decide ((Int.tmod a1.Flags 2) = 0) = true then some ((y3, (⟨a1.Tos, a1.Id, IntKind.i64.wrap (a1.Flags + 1), a1.Off, a1.Ttl, a1.Proto, a1.Src, a1.Dst, a1.Options, a1.Data⟩ : TIp))) else some ((y3, a1))))).bind (fun j2 => (cut a1.Data s1.2 j2.1).bind fun x1 => (app ([] : List Int) x1).bind fun x2 => (app s1.1 ([(⟨j2.2.Tos, j2.2.Id, j2.2.Flags, IntKind.i64.wrap (a1.Off + (IntKind.i64.wrap (Int.tdiv s1.2 8))), j2.2.Ttl, j2.2.Proto, j2.2.Src, j2.2.Dst, j2.2.Options, x2⟩ : TIp)] : List TIp)).bind fun x3 => lt (IntKind.i64.wrap (s1.2 + y2)) fun y5 => some (.inl (x3, y5))) else some (.inr (s1.1)))) (([] : List TIp), 0)).bind (fun j3 => some ((j3, 0))))))))
theorem ref17_Cut.le (k_ : Nat) (a1 : TIp) (a2 : Int) : Le (ref17_Cut.g k_ a1 a2) (ref17_Cut.f a1 a2) := by
 unfold ref17_Cut.g ref17_Cut.f
 repeat' (first | with_reducible refine le_loop fun _ => ?_ | with_reducible refine le_bind ?_ fun _ => ?_ | with_reducible refine le_ite ?_ ?_ | with_reducible refine le_lt fun _ => ?_ | with_reducible refine le_elim (fun _ => ?_) (fun _ => ?_) _ | with_reducible apply ref17_right.le | with_reducible exact le_refl _)
/-! drawbridge/drawbridgeref01.Same -/
noncomputable def ref01_Same.f (a1 : List Int) (a2 : List Int) : Option (Bool) :=
  lt (decide (a1 = a2)) fun y1 => some (y1)
set_option maxRecDepth 100000 in
set_option maxHeartbeats 4000000 in
theorem ref01_Same.spc (v1 : Value) (a1 : List Int) (v2 : Value) (a2 : List Int) (r : Bool) (H : ref01_Same.f a1 a2 = some r) : Spc Try.prog 8 [v1, v2] [Val (Kd.sl (Kd.int .u8)) v1 a1, Val (Kd.sl (Kd.int .u8)) v2 a2] [] (fun (s : Unit) => .bool r) (fun s => []) := by
 unfold ref01_Same.f at H
 refine Spc.go Try.func8 rfl (by kernel_rfl) rfl rfl (all_cons (Val.per Per_sl) (all_cons (Val.per Per_sl) all_nil)) fun F a w h => ?_
 refine Go.seq ?_
 refine Go.reg ?_
 refine gs h (o_assign rfl) rfl fun _ _ _ h => ?_
 refine GoR.done ?_
 refine Go.seq ?_
 refine Go.reg ?_
 refine gs h (o_move rfl) rfl fun _ _ _ h => ?_
 have g1 := (rd_bs (rd_at 0 rfl) h.mem)
 refine gs h (o_b2s rfl (rd_at 0 rfl) t_u25 t_u5 t_u9) rfl fun _ _ _ h => ?_
 refine gs h (o_move rfl) rfl fun _ _ _ h => ?_
 have g2 := (rd_bs (rd_at 1 rfl) h.mem)
 refine gs h (o_b2s rfl (rd_at 1 rfl) t_u25 t_u5 t_u9) rfl fun _ _ _ h => ?_
 refine gs h (o_eqs rfl rfl g1 g2) rfl fun _ _ _ h => ?_
 obtain ⟨y1, ey1, H⟩ := ltE H
 refine gs h (o_assign' rfl (congrArg Value.bool ey1)) rfl fun _ _ _ h => ?_
 refine GoR.done ?_
 rw [← som H]
 exact g_ret (vs := [.bool y1]) h Try.func8 ⟨rfl, trivial⟩ ⟨(), rfl, (h.mem.pick [] (by decide) rfl)⟩
def ref01_Same.g (k_ : Nat) (a1 : List Int) (a2 : List Int) : Option (Bool) :=
  lt (decide (a1 = a2)) fun y1 => some (y1)
theorem ref01_Same.le (k_ : Nat) (a1 : List Int) (a2 : List Int) : Le (ref01_Same.g k_ a1 a2) (ref01_Same.f a1 a2) := by
 unfold ref01_Same.g ref01_Same.f
 repeat' (first | with_reducible refine le_loop fun _ => ?_ | with_reducible refine le_bind ?_ fun _ => ?_ | with_reducible refine le_ite ?_ ?_ | with_reducible refine le_lt fun _ => ?_ | with_reducible refine le_elim (fun _ => ?_) (fun _ => ?_) _ | with_reducible exact le_refl _)
end Go.Proofs.Ytlpjgmbbcibkjaa.S
