/- Contracts, printed by a program of this session. -/
import Derived.Test.YtjjceikmimhpnaaDoorT5
import Derived.Test.YtjjceikmimhpnaaDoorT9
namespace Go.Proofs.YtjjceikmimhpnaaDoor.S
open Go Go.SL Go.RowKit
set_option linter.unusedVariables false
set_option linter.unusedSimpArgs false
/-! drawbridge/drawbridgelaw21.heads -/
noncomputable def law21_heads.f  : Option (Bool) :=
  (dns_Ask.f 7 [97, 46, 98, 67, 46] 1).bind fun r1 => (dns_Question.f r1.1).bind fun r2 => (dns_Id.f r1.1).bind fun r3 => (dns_With.f r1.1 258).bind fun r4 => (dns_Fail.f r4 3).bind fun r5 => (cut r1.1 0 (IntKind.i64.wrap (Int.tdiv (r1.1.length : Int) 2))).bind fun x1 => (dns_Question.f x1).bind fun r6 => (dns_Ask.f 0 [97, 46, 46, 98] 1).bind fun r7 => ((if decide (r1.2 = 0) = true then (if decide ((r1.1.length : Int) = 22) = true then (if decide (r2.2.2 = 0) = true then (if decide (r2.1 = [97, 46, 98, 99]) = true then (if decide (r2.2.1 = 1) = true then (if decide (r3.1 = 7) = true then (if r3.2 = true then (if r5.2 = true then (if decide ((r5.1.length : Int) = 22) = true then (idx r5.1 0).bind fun x2 => (if decide (x2 = 1) = true then (idx r5.1 1).bind fun x3 => (if decide (x3 = 2) = true then (idx r5.1 3).bind fun x4 => (if decide (x4 = 131) = true then (dns_Query.f r5.1).bind fun r8 => (if (!r8) = true then (dns_Query.f r1.1).bind fun r9 => (if r9 = true then (if decide (r6.2.2 = 160) = true then lt (decide (r7.2 = 2)) fun y1 => some (y1) else some (false)) else some (false)) else some (false)) else some (false)) else some (false)) else some (false)) else some (false)) else some (false)) else some (false)) else some (false)) else some (false)) else some (false)) else some (false)) else some (false)) else some (false))).bind (fun j1 => some (j1))
set_option maxRecDepth 100000 in
set_option maxHeartbeats 4000000 in
theorem law21_heads.spc  (r : Bool) (H : law21_heads.f  = some r) : Spc Tryd.prog 7 [] [Pfl (Kd.eq gv0) 0 0 ()] [] (fun (s : Unit) => .bool r) (fun s => []) := by
 unfold law21_heads.f at H
 refine Spc.go Tryd.func7 rfl (by kernel_rfl) rfl rfl (all_cons Per_pfl all_nil) fun F a w h => ?_
 refine Go.seq ?_
 refine Go.reg ?_
 refine ga h (o_assign rfl) rfl fun h => ?_
 refine GoR.done ?_
 refine Go.seq ?_
 refine Go.reg ?_
 obtain ⟨r1, er1, H⟩ := bindE H
 refine gs h (o_call (dns_Ask.spc 7 (show InR .i64 7 by decide) [97, 46, 98, 67, 46] (show Bs [97, 46, 98, 67, 46] by decide) 1 (show InR .i64 1 by decide) r1 er1) rfl [] [] (by decide) rfl rfl) rfl fun v1 _ _ h => ?_
 have g1 := h.mem.pur 0 rfl
 refine mv h rfl rfl fun h => ?_
 refine ga h (o_extract rfl rfl) rfl fun h => ?_
 refine ga h (o_extract rfl rfl) rfl fun h => ?_
 refine ga h (o_assign rfl) rfl fun h => ?_
 refine ga h (o_assign rfl) rfl fun h => ?_
 refine GoR.done ?_
 refine Go.seq ?_
 refine Go.reg ?_
 refine mv h rfl rfl fun h => ?_
 obtain ⟨r2, er2, H⟩ := bindE H
 refine ga h (OpS.lend (Lp := [Val (Kd.sl (Kd.int .u8)) v1 r1.1, Pfl (Kd.eq gv0) 0 0 ()]) (lent_cons (lent_own 1 rfl) (lent_cons (lent_per Per_pfl 2 rfl) lent_nil)) (o_call (dns_Question.spc v1 r1.1 r2 er2) rfl [0, 1] [] (by decide) rfl rfl) (fun _ => (clo_cons cl_pur clo_nil))) rfl fun h => ?_
 have g2 := h.mem.pur 0 rfl
 refine mv h rfl rfl fun h => ?_
 iterate 3 (refine ga h (o_extract rfl rfl) rfl fun h => ?_)
 iterate 3 (refine ga h (o_assign rfl) rfl fun h => ?_)
 refine GoR.done ?_
 refine Go.seq ?_
 refine Go.reg ?_
 refine mv h rfl rfl fun h => ?_
 obtain ⟨r3, er3, H⟩ := bindE H
 refine ga h (OpS.lend (Lp := [Val (Kd.sl (Kd.int .u8)) v1 r1.1]) (lent_cons (lent_own 2 rfl) lent_nil) (o_call (dns_Id.spc v1 r1.1 r3 er3) rfl [0] [] (by decide) rfl rfl) (fun _ => (clo_cons cl_pur clo_nil))) rfl fun h => ?_
 have g3 := h.mem.pur 0 rfl
 refine mv h rfl rfl fun h => ?_
 refine ga h (o_extract rfl rfl) rfl fun h => ?_
 refine ga h (o_extract rfl rfl) rfl fun h => ?_
 refine ga h (o_assign rfl) rfl fun h => ?_
 refine ga h (o_assign rfl) rfl fun h => ?_
 refine GoR.done ?_
 refine Go.seq ?_
 refine Go.reg ?_
 refine mv h rfl rfl fun h => ?_
 obtain ⟨r4, er4, H⟩ := bindE H
 refine gs h (OpS.lend (Lp := [Val (Kd.sl (Kd.int .u8)) v1 r1.1]) (lent_cons (lent_own 3 rfl) lent_nil) (o_call (dns_With.spc v1 r1.1 258 (show InR .i64 258 by decide) r4 er4) rfl [0] [] (by decide) rfl rfl) (fun _ => (clo_cons (cl_val (cl_osl cl_int)) clo_nil))) rfl fun v2 _ _ h => ?_
 replace h := h.mm fun m => m.freeze 0 rfl
 obtain ⟨r5, er5, H⟩ := bindE H
 refine gs h (o_call (dns_Fail.spc v2 r4 3 (show InR .i64 3 by decide) r5 er5) rfl [0] [] (by decide) rfl rfl) rfl fun v3 _ _ h => ?_
 refine mv h rfl rfl fun h => ?_
 refine ga h (o_extract rfl rfl) rfl fun h => ?_
 refine ga h (o_extract rfl rfl) rfl fun h => ?_
 refine ga h (o_assign rfl) rfl fun h => ?_
 refine ga h (o_assign rfl) rfl fun h => ?_
 refine GoR.done ?_
 refine Go.seq ?_
 refine Go.reg ?_
 refine mv h rfl rfl fun h => ?_
 refine mv h rfl rfl fun h => ?_
 have g4 := (len_own 5 rfl h.mem)
 refine ga h (o_ln rfl (rd_own 5 rfl) t_v22) rfl fun h => ?_
 refine ga h (o_quo rfl rfl (show (2 : Int) ≠ 0 by decide)) rfl fun h => ?_
 replace h := h.mm fun m => m.freeze 5 rfl
 obtain ⟨x1, ex1, H⟩ := bindE H
 refine gs h (o_cuth rfl (pv_at Per_sl 5 rfl) rfl ex1 t_v22) rfl fun v4 _ _ h => ?_
 obtain ⟨r6, er6, H⟩ := bindE H
 refine ga h (o_call (dns_Question.spc v4 x1 r6 er6) rfl [0, 7] [] (by decide) rfl rfl) rfl fun h => ?_
 have g5 := h.mem.pur 0 rfl
 refine mv h rfl rfl fun h => ?_
 iterate 3 (refine ga h (o_extract rfl rfl) rfl fun h => ?_)
 iterate 3 (refine ga h (o_assign rfl) rfl fun h => ?_)
 refine GoR.done ?_
 refine Go.seq ?_
 refine Go.reg ?_
 obtain ⟨r7, er7, H⟩ := bindE H
 refine gs h (o_call (dns_Ask.spc 0 (show InR .i64 0 by decide) [97, 46, 46, 98] (show Bs [97, 46, 46, 98] by decide) 1 (show InR .i64 1 by decide) r7 er7) rfl [] [] (by decide) rfl rfl) rfl fun v5 _ _ h => ?_
 have g6 := h.mem.pur 0 rfl
 refine mv h rfl rfl fun h => ?_
 refine ga h (o_extract rfl rfl) rfl fun h => ?_
 refine ga h (o_extract rfl rfl) rfl fun h => ?_
 refine ga h (o_assign rfl) rfl fun h => ?_
 refine ga h (o_assign rfl) rfl fun h => ?_
 refine GoR.done ?_
 refine Go.seq ?_
 obtain ⟨o1, H, G1⟩ := bindE H
 refine g_cut (fun G => ∀ j1 (a : Act) (w : World), o1 = j1 → St Tryd.f7.ntmps F [(0, .bool j1)] [Pfl (Kd.eq gv0) 0 0 ()] a w → G a w) 1 ?_ fun J1 => ?_
 ·intro j1 a w ho_ h
  rw [ho_] at G1
  have H := G1
  rw [← som H]
  exact g_ret (vs := [.bool j1]) h Tryd.func7 ⟨rfl, trivial⟩ ⟨(), rfl, (h.mem.pick [] (by decide) rfl)⟩
 refine Go.reg ?_
 refine mv h rfl rfl fun h => ?_
 refine ga h (o_bin rfl rfl rfl) rfl fun h => ?_
 refine mv h rfl rfl fun h => ?_
 by_cases c1 : decide (r1.2 = 0) = true
 ·have H := ifT c1 H
  refine gg h rfl rfl c1 (o_move rfl) rfl fun _ _ _ h => ?_
  have g7 := (len_at 9 rfl h.mem)
  refine gg h rfl rfl c1 (o_ln rfl (rd_at 9 rfl) t_v22) rfl fun _ _ _ h => ?_
  refine gg h rfl rfl c1 (o_bin rfl rfl rfl) rfl fun _ _ _ h => ?_
  refine ga h (o_pickT rfl rfl c1) rfl fun h => ?_
  refine mv h rfl rfl fun h => ?_
  by_cases c2 : decide ((r1.1.length : Int) = 22) = true
  ·have H := ifT c2 H
   refine gg h rfl rfl c2 (o_move rfl) rfl fun _ _ _ h => ?_
   refine gg h rfl rfl c2 (o_bin rfl rfl rfl) rfl fun _ _ _ h => ?_
   refine ga h (o_pickT rfl rfl c2) rfl fun h => ?_
   refine mv h rfl rfl fun h => ?_
   by_cases c3 : decide (r2.2.2 = 0) = true
   ·have H := ifT c3 H
    refine gg h rfl rfl c3 (o_move rfl) rfl fun _ _ _ h => ?_
    refine gg h rfl rfl c3 (o_eqs rfl rfl g2.1 (show Bs [97, 46, 98, 99] by decide)) rfl fun _ _ _ h => ?_
    refine ga h (o_pickT rfl rfl c3) rfl fun h => ?_
    refine mv h rfl rfl fun h => ?_
    by_cases c4 : decide (r2.1 = [97, 46, 98, 99]) = true
    ·have H := ifT c4 H
     refine gg h rfl rfl c4 (o_move rfl) rfl fun _ _ _ h => ?_
     refine gg h rfl rfl c4 (o_bin rfl rfl rfl) rfl fun _ _ _ h => ?_
     refine ga h (o_pickT rfl rfl c4) rfl fun h => ?_
     refine mv h rfl rfl fun h => ?_
     by_cases c5 : decide (r2.2.1 = 1) = true
     ·have H := ifT c5 H
      refine gg h rfl rfl c5 (o_move rfl) rfl fun _ _ _ h => ?_
      refine gg h rfl rfl c5 (o_bin rfl rfl rfl) rfl fun _ _ _ h => ?_
      refine ga h (o_pickT rfl rfl c5) rfl fun h => ?_
      refine mv h rfl rfl fun h => ?_
      by_cases c6 : decide (r3.1 = 7) = true
      ·have H := ifT c6 H
       refine gg h rfl rfl c6 (o_move rfl) rfl fun _ _ _ h => ?_
       refine ga h (o_pickT rfl rfl c6) rfl fun h => ?_
       refine mv h rfl rfl fun h => ?_
       by_cases c7 : r3.2 = true
       ·have H := ifT c7 H
        refine gg h rfl rfl c7 (o_move rfl) rfl fun _ _ _ h => ?_
        refine ga h (o_pickT rfl rfl c7) rfl fun h => ?_
        refine mv h rfl rfl fun h => ?_
        by_cases c8 : r5.2 = true
        ·have H := ifT c8 H
         refine gg h rfl rfl c8 (o_move rfl) rfl fun _ _ _ h => ?_
         have g8 := (len_own 4 rfl h.mem)
         refine gg h rfl rfl c8 (o_ln rfl (rd_own 4 rfl) t_v22) rfl fun _ _ _ h => ?_
         refine gg h rfl rfl c8 (o_bin rfl rfl rfl) rfl fun _ _ _ h => ?_
         refine ga h (o_pickT rfl rfl c8) rfl fun h => ?_
         refine mv h rfl rfl fun h => ?_
         by_cases c9 : decide ((r5.1.length : Int) = 22) = true
         ·have H := ifT c9 H
          refine gg h rfl rfl c9 (o_move rfl) rfl fun _ _ _ h => ?_
          obtain ⟨x2, ex2, H⟩ := bindE H
          refine gg h rfl rfl c9 (o_ix rfl rfl (rd_own 4 rfl) ex2 t_v22) rfl fun _ _ _ h => ?_
          have g9 := (rd_inr (rd_own 4 rfl) ex2 h.mem)
          refine gg h rfl rfl c9 (o_lex rfl (rd_own 4 rfl) ex2 X_int t_y5 (by decide)) rfl fun _ _ _ h => ?_
          refine gg h rfl rfl c9 (o_bin rfl rfl rfl) rfl fun _ _ _ h => ?_
          refine ga h (o_pickT rfl rfl c9) rfl fun h => ?_
          refine mv h rfl rfl fun h => ?_
          by_cases c10 : decide (x2 = 1) = true
          ·have H := ifT c10 H
           refine gg h rfl rfl c10 (o_move rfl) rfl fun _ _ _ h => ?_
           obtain ⟨x3, ex3, H⟩ := bindE H
           refine gg h rfl rfl c10 (o_ix rfl rfl (rd_own 4 rfl) ex3 t_v22) rfl fun _ _ _ h => ?_
           have g10 := (rd_inr (rd_own 4 rfl) ex3 h.mem)
           refine gg h rfl rfl c10 (o_lex rfl (rd_own 4 rfl) ex3 X_int t_y5 (by decide)) rfl fun _ _ _ h => ?_
           refine gg h rfl rfl c10 (o_bin rfl rfl rfl) rfl fun _ _ _ h => ?_
           refine ga h (o_pickT rfl rfl c10) rfl fun h => ?_
           refine mv h rfl rfl fun h => ?_
           by_cases c11 : decide (x3 = 2) = true
           ·have H := ifT c11 H
            refine gg h rfl rfl c11 (o_move rfl) rfl fun _ _ _ h => ?_
            obtain ⟨x4, ex4, H⟩ := bindE H
            refine gg h rfl rfl c11 (o_ix rfl rfl (rd_own 4 rfl) ex4 t_v22) rfl fun _ _ _ h => ?_
            have g11 := (rd_inr (rd_own 4 rfl) ex4 h.mem)
            refine gg h rfl rfl c11 (o_lex rfl (rd_own 4 rfl) ex4 X_int t_y5 (by decide)) rfl fun _ _ _ h => ?_
            refine gg h rfl rfl c11 (o_bin rfl rfl rfl) rfl fun _ _ _ h => ?_
            refine ga h (o_pickT rfl rfl c11) rfl fun h => ?_
            refine mv h rfl rfl fun h => ?_
            by_cases c12 : decide (x4 = 131) = true
            ·have H := ifT c12 H
             refine gg h rfl rfl c12 (o_move rfl) rfl fun _ _ _ h => ?_
             replace h := h.mm fun m => m.freeze 4 rfl
             obtain ⟨r8, er8, H⟩ := bindE H
             refine gg h rfl rfl c12 (o_call (dns_Query.spc v3 r5.1 r8 er8) rfl [4] [] (by decide) rfl rfl) rfl fun _ _ _ h => ?_
             refine gg h rfl rfl c12 (o_not rfl) rfl fun _ _ _ h => ?_
             refine ga h (o_pickT rfl rfl c12) rfl fun h => ?_
             refine mv h rfl rfl fun h => ?_
             by_cases c13 : (!r8) = true
             ·have H := ifT c13 H
              refine gg h rfl rfl c13 (o_move rfl) rfl fun _ _ _ h => ?_
              obtain ⟨r9, er9, H⟩ := bindE H
              refine gg h rfl rfl c13 (o_call (dns_Query.spc v1 r1.1 r9 er9) rfl [9] [] (by decide) rfl rfl) rfl fun _ _ _ h => ?_
              refine ga h (o_pickT rfl rfl c13) rfl fun h => ?_
              refine mv h rfl rfl fun h => ?_
              by_cases c14 : r9 = true
              ·have H := ifT c14 H
               refine gg h rfl rfl c14 (o_move rfl) rfl fun _ _ _ h => ?_
               refine gg h rfl rfl c14 (o_bin rfl rfl rfl) rfl fun _ _ _ h => ?_
               refine ga h (o_pickT rfl rfl c14) rfl fun h => ?_
               refine mv h rfl rfl fun h => ?_
               by_cases c15 : decide (r6.2.2 = 160) = true
               ·have H := ifT c15 H
                refine gg h rfl rfl c15 (o_move rfl) rfl fun _ _ _ h => ?_
                refine gg h rfl rfl c15 (o_bin rfl rfl rfl) rfl fun _ _ _ h => ?_
                refine ga h (o_pickT rfl rfl c15) rfl fun h => ?_
                obtain ⟨y1, ey1, H⟩ := ltE H
                refine ga h (o_assign' rfl (congrArg Value.bool ey1)) rfl fun h => ?_
                refine GoR.done ?_
                exact J1 y1 _ _ (som H).symm (h.wr [10])
               ·have H := ifF c15 H
                refine gk h rfl rfl (nb_f c15) rfl fun _ h => ?_
                refine gk h rfl rfl (nb_f c15) rfl fun _ h => ?_
                refine ga h (o_pickF rfl rfl c15) rfl fun h => ?_
                refine ga h (o_assign rfl) rfl fun h => ?_
                refine GoR.done ?_
                exact J1 false _ _ (som H).symm (h.wr [10])
              ·have H := ifF c14 H
               refine gk h rfl rfl (nb_f c14) rfl fun _ h => ?_
               refine gk h rfl rfl (nb_f c14) rfl fun _ h => ?_
               refine ga h (o_pickF rfl rfl c14) rfl fun h => ?_
               refine mv h rfl rfl fun h => ?_
               refine gk h rfl rfl (nb_f Bool.false_ne_true) rfl fun _ h => ?_
               refine gk h rfl rfl (nb_f Bool.false_ne_true) rfl fun _ h => ?_
               refine ga h (o_pickF rfl rfl Bool.false_ne_true) rfl fun h => ?_
               refine ga h (o_assign rfl) rfl fun h => ?_
               refine GoR.done ?_
               exact J1 false _ _ (som H).symm (h.wr [10])
             ·have H := ifF c13 H
              refine gk h rfl rfl (nb_f c13) rfl fun _ h => ?_
              refine gk h rfl rfl (nb_f c13) rfl fun _ h => ?_
              refine ga h (o_pickF rfl rfl c13) rfl fun h => ?_
              refine mv h rfl rfl fun h => ?_
              refine gk h rfl rfl (nb_f Bool.false_ne_true) rfl fun _ h => ?_
              refine gk h rfl rfl (nb_f Bool.false_ne_true) rfl fun _ h => ?_
              refine ga h (o_pickF rfl rfl Bool.false_ne_true) rfl fun h => ?_
              refine mv h rfl rfl fun h => ?_
              refine gk h rfl rfl (nb_f Bool.false_ne_true) rfl fun _ h => ?_
              refine gk h rfl rfl (nb_f Bool.false_ne_true) rfl fun _ h => ?_
              refine ga h (o_pickF rfl rfl Bool.false_ne_true) rfl fun h => ?_
              refine ga h (o_assign rfl) rfl fun h => ?_
              refine GoR.done ?_
              exact J1 false _ _ (som H).symm (h.wr [10])
            ·have H := ifF c12 H
             iterate 3 (refine gk h rfl rfl (nb_f c12) rfl fun _ h => ?_)
             refine ga h (o_pickF rfl rfl c12) rfl fun h => ?_
             refine mv h rfl rfl fun h => ?_
             refine gk h rfl rfl (nb_f Bool.false_ne_true) rfl fun _ h => ?_
             refine gk h rfl rfl (nb_f Bool.false_ne_true) rfl fun _ h => ?_
             refine ga h (o_pickF rfl rfl Bool.false_ne_true) rfl fun h => ?_
             refine mv h rfl rfl fun h => ?_
             refine gk h rfl rfl (nb_f Bool.false_ne_true) rfl fun _ h => ?_
             refine gk h rfl rfl (nb_f Bool.false_ne_true) rfl fun _ h => ?_
             refine ga h (o_pickF rfl rfl Bool.false_ne_true) rfl fun h => ?_
             refine mv h rfl rfl fun h => ?_
             refine gk h rfl rfl (nb_f Bool.false_ne_true) rfl fun _ h => ?_
             refine gk h rfl rfl (nb_f Bool.false_ne_true) rfl fun _ h => ?_
             refine ga h (o_pickF rfl rfl Bool.false_ne_true) rfl fun h => ?_
             refine ga h (o_assign rfl) rfl fun h => ?_
             refine GoR.done ?_
             exact J1 false _ _ (som H).symm (h.wr [10])
           ·have H := ifF c11 H
            iterate 4 (refine gk h rfl rfl (nb_f c11) rfl fun _ h => ?_)
            refine ga h (o_pickF rfl rfl c11) rfl fun h => ?_
            refine mv h rfl rfl fun h => ?_
            iterate 3 (refine gk h rfl rfl (nb_f Bool.false_ne_true) rfl fun _ h => ?_)
            refine ga h (o_pickF rfl rfl Bool.false_ne_true) rfl fun h => ?_
            refine mv h rfl rfl fun h => ?_
            refine gk h rfl rfl (nb_f Bool.false_ne_true) rfl fun _ h => ?_
            refine gk h rfl rfl (nb_f Bool.false_ne_true) rfl fun _ h => ?_
            refine ga h (o_pickF rfl rfl Bool.false_ne_true) rfl fun h => ?_
            refine mv h rfl rfl fun h => ?_
            refine gk h rfl rfl (nb_f Bool.false_ne_true) rfl fun _ h => ?_
            refine gk h rfl rfl (nb_f Bool.false_ne_true) rfl fun _ h => ?_
            refine ga h (o_pickF rfl rfl Bool.false_ne_true) rfl fun h => ?_
            refine mv h rfl rfl fun h => ?_
            refine gk h rfl rfl (nb_f Bool.false_ne_true) rfl fun _ h => ?_
            refine gk h rfl rfl (nb_f Bool.false_ne_true) rfl fun _ h => ?_
            refine ga h (o_pickF rfl rfl Bool.false_ne_true) rfl fun h => ?_
            refine ga h (o_assign rfl) rfl fun h => ?_
            refine GoR.done ?_
            exact J1 false _ _ (som H).symm (h.wr [10])
          ·have H := ifF c10 H
           iterate 4 (refine gk h rfl rfl (nb_f c10) rfl fun _ h => ?_)
           refine ga h (o_pickF rfl rfl c10) rfl fun h => ?_
           refine mv h rfl rfl fun h => ?_
           iterate 4 (refine gk h rfl rfl (nb_f Bool.false_ne_true) rfl fun _ h => ?_)
           refine ga h (o_pickF rfl rfl Bool.false_ne_true) rfl fun h => ?_
           refine mv h rfl rfl fun h => ?_
           iterate 3 (refine gk h rfl rfl (nb_f Bool.false_ne_true) rfl fun _ h => ?_)
           refine ga h (o_pickF rfl rfl Bool.false_ne_true) rfl fun h => ?_
           refine mv h rfl rfl fun h => ?_
           refine gk h rfl rfl (nb_f Bool.false_ne_true) rfl fun _ h => ?_
           refine gk h rfl rfl (nb_f Bool.false_ne_true) rfl fun _ h => ?_
           refine ga h (o_pickF rfl rfl Bool.false_ne_true) rfl fun h => ?_
           refine mv h rfl rfl fun h => ?_
           refine gk h rfl rfl (nb_f Bool.false_ne_true) rfl fun _ h => ?_
           refine gk h rfl rfl (nb_f Bool.false_ne_true) rfl fun _ h => ?_
           refine ga h (o_pickF rfl rfl Bool.false_ne_true) rfl fun h => ?_
           refine mv h rfl rfl fun h => ?_
           refine gk h rfl rfl (nb_f Bool.false_ne_true) rfl fun _ h => ?_
           refine gk h rfl rfl (nb_f Bool.false_ne_true) rfl fun _ h => ?_
           refine ga h (o_pickF rfl rfl Bool.false_ne_true) rfl fun h => ?_
           refine ga h (o_assign rfl) rfl fun h => ?_
           refine GoR.done ?_
           exact J1 false _ _ (som H).symm (h.wr [10])
         ·have H := ifF c9 H
          iterate 4 (refine gk h rfl rfl (nb_f c9) rfl fun _ h => ?_)
          refine ga h (o_pickF rfl rfl c9) rfl fun h => ?_
          refine mv h rfl rfl fun h => ?_
          iterate 4 (refine gk h rfl rfl (nb_f Bool.false_ne_true) rfl fun _ h => ?_)
          refine ga h (o_pickF rfl rfl Bool.false_ne_true) rfl fun h => ?_
          refine mv h rfl rfl fun h => ?_
          iterate 4 (refine gk h rfl rfl (nb_f Bool.false_ne_true) rfl fun _ h => ?_)
          refine ga h (o_pickF rfl rfl Bool.false_ne_true) rfl fun h => ?_
          refine mv h rfl rfl fun h => ?_
          iterate 3 (refine gk h rfl rfl (nb_f Bool.false_ne_true) rfl fun _ h => ?_)
          refine ga h (o_pickF rfl rfl Bool.false_ne_true) rfl fun h => ?_
          refine mv h rfl rfl fun h => ?_
          refine gk h rfl rfl (nb_f Bool.false_ne_true) rfl fun _ h => ?_
          refine gk h rfl rfl (nb_f Bool.false_ne_true) rfl fun _ h => ?_
          refine ga h (o_pickF rfl rfl Bool.false_ne_true) rfl fun h => ?_
          refine mv h rfl rfl fun h => ?_
          refine gk h rfl rfl (nb_f Bool.false_ne_true) rfl fun _ h => ?_
          refine gk h rfl rfl (nb_f Bool.false_ne_true) rfl fun _ h => ?_
          refine ga h (o_pickF rfl rfl Bool.false_ne_true) rfl fun h => ?_
          refine mv h rfl rfl fun h => ?_
          refine gk h rfl rfl (nb_f Bool.false_ne_true) rfl fun _ h => ?_
          refine gk h rfl rfl (nb_f Bool.false_ne_true) rfl fun _ h => ?_
          refine ga h (o_pickF rfl rfl Bool.false_ne_true) rfl fun h => ?_
          refine ga h (o_assign rfl) rfl fun h => ?_
          refine GoR.done ?_
          exact J1 false _ _ (som H).symm (h.wr [10])
        ·have H := ifF c8 H
         iterate 3 (refine gk h rfl rfl (nb_f c8) rfl fun _ h => ?_)
         refine ga h (o_pickF rfl rfl c8) rfl fun h => ?_
         refine mv h rfl rfl fun h => ?_
         iterate 4 (refine gk h rfl rfl (nb_f Bool.false_ne_true) rfl fun _ h => ?_)
         refine ga h (o_pickF rfl rfl Bool.false_ne_true) rfl fun h => ?_
         refine mv h rfl rfl fun h => ?_
         iterate 4 (refine gk h rfl rfl (nb_f Bool.false_ne_true) rfl fun _ h => ?_)
         refine ga h (o_pickF rfl rfl Bool.false_ne_true) rfl fun h => ?_
         refine mv h rfl rfl fun h => ?_
         iterate 4 (refine gk h rfl rfl (nb_f Bool.false_ne_true) rfl fun _ h => ?_)
         refine ga h (o_pickF rfl rfl Bool.false_ne_true) rfl fun h => ?_
         refine mv h rfl rfl fun h => ?_
         iterate 3 (refine gk h rfl rfl (nb_f Bool.false_ne_true) rfl fun _ h => ?_)
         refine ga h (o_pickF rfl rfl Bool.false_ne_true) rfl fun h => ?_
         refine mv h rfl rfl fun h => ?_
         refine gk h rfl rfl (nb_f Bool.false_ne_true) rfl fun _ h => ?_
         refine gk h rfl rfl (nb_f Bool.false_ne_true) rfl fun _ h => ?_
         refine ga h (o_pickF rfl rfl Bool.false_ne_true) rfl fun h => ?_
         refine mv h rfl rfl fun h => ?_
         refine gk h rfl rfl (nb_f Bool.false_ne_true) rfl fun _ h => ?_
         refine gk h rfl rfl (nb_f Bool.false_ne_true) rfl fun _ h => ?_
         refine ga h (o_pickF rfl rfl Bool.false_ne_true) rfl fun h => ?_
         refine mv h rfl rfl fun h => ?_
         refine gk h rfl rfl (nb_f Bool.false_ne_true) rfl fun _ h => ?_
         refine gk h rfl rfl (nb_f Bool.false_ne_true) rfl fun _ h => ?_
         refine ga h (o_pickF rfl rfl Bool.false_ne_true) rfl fun h => ?_
         refine ga h (o_assign rfl) rfl fun h => ?_
         refine GoR.done ?_
         exact J1 false _ _ (som H).symm (h.wr [10])
       ·have H := ifF c7 H
        refine gk h rfl rfl (nb_f c7) rfl fun _ h => ?_
        refine ga h (o_pickF rfl rfl c7) rfl fun h => ?_
        refine mv h rfl rfl fun h => ?_
        iterate 3 (refine gk h rfl rfl (nb_f Bool.false_ne_true) rfl fun _ h => ?_)
        refine ga h (o_pickF rfl rfl Bool.false_ne_true) rfl fun h => ?_
        refine mv h rfl rfl fun h => ?_
        iterate 4 (refine gk h rfl rfl (nb_f Bool.false_ne_true) rfl fun _ h => ?_)
        refine ga h (o_pickF rfl rfl Bool.false_ne_true) rfl fun h => ?_
        refine mv h rfl rfl fun h => ?_
        iterate 4 (refine gk h rfl rfl (nb_f Bool.false_ne_true) rfl fun _ h => ?_)
        refine ga h (o_pickF rfl rfl Bool.false_ne_true) rfl fun h => ?_
        refine mv h rfl rfl fun h => ?_
        iterate 4 (refine gk h rfl rfl (nb_f Bool.false_ne_true) rfl fun _ h => ?_)
        refine ga h (o_pickF rfl rfl Bool.false_ne_true) rfl fun h => ?_
        refine mv h rfl rfl fun h => ?_
        iterate 3 (refine gk h rfl rfl (nb_f Bool.false_ne_true) rfl fun _ h => ?_)
        refine ga h (o_pickF rfl rfl Bool.false_ne_true) rfl fun h => ?_
        refine mv h rfl rfl fun h => ?_
        refine gk h rfl rfl (nb_f Bool.false_ne_true) rfl fun _ h => ?_
        refine gk h rfl rfl (nb_f Bool.false_ne_true) rfl fun _ h => ?_
        refine ga h (o_pickF rfl rfl Bool.false_ne_true) rfl fun h => ?_
        refine mv h rfl rfl fun h => ?_
        refine gk h rfl rfl (nb_f Bool.false_ne_true) rfl fun _ h => ?_
        refine gk h rfl rfl (nb_f Bool.false_ne_true) rfl fun _ h => ?_
        refine ga h (o_pickF rfl rfl Bool.false_ne_true) rfl fun h => ?_
        refine mv h rfl rfl fun h => ?_
        refine gk h rfl rfl (nb_f Bool.false_ne_true) rfl fun _ h => ?_
        refine gk h rfl rfl (nb_f Bool.false_ne_true) rfl fun _ h => ?_
        refine ga h (o_pickF rfl rfl Bool.false_ne_true) rfl fun h => ?_
        refine ga h (o_assign rfl) rfl fun h => ?_
        refine GoR.done ?_
        exact J1 false _ _ (som H).symm (h.wr [10])
      ·have H := ifF c6 H
       refine gk h rfl rfl (nb_f c6) rfl fun _ h => ?_
       refine ga h (o_pickF rfl rfl c6) rfl fun h => ?_
       refine mv h rfl rfl fun h => ?_
       refine gk h rfl rfl (nb_f Bool.false_ne_true) rfl fun _ h => ?_
       refine ga h (o_pickF rfl rfl Bool.false_ne_true) rfl fun h => ?_
       refine mv h rfl rfl fun h => ?_
       iterate 3 (refine gk h rfl rfl (nb_f Bool.false_ne_true) rfl fun _ h => ?_)
       refine ga h (o_pickF rfl rfl Bool.false_ne_true) rfl fun h => ?_
       refine mv h rfl rfl fun h => ?_
       iterate 4 (refine gk h rfl rfl (nb_f Bool.false_ne_true) rfl fun _ h => ?_)
       refine ga h (o_pickF rfl rfl Bool.false_ne_true) rfl fun h => ?_
       refine mv h rfl rfl fun h => ?_
       iterate 4 (refine gk h rfl rfl (nb_f Bool.false_ne_true) rfl fun _ h => ?_)
       refine ga h (o_pickF rfl rfl Bool.false_ne_true) rfl fun h => ?_
       refine mv h rfl rfl fun h => ?_
       iterate 4 (refine gk h rfl rfl (nb_f Bool.false_ne_true) rfl fun _ h => ?_)
       refine ga h (o_pickF rfl rfl Bool.false_ne_true) rfl fun h => ?_
       refine mv h rfl rfl fun h => ?_
       iterate 3 (refine gk h rfl rfl (nb_f Bool.false_ne_true) rfl fun _ h => ?_)
       refine ga h (o_pickF rfl rfl Bool.false_ne_true) rfl fun h => ?_
       refine mv h rfl rfl fun h => ?_
       refine gk h rfl rfl (nb_f Bool.false_ne_true) rfl fun _ h => ?_
       refine gk h rfl rfl (nb_f Bool.false_ne_true) rfl fun _ h => ?_
       refine ga h (o_pickF rfl rfl Bool.false_ne_true) rfl fun h => ?_
       refine mv h rfl rfl fun h => ?_
       refine gk h rfl rfl (nb_f Bool.false_ne_true) rfl fun _ h => ?_
       refine gk h rfl rfl (nb_f Bool.false_ne_true) rfl fun _ h => ?_
       refine ga h (o_pickF rfl rfl Bool.false_ne_true) rfl fun h => ?_
       refine mv h rfl rfl fun h => ?_
       refine gk h rfl rfl (nb_f Bool.false_ne_true) rfl fun _ h => ?_
       refine gk h rfl rfl (nb_f Bool.false_ne_true) rfl fun _ h => ?_
       refine ga h (o_pickF rfl rfl Bool.false_ne_true) rfl fun h => ?_
       refine ga h (o_assign rfl) rfl fun h => ?_
       refine GoR.done ?_
       exact J1 false _ _ (som H).symm (h.wr [10])
     ·have H := ifF c5 H
      refine gk h rfl rfl (nb_f c5) rfl fun _ h => ?_
      refine gk h rfl rfl (nb_f c5) rfl fun _ h => ?_
      refine ga h (o_pickF rfl rfl c5) rfl fun h => ?_
      refine mv h rfl rfl fun h => ?_
      refine gk h rfl rfl (nb_f Bool.false_ne_true) rfl fun _ h => ?_
      refine ga h (o_pickF rfl rfl Bool.false_ne_true) rfl fun h => ?_
      refine mv h rfl rfl fun h => ?_
      refine gk h rfl rfl (nb_f Bool.false_ne_true) rfl fun _ h => ?_
      refine ga h (o_pickF rfl rfl Bool.false_ne_true) rfl fun h => ?_
      refine mv h rfl rfl fun h => ?_
      iterate 3 (refine gk h rfl rfl (nb_f Bool.false_ne_true) rfl fun _ h => ?_)
      refine ga h (o_pickF rfl rfl Bool.false_ne_true) rfl fun h => ?_
      refine mv h rfl rfl fun h => ?_
      iterate 4 (refine gk h rfl rfl (nb_f Bool.false_ne_true) rfl fun _ h => ?_)
      refine ga h (o_pickF rfl rfl Bool.false_ne_true) rfl fun h => ?_
      refine mv h rfl rfl fun h => ?_
      iterate 4 (refine gk h rfl rfl (nb_f Bool.false_ne_true) rfl fun _ h => ?_)
      refine ga h (o_pickF rfl rfl Bool.false_ne_true) rfl fun h => ?_
      refine mv h rfl rfl fun h => ?_
      iterate 4 (refine gk h rfl rfl (nb_f Bool.false_ne_true) rfl fun _ h => ?_)
      refine ga h (o_pickF rfl rfl Bool.false_ne_true) rfl fun h => ?_
      refine mv h rfl rfl fun h => ?_
      iterate 3 (refine gk h rfl rfl (nb_f Bool.false_ne_true) rfl fun _ h => ?_)
      refine ga h (o_pickF rfl rfl Bool.false_ne_true) rfl fun h => ?_
      refine mv h rfl rfl fun h => ?_
      refine gk h rfl rfl (nb_f Bool.false_ne_true) rfl fun _ h => ?_
      refine gk h rfl rfl (nb_f Bool.false_ne_true) rfl fun _ h => ?_
      refine ga h (o_pickF rfl rfl Bool.false_ne_true) rfl fun h => ?_
      refine mv h rfl rfl fun h => ?_
      refine gk h rfl rfl (nb_f Bool.false_ne_true) rfl fun _ h => ?_
      refine gk h rfl rfl (nb_f Bool.false_ne_true) rfl fun _ h => ?_
      refine ga h (o_pickF rfl rfl Bool.false_ne_true) rfl fun h => ?_
      refine mv h rfl rfl fun h => ?_
      refine gk h rfl rfl (nb_f Bool.false_ne_true) rfl fun _ h => ?_
      refine gk h rfl rfl (nb_f Bool.false_ne_true) rfl fun _ h => ?_
      refine ga h (o_pickF rfl rfl Bool.false_ne_true) rfl fun h => ?_
      refine ga h (o_assign rfl) rfl fun h => ?_
      refine GoR.done ?_
      exact J1 false _ _ (som H).symm (h.wr [10])
    ·have H := ifF c4 H
     refine gk h rfl rfl (nb_f c4) rfl fun _ h => ?_
     refine gk h rfl rfl (nb_f c4) rfl fun _ h => ?_
     refine ga h (o_pickF rfl rfl c4) rfl fun h => ?_
     refine mv h rfl rfl fun h => ?_
     refine gk h rfl rfl (nb_f Bool.false_ne_true) rfl fun _ h => ?_
     refine gk h rfl rfl (nb_f Bool.false_ne_true) rfl fun _ h => ?_
     refine ga h (o_pickF rfl rfl Bool.false_ne_true) rfl fun h => ?_
     refine mv h rfl rfl fun h => ?_
     refine gk h rfl rfl (nb_f Bool.false_ne_true) rfl fun _ h => ?_
     refine ga h (o_pickF rfl rfl Bool.false_ne_true) rfl fun h => ?_
     refine mv h rfl rfl fun h => ?_
     refine gk h rfl rfl (nb_f Bool.false_ne_true) rfl fun _ h => ?_
     refine ga h (o_pickF rfl rfl Bool.false_ne_true) rfl fun h => ?_
     refine mv h rfl rfl fun h => ?_
     iterate 3 (refine gk h rfl rfl (nb_f Bool.false_ne_true) rfl fun _ h => ?_)
     refine ga h (o_pickF rfl rfl Bool.false_ne_true) rfl fun h => ?_
     refine mv h rfl rfl fun h => ?_
     iterate 4 (refine gk h rfl rfl (nb_f Bool.false_ne_true) rfl fun _ h => ?_)
     refine ga h (o_pickF rfl rfl Bool.false_ne_true) rfl fun h => ?_
     refine mv h rfl rfl fun h => ?_
     iterate 4 (refine gk h rfl rfl (nb_f Bool.false_ne_true) rfl fun _ h => ?_)
     refine ga h (o_pickF rfl rfl Bool.false_ne_true) rfl fun h => ?_
     refine mv h rfl rfl fun h => ?_
     iterate 4 (refine gk h rfl rfl (nb_f Bool.false_ne_true) rfl fun _ h => ?_)
     refine ga h (o_pickF rfl rfl Bool.false_ne_true) rfl fun h => ?_
     refine mv h rfl rfl fun h => ?_
     iterate 3 (refine gk h rfl rfl (nb_f Bool.false_ne_true) rfl fun _ h => ?_)
     refine ga h (o_pickF rfl rfl Bool.false_ne_true) rfl fun h => ?_
     refine mv h rfl rfl fun h => ?_
     refine gk h rfl rfl (nb_f Bool.false_ne_true) rfl fun _ h => ?_
     refine gk h rfl rfl (nb_f Bool.false_ne_true) rfl fun _ h => ?_
     refine ga h (o_pickF rfl rfl Bool.false_ne_true) rfl fun h => ?_
     refine mv h rfl rfl fun h => ?_
     refine gk h rfl rfl (nb_f Bool.false_ne_true) rfl fun _ h => ?_
     refine gk h rfl rfl (nb_f Bool.false_ne_true) rfl fun _ h => ?_
     refine ga h (o_pickF rfl rfl Bool.false_ne_true) rfl fun h => ?_
     refine mv h rfl rfl fun h => ?_
     refine gk h rfl rfl (nb_f Bool.false_ne_true) rfl fun _ h => ?_
     refine gk h rfl rfl (nb_f Bool.false_ne_true) rfl fun _ h => ?_
     refine ga h (o_pickF rfl rfl Bool.false_ne_true) rfl fun h => ?_
     refine ga h (o_assign rfl) rfl fun h => ?_
     refine GoR.done ?_
     exact J1 false _ _ (som H).symm (h.wr [10])
   ·have H := ifF c3 H
    refine gk h rfl rfl (nb_f c3) rfl fun _ h => ?_
    refine gk h rfl rfl (nb_f c3) rfl fun _ h => ?_
    refine ga h (o_pickF rfl rfl c3) rfl fun h => ?_
    refine mv h rfl rfl fun h => ?_
    refine gk h rfl rfl (nb_f Bool.false_ne_true) rfl fun _ h => ?_
    refine gk h rfl rfl (nb_f Bool.false_ne_true) rfl fun _ h => ?_
    refine ga h (o_pickF rfl rfl Bool.false_ne_true) rfl fun h => ?_
    refine mv h rfl rfl fun h => ?_
    refine gk h rfl rfl (nb_f Bool.false_ne_true) rfl fun _ h => ?_
    refine gk h rfl rfl (nb_f Bool.false_ne_true) rfl fun _ h => ?_
    refine ga h (o_pickF rfl rfl Bool.false_ne_true) rfl fun h => ?_
    refine mv h rfl rfl fun h => ?_
    refine gk h rfl rfl (nb_f Bool.false_ne_true) rfl fun _ h => ?_
    refine ga h (o_pickF rfl rfl Bool.false_ne_true) rfl fun h => ?_
    refine mv h rfl rfl fun h => ?_
    refine gk h rfl rfl (nb_f Bool.false_ne_true) rfl fun _ h => ?_
    refine ga h (o_pickF rfl rfl Bool.false_ne_true) rfl fun h => ?_
    refine mv h rfl rfl fun h => ?_
    iterate 3 (refine gk h rfl rfl (nb_f Bool.false_ne_true) rfl fun _ h => ?_)
    refine ga h (o_pickF rfl rfl Bool.false_ne_true) rfl fun h => ?_
    refine mv h rfl rfl fun h => ?_
    iterate 4 (refine gk h rfl rfl (nb_f Bool.false_ne_true) rfl fun _ h => ?_)
    refine ga h (o_pickF rfl rfl Bool.false_ne_true) rfl fun h => ?_
    refine mv h rfl rfl fun h => ?_
    iterate 4 (refine gk h rfl rfl (nb_f Bool.false_ne_true) rfl fun _ h => ?_)
    refine ga h (o_pickF rfl rfl Bool.false_ne_true) rfl fun h => ?_
    refine mv h rfl rfl fun h => ?_
    iterate 4 (refine gk h rfl rfl (nb_f Bool.false_ne_true) rfl fun _ h => ?_)
    refine ga h (o_pickF rfl rfl Bool.false_ne_true) rfl fun h => ?_
    refine mv h rfl rfl fun h => ?_
    iterate 3 (refine gk h rfl rfl (nb_f Bool.false_ne_true) rfl fun _ h => ?_)
    refine ga h (o_pickF rfl rfl Bool.false_ne_true) rfl fun h => ?_
    refine mv h rfl rfl fun h => ?_
    refine gk h rfl rfl (nb_f Bool.false_ne_true) rfl fun _ h => ?_
    refine gk h rfl rfl (nb_f Bool.false_ne_true) rfl fun _ h => ?_
    refine ga h (o_pickF rfl rfl Bool.false_ne_true) rfl fun h => ?_
    refine mv h rfl rfl fun h => ?_
    refine gk h rfl rfl (nb_f Bool.false_ne_true) rfl fun _ h => ?_
    refine gk h rfl rfl (nb_f Bool.false_ne_true) rfl fun _ h => ?_
    refine ga h (o_pickF rfl rfl Bool.false_ne_true) rfl fun h => ?_
    refine mv h rfl rfl fun h => ?_
    refine gk h rfl rfl (nb_f Bool.false_ne_true) rfl fun _ h => ?_
    refine gk h rfl rfl (nb_f Bool.false_ne_true) rfl fun _ h => ?_
    refine ga h (o_pickF rfl rfl Bool.false_ne_true) rfl fun h => ?_
    refine ga h (o_assign rfl) rfl fun h => ?_
    refine GoR.done ?_
    exact J1 false _ _ (som H).symm (h.wr [10])
  ·have H := ifF c2 H
   refine gk h rfl rfl (nb_f c2) rfl fun _ h => ?_
   refine gk h rfl rfl (nb_f c2) rfl fun _ h => ?_
   refine ga h (o_pickF rfl rfl c2) rfl fun h => ?_
   refine mv h rfl rfl fun h => ?_
   refine gk h rfl rfl (nb_f Bool.false_ne_true) rfl fun _ h => ?_
   refine gk h rfl rfl (nb_f Bool.false_ne_true) rfl fun _ h => ?_
   refine ga h (o_pickF rfl rfl Bool.false_ne_true) rfl fun h => ?_
   refine mv h rfl rfl fun h => ?_
   refine gk h rfl rfl (nb_f Bool.false_ne_true) rfl fun _ h => ?_
   refine gk h rfl rfl (nb_f Bool.false_ne_true) rfl fun _ h => ?_
   refine ga h (o_pickF rfl rfl Bool.false_ne_true) rfl fun h => ?_
   refine mv h rfl rfl fun h => ?_
   refine gk h rfl rfl (nb_f Bool.false_ne_true) rfl fun _ h => ?_
   refine gk h rfl rfl (nb_f Bool.false_ne_true) rfl fun _ h => ?_
   refine ga h (o_pickF rfl rfl Bool.false_ne_true) rfl fun h => ?_
   refine mv h rfl rfl fun h => ?_
   refine gk h rfl rfl (nb_f Bool.false_ne_true) rfl fun _ h => ?_
   refine ga h (o_pickF rfl rfl Bool.false_ne_true) rfl fun h => ?_
   refine mv h rfl rfl fun h => ?_
   refine gk h rfl rfl (nb_f Bool.false_ne_true) rfl fun _ h => ?_
   refine ga h (o_pickF rfl rfl Bool.false_ne_true) rfl fun h => ?_
   refine mv h rfl rfl fun h => ?_
   iterate 3 (refine gk h rfl rfl (nb_f Bool.false_ne_true) rfl fun _ h => ?_)
   refine ga h (o_pickF rfl rfl Bool.false_ne_true) rfl fun h => ?_
   refine mv h rfl rfl fun h => ?_
   iterate 4 (refine gk h rfl rfl (nb_f Bool.false_ne_true) rfl fun _ h => ?_)
   refine ga h (o_pickF rfl rfl Bool.false_ne_true) rfl fun h => ?_
   refine mv h rfl rfl fun h => ?_
   iterate 4 (refine gk h rfl rfl (nb_f Bool.false_ne_true) rfl fun _ h => ?_)
   refine ga h (o_pickF rfl rfl Bool.false_ne_true) rfl fun h => ?_
   refine mv h rfl rfl fun h => ?_
   iterate 4 (refine gk h rfl rfl (nb_f Bool.false_ne_true) rfl fun _ h => ?_)
   refine ga h (o_pickF rfl rfl Bool.false_ne_true) rfl fun h => ?_
   refine mv h rfl rfl fun h => ?_
   iterate 3 (refine gk h rfl rfl (nb_f Bool.false_ne_true) rfl fun _ h => ?_)
   refine ga h (o_pickF rfl rfl Bool.false_ne_true) rfl fun h => ?_
   refine mv h rfl rfl fun h => ?_
   refine gk h rfl rfl (nb_f Bool.false_ne_true) rfl fun _ h => ?_
   refine gk h rfl rfl (nb_f Bool.false_ne_true) rfl fun _ h => ?_
   refine ga h (o_pickF rfl rfl Bool.false_ne_true) rfl fun h => ?_
   refine mv h rfl rfl fun h => ?_
   refine gk h rfl rfl (nb_f Bool.false_ne_true) rfl fun _ h => ?_
   refine gk h rfl rfl (nb_f Bool.false_ne_true) rfl fun _ h => ?_
   refine ga h (o_pickF rfl rfl Bool.false_ne_true) rfl fun h => ?_
   refine mv h rfl rfl fun h => ?_
   refine gk h rfl rfl (nb_f Bool.false_ne_true) rfl fun _ h => ?_
   refine gk h rfl rfl (nb_f Bool.false_ne_true) rfl fun _ h => ?_
   refine ga h (o_pickF rfl rfl Bool.false_ne_true) rfl fun h => ?_
   refine ga h (o_assign rfl) rfl fun h => ?_
   refine GoR.done ?_
   exact J1 false _ _ (som H).symm (h.wr [10])
 ·have H := ifF c1 H
  iterate 3 (refine gk h rfl rfl (nb_f c1) rfl fun _ h => ?_)
  refine ga h (o_pickF rfl rfl c1) rfl fun h => ?_
  refine mv h rfl rfl fun h => ?_
  refine gk h rfl rfl (nb_f Bool.false_ne_true) rfl fun _ h => ?_
  refine gk h rfl rfl (nb_f Bool.false_ne_true) rfl fun _ h => ?_
  refine ga h (o_pickF rfl rfl Bool.false_ne_true) rfl fun h => ?_
  refine mv h rfl rfl fun h => ?_
  refine gk h rfl rfl (nb_f Bool.false_ne_true) rfl fun _ h => ?_
  refine gk h rfl rfl (nb_f Bool.false_ne_true) rfl fun _ h => ?_
  refine ga h (o_pickF rfl rfl Bool.false_ne_true) rfl fun h => ?_
  refine mv h rfl rfl fun h => ?_
  refine gk h rfl rfl (nb_f Bool.false_ne_true) rfl fun _ h => ?_
  refine gk h rfl rfl (nb_f Bool.false_ne_true) rfl fun _ h => ?_
  refine ga h (o_pickF rfl rfl Bool.false_ne_true) rfl fun h => ?_
  refine mv h rfl rfl fun h => ?_
  refine gk h rfl rfl (nb_f Bool.false_ne_true) rfl fun _ h => ?_
  refine gk h rfl rfl (nb_f Bool.false_ne_true) rfl fun _ h => ?_
  refine ga h (o_pickF rfl rfl Bool.false_ne_true) rfl fun h => ?_
  refine mv h rfl rfl fun h => ?_
  refine gk h rfl rfl (nb_f Bool.false_ne_true) rfl fun _ h => ?_
  refine ga h (o_pickF rfl rfl Bool.false_ne_true) rfl fun h => ?_
  refine mv h rfl rfl fun h => ?_
  refine gk h rfl rfl (nb_f Bool.false_ne_true) rfl fun _ h => ?_
  refine ga h (o_pickF rfl rfl Bool.false_ne_true) rfl fun h => ?_
  refine mv h rfl rfl fun h => ?_
  iterate 3 (refine gk h rfl rfl (nb_f Bool.false_ne_true) rfl fun _ h => ?_)
  refine ga h (o_pickF rfl rfl Bool.false_ne_true) rfl fun h => ?_
  refine mv h rfl rfl fun h => ?_
  iterate 4 (refine gk h rfl rfl (nb_f Bool.false_ne_true) rfl fun _ h => ?_)
  refine ga h (o_pickF rfl rfl Bool.false_ne_true) rfl fun h => ?_
  refine mv h rfl rfl fun h => ?_
  iterate 4 (refine gk h rfl rfl (nb_f Bool.false_ne_true) rfl fun _ h => ?_)
  refine ga h (o_pickF rfl rfl Bool.false_ne_true) rfl fun h => ?_
  refine mv h rfl rfl fun h => ?_
  iterate 4 (refine gk h rfl rfl (nb_f Bool.false_ne_true) rfl fun _ h => ?_)
  refine ga h (o_pickF rfl rfl Bool.false_ne_true) rfl fun h => ?_
  refine mv h rfl rfl fun h => ?_
  iterate 3 (refine gk h rfl rfl (nb_f Bool.false_ne_true) rfl fun _ h => ?_)
  refine ga h (o_pickF rfl rfl Bool.false_ne_true) rfl fun h => ?_
  refine mv h rfl rfl fun h => ?_
  refine gk h rfl rfl (nb_f Bool.false_ne_true) rfl fun _ h => ?_
  refine gk h rfl rfl (nb_f Bool.false_ne_true) rfl fun _ h => ?_
  refine ga h (o_pickF rfl rfl Bool.false_ne_true) rfl fun h => ?_
  refine mv h rfl rfl fun h => ?_
  refine gk h rfl rfl (nb_f Bool.false_ne_true) rfl fun _ h => ?_
  refine gk h rfl rfl (nb_f Bool.false_ne_true) rfl fun _ h => ?_
  refine ga h (o_pickF rfl rfl Bool.false_ne_true) rfl fun h => ?_
  refine mv h rfl rfl fun h => ?_
  refine gk h rfl rfl (nb_f Bool.false_ne_true) rfl fun _ h => ?_
  refine gk h rfl rfl (nb_f Bool.false_ne_true) rfl fun _ h => ?_
  refine ga h (o_pickF rfl rfl Bool.false_ne_true) rfl fun h => ?_
  refine ga h (o_assign rfl) rfl fun h => ?_
  refine GoR.done ?_
  exact J1 false _ _ (som H).symm (h.wr [10])
def law21_heads.g (k_ : Nat)  : Option (Bool) :=
  (dns_Ask.g k_ 7 [97, 46, 98, 67, 46] 1).bind fun r1 => (dns_Question.g k_ r1.1).bind fun r2 => (dns_Id.g k_ r1.1).bind fun r3 => (dns_With.g k_ r1.1 258).bind fun r4 => (dns_Fail.g k_ r4 3).bind fun r5 => (cut r1.1 0 (IntKind.i64.wrap (Int.tdiv (r1.1.length : Int) 2))).bind fun x1 => (dns_Question.g k_ x1).bind fun r6 => (dns_Ask.g k_ 0 [97, 46, 46, 98] 1).bind fun r7 => ((if decide (r1.2 = 0) = true then (if decide ((r1.1.length : Int) = 22) = true then (if decide (r2.2.2 = 0) = true then (if decide (r2.1 = [97, 46, 98, 99]) = true then (if decide (r2.2.1 = 1) = true then (if decide (r3.1 = 7) = true then (if r3.2 = true then (if r5.2 = true then (if decide ((r5.1.length : Int) = 22) = true then (idx r5.1 0).bind fun x2 => (if decide (x2 = 1) = true then (idx r5.1 1).bind fun x3 => (if decide (x3 = 2) = true then (idx r5.1 3).bind fun x4 => (if decide (x4 = 131) = true then (dns_Query.g k_ r5.1).bind fun r8 => (if (!r8) = true then (dns_Query.g k_ r1.1).bind fun r9 => (if r9 = true then (if decide (r6.2.2 = 160) = true then lt (decide (r7.2 = 2)) fun y1 => some (y1) else some (false)) else some (false)) else some (false)) else some (false)) else some (false)) else some (false)) else some (false)) else some (false)) else some (false)) else some (false)) else some (false)) else some (false)) else some (false)) else some (false)) else some (false))).bind (fun j1 => some (j1))
theorem law21_heads.le (k_ : Nat)  : Le (law21_heads.g k_ ) (law21_heads.f ) := by
 unfold law21_heads.g law21_heads.f
 repeat' (first | with_reducible refine le_loop fun _ => ?_ | with_reducible refine le_bind ?_ fun _ => ?_ | with_reducible refine le_ite ?_ ?_ | with_reducible refine le_lt fun _ => ?_ | with_reducible refine le_elim (fun _ => ?_) (fun _ => ?_) _ | with_reducible apply dns_Ask.le | with_reducible apply dns_Fail.le | with_reducible apply dns_Id.le | with_reducible apply dns_Query.le | with_reducible apply dns_Question.le | with_reducible apply dns_With.le | with_reducible exact le_refl _)
/-! drawbridge/drawbridgelaw21.small -/
noncomputable def law21_small.f (a1 : List Int) : Option ((List Int)) :=
  (loop (fun s1 => (if decide (s1.2 < (a1.length : Int)) = true then (idx a1 s1.2).bind fun x1 => (((if decide (65 ≤ x1) = true then some (decide (x1 ≤ 90)) else some (false))).bind (fun j1 => (if j1 = true then lt (IntKind.u8.wrap (x1 + 32)) fun y1 => some (y1) else some (x1)))).bind (fun j2 => (app s1.1 ([j2] : List Int)).bind fun x2 => lt (IntKind.i64.wrap (s1.2 + 1)) fun y2 => some (.inl (x2, y2))) else some (.inr (s1.1)))) (([] : List Int), 0)).bind (fun j3 => (((if decide (0 < (j3.length : Int)) = true then (idx j3 (IntKind.i64.wrap ((j3.length : Int) - 1))).bind fun x3 => some (decide (x3 = 46)) else some (false))).bind (fun j4 => (if j4 = true then (cut j3 0 (IntKind.i64.wrap ((j3.length : Int) - 1))).bind fun x4 => some (x4) else some (j3)))).bind (fun j5 => some (j5)))
set_option maxRecDepth 100000 in
set_option maxHeartbeats 4000000 in
theorem law21_small.spc (a1 : List Int) (ha1 : Bs a1) (r : (List Int)) (H : law21_small.f a1 = some r) : Spc Tryd.prog 21 [.string (mkS a1)] [] [] (fun (s : Unit) => .string (mkS r)) (fun s => [Ent.pur (Bs r)]) := by
 unfold law21_small.f at H
 refine Spc.go Tryd.func21 rfl (by kernel_rfl) rfl rfl all_nil fun F a w h => ?_
 refine Go.seq ?_
 refine Go.reg ?_
 refine ga h (o_assign rfl) rfl fun h => ?_
 refine GoR.done ?_
 refine Go.seq ?_
 refine Go.reg ?_
 refine ga h (o_assign rfl) rfl fun h => ?_
 refine GoR.done ?_
 refine Go.seq ?_
 refine Go.seq ?_
 refine Go.reg ?_
 refine ga h (o_assign rfl) rfl fun h => ?_
 refine GoR.done ?_
 refine Go.block ?_
 obtain ⟨o1, hl, G1⟩ := bindE H
 refine g_cut (fun G => ∀ j3 (v4 : Value) (a : Act) (w : World), o1 = j3 → St Tryd.f21.ntmps F [(3, v4)] [Val (Kd.osl (Kd.int .u8)) v4 j3] a w → G a w) 2 ?_ fun J3 => ?_
 ·intro j3 v4 a w ho_ h
  rw [ho_] at G1
  have H := G1
  refine Go.seq ?_
  obtain ⟨o4, H, G4⟩ := bindE H
  refine g_cut (fun G => ∀ j5 (v6 : Value) (a : Act) (w : World), o4 = j5 → St Tryd.f21.ntmps F [(3, v6)] [Val (Kd.sl (Kd.int .u8)) v6 j5] a w → G a w) 1 ?_ fun J5 => ?_
  ·intro j5 v6 a w ho_ h
   rw [ho_] at G4
   have H := G4
   refine Go.seq ?_
   refine Go.reg ?_
   refine mv h rfl rfl fun h => ?_
   have g7 := (rd_bs (rd_at 0 rfl) h.mem)
   refine ga h (o_b2s rfl (rd_at 0 rfl) t_u22 t_u5 t_u9) rfl fun h => ?_
   refine ga h (o_assign rfl) rfl fun h => ?_
   refine GoR.done ?_
   rw [← som H]
   exact g_ret (vs := [.string (mkS j5)]) h Tryd.func21 ⟨rfl, trivial⟩ ⟨(), rfl, ((h.mem.pick [] (by decide) rfl).addpur g7)⟩
  refine Go.seq ?_
  obtain ⟨o5, H, G5⟩ := bindE H
  refine g_cut (fun G => ∀ j4 (a : Act) (w : World), o5 = j4 → St Tryd.f21.ntmps F [(3, v4), (38, .bool j4)] [Val (Kd.osl (Kd.int .u8)) v4 j3] a w → G a w) 1 ?_ fun J4 => ?_
  ·intro j4 a w ho_ h
   rw [ho_] at G5
   have H := G5
   by_cases c5 : j4 = true
   ·have H := ifT c5 H
    refine g_t h rfl c5 ?_
    refine Go.reg ?_
    refine mv h rfl rfl fun h => ?_
    refine mv h rfl rfl fun h => ?_
    have g6 := (len_own 0 rfl h.mem)
    refine ga h (o_ln rfl (rd_own 0 rfl) t_v22) rfl fun h => ?_
    refine ga h (o_bin rfl rfl rfl) rfl fun h => ?_
    replace h := h.mm fun m => m.freeze 0 rfl
    obtain ⟨x4, ex4, H⟩ := bindE H
    refine gs h (o_cuth rfl (pv_at Per_sl 0 rfl) rfl ex4 t_v22) rfl fun v5 _ _ h => ?_
    refine ga h (o_assign rfl) rfl fun h => ?_
    refine GoR.done ?_
    exact J5 x4 v5 _ _ (som H).symm (h.wr [0])
   ·have H := ifF c5 H
    refine g_f h rfl c5 ?_
    refine Go.skip ?_
    replace h := h.mm fun m => m.freeze 0 rfl
    exact J5 j3 v4 _ _ (som H).symm (h.wr [0])
  refine Go.reg ?_
  refine mv h rfl rfl fun h => ?_
  have g3 := (len_own 0 rfl h.mem)
  refine ga h (o_ln rfl (rd_own 0 rfl) t_v22) rfl fun h => ?_
  refine ga h (o_bin rfl rfl rfl) rfl fun h => ?_
  refine mv h rfl rfl fun h => ?_
  by_cases c4 : decide (0 < (j3.length : Int)) = true
  ·have H := ifT c4 H
   refine gg h rfl rfl c4 (o_move rfl) rfl fun _ _ _ h => ?_
   refine gg h rfl rfl c4 (o_move rfl) rfl fun _ _ _ h => ?_
   have g4 := (len_own 0 rfl h.mem)
   refine gg h rfl rfl c4 (o_ln rfl (rd_own 0 rfl) t_v22) rfl fun _ _ _ h => ?_
   refine gg h rfl rfl c4 (o_bin rfl rfl rfl) rfl fun _ _ _ h => ?_
   obtain ⟨x3, ex3, H⟩ := bindE H
   refine gg h rfl rfl c4 (o_ix rfl rfl (rd_own 0 rfl) ex3 t_v22) rfl fun _ _ _ h => ?_
   have g5 := (rd_inr (rd_own 0 rfl) ex3 h.mem)
   refine gg h rfl rfl c4 (o_lex rfl (rd_own 0 rfl) ex3 X_int t_y5 (by decide)) rfl fun _ _ _ h => ?_
   refine gg h rfl rfl c4 (o_bin rfl rfl rfl) rfl fun _ _ _ h => ?_
   refine ga h (o_pickT rfl rfl c4) rfl fun h => ?_
   refine GoR.done ?_
   exact J4 (decide (x3 = 46)) _ _ (som H).symm (h.wr [0])
  ·have H := ifF c4 H
   iterate 7 (refine gk h rfl rfl (nb_f c4) rfl fun _ h => ?_)
   refine ga h (o_pickF rfl rfl c4) rfl fun h => ?_
   refine GoR.done ?_
   exact J4 false _ _ (som H).symm (h.wr [0])
 refine g_loop (fun s1 G => ∀ (v1 : Value) (a : Act) (w : World), InR .i64 s1.2 → St Tryd.f21.ntmps F [(0, .string (mkS a1)), (3, v1), (4, .int .i64 s1.2)] [Val (Kd.osl (Kd.int .u8)) v1 s1.1] a w → G a w) hl (fun s1 p1 H i1 => ?_) fun I_ => ?_
 ·intro v1 a w g1 h
  refine Go.seq ?_
  refine Go.seq ?_
  refine Go.reg ?_
  refine mv h rfl rfl fun h => ?_
  refine mv h rfl rfl fun h => ?_
  refine ga h (o_lens rfl t_u9) rfl fun h => ?_
  refine ga h (o_bin rfl rfl rfl) rfl fun h => ?_
  refine GoR.done ?_
  by_cases c1 : decide (s1.2 < (a1.length : Int)) = true
  ·have H := ifT c1 H
   refine g_t h rfl c1 ?_
   refine Go.skip ?_
   refine Go.seq ?_
   refine Go.block ?_
   refine Go.seq ?_
   refine Go.reg ?_
   refine mv h rfl rfl fun h => ?_
   refine mv h rfl rfl fun h => ?_
   obtain ⟨x1, ex1, H⟩ := bindE H
   refine ga h (o_ixs rfl rfl ha1 ex1 t_u9) rfl fun h => ?_
   refine ga h (o_assign rfl) rfl fun h => ?_
   refine GoR.done ?_
   refine Go.seq ?_
   obtain ⟨o2, H, G2⟩ := bindE H
   refine g_cut (fun G => ∀ j2 (a : Act) (w : World), o2 = j2 → InR .u8 j2 → St Tryd.f21.ntmps F [(0, .string (mkS a1)), (3, v1), (4, .int .i64 s1.2), (5, .int .u8 j2)] [Val (Kd.osl (Kd.int .u8)) v1 s1.1] a w → G a w) 1 ?_ fun J2 => ?_
   ·intro j2 a w ho_ g2 h
    rw [ho_] at G2
    have H := G2
    refine Go.reg ?_
    refine mv h rfl rfl fun h => ?_
    refine mv h rfl rfl fun h => ?_
    refine gs h (o_bs (K := (Kd.int .u8)) (vs := [.int .u8 j2]) (xs := ([j2] : List Int)) rfl rfl (pvs_cons (pv_int g2) pvs_nil) t_a22 (by decide) (by decide)) rfl fun v2 _ _ h => ?_
    obtain ⟨x2, ex2, H⟩ := bindE H
    refine gs h (o_app (K := (Kd.int .u8)) 1 rfl rfl rfl (rd_own 0 rfl) ex2 t_a22 t_n22) rfl fun v3 _ _ h => ?_
    refine ga h (o_assign rfl) rfl fun h => ?_
    refine GoR.done ?_
    refine Go.inBlock ?_
    refine Go.reg ?_
    refine mv h rfl rfl fun h => ?_
    refine ga h (o_bin rfl rfl rfl) rfl fun h => ?_
    obtain ⟨y2, ey2, H⟩ := ltE H
    refine ga h (o_assign' rfl (congrArg (fun z => Value.int .i64 z) ey2)) rfl fun h => ?_
    refine GoR.done ?_
    have e_ := som H; subst e_
    exact Go.inLoop (nx_in i1 v3 _ _ (ey2 ▸ (wrap_in _ _)) (h.wr [1]))
   refine Go.seq ?_
   obtain ⟨o3, H, G3⟩ := bindE H
   refine g_cut (fun G => ∀ j1 (a : Act) (w : World), o3 = j1 → St Tryd.f21.ntmps F [(0, .string (mkS a1)), (3, v1), (4, .int .i64 s1.2), (5, .int .u8 x1), (20, .bool j1)] [Val (Kd.osl (Kd.int .u8)) v1 s1.1] a w → G a w) 1 ?_ fun J1 => ?_
   ·intro j1 a w ho_ h
    rw [ho_] at G3
    have H := G3
    by_cases c3 : j1 = true
    ·have H := ifT c3 H
     refine g_t h rfl c3 ?_
     refine Go.reg ?_
     refine mv h rfl rfl fun h => ?_
     refine ga h (o_bin rfl rfl rfl) rfl fun h => ?_
     obtain ⟨y1, ey1, H⟩ := ltE H
     refine ga h (o_assign' rfl (congrArg (fun z => Value.int .u8 z) ey1)) rfl fun h => ?_
     refine GoR.done ?_
     exact J2 y1 _ _ (som H).symm (ey1 ▸ (wrap_in _ _)) (h.wr [0])
    ·have H := ifF c3 H
     refine g_f h rfl c3 ?_
     refine Go.skip ?_
     exact J2 x1 _ _ (som H).symm (Bs.idx ha1 ex1) (h.wr [0])
   refine Go.reg ?_
   refine mv h rfl rfl fun h => ?_
   refine ga h (o_bin rfl rfl rfl) rfl fun h => ?_
   refine mv h rfl rfl fun h => ?_
   by_cases c2 : decide (65 ≤ x1) = true
   ·have H := ifT c2 H
    refine gg h rfl rfl c2 (o_move rfl) rfl fun _ _ _ h => ?_
    refine gg h rfl rfl c2 (o_bin rfl rfl rfl) rfl fun _ _ _ h => ?_
    refine ga h (o_pickT rfl rfl c2) rfl fun h => ?_
    refine GoR.done ?_
    exact J1 (decide (x1 ≤ 90)) _ _ (som H).symm (h.wr [0])
   ·have H := ifF c2 H
    refine gk h rfl rfl (nb_f c2) rfl fun _ h => ?_
    refine gk h rfl rfl (nb_f c2) rfl fun _ h => ?_
    refine ga h (o_pickF rfl rfl c2) rfl fun h => ?_
    refine GoR.done ?_
    exact J1 false _ _ (som H).symm (h.wr [0])
  ·have H := ifF c1 H
   refine g_f h rfl c1 ?_
   refine Go.exit rfl ?_
   have e_ := som H; subst e_
   exact J3 s1.1 v1 _ _ (nx_out i1).symm (h.wr [0])
 ·replace h := h.mm fun m => m.nilo (Kd.int .u8)
  exact I_ (.slice none 0 0) _ _ (show InR .i64 0 by decide) (h.wr [0])
def law21_small.g (k_ : Nat) (a1 : List Int) : Option ((List Int)) :=
  (loopK k_ (fun s1 => (if decide (s1.2 < (a1.length : Int)) = true then (idx a1 s1.2).bind fun x1 => (((if decide (65 ≤ x1) = true then some (decide (x1 ≤ 90)) else some (false))).bind (fun j1 => (if j1 = true then lt (IntKind.u8.wrap (x1 + 32)) fun y1 => some (y1) else some (x1)))).bind (fun j2 => (app s1.1 ([j2] : List Int)).bind fun x2 => lt (IntKind.i64.wrap (s1.2 + 1)) fun y2 => some (.inl (x2, y2))) else some (.inr (s1.1)))) (([] : List Int), 0)).bind (fun j3 => (((if decide (0 < (j3.length : Int)) = true then (idx j3 (IntKind.i64.wrap ((j3.length : Int) - 1))).bind fun x3 => some (decide (x3 = 46)) else some (false))).bind (fun j4 => (if j4 = true then (cut j3 0 (IntKind.i64.wrap ((j3.length : Int) - 1))).bind fun x4 => some (x4) else some (j3)))).bind (fun j5 => some (j5)))
theorem law21_small.le (k_ : Nat) (a1 : List Int) : Le (law21_small.g k_ a1) (law21_small.f a1) := by
 unfold law21_small.g law21_small.f
 repeat' (first | with_reducible refine le_loop fun _ => ?_ | with_reducible refine le_bind ?_ fun _ => ?_ | with_reducible refine le_ite ?_ ?_ | with_reducible refine le_lt fun _ => ?_ | with_reducible refine le_elim (fun _ => ?_) (fun _ => ?_) _ | with_reducible exact le_refl _)
end Go.Proofs.YtjjceikmimhpnaaDoor.S
