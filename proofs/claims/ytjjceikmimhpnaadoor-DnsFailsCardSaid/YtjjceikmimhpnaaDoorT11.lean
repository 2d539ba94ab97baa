/- Contracts, printed by a program of this session. -/
import Derived.Test.YtjjceikmimhpnaaDoorT9
import Derived.Test.YtjjceikmimhpnaaDoorT10
namespace Go.Proofs.YtjjceikmimhpnaaDoor.S
open Go Go.SL Go.RowKit
set_option linter.unusedVariables false
set_option linter.unusedSimpArgs false
/-! drawbridge/drawbridgelaw21.DnsFails -/
noncomputable def law21_DnsFails.f (a1 : List Int) (a2 : Int) : Option (Bool) :=
  (if decide (2000 < (a1.length : Int)) = true then (law21_heads.f).bind fun r1 => some (r1) else (dns_Fail.f a1 a2).bind fun r2 => (dns_Question.f a1).bind fun r3 => (if (!r2.2) = true then ((if decide ((r2.1.length : Int) = 0) = true then (if (!decide (r3.2.2 = 0)) = true then (law21_heads.f).bind fun r4 => some (r4) else (dns_Query.f a1).bind fun r5 => (if (!r5) = true then (law21_heads.f).bind fun r6 => some (r6) else some (false))) else some (false))).bind (fun j1 => some (j1)) else (dns_Question.f r2.1).bind fun r7 => (dns_Id.f a1).bind fun r8 => (dns_Id.f r2.1).bind fun r9 => ((if decide (r3.2.2 = 0) = true then (if decide (r7.2.2 = 0) = true then (if decide (r3.1 = r7.1) = true then (if decide (r3.2.1 = r7.2.1) = true then (if r9.2 = true then (if decide (r8.1 = r9.1) = true then (dns_Query.f r2.1).bind fun r10 => (if (!r10) = true then (if decide ((r2.1.length : Int) ≤ (a1.length : Int)) = true then (idx r2.1 3).bind fun x1 => (if decide ((Int.tmod x1 16) = (bits .and .i64 a2 15)) = true then (law21_heads.f).bind fun r11 => some (r11) else some (false)) else some (false)) else some (false)) else some (false)) else some (false)) else some (false)) else some (false)) else some (false)) else some (false))).bind (fun j2 => some (j2))))
set_option maxRecDepth 100000 in
set_option maxHeartbeats 4000000 in
theorem law21_DnsFails.spc (v1 : Value) (a1 : List Int) (a2 : Int) (ha2 : InR .i64 a2) (r : Bool) (H : law21_DnsFails.f a1 a2 = some r) : Spc Tryd.prog 6 [v1, .int .i64 a2] [Val (Kd.sl (Kd.int .u8)) v1 a1, Pfl (Kd.eq gv0) 0 0 ()] [] (fun (s : Unit) => .bool r) (fun s => []) := by
 unfold law21_DnsFails.f at H
 refine Spc.go Tryd.func6 rfl (by kernel_rfl) rfl rfl (all_cons (Val.per Per_sl) (all_cons Per_pfl all_nil)) fun F a w h => ?_
 refine Go.seq ?_
 refine Go.reg ?_
 refine ga h (o_assign rfl) rfl fun h => ?_
 refine GoR.done ?_
 refine Go.seq ?_
 refine Go.seq ?_
 refine Go.reg ?_
 refine mv h rfl rfl fun h => ?_
 have g1 := (len_at 0 rfl h.mem)
 refine ga h (o_ln rfl (rd_at 0 rfl) t_v22) rfl fun h => ?_
 refine ga h (o_bin rfl rfl rfl) rfl fun h => ?_
 refine GoR.done ?_
 by_cases c1 : decide (2000 < (a1.length : Int)) = true
 ·have H := ifT c1 H
  refine g_t h rfl c1 ?_
  refine Go.seq ?_
  refine Go.reg ?_
  obtain ⟨r1, er1, H⟩ := bindE H
  refine ga h (o_call (law21_heads.spc  r1 er1) rfl [1] [] (by decide) rfl rfl) rfl fun h => ?_
  refine ga h (o_assign rfl) rfl fun h => ?_
  refine GoR.done ?_
  rw [← som H]
  exact g_ret (vs := [.bool r1]) h Tryd.func6 ⟨rfl, trivial⟩ ⟨(), rfl, (h.mem.pick [] (by decide) rfl)⟩
 ·have H := ifF c1 H
  refine g_f h rfl c1 ?_
  refine Go.skip ?_
  refine Go.seq ?_
  refine Go.reg ?_
  refine mv h rfl rfl fun h => ?_
  refine mv h rfl rfl fun h => ?_
  obtain ⟨r2, er2, H⟩ := bindE H
  refine gs h (o_call (dns_Fail.spc v1 a1 a2 ha2 r2 er2) rfl [0] [] (by decide) rfl rfl) rfl fun v2 _ _ h => ?_
  refine mv h rfl rfl fun h => ?_
  refine ga h (o_extract rfl rfl) rfl fun h => ?_
  refine ga h (o_extract rfl rfl) rfl fun h => ?_
  refine ga h (o_assign rfl) rfl fun h => ?_
  refine ga h (o_assign rfl) rfl fun h => ?_
  refine GoR.done ?_
  refine Go.seq ?_
  refine Go.reg ?_
  refine mv h rfl rfl fun h => ?_
  obtain ⟨r3, er3, H⟩ := bindE H
  refine ga h (o_call (dns_Question.spc v1 a1 r3 er3) rfl [1, 2] [] (by decide) rfl rfl) rfl fun h => ?_
  have g2 := h.mem.pur 0 rfl
  refine mv h rfl rfl fun h => ?_
  iterate 3 (refine ga h (o_extract rfl rfl) rfl fun h => ?_)
  iterate 3 (refine ga h (o_assign rfl) rfl fun h => ?_)
  refine GoR.done ?_
  refine Go.seq ?_
  refine Go.seq ?_
  refine Go.reg ?_
  refine mv h rfl rfl fun h => ?_
  refine ga h (o_not rfl) rfl fun h => ?_
  refine GoR.done ?_
  by_cases c2 : (!r2.2) = true
  ·have H := ifT c2 H
   refine g_t h rfl c2 ?_
   refine Go.seq ?_
   obtain ⟨o1, H, G1⟩ := bindE H
   refine g_cut (fun G => ∀ j1 (a : Act) (w : World), o1 = j1 → St Tryd.f6.ntmps F [(4, .bool j1)] [Pfl (Kd.eq gv0) 0 0 ()] a w → G a w) 1 ?_ fun J1 => ?_
   ·intro j1 a w ho_ h
    rw [ho_] at G1
    have H := G1
    rw [← som H]
    exact g_ret (vs := [.bool j1]) h Tryd.func6 ⟨rfl, trivial⟩ ⟨(), rfl, (h.mem.pick [] (by decide) rfl)⟩
   refine Go.reg ?_
   refine mv h rfl rfl fun h => ?_
   have g3 := (len_own 1 rfl h.mem)
   refine ga h (o_ln rfl (rd_own 1 rfl) t_v22) rfl fun h => ?_
   refine ga h (o_bin rfl rfl rfl) rfl fun h => ?_
   refine mv h rfl rfl fun h => ?_
   by_cases c3 : decide ((r2.1.length : Int) = 0) = true
   ·have H := ifT c3 H
    refine gg h rfl rfl c3 (o_move rfl) rfl fun _ _ _ h => ?_
    refine gg h rfl rfl c3 (o_bin rfl rfl rfl) rfl fun _ _ _ h => ?_
    refine gg h rfl rfl c3 (o_move rfl) rfl fun _ _ _ h => ?_
    by_cases c4 : (!decide (r3.2.2 = 0)) = true
    ·have H := ifT c4 H
     iterate 3 (refine gk h rfl rfl (nb_t c4) rfl fun _ h => ?_)
     refine gg h rfl rfl c3 (o_pickT rfl rfl c4) rfl fun _ _ _ h => ?_
     refine ga h (o_pickT rfl rfl c3) rfl fun h => ?_
     refine mv h rfl rfl fun h => ?_
     obtain ⟨r4, er4, H⟩ := bindE H
     refine gg h rfl rfl rfl (o_call (law21_heads.spc  r4 er4) rfl [3] [] (by decide) rfl rfl) rfl fun _ _ _ h => ?_
     refine ga h (o_pickT rfl rfl rfl) rfl fun h => ?_
     refine ga h (o_assign rfl) rfl fun h => ?_
     refine GoR.done ?_
     exact J1 r4 _ _ (som H).symm (h.wr [3])
    ·have H := ifF c4 H
     refine gg h rfl rfl (nbF c4) (o_move rfl) rfl fun _ _ _ h => ?_
     obtain ⟨r5, er5, H⟩ := bindE H
     refine gg h rfl rfl (nbF c4) (o_call (dns_Query.spc v1 a1 r5 er5) rfl [2] [] (by decide) rfl rfl) rfl fun _ _ _ h => ?_
     refine gg h rfl rfl (nbF c4) (o_not rfl) rfl fun _ _ _ h => ?_
     refine gg h rfl rfl c3 (o_pickF rfl rfl c4) rfl fun _ _ _ h => ?_
     refine ga h (o_pickT rfl rfl c3) rfl fun h => ?_
     refine mv h rfl rfl fun h => ?_
     by_cases c5 : (!r5) = true
     ·have H := ifT c5 H
      obtain ⟨r6, er6, H⟩ := bindE H
      refine gg h rfl rfl c5 (o_call (law21_heads.spc  r6 er6) rfl [3] [] (by decide) rfl rfl) rfl fun _ _ _ h => ?_
      refine ga h (o_pickT rfl rfl c5) rfl fun h => ?_
      refine ga h (o_assign rfl) rfl fun h => ?_
      refine GoR.done ?_
      exact J1 r6 _ _ (som H).symm (h.wr [3])
     ·have H := ifF c5 H
      refine gk h rfl rfl (nb_f c5) rfl fun _ h => ?_
      refine ga h (o_pickF rfl rfl c5) rfl fun h => ?_
      refine ga h (o_assign rfl) rfl fun h => ?_
      refine GoR.done ?_
      exact J1 false _ _ (som H).symm (h.wr [3])
   ·have H := ifF c3 H
    iterate 3 (refine gk h rfl rfl (nb_f c3) rfl fun _ h => ?_)
    iterate 3 (refine gk h rfl rfl rfl rfl fun _ h => ?_)
    refine gk h rfl rfl (nb_f c3) rfl fun _ h => ?_
    refine ga h (o_pickF rfl rfl c3) rfl fun h => ?_
    refine mv h rfl rfl fun h => ?_
    refine gk h rfl rfl (nb_f Bool.false_ne_true) rfl fun _ h => ?_
    refine ga h (o_pickF rfl rfl Bool.false_ne_true) rfl fun h => ?_
    refine ga h (o_assign rfl) rfl fun h => ?_
    refine GoR.done ?_
    exact J1 false _ _ (som H).symm (h.wr [3])
  ·have H := ifF c2 H
   refine g_f h rfl c2 ?_
   refine Go.skip ?_
   refine Go.seq ?_
   refine Go.reg ?_
   refine mv h rfl rfl fun h => ?_
   obtain ⟨r7, er7, H⟩ := bindE H
   refine ga h (OpS.lend (Lp := [Val (Kd.sl (Kd.int .u8)) v2 r2.1, Pfl (Kd.eq gv0) 0 0 ()]) (lent_cons (lent_own 1 rfl) (lent_cons (lent_per Per_pfl 3 rfl) lent_nil)) (o_call (dns_Question.spc v2 r2.1 r7 er7) rfl [0, 1] [] (by decide) rfl rfl) (fun _ => (clo_cons cl_pur clo_nil))) rfl fun h => ?_
   have g4 := h.mem.pur 0 rfl
   refine mv h rfl rfl fun h => ?_
   iterate 3 (refine ga h (o_extract rfl rfl) rfl fun h => ?_)
   iterate 3 (refine ga h (o_assign rfl) rfl fun h => ?_)
   refine GoR.done ?_
   refine Go.seq ?_
   refine Go.reg ?_
   refine mv h rfl rfl fun h => ?_
   obtain ⟨r8, er8, H⟩ := bindE H
   refine ga h (o_call (dns_Id.spc v1 a1 r8 er8) rfl [3] [] (by decide) rfl rfl) rfl fun h => ?_
   have g5 := h.mem.pur 0 rfl
   refine mv h rfl rfl fun h => ?_
   refine ga h (o_extract rfl rfl) rfl fun h => ?_
   refine ga h (o_extract rfl rfl) rfl fun h => ?_
   refine ga h (o_assign rfl) rfl fun h => ?_
   refine ga h (o_assign rfl) rfl fun h => ?_
   refine GoR.done ?_
   refine Go.seq ?_
   refine Go.reg ?_
   refine mv h rfl rfl fun h => ?_
   obtain ⟨r9, er9, H⟩ := bindE H
   refine ga h (OpS.lend (Lp := [Val (Kd.sl (Kd.int .u8)) v2 r2.1]) (lent_cons (lent_own 3 rfl) lent_nil) (o_call (dns_Id.spc v2 r2.1 r9 er9) rfl [0] [] (by decide) rfl rfl) (fun _ => (clo_cons cl_pur clo_nil))) rfl fun h => ?_
   have g6 := h.mem.pur 0 rfl
   refine mv h rfl rfl fun h => ?_
   refine ga h (o_extract rfl rfl) rfl fun h => ?_
   refine ga h (o_extract rfl rfl) rfl fun h => ?_
   refine ga h (o_assign rfl) rfl fun h => ?_
   refine ga h (o_assign rfl) rfl fun h => ?_
   refine GoR.done ?_
   refine Go.seq ?_
   obtain ⟨o2, H, G2⟩ := bindE H
   refine g_cut (fun G => ∀ j2 (a : Act) (w : World), o2 = j2 → St Tryd.f6.ntmps F [(4, .bool j2)] [Pfl (Kd.eq gv0) 0 0 ()] a w → G a w) 1 ?_ fun J2 => ?_
   ·intro j2 a w ho_ h
    rw [ho_] at G2
    have H := G2
    rw [← som H]
    exact g_ret (vs := [.bool j2]) h Tryd.func6 ⟨rfl, trivial⟩ ⟨(), rfl, (h.mem.pick [] (by decide) rfl)⟩
   refine Go.reg ?_
   refine mv h rfl rfl fun h => ?_
   refine ga h (o_bin rfl rfl rfl) rfl fun h => ?_
   refine mv h rfl rfl fun h => ?_
   by_cases c6 : decide (r3.2.2 = 0) = true
   ·have H := ifT c6 H
    refine gg h rfl rfl c6 (o_move rfl) rfl fun _ _ _ h => ?_
    refine gg h rfl rfl c6 (o_bin rfl rfl rfl) rfl fun _ _ _ h => ?_
    refine ga h (o_pickT rfl rfl c6) rfl fun h => ?_
    refine mv h rfl rfl fun h => ?_
    by_cases c7 : decide (r7.2.2 = 0) = true
    ·have H := ifT c7 H
     refine gg h rfl rfl c7 (o_move rfl) rfl fun _ _ _ h => ?_
     refine gg h rfl rfl c7 (o_move rfl) rfl fun _ _ _ h => ?_
     refine gg h rfl rfl c7 (o_eqs rfl rfl g2.1 g4.1) rfl fun _ _ _ h => ?_
     refine ga h (o_pickT rfl rfl c7) rfl fun h => ?_
     refine mv h rfl rfl fun h => ?_
     by_cases c8 : decide (r3.1 = r7.1) = true
     ·have H := ifT c8 H
      refine gg h rfl rfl c8 (o_move rfl) rfl fun _ _ _ h => ?_
      refine gg h rfl rfl c8 (o_move rfl) rfl fun _ _ _ h => ?_
      refine gg h rfl rfl c8 (o_bin rfl rfl rfl) rfl fun _ _ _ h => ?_
      refine ga h (o_pickT rfl rfl c8) rfl fun h => ?_
      refine mv h rfl rfl fun h => ?_
      by_cases c9 : decide (r3.2.1 = r7.2.1) = true
      ·have H := ifT c9 H
       refine gg h rfl rfl c9 (o_move rfl) rfl fun _ _ _ h => ?_
       refine ga h (o_pickT rfl rfl c9) rfl fun h => ?_
       refine mv h rfl rfl fun h => ?_
       by_cases c10 : r9.2 = true
       ·have H := ifT c10 H
        refine gg h rfl rfl c10 (o_move rfl) rfl fun _ _ _ h => ?_
        refine gg h rfl rfl c10 (o_move rfl) rfl fun _ _ _ h => ?_
        refine gg h rfl rfl c10 (o_bin rfl rfl rfl) rfl fun _ _ _ h => ?_
        refine ga h (o_pickT rfl rfl c10) rfl fun h => ?_
        refine mv h rfl rfl fun h => ?_
        by_cases c11 : decide (r8.1 = r9.1) = true
        ·have H := ifT c11 H
         refine gg h rfl rfl c11 (o_move rfl) rfl fun _ _ _ h => ?_
         obtain ⟨r10, er10, H⟩ := bindE H
         refine gg h rfl rfl c11 (OpS.lend (Lp := [Val (Kd.sl (Kd.int .u8)) v2 r2.1]) (lent_cons (lent_own 4 rfl) lent_nil) (o_call (dns_Query.spc v2 r2.1 r10 er10) rfl [0] [] (by decide) rfl rfl) (fun _ => clo_nil)) rfl fun _ _ _ h => ?_
         refine gg h rfl rfl c11 (o_not rfl) rfl fun _ _ _ h => ?_
         refine ga h (o_pickT rfl rfl c11) rfl fun h => ?_
         refine mv h rfl rfl fun h => ?_
         by_cases c12 : (!r10) = true
         ·have H := ifT c12 H
          refine gg h rfl rfl c12 (o_move rfl) rfl fun _ _ _ h => ?_
          have g7 := (len_own 4 rfl h.mem)
          refine gg h rfl rfl c12 (o_ln rfl (rd_own 4 rfl) t_v22) rfl fun _ _ _ h => ?_
          refine gg h rfl rfl c12 (o_move rfl) rfl fun _ _ _ h => ?_
          have g8 := (len_at 5 rfl h.mem)
          refine gg h rfl rfl c12 (o_ln rfl (rd_at 5 rfl) t_v22) rfl fun _ _ _ h => ?_
          refine gg h rfl rfl c12 (o_bin rfl rfl rfl) rfl fun _ _ _ h => ?_
          refine ga h (o_pickT rfl rfl c12) rfl fun h => ?_
          refine mv h rfl rfl fun h => ?_
          by_cases c13 : decide ((r2.1.length : Int) ≤ (a1.length : Int)) = true
          ·have H := ifT c13 H
           refine gg h rfl rfl c13 (o_move rfl) rfl fun _ _ _ h => ?_
           obtain ⟨x1, ex1, H⟩ := bindE H
           refine gg h rfl rfl c13 (o_ix rfl rfl (rd_own 4 rfl) ex1 t_v22) rfl fun _ _ _ h => ?_
           have g9 := (rd_inr (rd_own 4 rfl) ex1 h.mem)
           refine gg h rfl rfl c13 (o_lex rfl (rd_own 4 rfl) ex1 X_int t_y5 (by decide)) rfl fun _ _ _ h => ?_
           refine gg h rfl rfl c13 (o_rem rfl rfl (show (16 : Int) ≠ 0 by decide)) rfl fun _ _ _ h => ?_
           refine gg h rfl rfl c13 (o_convw rfl t_q5 t_u3 (inr_rem g9) rfl) rfl fun _ _ _ h => ?_
           refine gg h rfl rfl c13 (o_move rfl) rfl fun _ _ _ h => ?_
           refine gg h rfl rfl c13 (o_bin rfl rfl rfl) rfl fun _ _ _ h => ?_
           refine gg h rfl rfl c13 (o_bin rfl rfl rfl) rfl fun _ _ _ h => ?_
           refine ga h (o_pickT rfl rfl c13) rfl fun h => ?_
           refine mv h rfl rfl fun h => ?_
           by_cases c14 : decide ((Int.tmod x1 16) = (bits .and .i64 a2 15)) = true
           ·have H := ifT c14 H
            obtain ⟨r11, er11, H⟩ := bindE H
            refine gg h rfl rfl c14 (o_call (law21_heads.spc  r11 er11) rfl [6] [] (by decide) rfl rfl) rfl fun _ _ _ h => ?_
            refine ga h (o_pickT rfl rfl c14) rfl fun h => ?_
            refine ga h (o_assign rfl) rfl fun h => ?_
            refine GoR.done ?_
            exact J2 r11 _ _ (som H).symm (h.wr [6])
           ·have H := ifF c14 H
            refine gk h rfl rfl (nb_f c14) rfl fun _ h => ?_
            refine ga h (o_pickF rfl rfl c14) rfl fun h => ?_
            refine ga h (o_assign rfl) rfl fun h => ?_
            refine GoR.done ?_
            exact J2 false _ _ (som H).symm (h.wr [6])
          ·have H := ifF c13 H
           iterate 8 (refine gk h rfl rfl (nb_f c13) rfl fun _ h => ?_)
           refine ga h (o_pickF rfl rfl c13) rfl fun h => ?_
           refine mv h rfl rfl fun h => ?_
           refine gk h rfl rfl (nb_f Bool.false_ne_true) rfl fun _ h => ?_
           refine ga h (o_pickF rfl rfl Bool.false_ne_true) rfl fun h => ?_
           refine ga h (o_assign rfl) rfl fun h => ?_
           refine GoR.done ?_
           exact J2 false _ _ (som H).symm (h.wr [6])
         ·have H := ifF c12 H
          iterate 5 (refine gk h rfl rfl (nb_f c12) rfl fun _ h => ?_)
          refine ga h (o_pickF rfl rfl c12) rfl fun h => ?_
          refine mv h rfl rfl fun h => ?_
          iterate 8 (refine gk h rfl rfl (nb_f Bool.false_ne_true) rfl fun _ h => ?_)
          refine ga h (o_pickF rfl rfl Bool.false_ne_true) rfl fun h => ?_
          refine mv h rfl rfl fun h => ?_
          refine gk h rfl rfl (nb_f Bool.false_ne_true) rfl fun _ h => ?_
          refine ga h (o_pickF rfl rfl Bool.false_ne_true) rfl fun h => ?_
          refine ga h (o_assign rfl) rfl fun h => ?_
          refine GoR.done ?_
          exact J2 false _ _ (som H).symm (h.wr [6])
        ·have H := ifF c11 H
         iterate 3 (refine gk h rfl rfl (nb_f c11) rfl fun _ h => ?_)
         refine ga h (o_pickF rfl rfl c11) rfl fun h => ?_
         refine mv h rfl rfl fun h => ?_
         iterate 5 (refine gk h rfl rfl (nb_f Bool.false_ne_true) rfl fun _ h => ?_)
         refine ga h (o_pickF rfl rfl Bool.false_ne_true) rfl fun h => ?_
         refine mv h rfl rfl fun h => ?_
         iterate 8 (refine gk h rfl rfl (nb_f Bool.false_ne_true) rfl fun _ h => ?_)
         refine ga h (o_pickF rfl rfl Bool.false_ne_true) rfl fun h => ?_
         refine mv h rfl rfl fun h => ?_
         refine gk h rfl rfl (nb_f Bool.false_ne_true) rfl fun _ h => ?_
         refine ga h (o_pickF rfl rfl Bool.false_ne_true) rfl fun h => ?_
         refine ga h (o_assign rfl) rfl fun h => ?_
         refine GoR.done ?_
         exact J2 false _ _ (som H).symm (h.wr [6])
       ·have H := ifF c10 H
        iterate 3 (refine gk h rfl rfl (nb_f c10) rfl fun _ h => ?_)
        refine ga h (o_pickF rfl rfl c10) rfl fun h => ?_
        refine mv h rfl rfl fun h => ?_
        iterate 3 (refine gk h rfl rfl (nb_f Bool.false_ne_true) rfl fun _ h => ?_)
        refine ga h (o_pickF rfl rfl Bool.false_ne_true) rfl fun h => ?_
        refine mv h rfl rfl fun h => ?_
        iterate 5 (refine gk h rfl rfl (nb_f Bool.false_ne_true) rfl fun _ h => ?_)
        refine ga h (o_pickF rfl rfl Bool.false_ne_true) rfl fun h => ?_
        refine mv h rfl rfl fun h => ?_
        iterate 8 (refine gk h rfl rfl (nb_f Bool.false_ne_true) rfl fun _ h => ?_)
        refine ga h (o_pickF rfl rfl Bool.false_ne_true) rfl fun h => ?_
        refine mv h rfl rfl fun h => ?_
        refine gk h rfl rfl (nb_f Bool.false_ne_true) rfl fun _ h => ?_
        refine ga h (o_pickF rfl rfl Bool.false_ne_true) rfl fun h => ?_
        refine ga h (o_assign rfl) rfl fun h => ?_
        refine GoR.done ?_
        exact J2 false _ _ (som H).symm (h.wr [6])
      ·have H := ifF c9 H
       refine gk h rfl rfl (nb_f c9) rfl fun _ h => ?_
       refine ga h (o_pickF rfl rfl c9) rfl fun h => ?_
       refine mv h rfl rfl fun h => ?_
       iterate 3 (refine gk h rfl rfl (nb_f Bool.false_ne_true) rfl fun _ h => ?_)
       refine ga h (o_pickF rfl rfl Bool.false_ne_true) rfl fun h => ?_
       refine mv h rfl rfl fun h => ?_
       iterate 3 (refine gk h rfl rfl (nb_f Bool.false_ne_true) rfl fun _ h => ?_)
       refine ga h (o_pickF rfl rfl Bool.false_ne_true) rfl fun h => ?_
       refine mv h rfl rfl fun h => ?_
       iterate 5 (refine gk h rfl rfl (nb_f Bool.false_ne_true) rfl fun _ h => ?_)
       refine ga h (o_pickF rfl rfl Bool.false_ne_true) rfl fun h => ?_
       refine mv h rfl rfl fun h => ?_
       iterate 8 (refine gk h rfl rfl (nb_f Bool.false_ne_true) rfl fun _ h => ?_)
       refine ga h (o_pickF rfl rfl Bool.false_ne_true) rfl fun h => ?_
       refine mv h rfl rfl fun h => ?_
       refine gk h rfl rfl (nb_f Bool.false_ne_true) rfl fun _ h => ?_
       refine ga h (o_pickF rfl rfl Bool.false_ne_true) rfl fun h => ?_
       refine ga h (o_assign rfl) rfl fun h => ?_
       refine GoR.done ?_
       exact J2 false _ _ (som H).symm (h.wr [6])
     ·have H := ifF c8 H
      iterate 3 (refine gk h rfl rfl (nb_f c8) rfl fun _ h => ?_)
      refine ga h (o_pickF rfl rfl c8) rfl fun h => ?_
      refine mv h rfl rfl fun h => ?_
      refine gk h rfl rfl (nb_f Bool.false_ne_true) rfl fun _ h => ?_
      refine ga h (o_pickF rfl rfl Bool.false_ne_true) rfl fun h => ?_
      refine mv h rfl rfl fun h => ?_
      iterate 3 (refine gk h rfl rfl (nb_f Bool.false_ne_true) rfl fun _ h => ?_)
      refine ga h (o_pickF rfl rfl Bool.false_ne_true) rfl fun h => ?_
      refine mv h rfl rfl fun h => ?_
      iterate 3 (refine gk h rfl rfl (nb_f Bool.false_ne_true) rfl fun _ h => ?_)
      refine ga h (o_pickF rfl rfl Bool.false_ne_true) rfl fun h => ?_
      refine mv h rfl rfl fun h => ?_
      iterate 5 (refine gk h rfl rfl (nb_f Bool.false_ne_true) rfl fun _ h => ?_)
      refine ga h (o_pickF rfl rfl Bool.false_ne_true) rfl fun h => ?_
      refine mv h rfl rfl fun h => ?_
      iterate 8 (refine gk h rfl rfl (nb_f Bool.false_ne_true) rfl fun _ h => ?_)
      refine ga h (o_pickF rfl rfl Bool.false_ne_true) rfl fun h => ?_
      refine mv h rfl rfl fun h => ?_
      refine gk h rfl rfl (nb_f Bool.false_ne_true) rfl fun _ h => ?_
      refine ga h (o_pickF rfl rfl Bool.false_ne_true) rfl fun h => ?_
      refine ga h (o_assign rfl) rfl fun h => ?_
      refine GoR.done ?_
      exact J2 false _ _ (som H).symm (h.wr [6])
    ·have H := ifF c7 H
     iterate 3 (refine gk h rfl rfl (nb_f c7) rfl fun _ h => ?_)
     refine ga h (o_pickF rfl rfl c7) rfl fun h => ?_
     refine mv h rfl rfl fun h => ?_
     iterate 3 (refine gk h rfl rfl (nb_f Bool.false_ne_true) rfl fun _ h => ?_)
     refine ga h (o_pickF rfl rfl Bool.false_ne_true) rfl fun h => ?_
     refine mv h rfl rfl fun h => ?_
     refine gk h rfl rfl (nb_f Bool.false_ne_true) rfl fun _ h => ?_
     refine ga h (o_pickF rfl rfl Bool.false_ne_true) rfl fun h => ?_
     refine mv h rfl rfl fun h => ?_
     iterate 3 (refine gk h rfl rfl (nb_f Bool.false_ne_true) rfl fun _ h => ?_)
     refine ga h (o_pickF rfl rfl Bool.false_ne_true) rfl fun h => ?_
     refine mv h rfl rfl fun h => ?_
     iterate 3 (refine gk h rfl rfl (nb_f Bool.false_ne_true) rfl fun _ h => ?_)
     refine ga h (o_pickF rfl rfl Bool.false_ne_true) rfl fun h => ?_
     refine mv h rfl rfl fun h => ?_
     iterate 5 (refine gk h rfl rfl (nb_f Bool.false_ne_true) rfl fun _ h => ?_)
     refine ga h (o_pickF rfl rfl Bool.false_ne_true) rfl fun h => ?_
     refine mv h rfl rfl fun h => ?_
     iterate 8 (refine gk h rfl rfl (nb_f Bool.false_ne_true) rfl fun _ h => ?_)
     refine ga h (o_pickF rfl rfl Bool.false_ne_true) rfl fun h => ?_
     refine mv h rfl rfl fun h => ?_
     refine gk h rfl rfl (nb_f Bool.false_ne_true) rfl fun _ h => ?_
     refine ga h (o_pickF rfl rfl Bool.false_ne_true) rfl fun h => ?_
     refine ga h (o_assign rfl) rfl fun h => ?_
     refine GoR.done ?_
     exact J2 false _ _ (som H).symm (h.wr [6])
   ·have H := ifF c6 H
    refine gk h rfl rfl (nb_f c6) rfl fun _ h => ?_
    refine gk h rfl rfl (nb_f c6) rfl fun _ h => ?_
    refine ga h (o_pickF rfl rfl c6) rfl fun h => ?_
    refine mv h rfl rfl fun h => ?_
    iterate 3 (refine gk h rfl rfl (nb_f Bool.false_ne_true) rfl fun _ h => ?_)
    refine ga h (o_pickF rfl rfl Bool.false_ne_true) rfl fun h => ?_
    refine mv h rfl rfl fun h => ?_
    iterate 3 (refine gk h rfl rfl (nb_f Bool.false_ne_true) rfl fun _ h => ?_)
    refine ga h (o_pickF rfl rfl Bool.false_ne_true) rfl fun h => ?_
    refine mv h rfl rfl fun h => ?_
    refine gk h rfl rfl (nb_f Bool.false_ne_true) rfl fun _ h => ?_
    refine ga h (o_pickF rfl rfl Bool.false_ne_true) rfl fun h => ?_
    refine mv h rfl rfl fun h => ?_
    iterate 3 (refine gk h rfl rfl (nb_f Bool.false_ne_true) rfl fun _ h => ?_)
    refine ga h (o_pickF rfl rfl Bool.false_ne_true) rfl fun h => ?_
    refine mv h rfl rfl fun h => ?_
    iterate 3 (refine gk h rfl rfl (nb_f Bool.false_ne_true) rfl fun _ h => ?_)
    refine ga h (o_pickF rfl rfl Bool.false_ne_true) rfl fun h => ?_
    refine mv h rfl rfl fun h => ?_
    iterate 5 (refine gk h rfl rfl (nb_f Bool.false_ne_true) rfl fun _ h => ?_)
    refine ga h (o_pickF rfl rfl Bool.false_ne_true) rfl fun h => ?_
    refine mv h rfl rfl fun h => ?_
    iterate 8 (refine gk h rfl rfl (nb_f Bool.false_ne_true) rfl fun _ h => ?_)
    refine ga h (o_pickF rfl rfl Bool.false_ne_true) rfl fun h => ?_
    refine mv h rfl rfl fun h => ?_
    refine gk h rfl rfl (nb_f Bool.false_ne_true) rfl fun _ h => ?_
    refine ga h (o_pickF rfl rfl Bool.false_ne_true) rfl fun h => ?_
    refine ga h (o_assign rfl) rfl fun h => ?_
    refine GoR.done ?_
    exact J2 false _ _ (som H).symm (h.wr [6])
def law21_DnsFails.g (k_ : Nat) (a1 : List Int) (a2 : Int) : Option (Bool) :=
  (if decide (2000 < (a1.length : Int)) = true then (law21_heads.g k_).bind fun r1 => some (r1) else (dns_Fail.g k_ a1 a2).bind fun r2 => (dns_Question.g k_ a1).bind fun r3 => (if (!r2.2) = true then ((if decide ((r2.1.length : Int) = 0) = true then (if (!decide (r3.2.2 = 0)) = true then (law21_heads.g k_).bind fun r4 => some (r4) else (dns_Query.g k_ a1).bind fun r5 => (if (!r5) = true then (law21_heads.g k_).bind fun r6 => some (r6) else some (false))) else some (false))).bind (fun j1 => some (j1)) else (dns_Question.g k_ r2.1).bind fun r7 => (dns_Id.g k_ a1).bind fun r8 => (dns_Id.g k_ r2.1).bind fun r9 => ((if decide (r3.2.2 = 0) = true then (if decide (r7.2.2 = 0) = true then (if decide (r3.1 = r7.1) = true then (if decide (r3.2.1 = r7.2.1) = true then (if r9.2 = true then (if decide (r8.1 = r9.1) = true then (dns_Query.g k_ r2.1).bind fun r10 => (if (!r10) = true then (if decide ((r2.1.length : Int) ≤ (a1.length : Int)) = true then (idx r2.1 3).bind fun x1 => (if decide ((Int.tmod x1 16) = (bits .and .i64 a2 15)) = true then (law21_heads.g k_).bind fun r11 => some (r11) else some (false)) else some (false)) else some (false)) else some (false)) else some (false)) else some (false)) else some (false)) else some (false)) else some (false))).bind (fun j2 => some (j2))))
theorem law21_DnsFails.le (k_ : Nat) (a1 : List Int) (a2 : Int) : Le (law21_DnsFails.g k_ a1 a2) (law21_DnsFails.f a1 a2) := by
 unfold law21_DnsFails.g law21_DnsFails.f
 repeat' (first | with_reducible refine le_loop fun _ => ?_ | with_reducible refine le_bind ?_ fun _ => ?_ | with_reducible refine le_ite ?_ ?_ | with_reducible refine le_lt fun _ => ?_ | with_reducible refine le_elim (fun _ => ?_) (fun _ => ?_) _ | with_reducible apply dns_Fail.le | with_reducible apply dns_Id.le | with_reducible apply dns_Query.le | with_reducible apply dns_Question.le | with_reducible apply law21_heads.le | with_reducible exact le_refl _)
/-! drawbridge/drawbridgeref01.Get -/
noncomputable def ref01_Get.f (a1 : List Int) (a2 : Bool) : Option (Int) :=
  lt (min (a1.length : Int) 8) fun y1 => (loop (fun s1 => (if decide (s1.2 < y1) = true then (((if a2 = true then (idx a1 s1.2).bind fun x1 => lt (IntKind.u64.wrap ((IntKind.u64.wrap (s1.1 * 256)) + x1)) fun y2 => some (y2) else (idx a1 (IntKind.i64.wrap ((IntKind.i64.wrap (y1 - 1)) - s1.2))).bind fun x2 => lt (IntKind.u64.wrap ((IntKind.u64.wrap (s1.1 * 256)) + x2)) fun y3 => some (y3))).bind (fun j1 => some (j1))).bind (fun j2 => lt (IntKind.i64.wrap (s1.2 + 1)) fun y4 => some (.inl (j2, y4))) else some (.inr (s1.1)))) (0, 0)).bind (fun j3 => some (j3))
set_option maxRecDepth 100000 in
set_option maxHeartbeats 4000000 in
theorem ref01_Get.spc (v1 : Value) (a1 : List Int) (a2 : Bool) (r : Int) (H : ref01_Get.f a1 a2 = some r) : Spc Tryd.prog 51 [v1, .bool a2] [Val (Kd.sl (Kd.int .u8)) v1 a1] [] (fun (s : Unit) => .int .u64 r) (fun s => [Ent.pur (InR .u64 r)]) := by
 unfold ref01_Get.f at H
 refine Spc.go Tryd.func51 rfl (by kernel_rfl) rfl rfl (all_cons (Val.per Per_sl) all_nil) fun F a w h => ?_
 refine Go.seq ?_
 refine Go.reg ?_
 refine ga h (o_assign rfl) rfl fun h => ?_
 refine GoR.done ?_
 refine Go.seq ?_
 refine Go.reg ?_
 refine ga h (o_assign rfl) rfl fun h => ?_
 refine GoR.done ?_
 refine Go.seq ?_
 refine Go.reg ?_
 refine mv h rfl rfl fun h => ?_
 have g1 := (len_at 0 rfl h.mem)
 refine ga h (o_ln rfl (rd_at 0 rfl) t_v22) rfl fun h => ?_
 refine ga h (o_min rfl rfl) rfl fun h => ?_
 obtain ⟨y1, ey1, H⟩ := ltE H
 refine ga h (o_assign' rfl (congrArg (fun z => Value.int .i64 z) ey1)) rfl fun h => ?_
 refine GoR.done ?_
 refine Go.seq ?_
 refine Go.seq ?_
 refine Go.reg ?_
 refine ga h (o_assign rfl) rfl fun h => ?_
 refine GoR.done ?_
 refine Go.block ?_
 obtain ⟨o1, hl, G1⟩ := bindE H
 refine g_cut (fun G => ∀ j3 (a : Act) (w : World), o1 = j3 → InR .u64 j3 → St Tryd.f51.ntmps F [(5, .int .u64 j3)] [] a w → G a w) 2 ?_ fun J3 => ?_
 ·intro j3 a w ho_ g8 h
  rw [ho_] at G1
  have H := G1
  refine Go.seq ?_
  refine Go.reg ?_
  refine mv h rfl rfl fun h => ?_
  refine ga h (o_assign rfl) rfl fun h => ?_
  refine GoR.done ?_
  rw [← som H]
  exact g_ret (vs := [.int .u64 j3]) h Tryd.func51 ⟨rfl, trivial⟩ ⟨(), rfl, ((h.mem.pick [] (by decide) rfl).addpur g8)⟩
 refine g_loop (fun s1 G => ∀  (a : Act) (w : World), InR .u64 s1.1 → InR .i64 s1.2 → St Tryd.f51.ntmps F [(0, v1), (1, .bool a2), (5, .int .u64 s1.1), (6, .int .i64 y1), (7, .int .i64 s1.2)] [Val (Kd.sl (Kd.int .u8)) v1 a1] a w → G a w) hl (fun s1 p1 H i1 => ?_) fun I_ => ?_
 ·intro  a w g2 g3 h
  refine Go.seq ?_
  refine Go.seq ?_
  refine Go.reg ?_
  refine mv h rfl rfl fun h => ?_
  refine mv h rfl rfl fun h => ?_
  refine ga h (o_bin rfl rfl rfl) rfl fun h => ?_
  refine GoR.done ?_
  by_cases c1 : decide (s1.2 < y1) = true
  ·have H := ifT c1 H
   refine g_t h rfl c1 ?_
   refine Go.skip ?_
   refine Go.seq ?_
   obtain ⟨o2, H, G2⟩ := bindE H
   refine g_cut (fun G => ∀ j2 (a : Act) (w : World), o2 = j2 → InR .u64 j2 → St Tryd.f51.ntmps F [(0, v1), (1, .bool a2), (5, .int .u64 j2), (6, .int .i64 y1), (7, .int .i64 s1.2)] [Val (Kd.sl (Kd.int .u8)) v1 a1] a w → G a w) 1 ?_ fun J2 => ?_
   ·intro j2 a w ho_ g7 h
    rw [ho_] at G2
    have H := G2
    refine Go.reg ?_
    refine mv h rfl rfl fun h => ?_
    refine ga h (o_bin rfl rfl rfl) rfl fun h => ?_
    obtain ⟨y4, ey4, H⟩ := ltE H
    refine ga h (o_assign' rfl (congrArg (fun z => Value.int .i64 z) ey4)) rfl fun h => ?_
    refine GoR.done ?_
    have e_ := som H; subst e_
    exact Go.inLoop (nx_in i1 _ _ g7 (ey4 ▸ (wrap_in _ _)) (h.wr [0]))
   refine Go.block ?_
   obtain ⟨o3, H, G3⟩ := bindE H
   refine g_cut (fun G => ∀ j1 (a : Act) (w : World), o3 = j1 → InR .u64 j1 → St Tryd.f51.ntmps F [(0, v1), (1, .bool a2), (5, .int .u64 j1), (6, .int .i64 y1), (7, .int .i64 s1.2)] [Val (Kd.sl (Kd.int .u8)) v1 a1] a w → G a w) 2 ?_ fun J1 => ?_
   ·intro j1 a w ho_ g6 h
    rw [ho_] at G3
    have H := G3
    exact J2 j1 _ _ (som H).symm g6 (h.wr [0])
   refine Go.seq ?_
   refine Go.reg ?_
   refine mv h rfl rfl fun h => ?_
   refine GoR.done ?_
   by_cases c2 : a2 = true
   ·have H := ifT c2 H
    refine g_t h rfl c2 ?_
    refine Go.reg ?_
    refine mv h rfl rfl fun h => ?_
    refine ga h (o_bin rfl rfl rfl) rfl fun h => ?_
    refine mv h rfl rfl fun h => ?_
    refine mv h rfl rfl fun h => ?_
    obtain ⟨x1, ex1, H⟩ := bindE H
    refine ga h (o_ix rfl rfl (rd_at 0 rfl) ex1 t_v22) rfl fun h => ?_
    have g4 := (rd_inr (rd_at 0 rfl) ex1 h.mem)
    refine ga h (o_lex rfl (rd_at 0 rfl) ex1 X_int t_y5 (by decide)) rfl fun h => ?_
    refine ga h (o_convw rfl t_q5 t_u87 g4 rfl) rfl fun h => ?_
    refine ga h (o_bin rfl rfl rfl) rfl fun h => ?_
    obtain ⟨y2, ey2, H⟩ := ltE H
    refine ga h (o_assign' rfl (congrArg (fun z => Value.int .u64 z) ey2)) rfl fun h => ?_
    refine GoR.done ?_
    refine Go.inBlock ?_
    exact J1 y2 _ _ (som H).symm (ey2 ▸ (wrap_in _ _)) (h.wr [0])
   ·have H := ifF c2 H
    refine g_f h rfl c2 ?_
    refine Go.reg ?_
    refine mv h rfl rfl fun h => ?_
    refine ga h (o_bin rfl rfl rfl) rfl fun h => ?_
    refine mv h rfl rfl fun h => ?_
    refine mv h rfl rfl fun h => ?_
    refine ga h (o_bin rfl rfl rfl) rfl fun h => ?_
    refine mv h rfl rfl fun h => ?_
    refine ga h (o_bin rfl rfl rfl) rfl fun h => ?_
    obtain ⟨x2, ex2, H⟩ := bindE H
    refine ga h (o_ix rfl rfl (rd_at 0 rfl) ex2 t_v22) rfl fun h => ?_
    have g5 := (rd_inr (rd_at 0 rfl) ex2 h.mem)
    refine ga h (o_lex rfl (rd_at 0 rfl) ex2 X_int t_y5 (by decide)) rfl fun h => ?_
    refine ga h (o_convw rfl t_q5 t_u87 g5 rfl) rfl fun h => ?_
    refine ga h (o_bin rfl rfl rfl) rfl fun h => ?_
    obtain ⟨y3, ey3, H⟩ := ltE H
    refine ga h (o_assign' rfl (congrArg (fun z => Value.int .u64 z) ey3)) rfl fun h => ?_
    refine GoR.done ?_
    refine Go.inBlock ?_
    exact J1 y3 _ _ (som H).symm (ey3 ▸ (wrap_in _ _)) (h.wr [0])
  ·have H := ifF c1 H
   refine g_f h rfl c1 ?_
   refine Go.exit rfl ?_
   have e_ := som H; subst e_
   exact J3 s1.1 _ _ (nx_out i1).symm g2 (h.wr [])
 ·exact I_ _ _ (show InR .u64 0 by decide) (show InR .i64 0 by decide) (h.wr [0])
def ref01_Get.g (k_ : Nat) (a1 : List Int) (a2 : Bool) : Option (Int) :=
  lt (min (a1.length : Int) 8) fun y1 => (loopK k_ (fun s1 => (if decide (s1.2 < y1) = true then (((if a2 = true then (idx a1 s1.2).bind fun x1 => lt (IntKind.u64.wrap ((IntKind.u64.wrap (s1.1 * 256)) + x1)) fun y2 => some (y2) else (idx a1 (IntKind.i64.wrap ((IntKind.i64.wrap (y1 - 1)) - s1.2))).bind fun x2 => lt (IntKind.u64.wrap ((IntKind.u64.wrap (s1.1 * 256)) + x2)) fun y3 => some (y3))).bind (fun j1 => some (j1))).bind (fun j2 => lt (IntKind.i64.wrap (s1.2 + 1)) fun y4 => some (.inl (j2, y4))) else some (.inr (s1.1)))) (0, 0)).bind (fun j3 => some (j3))
theorem ref01_Get.le (k_ : Nat) (a1 : List Int) (a2 : Bool) : Le (ref01_Get.g k_ a1 a2) (ref01_Get.f a1 a2) := by
 unfold ref01_Get.g ref01_Get.f
 repeat' (first | with_reducible refine le_loop fun _ => ?_ | with_reducible refine le_bind ?_ fun _ => ?_ | with_reducible refine le_ite ?_ ?_ | with_reducible refine le_lt fun _ => ?_ | with_reducible refine le_elim (fun _ => ?_) (fun _ => ?_) _ | with_reducible exact le_refl _)
/-! drawbridge/drawbridgeref21.number -/
noncomputable def ref21_number.f (a1 : List Int) : Option (Int) :=
  (ref01_Get.f a1 true).bind fun r1 => lt (IntKind.i64.wrap r1) fun y1 => some (y1)
set_option maxRecDepth 100000 in
set_option maxHeartbeats 4000000 in
theorem ref21_number.spc (v1 : Value) (a1 : List Int) (r : Int) (H : ref21_number.f a1 = some r) : Spc Tryd.prog 32 [v1] [Val (Kd.sl (Kd.int .u8)) v1 a1] [] (fun (s : Unit) => .int .i64 r) (fun s => [Ent.pur (InR .i64 r)]) := by
 unfold ref21_number.f at H
 refine Spc.go Tryd.func32 rfl (by kernel_rfl) rfl rfl (all_cons (Val.per Per_sl) all_nil) fun F a w h => ?_
 refine Go.seq ?_
 refine Go.reg ?_
 refine ga h (o_assign rfl) rfl fun h => ?_
 refine GoR.done ?_
 refine Go.seq ?_
 refine Go.reg ?_
 refine mv h rfl rfl fun h => ?_
 obtain ⟨r1, er1, H⟩ := bindE H
 refine ga h (o_call (ref01_Get.spc v1 a1 true r1 er1) rfl [0] [] (by decide) rfl rfl) rfl fun h => ?_
 have g1 := h.mem.pur 0 rfl
 refine ga h (o_conv rfl t_q87 t_u3) rfl fun h => ?_
 obtain ⟨y1, ey1, H⟩ := ltE H
 refine ga h (o_assign' rfl (congrArg (fun z => Value.int .i64 z) ey1)) rfl fun h => ?_
 refine GoR.done ?_
 rw [← som H]
 exact g_ret (vs := [.int .i64 y1]) h Tryd.func32 ⟨rfl, trivial⟩ ⟨(), rfl, ((h.mem.pick [] (by decide) rfl).addpur (ey1 ▸ (wrap_in _ _)))⟩
def ref21_number.g (k_ : Nat) (a1 : List Int) : Option (Int) :=
  (ref01_Get.g k_ a1 true).bind fun r1 => lt (IntKind.i64.wrap r1) fun y1 => some (y1)
theorem ref21_number.le (k_ : Nat) (a1 : List Int) : Le (ref21_number.g k_ a1) (ref21_number.f a1) := by
 unfold ref21_number.g ref21_number.f
 repeat' (first | with_reducible refine le_loop fun _ => ?_ | with_reducible refine le_bind ?_ fun _ => ?_ | with_reducible refine le_ite ?_ ?_ | with_reducible refine le_lt fun _ => ?_ | with_reducible refine le_elim (fun _ => ?_) (fun _ => ?_) _ | with_reducible apply ref01_Get.le | with_reducible exact le_refl _)
/-! drawbridge/drawbridgeref21.letter -/
noncomputable def ref21_letter.f (a1 : Int) : Option (Int × Bool) :=
  ((if decide (65 ≤ a1) = true then some (decide (a1 ≤ 90)) else some (false))).bind (fun j1 => (if j1 = true then lt (IntKind.u8.wrap (a1 + 32)) fun y1 => some ((y1, true)) else ((if decide (97 ≤ a1) = true then (if decide (a1 ≤ 122) = true then some ((a1, true)) else (if decide (48 ≤ a1) = true then (if decide (a1 ≤ 57) = true then some ((a1, true)) else (if decide (a1 = 45) = true then some ((a1, true)) else lt (decide (a1 = 95)) fun y2 => some ((a1, y2)))) else (if decide (a1 = 45) = true then some ((a1, true)) else lt (decide (a1 = 95)) fun y3 => some ((a1, y3))))) else (if decide (48 ≤ a1) = true then (if decide (a1 ≤ 57) = true then some ((a1, true)) else (if decide (a1 = 45) = true then some ((a1, true)) else lt (decide (a1 = 95)) fun y4 => some ((a1, y4)))) else (if decide (a1 = 45) = true then some ((a1, true)) else lt (decide (a1 = 95)) fun y5 => some ((a1, y5)))))).bind (fun j2 => some ((j2.1, j2.2)))))
set_option maxRecDepth 100000 in
set_option maxHeartbeats 4000000 in
theorem ref21_letter.spc (a1 : Int) (ha1 : InR .u8 a1) (r : Int × Bool) (H : ref21_letter.f a1 = some r) : Spc Tryd.prog 48 [.int .u8 a1] [] [] (fun (s : Unit) => .tuple #[.int .u8 r.1, .bool r.2]) (fun s => [Ent.pur (InR .u8 r.1)]) := by
 unfold ref21_letter.f at H
 refine Spc.go Tryd.func48 rfl (by kernel_rfl) rfl rfl all_nil fun F a w h => ?_
 refine Go.seq ?_
 refine Go.reg ?_
 refine ga h (o_assign rfl) rfl fun h => ?_
 refine ga h (o_assign rfl) rfl fun h => ?_
 refine GoR.done ?_
 refine Go.seq ?_
 refine Go.seq ?_
 obtain ⟨o1, H, G1⟩ := bindE H
 refine g_cut (fun G => ∀ j1 (a : Act) (w : World), o1 = j1 → St Tryd.f48.ntmps F [(0, .int .u8 a1), (9, .bool j1)] [] a w → G a w) 1 ?_ fun J1 => ?_
 ·intro j1 a w ho_ h
  rw [ho_] at G1
  have H := G1
  by_cases c2 : j1 = true
  ·have H := ifT c2 H
   refine g_t h rfl c2 ?_
   refine Go.seq ?_
   refine Go.reg ?_
   refine mv h rfl rfl fun h => ?_
   refine ga h (o_bin rfl rfl rfl) rfl fun h => ?_
   obtain ⟨y1, ey1, H⟩ := ltE H
   refine ga h (o_assign' rfl (congrArg (fun z => Value.int .u8 z) ey1)) rfl fun h => ?_
   refine ga h (o_assign rfl) rfl fun h => ?_
   refine GoR.done ?_
   rw [← som H]
   exact g_ret (vs := [.int .u8 y1, .bool true]) h Tryd.func48 ⟨rfl, ⟨rfl, trivial⟩⟩ ⟨(), rfl, ((h.mem.pick [] (by decide) rfl).addpur (ey1 ▸ (wrap_in _ _)))⟩
  ·have H := ifF c2 H
   refine g_f h rfl c2 ?_
   refine Go.skip ?_
   refine Go.seq ?_
   obtain ⟨o2, H, G2⟩ := bindE H
   refine g_cut (fun G => ∀ j2 (a : Act) (w : World), o2 = j2 → InR .u8 j2.1 → St Tryd.f48.ntmps F [(2, .int .u8 j2.1), (3, .bool j2.2)] [] a w → G a w) 1 ?_ fun J2 => ?_
   ·intro j2 a w ho_ g1 h
    rw [ho_] at G2
    have H := G2
    rw [← som H]
    exact g_ret (vs := [.int .u8 j2.1, .bool j2.2]) h Tryd.func48 ⟨rfl, ⟨rfl, trivial⟩⟩ ⟨(), rfl, ((h.mem.pick [] (by decide) rfl).addpur g1)⟩
   refine Go.reg ?_
   refine mv h rfl rfl fun h => ?_
   refine mv h rfl rfl fun h => ?_
   refine ga h (o_bin rfl rfl rfl) rfl fun h => ?_
   refine mv h rfl rfl fun h => ?_
   by_cases c3 : decide (97 ≤ a1) = true
   ·have H := ifT c3 H
    refine gg h rfl rfl c3 (o_move rfl) rfl fun _ _ _ h => ?_
    refine gg h rfl rfl c3 (o_bin rfl rfl rfl) rfl fun _ _ _ h => ?_
    refine ga h (o_pickT rfl rfl c3) rfl fun h => ?_
    refine mv h rfl rfl fun h => ?_
    by_cases c4 : decide (a1 ≤ 122) = true
    ·have H := ifT c4 H
     iterate 3 (refine gk h rfl rfl (nb_t c4) rfl fun _ h => ?_)
     refine gk h rfl rfl rfl rfl fun _ h => ?_
     refine gk h rfl rfl rfl rfl fun _ h => ?_
     refine gk h rfl rfl (nb_t c4) rfl fun _ h => ?_
     refine ga h (o_pickT rfl rfl c4) rfl fun h => ?_
     refine mv h rfl rfl fun h => ?_
     refine gk h rfl rfl (nb_t rfl) rfl fun _ h => ?_
     refine gk h rfl rfl (nb_t rfl) rfl fun _ h => ?_
     refine ga h (o_pickT rfl rfl rfl) rfl fun h => ?_
     refine mv h rfl rfl fun h => ?_
     refine gk h rfl rfl (nb_t rfl) rfl fun _ h => ?_
     refine gk h rfl rfl (nb_t rfl) rfl fun _ h => ?_
     refine ga h (o_pickT rfl rfl rfl) rfl fun h => ?_
     refine ga h (o_assign rfl) rfl fun h => ?_
     refine ga h (o_assign rfl) rfl fun h => ?_
     refine GoR.done ?_
     exact J2 (a1, true) _ _ (som H).symm ha1 (h.wr [])
    ·have H := ifF c4 H
     refine gg h rfl rfl (nbF c4) (o_move rfl) rfl fun _ _ _ h => ?_
     refine gg h rfl rfl (nbF c4) (o_bin rfl rfl rfl) rfl fun _ _ _ h => ?_
     refine gg h rfl rfl (nbF c4) (o_move rfl) rfl fun _ _ _ h => ?_
     by_cases c5 : decide (48 ≤ a1) = true
     ·have H := ifT c5 H
      refine gg h rfl rfl c5 (o_move rfl) rfl fun _ _ _ h => ?_
      refine gg h rfl rfl c5 (o_bin rfl rfl rfl) rfl fun _ _ _ h => ?_
      refine gg h rfl rfl (nbF c4) (o_pickT rfl rfl c5) rfl fun _ _ _ h => ?_
      refine ga h (o_pickF rfl rfl c4) rfl fun h => ?_
      refine mv h rfl rfl fun h => ?_
      by_cases c6 : decide (a1 ≤ 57) = true
      ·have H := ifT c6 H
       refine gk h rfl rfl (nb_t c6) rfl fun _ h => ?_
       refine gk h rfl rfl (nb_t c6) rfl fun _ h => ?_
       refine ga h (o_pickT rfl rfl c6) rfl fun h => ?_
       refine mv h rfl rfl fun h => ?_
       refine gk h rfl rfl (nb_t rfl) rfl fun _ h => ?_
       refine gk h rfl rfl (nb_t rfl) rfl fun _ h => ?_
       refine ga h (o_pickT rfl rfl rfl) rfl fun h => ?_
       refine ga h (o_assign rfl) rfl fun h => ?_
       refine ga h (o_assign rfl) rfl fun h => ?_
       refine GoR.done ?_
       exact J2 (a1, true) _ _ (som H).symm ha1 (h.wr [])
      ·have H := ifF c6 H
       refine gg h rfl rfl (nbF c6) (o_move rfl) rfl fun _ _ _ h => ?_
       refine gg h rfl rfl (nbF c6) (o_bin rfl rfl rfl) rfl fun _ _ _ h => ?_
       refine ga h (o_pickF rfl rfl c6) rfl fun h => ?_
       refine mv h rfl rfl fun h => ?_
       by_cases c7 : decide (a1 = 45) = true
       ·have H := ifT c7 H
        refine gk h rfl rfl (nb_t c7) rfl fun _ h => ?_
        refine gk h rfl rfl (nb_t c7) rfl fun _ h => ?_
        refine ga h (o_pickT rfl rfl c7) rfl fun h => ?_
        refine ga h (o_assign rfl) rfl fun h => ?_
        refine ga h (o_assign rfl) rfl fun h => ?_
        refine GoR.done ?_
        exact J2 (a1, true) _ _ (som H).symm ha1 (h.wr [])
       ·have H := ifF c7 H
        refine gg h rfl rfl (nbF c7) (o_move rfl) rfl fun _ _ _ h => ?_
        refine gg h rfl rfl (nbF c7) (o_bin rfl rfl rfl) rfl fun _ _ _ h => ?_
        refine ga h (o_pickF rfl rfl c7) rfl fun h => ?_
        refine ga h (o_assign rfl) rfl fun h => ?_
        obtain ⟨y2, ey2, H⟩ := ltE H
        refine ga h (o_assign' rfl (congrArg Value.bool ey2)) rfl fun h => ?_
        refine GoR.done ?_
        exact J2 (a1, y2) _ _ (som H).symm ha1 (h.wr [])
     ·have H := ifF c5 H
      refine gk h rfl rfl (nb_f c5) rfl fun _ h => ?_
      refine gk h rfl rfl (nb_f c5) rfl fun _ h => ?_
      refine gg h rfl rfl (nbF c4) (o_pickF rfl rfl c5) rfl fun _ _ _ h => ?_
      refine ga h (o_pickF rfl rfl c4) rfl fun h => ?_
      refine mv h rfl rfl fun h => ?_
      refine gg h rfl rfl (nbF Bool.false_ne_true) (o_move rfl) rfl fun _ _ _ h => ?_
      refine gg h rfl rfl (nbF Bool.false_ne_true) (o_bin rfl rfl rfl) rfl fun _ _ _ h => ?_
      refine ga h (o_pickF rfl rfl Bool.false_ne_true) rfl fun h => ?_
      refine mv h rfl rfl fun h => ?_
      by_cases c8 : decide (a1 = 45) = true
      ·have H := ifT c8 H
       refine gk h rfl rfl (nb_t c8) rfl fun _ h => ?_
       refine gk h rfl rfl (nb_t c8) rfl fun _ h => ?_
       refine ga h (o_pickT rfl rfl c8) rfl fun h => ?_
       refine ga h (o_assign rfl) rfl fun h => ?_
       refine ga h (o_assign rfl) rfl fun h => ?_
       refine GoR.done ?_
       exact J2 (a1, true) _ _ (som H).symm ha1 (h.wr [])
      ·have H := ifF c8 H
       refine gg h rfl rfl (nbF c8) (o_move rfl) rfl fun _ _ _ h => ?_
       refine gg h rfl rfl (nbF c8) (o_bin rfl rfl rfl) rfl fun _ _ _ h => ?_
       refine ga h (o_pickF rfl rfl c8) rfl fun h => ?_
       refine ga h (o_assign rfl) rfl fun h => ?_
       obtain ⟨y3, ey3, H⟩ := ltE H
       refine ga h (o_assign' rfl (congrArg Value.bool ey3)) rfl fun h => ?_
       refine GoR.done ?_
       exact J2 (a1, y3) _ _ (som H).symm ha1 (h.wr [])
   ·have H := ifF c3 H
    refine gk h rfl rfl (nb_f c3) rfl fun _ h => ?_
    refine gk h rfl rfl (nb_f c3) rfl fun _ h => ?_
    refine ga h (o_pickF rfl rfl c3) rfl fun h => ?_
    refine mv h rfl rfl fun h => ?_
    refine gg h rfl rfl (nbF Bool.false_ne_true) (o_move rfl) rfl fun _ _ _ h => ?_
    refine gg h rfl rfl (nbF Bool.false_ne_true) (o_bin rfl rfl rfl) rfl fun _ _ _ h => ?_
    refine gg h rfl rfl (nbF Bool.false_ne_true) (o_move rfl) rfl fun _ _ _ h => ?_
    by_cases c9 : decide (48 ≤ a1) = true
    ·have H := ifT c9 H
     refine gg h rfl rfl c9 (o_move rfl) rfl fun _ _ _ h => ?_
     refine gg h rfl rfl c9 (o_bin rfl rfl rfl) rfl fun _ _ _ h => ?_
     refine gg h rfl rfl (nbF Bool.false_ne_true) (o_pickT rfl rfl c9) rfl fun _ _ _ h => ?_
     refine ga h (o_pickF rfl rfl Bool.false_ne_true) rfl fun h => ?_
     refine mv h rfl rfl fun h => ?_
     by_cases c10 : decide (a1 ≤ 57) = true
     ·have H := ifT c10 H
      refine gk h rfl rfl (nb_t c10) rfl fun _ h => ?_
      refine gk h rfl rfl (nb_t c10) rfl fun _ h => ?_
      refine ga h (o_pickT rfl rfl c10) rfl fun h => ?_
      refine mv h rfl rfl fun h => ?_
      refine gk h rfl rfl (nb_t rfl) rfl fun _ h => ?_
      refine gk h rfl rfl (nb_t rfl) rfl fun _ h => ?_
      refine ga h (o_pickT rfl rfl rfl) rfl fun h => ?_
      refine ga h (o_assign rfl) rfl fun h => ?_
      refine ga h (o_assign rfl) rfl fun h => ?_
      refine GoR.done ?_
      exact J2 (a1, true) _ _ (som H).symm ha1 (h.wr [])
     ·have H := ifF c10 H
      refine gg h rfl rfl (nbF c10) (o_move rfl) rfl fun _ _ _ h => ?_
      refine gg h rfl rfl (nbF c10) (o_bin rfl rfl rfl) rfl fun _ _ _ h => ?_
      refine ga h (o_pickF rfl rfl c10) rfl fun h => ?_
      refine mv h rfl rfl fun h => ?_
      by_cases c11 : decide (a1 = 45) = true
      ·have H := ifT c11 H
       refine gk h rfl rfl (nb_t c11) rfl fun _ h => ?_
       refine gk h rfl rfl (nb_t c11) rfl fun _ h => ?_
       refine ga h (o_pickT rfl rfl c11) rfl fun h => ?_
       refine ga h (o_assign rfl) rfl fun h => ?_
       refine ga h (o_assign rfl) rfl fun h => ?_
       refine GoR.done ?_
       exact J2 (a1, true) _ _ (som H).symm ha1 (h.wr [])
      ·have H := ifF c11 H
       refine gg h rfl rfl (nbF c11) (o_move rfl) rfl fun _ _ _ h => ?_
       refine gg h rfl rfl (nbF c11) (o_bin rfl rfl rfl) rfl fun _ _ _ h => ?_
       refine ga h (o_pickF rfl rfl c11) rfl fun h => ?_
       refine ga h (o_assign rfl) rfl fun h => ?_
       obtain ⟨y4, ey4, H⟩ := ltE H
       refine ga h (o_assign' rfl (congrArg Value.bool ey4)) rfl fun h => ?_
       refine GoR.done ?_
       exact J2 (a1, y4) _ _ (som H).symm ha1 (h.wr [])
    ·have H := ifF c9 H
     refine gk h rfl rfl (nb_f c9) rfl fun _ h => ?_
     refine gk h rfl rfl (nb_f c9) rfl fun _ h => ?_
     refine gg h rfl rfl (nbF Bool.false_ne_true) (o_pickF rfl rfl c9) rfl fun _ _ _ h => ?_
     refine ga h (o_pickF rfl rfl Bool.false_ne_true) rfl fun h => ?_
     refine mv h rfl rfl fun h => ?_
     refine gg h rfl rfl (nbF Bool.false_ne_true) (o_move rfl) rfl fun _ _ _ h => ?_
     refine gg h rfl rfl (nbF Bool.false_ne_true) (o_bin rfl rfl rfl) rfl fun _ _ _ h => ?_
     refine ga h (o_pickF rfl rfl Bool.false_ne_true) rfl fun h => ?_
     refine mv h rfl rfl fun h => ?_
     by_cases c12 : decide (a1 = 45) = true
     ·have H := ifT c12 H
      refine gk h rfl rfl (nb_t c12) rfl fun _ h => ?_
      refine gk h rfl rfl (nb_t c12) rfl fun _ h => ?_
      refine ga h (o_pickT rfl rfl c12) rfl fun h => ?_
      refine ga h (o_assign rfl) rfl fun h => ?_
      refine ga h (o_assign rfl) rfl fun h => ?_
      refine GoR.done ?_
      exact J2 (a1, true) _ _ (som H).symm ha1 (h.wr [])
     ·have H := ifF c12 H
      refine gg h rfl rfl (nbF c12) (o_move rfl) rfl fun _ _ _ h => ?_
      refine gg h rfl rfl (nbF c12) (o_bin rfl rfl rfl) rfl fun _ _ _ h => ?_
      refine ga h (o_pickF rfl rfl c12) rfl fun h => ?_
      refine ga h (o_assign rfl) rfl fun h => ?_
      obtain ⟨y5, ey5, H⟩ := ltE H
      refine ga h (o_assign' rfl (congrArg Value.bool ey5)) rfl fun h => ?_
      refine GoR.done ?_
      exact J2 (a1, y5) _ _ (som H).symm ha1 (h.wr [])
 refine Go.reg ?_
 refine mv h rfl rfl fun h => ?_
 refine ga h (o_bin rfl rfl rfl) rfl fun h => ?_
 refine mv h rfl rfl fun h => ?_
 by_cases c1 : decide (65 ≤ a1) = true
 ·have H := ifT c1 H
  refine gg h rfl rfl c1 (o_move rfl) rfl fun _ _ _ h => ?_
  refine gg h rfl rfl c1 (o_bin rfl rfl rfl) rfl fun _ _ _ h => ?_
  refine ga h (o_pickT rfl rfl c1) rfl fun h => ?_
  refine GoR.done ?_
  exact J1 (decide (a1 ≤ 90)) _ _ (som H).symm (h.wr [])
 ·have H := ifF c1 H
  refine gk h rfl rfl (nb_f c1) rfl fun _ h => ?_
  refine gk h rfl rfl (nb_f c1) rfl fun _ h => ?_
  refine ga h (o_pickF rfl rfl c1) rfl fun h => ?_
  refine GoR.done ?_
  exact J1 false _ _ (som H).symm (h.wr [])
def ref21_letter.g (k_ : Nat) (a1 : Int) : Option (Int × Bool) :=
  ((if decide (65 ≤ a1) = true then some (decide (a1 ≤ 90)) else some (false))).bind (fun j1 => (if j1 = true then lt (IntKind.u8.wrap (a1 + 32)) fun y1 => some ((y1, true)) else ((if decide (97 ≤ a1) = true then (if decide (a1 ≤ 122) = true then some ((a1, true)) else (if decide (48 ≤ a1) = true then (if decide (a1 ≤ 57) = true then some ((a1, true)) else (if decide (a1 = 45) = true then some ((a1, true)) else lt (decide (a1 = 95)) fun y2 => some ((a1, y2)))) else (if decide (a1 = 45) = true then some ((a1, true)) else lt (decide (a1 = 95)) fun y3 => some ((a1, y3))))) else (if decide (48 ≤ a1) = true then (if decide (a1 ≤ 57) = true then some ((a1, true)) else (if decide (a1 = 45) = true then some ((a1, true)) else lt (decide (a1 = 95)) fun y4 => some ((a1, y4)))) else (if decide (a1 = 45) = true then some ((a1, true)) else lt (decide (a1 = 95)) fun y5 => some ((a1, y5)))))).bind (fun j2 => some ((j2.1, j2.2)))))
theorem ref21_letter.le (k_ : Nat) (a1 : Int) : Le (ref21_letter.g k_ a1) (ref21_letter.f a1) := by
 unfold ref21_letter.g ref21_letter.f
 repeat' (first | with_reducible refine le_loop fun _ => ?_ | with_reducible refine le_bind ?_ fun _ => ?_ | with_reducible refine le_ite ?_ ?_ | with_reducible refine le_lt fun _ => ?_ | with_reducible refine le_elim (fun _ => ?_) (fun _ => ?_) _ | with_reducible exact le_refl _)
end Go.Proofs.YtjjceikmimhpnaaDoor.S
