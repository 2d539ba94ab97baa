/- Contracts, printed by a program of this session. -/
import Derived.Test.YtjjceikmimhpnaaDoorT5
import Derived.Test.YtjjceikmimhpnaaDoorT9
import Derived.Test.YtjjceikmimhpnaaDoorT10
namespace Go.Proofs.YtjjceikmimhpnaaDoor.S
open Go Go.SL Go.RowKit
set_option linter.unusedVariables false
set_option linter.unusedSimpArgs false
/-! drawbridge/drawbridgelaw21.DnsBack -/
noncomputable def law21_DnsBack.f (a1 : Int) (a2 : List Int) (a3 : Int) (a4 : List Int) : Option (Bool) :=
  ((if decide (2000 < (a2.length : Int)) = true then some (true) else some (decide (1000 < (a4.length : Int))))).bind (fun j1 => (if j1 = true then (law21_heads.f).bind fun r1 => some (r1) else (dns_Ask.f a1 a2 a3).bind fun r2 => (if (!decide (r2.2 = 0)) = true then ((if decide ((r2.1.length : Int) = 0) = true then (law21_heads.f).bind fun r3 => some (r3) else some (false))).bind (fun j2 => some (j2)) else (app ([] : List Int) r2.1).bind fun x1 => (app x1 a4).bind fun x2 => (dns_Question.f x2).bind fun r4 => (dns_Id.f r2.1).bind fun r5 => ((if decide (r4.2.2 = 0) = true then (law21_small.f a2).bind fun r6 => (if decide (r4.1 = r6) = true then (if decide (r4.2.1 = a3) = true then (if r5.2 = true then (if decide (r5.1 = a1) = true then (dns_Query.f r2.1).bind fun r7 => (if r7 = true then (law21_heads.f).bind fun r8 => some (r8) else some (false)) else some (false)) else some (false)) else some (false)) else some (false)) else some (false))).bind (fun j3 => some (j3)))))
set_option maxRecDepth 100000 in
set_option maxHeartbeats 4000000 in
theorem law21_DnsBack.spc (a1 : Int) (ha1 : InR .i64 a1) (a2 : List Int) (ha2 : Bs a2) (a3 : Int) (ha3 : InR .i64 a3) (v1 : Value) (a4 : List Int) (r : Bool) (H : law21_DnsBack.f a1 a2 a3 a4 = some r) : Spc Tryd.prog 4 [.int .i64 a1, .string (mkS a2), .int .i64 a3, v1] [Val (Kd.sl (Kd.int .u8)) v1 a4, Pfl (Kd.eq gv0) 0 0 ()] [] (fun (s : Unit) => .bool r) (fun s => []) := by
 unfold law21_DnsBack.f at H
 refine Spc.go Tryd.func4 rfl (by kernel_rfl) rfl rfl (all_cons (Val.per Per_sl) (all_cons Per_pfl all_nil)) fun F a w h => ?_
 refine Go.seq ?_
 refine Go.reg ?_
 refine ga h (o_assign rfl) rfl fun h => ?_
 refine GoR.done ?_
 refine Go.seq ?_
 refine Go.seq ?_
 obtain ⟨o1, H, G1⟩ := bindE H
 refine g_cut (fun G => ∀ j1 (a : Act) (w : World), o1 = j1 → St Tryd.f4.ntmps F [(0, .int .i64 a1), (1, .string (mkS a2)), (2, .int .i64 a3), (3, v1), (23, .bool j1)] [Val (Kd.sl (Kd.int .u8)) v1 a4, Pfl (Kd.eq gv0) 0 0 ()] a w → G a w) 1 ?_ fun J1 => ?_
 ·intro j1 a w ho_ h
  rw [ho_] at G1
  have H := G1
  by_cases c2 : j1 = true
  ·have H := ifT c2 H
   refine g_t h rfl c2 ?_
   refine Go.seq ?_
   refine Go.reg ?_
   obtain ⟨r1, er1, H⟩ := bindE H
   refine ga h (o_call (law21_heads.spc  r1 er1) rfl [1] [] (by decide) rfl rfl) rfl fun h => ?_
   refine ga h (o_assign rfl) rfl fun h => ?_
   refine GoR.done ?_
   rw [← som H]
   exact g_ret (vs := [.bool r1]) h Tryd.func4 ⟨rfl, trivial⟩ ⟨(), rfl, (h.mem.pick [] (by decide) rfl)⟩
  ·have H := ifF c2 H
   refine g_f h rfl c2 ?_
   refine Go.skip ?_
   refine Go.seq ?_
   refine Go.reg ?_
   iterate 3 (refine ga h (o_move rfl) rfl fun h => ?_)
   obtain ⟨r2, er2, H⟩ := bindE H
   refine gs h (o_call (dns_Ask.spc a1 ha1 a2 ha2 a3 ha3 r2 er2) rfl [] [] (by decide) rfl rfl) rfl fun v2 _ _ h => ?_
   have g2 := h.mem.pur 0 rfl
   refine mv h rfl rfl fun h => ?_
   refine ga h (o_extract rfl rfl) rfl fun h => ?_
   refine ga h (o_extract rfl rfl) rfl fun h => ?_
   refine ga h (o_assign rfl) rfl fun h => ?_
   refine ga h (o_assign rfl) rfl fun h => ?_
   refine GoR.done ?_
   refine Go.seq ?_
   refine Go.seq ?_
   refine Go.reg ?_
   refine mv h rfl rfl fun h => ?_
   refine ga h (o_bin rfl rfl rfl) rfl fun h => ?_
   refine GoR.done ?_
   by_cases c3 : (!decide (r2.2 = 0)) = true
   ·have H := ifT c3 H
    refine g_t h rfl c3 ?_
    refine Go.seq ?_
    obtain ⟨o2, H, G2⟩ := bindE H
    refine g_cut (fun G => ∀ j2 (a : Act) (w : World), o2 = j2 → St Tryd.f4.ntmps F [(8, .bool j2)] [Pfl (Kd.eq gv0) 0 0 ()] a w → G a w) 1 ?_ fun J2 => ?_
    ·intro j2 a w ho_ h
     rw [ho_] at G2
     have H := G2
     rw [← som H]
     exact g_ret (vs := [.bool j2]) h Tryd.func4 ⟨rfl, trivial⟩ ⟨(), rfl, (h.mem.pick [] (by decide) rfl)⟩
    refine Go.reg ?_
    refine mv h rfl rfl fun h => ?_
    have g3 := (len_own 1 rfl h.mem)
    refine ga h (o_ln rfl (rd_own 1 rfl) t_v22) rfl fun h => ?_
    refine ga h (o_bin rfl rfl rfl) rfl fun h => ?_
    refine mv h rfl rfl fun h => ?_
    by_cases c4 : decide ((r2.1.length : Int) = 0) = true
    ·have H := ifT c4 H
     obtain ⟨r3, er3, H⟩ := bindE H
     refine gg h rfl rfl c4 (o_call (law21_heads.spc  r3 er3) rfl [3] [] (by decide) rfl rfl) rfl fun _ _ _ h => ?_
     refine ga h (o_pickT rfl rfl c4) rfl fun h => ?_
     refine ga h (o_assign rfl) rfl fun h => ?_
     refine GoR.done ?_
     exact J2 r3 _ _ (som H).symm (h.wr [3])
    ·have H := ifF c4 H
     refine gk h rfl rfl (nb_f c4) rfl fun _ h => ?_
     refine ga h (o_pickF rfl rfl c4) rfl fun h => ?_
     refine ga h (o_assign rfl) rfl fun h => ?_
     refine GoR.done ?_
     exact J2 false _ _ (som H).symm (h.wr [3])
   ·have H := ifF c3 H
    refine g_f h rfl c3 ?_
    refine Go.skip ?_
    refine Go.seq ?_
    refine Go.reg ?_
    refine gs h (o_bs (K := (Kd.int .u8)) (vs := []) (xs := ([] : List Int)) rfl rfl pvs_nil t_a22 (by decide) (by decide)) rfl fun v3 _ _ h => ?_
    refine mv h rfl rfl fun h => ?_
    obtain ⟨x1, ex1, H⟩ := bindE H
    refine gs h (o_app (K := (Kd.int .u8)) 0 rfl rfl rfl (rd_own 2 rfl) ex1 t_a22 t_n22) rfl fun v4 _ _ h => ?_
    refine mv h rfl rfl fun h => ?_
    obtain ⟨x2, ex2, H⟩ := bindE H
    refine gs h (o_app (K := (Kd.int .u8)) 0 rfl rfl rfl (rd_at 3 rfl) ex2 t_a22 t_n22) rfl fun v5 _ _ h => ?_
    replace h := h.mm fun m => m.freeze 0 rfl
    obtain ⟨r4, er4, H⟩ := bindE H
    refine ga h (o_call (dns_Question.spc v5 x2 r4 er4) rfl [0, 4] [] (by decide) rfl rfl) rfl fun h => ?_
    have g4 := h.mem.pur 0 rfl
    refine mv h rfl rfl fun h => ?_
    iterate 3 (refine ga h (o_extract rfl rfl) rfl fun h => ?_)
    iterate 3 (refine ga h (o_assign rfl) rfl fun h => ?_)
    refine GoR.done ?_
    refine Go.seq ?_
    refine Go.reg ?_
    refine mv h rfl rfl fun h => ?_
    obtain ⟨r5, er5, H⟩ := bindE H
    refine ga h (OpS.lend (Lp := [Val (Kd.sl (Kd.int .u8)) v2 r2.1]) (lent_cons (lent_own 3 rfl) lent_nil) (o_call (dns_Id.spc v2 r2.1 r5 er5) rfl [0] [] (by decide) rfl rfl) (fun _ => (clo_cons cl_pur clo_nil))) rfl fun h => ?_
    have g5 := h.mem.pur 0 rfl
    refine mv h rfl rfl fun h => ?_
    refine ga h (o_extract rfl rfl) rfl fun h => ?_
    refine ga h (o_extract rfl rfl) rfl fun h => ?_
    refine ga h (o_assign rfl) rfl fun h => ?_
    refine ga h (o_assign rfl) rfl fun h => ?_
    refine GoR.done ?_
    refine Go.seq ?_
    obtain ⟨o3, H, G3⟩ := bindE H
    refine g_cut (fun G => ∀ j3 (a : Act) (w : World), o3 = j3 → St Tryd.f4.ntmps F [(8, .bool j3)] [Pfl (Kd.eq gv0) 0 0 ()] a w → G a w) 1 ?_ fun J3 => ?_
    ·intro j3 a w ho_ h
     rw [ho_] at G3
     have H := G3
     rw [← som H]
     exact g_ret (vs := [.bool j3]) h Tryd.func4 ⟨rfl, trivial⟩ ⟨(), rfl, (h.mem.pick [] (by decide) rfl)⟩
    refine Go.reg ?_
    refine mv h rfl rfl fun h => ?_
    refine ga h (o_bin rfl rfl rfl) rfl fun h => ?_
    refine mv h rfl rfl fun h => ?_
    by_cases c5 : decide (r4.2.2 = 0) = true
    ·have H := ifT c5 H
     refine gg h rfl rfl c5 (o_move rfl) rfl fun _ _ _ h => ?_
     refine gg h rfl rfl c5 (o_move rfl) rfl fun _ _ _ h => ?_
     obtain ⟨r6, er6, H⟩ := bindE H
     refine gg h rfl rfl c5 (o_call (law21_small.spc a2 ha2 r6 er6) rfl [] [] (by decide) rfl rfl) rfl fun _ _ _ h => ?_
     have g6 := h.mem.pur 0 rfl
     refine gg h rfl rfl c5 (o_eqs rfl rfl g4.1 g6) rfl fun _ _ _ h => ?_
     refine ga h (o_pickT rfl rfl c5) rfl fun h => ?_
     refine mv h rfl rfl fun h => ?_
     by_cases c6 : decide (r4.1 = r6) = true
     ·have H := ifT c6 H
      refine gg h rfl rfl c6 (o_move rfl) rfl fun _ _ _ h => ?_
      refine gg h rfl rfl c6 (o_move rfl) rfl fun _ _ _ h => ?_
      refine gg h rfl rfl c6 (o_bin rfl rfl rfl) rfl fun _ _ _ h => ?_
      refine ga h (o_pickT rfl rfl c6) rfl fun h => ?_
      refine mv h rfl rfl fun h => ?_
      by_cases c7 : decide (r4.2.1 = a3) = true
      ·have H := ifT c7 H
       refine gg h rfl rfl c7 (o_move rfl) rfl fun _ _ _ h => ?_
       refine ga h (o_pickT rfl rfl c7) rfl fun h => ?_
       refine mv h rfl rfl fun h => ?_
       by_cases c8 : r5.2 = true
       ·have H := ifT c8 H
        refine gg h rfl rfl c8 (o_move rfl) rfl fun _ _ _ h => ?_
        refine gg h rfl rfl c8 (o_move rfl) rfl fun _ _ _ h => ?_
        refine gg h rfl rfl c8 (o_bin rfl rfl rfl) rfl fun _ _ _ h => ?_
        refine ga h (o_pickT rfl rfl c8) rfl fun h => ?_
        refine mv h rfl rfl fun h => ?_
        by_cases c9 : decide (r5.1 = a1) = true
        ·have H := ifT c9 H
         refine gg h rfl rfl c9 (o_move rfl) rfl fun _ _ _ h => ?_
         replace h := h.mm fun m => m.freeze 5 rfl
         obtain ⟨r7, er7, H⟩ := bindE H
         refine gg h rfl rfl c9 (o_call (dns_Query.spc v2 r2.1 r7 er7) rfl [5] [] (by decide) rfl rfl) rfl fun _ _ _ h => ?_
         refine ga h (o_pickT rfl rfl c9) rfl fun h => ?_
         refine mv h rfl rfl fun h => ?_
         by_cases c10 : r7 = true
         ·have H := ifT c10 H
          obtain ⟨r8, er8, H⟩ := bindE H
          refine gg h rfl rfl c10 (o_call (law21_heads.spc  r8 er8) rfl [7] [] (by decide) rfl rfl) rfl fun _ _ _ h => ?_
          refine ga h (o_pickT rfl rfl c10) rfl fun h => ?_
          refine ga h (o_assign rfl) rfl fun h => ?_
          refine GoR.done ?_
          exact J3 r8 _ _ (som H).symm (h.wr [7])
         ·have H := ifF c10 H
          refine gk h rfl rfl (nb_f c10) rfl fun _ h => ?_
          refine ga h (o_pickF rfl rfl c10) rfl fun h => ?_
          refine ga h (o_assign rfl) rfl fun h => ?_
          refine GoR.done ?_
          exact J3 false _ _ (som H).symm (h.wr [7])
        ·have H := ifF c9 H
         refine gk h rfl rfl (nb_f c9) rfl fun _ h => ?_
         refine gk h rfl rfl (nb_f c9) rfl fun _ h => ?_
         refine ga h (o_pickF rfl rfl c9) rfl fun h => ?_
         refine mv h rfl rfl fun h => ?_
         refine gk h rfl rfl (nb_f Bool.false_ne_true) rfl fun _ h => ?_
         refine ga h (o_pickF rfl rfl Bool.false_ne_true) rfl fun h => ?_
         refine ga h (o_assign rfl) rfl fun h => ?_
         refine GoR.done ?_
         exact J3 false _ _ (som H).symm (h.wr [7])
       ·have H := ifF c8 H
        iterate 3 (refine gk h rfl rfl (nb_f c8) rfl fun _ h => ?_)
        refine ga h (o_pickF rfl rfl c8) rfl fun h => ?_
        refine mv h rfl rfl fun h => ?_
        refine gk h rfl rfl (nb_f Bool.false_ne_true) rfl fun _ h => ?_
        refine gk h rfl rfl (nb_f Bool.false_ne_true) rfl fun _ h => ?_
        refine ga h (o_pickF rfl rfl Bool.false_ne_true) rfl fun h => ?_
        refine mv h rfl rfl fun h => ?_
        refine gk h rfl rfl (nb_f Bool.false_ne_true) rfl fun _ h => ?_
        refine ga h (o_pickF rfl rfl Bool.false_ne_true) rfl fun h => ?_
        refine ga h (o_assign rfl) rfl fun h => ?_
        refine GoR.done ?_
        exact J3 false _ _ (som H).symm (h.wr [7])
      ·have H := ifF c7 H
       refine gk h rfl rfl (nb_f c7) rfl fun _ h => ?_
       refine ga h (o_pickF rfl rfl c7) rfl fun h => ?_
       refine mv h rfl rfl fun h => ?_
       iterate 3 (refine gk h rfl rfl (nb_f Bool.false_ne_true) rfl fun _ h => ?_)
       refine ga h (o_pickF rfl rfl Bool.false_ne_true) rfl fun h => ?_
       refine mv h rfl rfl fun h => ?_
       refine gk h rfl rfl (nb_f Bool.false_ne_true) rfl fun _ h => ?_
       refine gk h rfl rfl (nb_f Bool.false_ne_true) rfl fun _ h => ?_
       refine ga h (o_pickF rfl rfl Bool.false_ne_true) rfl fun h => ?_
       refine mv h rfl rfl fun h => ?_
       refine gk h rfl rfl (nb_f Bool.false_ne_true) rfl fun _ h => ?_
       refine ga h (o_pickF rfl rfl Bool.false_ne_true) rfl fun h => ?_
       refine ga h (o_assign rfl) rfl fun h => ?_
       refine GoR.done ?_
       exact J3 false _ _ (som H).symm (h.wr [7])
     ·have H := ifF c6 H
      iterate 3 (refine gk h rfl rfl (nb_f c6) rfl fun _ h => ?_)
      refine ga h (o_pickF rfl rfl c6) rfl fun h => ?_
      refine mv h rfl rfl fun h => ?_
      refine gk h rfl rfl (nb_f Bool.false_ne_true) rfl fun _ h => ?_
      refine ga h (o_pickF rfl rfl Bool.false_ne_true) rfl fun h => ?_
      refine mv h rfl rfl fun h => ?_
      iterate 3 (refine gk h rfl rfl (nb_f Bool.false_ne_true) rfl fun _ h => ?_)
      refine ga h (o_pickF rfl rfl Bool.false_ne_true) rfl fun h => ?_
      refine mv h rfl rfl fun h => ?_
      refine gk h rfl rfl (nb_f Bool.false_ne_true) rfl fun _ h => ?_
      refine gk h rfl rfl (nb_f Bool.false_ne_true) rfl fun _ h => ?_
      refine ga h (o_pickF rfl rfl Bool.false_ne_true) rfl fun h => ?_
      refine mv h rfl rfl fun h => ?_
      refine gk h rfl rfl (nb_f Bool.false_ne_true) rfl fun _ h => ?_
      refine ga h (o_pickF rfl rfl Bool.false_ne_true) rfl fun h => ?_
      refine ga h (o_assign rfl) rfl fun h => ?_
      refine GoR.done ?_
      exact J3 false _ _ (som H).symm (h.wr [7])
    ·have H := ifF c5 H
     iterate 4 (refine gk h rfl rfl (nb_f c5) rfl fun _ h => ?_)
     refine ga h (o_pickF rfl rfl c5) rfl fun h => ?_
     refine mv h rfl rfl fun h => ?_
     iterate 3 (refine gk h rfl rfl (nb_f Bool.false_ne_true) rfl fun _ h => ?_)
     refine ga h (o_pickF rfl rfl Bool.false_ne_true) rfl fun h => ?_
     refine mv h rfl rfl fun h => ?_
     refine gk h rfl rfl (nb_f Bool.false_ne_true) rfl fun _ h => ?_
     refine ga h (o_pickF rfl rfl Bool.false_ne_true) rfl fun h => ?_
     refine mv h rfl rfl fun h => ?_
     iterate 3 (refine gk h rfl rfl (nb_f Bool.false_ne_true) rfl fun _ h => ?_)
     refine ga h (o_pickF rfl rfl Bool.false_ne_true) rfl fun h => ?_
     refine mv h rfl rfl fun h => ?_
     refine gk h rfl rfl (nb_f Bool.false_ne_true) rfl fun _ h => ?_
     refine gk h rfl rfl (nb_f Bool.false_ne_true) rfl fun _ h => ?_
     refine ga h (o_pickF rfl rfl Bool.false_ne_true) rfl fun h => ?_
     refine mv h rfl rfl fun h => ?_
     refine gk h rfl rfl (nb_f Bool.false_ne_true) rfl fun _ h => ?_
     refine ga h (o_pickF rfl rfl Bool.false_ne_true) rfl fun h => ?_
     refine ga h (o_assign rfl) rfl fun h => ?_
     refine GoR.done ?_
     exact J3 false _ _ (som H).symm (h.wr [6])
 refine Go.reg ?_
 refine mv h rfl rfl fun h => ?_
 refine ga h (o_lens rfl t_u9) rfl fun h => ?_
 refine ga h (o_bin rfl rfl rfl) rfl fun h => ?_
 refine mv h rfl rfl fun h => ?_
 by_cases c1 : decide (2000 < (a2.length : Int)) = true
 ·have H := ifT c1 H
  iterate 3 (refine gk h rfl rfl (nb_t c1) rfl fun _ h => ?_)
  refine ga h (o_pickT rfl rfl c1) rfl fun h => ?_
  refine GoR.done ?_
  exact J1 true _ _ (som H).symm (h.wr [0, 1])
 ·have H := ifF c1 H
  refine gg h rfl rfl (nbF c1) (o_move rfl) rfl fun _ _ _ h => ?_
  have g1 := (len_at 0 rfl h.mem)
  refine gg h rfl rfl (nbF c1) (o_ln rfl (rd_at 0 rfl) t_v22) rfl fun _ _ _ h => ?_
  refine gg h rfl rfl (nbF c1) (o_bin rfl rfl rfl) rfl fun _ _ _ h => ?_
  refine ga h (o_pickF rfl rfl c1) rfl fun h => ?_
  refine GoR.done ?_
  exact J1 (decide (1000 < (a4.length : Int))) _ _ (som H).symm (h.wr [0, 1])
def law21_DnsBack.g (k_ : Nat) (a1 : Int) (a2 : List Int) (a3 : Int) (a4 : List Int) : Option (Bool) :=
  ((if decide (2000 < (a2.length : Int)) = true then some (true) else some (decide (1000 < (a4.length : Int))))).bind (fun j1 => (if j1 = true then (law21_heads.g k_).bind fun r1 => some (r1) else (dns_Ask.g k_ a1 a2 a3).bind fun r2 => (if (!decide (r2.2 = 0)) = true then ((if decide ((r2.1.length : Int) = 0) = true then (law21_heads.g k_).bind fun r3 => some (r3) else some (false))).bind (fun j2 => some (j2)) else (app ([] : List Int) r2.1).bind fun x1 => (app x1 a4).bind fun x2 => (dns_Question.g k_ x2).bind fun r4 => (dns_Id.g k_ r2.1).bind fun r5 => ((if decide (r4.2.2 = 0) = true then (law21_small.g k_ a2).bind fun r6 => (if decide (r4.1 = r6) = true then (if decide (r4.2.1 = a3) = true then (if r5.2 = true then (if decide (r5.1 = a1) = true then (dns_Query.g k_ r2.1).bind fun r7 => (if r7 = true then (law21_heads.g k_).bind fun r8 => some (r8) else some (false)) else some (false)) else some (false)) else some (false)) else some (false)) else some (false))).bind (fun j3 => some (j3)))))
theorem law21_DnsBack.le (k_ : Nat) (a1 : Int) (a2 : List Int) (a3 : Int) (a4 : List Int) : Le (law21_DnsBack.g k_ a1 a2 a3 a4) (law21_DnsBack.f a1 a2 a3 a4) := by
 unfold law21_DnsBack.g law21_DnsBack.f
 repeat' (first | with_reducible refine le_loop fun _ => ?_ | with_reducible refine le_bind ?_ fun _ => ?_ | with_reducible refine le_ite ?_ ?_ | with_reducible refine le_lt fun _ => ?_ | with_reducible refine le_elim (fun _ => ?_) (fun _ => ?_) _ | with_reducible apply dns_Ask.le | with_reducible apply dns_Id.le | with_reducible apply dns_Query.le | with_reducible apply dns_Question.le | with_reducible apply law21_heads.le | with_reducible apply law21_small.le | with_reducible exact le_refl _)
/-! drawbridge/drawbridgeref01.Get -/
noncomputable def ref01_Get.f (a1 : List Int) (a2 : Bool) : Option (Int) :=
  lt (min (a1.length : Int) 8) fun y1 => (loop (fun s1 => (if decide (s1.2 < y1) = true then (((if a2 = true then (idx a1 s1.2).bind fun x1 => lt (IntKind.u64.wrap ((IntKind.u64.wrap (s1.1 * 256)) + x1)) fun y2 => some (y2) else (idx a1 (IntKind.i64.wrap ((IntKind.i64.wrap (y1 - 1)) - s1.2))).bind fun x2 => lt (IntKind.u64.wrap ((IntKind.u64.wrap (s1.1 * 256)) + x2)) fun y3 => some (y3))).bind (fun j1 => some (j1))).bind (fun j2 => lt (IntKind.i64.wrap (s1.2 + 1)) fun y4 => some (.inl (j2, y4))) else some (.inr (s1.1)))) (0, 0)).bind (fun j3 => some (j3))
set_option maxRecDepth 100000 in
set_option maxHeartbeats 4000000 in
theorem ref01_Get.spc (v1 : Value) (a1 : List Int) (a2 : Bool) (r : Int) (H : ref01_Get.f a1 a2 = some r) : Spc Tryd.prog 51 [v1, .bool a2] [Val (Kd.sl (Kd.int .u8)) v1 a1] [] (fun (s : Unit) => .int .u64 r) (fun s => [Ent.pur (InR .u64 r)]) := by
 unfold ref01_Get.f at H
 refine Spc.go Tryd.func51 rfl (by kernel_rfl) rfl rfl (all_cons (Val.per Per_sl) all_nil) fun F a w h => ?_
 refine Go.seq ?_
 refine Go.reg ?_
 refine ga h (o_assign rfl) rfl fun h => ?_
 refine GoR.done ?_
 refine Go.seq ?_
 refine Go.reg ?_
 refine ga h (o_assign rfl) rfl fun h => ?_
 refine GoR.done ?_
 refine Go.seq ?_
 refine Go.reg ?_
 refine mv h rfl rfl fun h => ?_
 have g1 := (len_at 0 rfl h.mem)
 refine ga h (o_ln rfl (rd_at 0 rfl) t_v22) rfl fun h => ?_
 refine ga h (o_min rfl rfl) rfl fun h => ?_
 obtain ⟨y1, ey1, H⟩ := ltE H
 refine ga h (o_assign' rfl (congrArg (fun z => Value.int .i64 z) ey1)) rfl fun h => ?_
 refine GoR.done ?_
 refine Go.seq ?_
 refine Go.seq ?_
 refine Go.reg ?_
 refine ga h (o_assign rfl) rfl fun h => ?_
 refine GoR.done ?_
 refine Go.block ?_
 obtain ⟨o1, hl, G1⟩ := bindE H
 refine g_cut (fun G => ∀ j3 (a : Act) (w : World), o1 = j3 → InR .u64 j3 → St Tryd.f51.ntmps F [(5, .int .u64 j3)] [] a w → G a w) 2 ?_ fun J3 => ?_
 ·intro j3 a w ho_ g8 h
  rw [ho_] at G1
  have H := G1
  refine Go.seq ?_
  refine Go.reg ?_
  refine mv h rfl rfl fun h => ?_
  refine ga h (o_assign rfl) rfl fun h => ?_
  refine GoR.done ?_
  rw [← som H]
  exact g_ret (vs := [.int .u64 j3]) h Tryd.func51 ⟨rfl, trivial⟩ ⟨(), rfl, ((h.mem.pick [] (by decide) rfl).addpur g8)⟩
 refine g_loop (fun s1 G => ∀  (a : Act) (w : World), InR .u64 s1.1 → InR .i64 s1.2 → St Tryd.f51.ntmps F [(0, v1), (1, .bool a2), (5, .int .u64 s1.1), (6, .int .i64 y1), (7, .int .i64 s1.2)] [Val (Kd.sl (Kd.int .u8)) v1 a1] a w → G a w) hl (fun s1 p1 H i1 => ?_) fun I_ => ?_
 ·intro  a w g2 g3 h
  refine Go.seq ?_
  refine Go.seq ?_
  refine Go.reg ?_
  refine mv h rfl rfl fun h => ?_
  refine mv h rfl rfl fun h => ?_
  refine ga h (o_bin rfl rfl rfl) rfl fun h => ?_
  refine GoR.done ?_
  by_cases c1 : decide (s1.2 < y1) = true
  ·have H := ifT c1 H
   refine g_t h rfl c1 ?_
   refine Go.skip ?_
   refine Go.seq ?_
   obtain ⟨o2, H, G2⟩ := bindE H
   refine g_cut (fun G => ∀ j2 (a : Act) (w : World), o2 = j2 → InR .u64 j2 → St Tryd.f51.ntmps F [(0, v1), (1, .bool a2), (5, .int .u64 j2), (6, .int .i64 y1), (7, .int .i64 s1.2)] [Val (Kd.sl (Kd.int .u8)) v1 a1] a w → G a w) 1 ?_ fun J2 => ?_
   ·intro j2 a w ho_ g7 h
    rw [ho_] at G2
    have H := G2
    refine Go.reg ?_
    refine mv h rfl rfl fun h => ?_
    refine ga h (o_bin rfl rfl rfl) rfl fun h => ?_
    obtain ⟨y4, ey4, H⟩ := ltE H
    refine ga h (o_assign' rfl (congrArg (fun z => Value.int .i64 z) ey4)) rfl fun h => ?_
    refine GoR.done ?_
    have e_ := som H; subst e_
    exact Go.inLoop (nx_in i1 _ _ g7 (ey4 ▸ (wrap_in _ _)) (h.wr [0]))
   refine Go.block ?_
   obtain ⟨o3, H, G3⟩ := bindE H
   refine g_cut (fun G => ∀ j1 (a : Act) (w : World), o3 = j1 → InR .u64 j1 → St Tryd.f51.ntmps F [(0, v1), (1, .bool a2), (5, .int .u64 j1), (6, .int .i64 y1), (7, .int .i64 s1.2)] [Val (Kd.sl (Kd.int .u8)) v1 a1] a w → G a w) 2 ?_ fun J1 => ?_
   ·intro j1 a w ho_ g6 h
    rw [ho_] at G3
    have H := G3
    exact J2 j1 _ _ (som H).symm g6 (h.wr [0])
   refine Go.seq ?_
   refine Go.reg ?_
   refine mv h rfl rfl fun h => ?_
   refine GoR.done ?_
   by_cases c2 : a2 = true
   ·have H := ifT c2 H
    refine g_t h rfl c2 ?_
    refine Go.reg ?_
    refine mv h rfl rfl fun h => ?_
    refine ga h (o_bin rfl rfl rfl) rfl fun h => ?_
    refine mv h rfl rfl fun h => ?_
    refine mv h rfl rfl fun h => ?_
    obtain ⟨x1, ex1, H⟩ := bindE H
    refine ga h (o_ix rfl rfl (rd_at 0 rfl) ex1 t_v22) rfl fun h => ?_
    have g4 := (rd_inr (rd_at 0 rfl) ex1 h.mem)
    refine ga h (o_lex rfl (rd_at 0 rfl) ex1 X_int t_y5 (by decide)) rfl fun h => ?_
    refine ga h (o_convw rfl t_q5 t_u87 g4 rfl) rfl fun h => ?_
    refine ga h (o_bin rfl rfl rfl) rfl fun h => ?_
    obtain ⟨y2, ey2, H⟩ := ltE H
    refine ga h (o_assign' rfl (congrArg (fun z => Value.int .u64 z) ey2)) rfl fun h => ?_
    refine GoR.done ?_
    refine Go.inBlock ?_
    exact J1 y2 _ _ (som H).symm (ey2 ▸ (wrap_in _ _)) (h.wr [0])
   ·have H := ifF c2 H
    refine g_f h rfl c2 ?_
    refine Go.reg ?_
    refine mv h rfl rfl fun h => ?_
    refine ga h (o_bin rfl rfl rfl) rfl fun h => ?_
    refine mv h rfl rfl fun h => ?_
    refine mv h rfl rfl fun h => ?_
    refine ga h (o_bin rfl rfl rfl) rfl fun h => ?_
    refine mv h rfl rfl fun h => ?_
    refine ga h (o_bin rfl rfl rfl) rfl fun h => ?_
    obtain ⟨x2, ex2, H⟩ := bindE H
    refine ga h (o_ix rfl rfl (rd_at 0 rfl) ex2 t_v22) rfl fun h => ?_
    have g5 := (rd_inr (rd_at 0 rfl) ex2 h.mem)
    refine ga h (o_lex rfl (rd_at 0 rfl) ex2 X_int t_y5 (by decide)) rfl fun h => ?_
    refine ga h (o_convw rfl t_q5 t_u87 g5 rfl) rfl fun h => ?_
    refine ga h (o_bin rfl rfl rfl) rfl fun h => ?_
    obtain ⟨y3, ey3, H⟩ := ltE H
    refine ga h (o_assign' rfl (congrArg (fun z => Value.int .u64 z) ey3)) rfl fun h => ?_
    refine GoR.done ?_
    refine Go.inBlock ?_
    exact J1 y3 _ _ (som H).symm (ey3 ▸ (wrap_in _ _)) (h.wr [0])
  ·have H := ifF c1 H
   refine g_f h rfl c1 ?_
   refine Go.exit rfl ?_
   have e_ := som H; subst e_
   exact J3 s1.1 _ _ (nx_out i1).symm g2 (h.wr [])
 ·exact I_ _ _ (show InR .u64 0 by decide) (show InR .i64 0 by decide) (h.wr [0])
def ref01_Get.g (k_ : Nat) (a1 : List Int) (a2 : Bool) : Option (Int) :=
  lt (min (a1.length : Int) 8) fun y1 => (loopK k_ (fun s1 => (if decide (s1.2 < y1) = true then (((if a2 = true then (idx a1 s1.2).bind fun x1 => lt (IntKind.u64.wrap ((IntKind.u64.wrap (s1.1 * 256)) + x1)) fun y2 => some (y2) else (idx a1 (IntKind.i64.wrap ((IntKind.i64.wrap (y1 - 1)) - s1.2))).bind fun x2 => lt (IntKind.u64.wrap ((IntKind.u64.wrap (s1.1 * 256)) + x2)) fun y3 => some (y3))).bind (fun j1 => some (j1))).bind (fun j2 => lt (IntKind.i64.wrap (s1.2 + 1)) fun y4 => some (.inl (j2, y4))) else some (.inr (s1.1)))) (0, 0)).bind (fun j3 => some (j3))
theorem ref01_Get.le (k_ : Nat) (a1 : List Int) (a2 : Bool) : Le (ref01_Get.g k_ a1 a2) (ref01_Get.f a1 a2) := by
 unfold ref01_Get.g ref01_Get.f
 repeat' (first | with_reducible refine le_loop fun _ => ?_ | with_reducible refine le_bind ?_ fun _ => ?_ | with_reducible refine le_ite ?_ ?_ | with_reducible refine le_lt fun _ => ?_ | with_reducible refine le_elim (fun _ => ?_) (fun _ => ?_) _ | with_reducible exact le_refl _)
/-! drawbridge/drawbridgeref21.number -/
noncomputable def ref21_number.f (a1 : List Int) : Option (Int) :=
  (ref01_Get.f a1 true).bind fun r1 => lt (IntKind.i64.wrap r1) fun y1 => some (y1)
set_option maxRecDepth 100000 in
set_option maxHeartbeats 4000000 in
theorem ref21_number.spc (v1 : Value) (a1 : List Int) (r : Int) (H : ref21_number.f a1 = some r) : Spc Tryd.prog 32 [v1] [Val (Kd.sl (Kd.int .u8)) v1 a1] [] (fun (s : Unit) => .int .i64 r) (fun s => [Ent.pur (InR .i64 r)]) := by
 unfold ref21_number.f at H
 refine Spc.go Tryd.func32 rfl (by kernel_rfl) rfl rfl (all_cons (Val.per Per_sl) all_nil) fun F a w h => ?_
 refine Go.seq ?_
 refine Go.reg ?_
 refine ga h (o_assign rfl) rfl fun h => ?_
 refine GoR.done ?_
 refine Go.seq ?_
 refine Go.reg ?_
 refine mv h rfl rfl fun h => ?_
 obtain ⟨r1, er1, H⟩ := bindE H
 refine ga h (o_call (ref01_Get.spc v1 a1 true r1 er1) rfl [0] [] (by decide) rfl rfl) rfl fun h => ?_
 have g1 := h.mem.pur 0 rfl
 refine ga h (o_conv rfl t_q87 t_u3) rfl fun h => ?_
 obtain ⟨y1, ey1, H⟩ := ltE H
 refine ga h (o_assign' rfl (congrArg (fun z => Value.int .i64 z) ey1)) rfl fun h => ?_
 refine GoR.done ?_
 rw [← som H]
 exact g_ret (vs := [.int .i64 y1]) h Tryd.func32 ⟨rfl, trivial⟩ ⟨(), rfl, ((h.mem.pick [] (by decide) rfl).addpur (ey1 ▸ (wrap_in _ _)))⟩
def ref21_number.g (k_ : Nat) (a1 : List Int) : Option (Int) :=
  (ref01_Get.g k_ a1 true).bind fun r1 => lt (IntKind.i64.wrap r1) fun y1 => some (y1)
theorem ref21_number.le (k_ : Nat) (a1 : List Int) : Le (ref21_number.g k_ a1) (ref21_number.f a1) := by
 unfold ref21_number.g ref21_number.f
 repeat' (first | with_reducible refine le_loop fun _ => ?_ | with_reducible refine le_bind ?_ fun _ => ?_ | with_reducible refine le_ite ?_ ?_ | with_reducible refine le_lt fun _ => ?_ | with_reducible refine le_elim (fun _ => ?_) (fun _ => ?_) _ | with_reducible apply ref01_Get.le | with_reducible exact le_refl _)
/-! drawbridge/drawbridgeref21.letter -/
noncomputable def ref21_letter.f (a1 : Int) : Option (Int × Bool) :=
  ((if decide (65 ≤ a1) = true then some (decide (a1 ≤ 90)) else some (false))).bind (fun j1 => (if j1 = true then lt (IntKind.u8.wrap (a1 + 32)) fun y1 => some ((y1, true)) else ((if decide (97 ≤ a1) = true then (if decide (a1 ≤ 122) = true then some ((a1, true)) else (if decide (48 ≤ a1) = true then (if decide (a1 ≤ 57) = true then some ((a1, true)) else (if decide (a1 = 45) = true then some ((a1, true)) else lt (decide (a1 = 95)) fun y2 => some ((a1, y2)))) else (if decide (a1 = 45) = true then some ((a1, true)) else lt (decide (a1 = 95)) fun y3 => some ((a1, y3))))) else (if decide (48 ≤ a1) = true then (if decide (a1 ≤ 57) = true then some ((a1, true)) else (if decide (a1 = 45) = true then some ((a1, true)) else lt (decide (a1 = 95)) fun y4 => some ((a1, y4)))) else (if decide (a1 = 45) = true then some ((a1, true)) else lt (decide (a1 = 95)) fun y5 => some ((a1, y5)))))).bind (fun j2 => some ((j2.1, j2.2)))))
set_option maxRecDepth 100000 in
set_option maxHeartbeats 4000000 in
theorem ref21_letter.spc (a1 : Int) (ha1 : InR .u8 a1) (r : Int × Bool) (H : ref21_letter.f a1 = some r) : Spc Tryd.prog 48 [.int .u8 a1] [] [] (fun (s : Unit) => .tuple #[.int .u8 r.1, .bool r.2]) (fun s => [Ent.pur (InR .u8 r.1)]) := by
 unfold ref21_letter.f at H
 refine Spc.go Tryd.func48 rfl (by kernel_rfl) rfl rfl all_nil fun F a w h => ?_
 refine Go.seq ?_
 refine Go.reg ?_
 refine ga h (o_assign rfl) rfl fun h => ?_
 refine ga h (o_assign rfl) rfl fun h => ?_
 refine GoR.done ?_
 refine Go.seq ?_
 refine Go.seq ?_
 obtain ⟨o1, H, G1⟩ := bindE H
 refine g_cut (fun G => ∀ j1 (a : Act) (w : World), o1 = j1 → St Tryd.f48.ntmps F [(0, .int .u8 a1), (9, .bool j1)] [] a w → G a w) 1 ?_ fun J1 => ?_
 ·intro j1 a w ho_ h
  rw [ho_] at G1
  have H := G1
  by_cases c2 : j1 = true
  ·have H := ifT c2 H
   refine g_t h rfl c2 ?_
   refine Go.seq ?_
   refine Go.reg ?_
   refine mv h rfl rfl fun h => ?_
   refine ga h (o_bin rfl rfl rfl) rfl fun h => ?_
   obtain ⟨y1, ey1, H⟩ := ltE H
   refine ga h (o_assign' rfl (congrArg (fun z => Value.int .u8 z) ey1)) rfl fun h => ?_
   refine ga h (o_assign rfl) rfl fun h => ?_
   refine GoR.done ?_
   rw [← som H]
   exact g_ret (vs := [.int .u8 y1, .bool true]) h Tryd.func48 ⟨rfl, ⟨rfl, trivial⟩⟩ ⟨(), rfl, ((h.mem.pick [] (by decide) rfl).addpur (ey1 ▸ (wrap_in _ _)))⟩
  ·have H := ifF c2 H
   refine g_f h rfl c2 ?_
   refine Go.skip ?_
   refine Go.seq ?_
   obtain ⟨o2, H, G2⟩ := bindE H
   refine g_cut (fun G => ∀ j2 (a : Act) (w : World), o2 = j2 → InR .u8 j2.1 → St Tryd.f48.ntmps F [(2, .int .u8 j2.1), (3, .bool j2.2)] [] a w → G a w) 1 ?_ fun J2 => ?_
   ·intro j2 a w ho_ g1 h
    rw [ho_] at G2
    have H := G2
    rw [← som H]
    exact g_ret (vs := [.int .u8 j2.1, .bool j2.2]) h Tryd.func48 ⟨rfl, ⟨rfl, trivial⟩⟩ ⟨(), rfl, ((h.mem.pick [] (by decide) rfl).addpur g1)⟩
   refine Go.reg ?_
   refine mv h rfl rfl fun h => ?_
   refine mv h rfl rfl fun h => ?_
   refine ga h (o_bin rfl rfl rfl) rfl fun h => ?_
   refine mv h rfl rfl fun h => ?_
   by_cases c3 : decide (97 ≤ a1) = true
   ·have H := ifT c3 H
    refine gg h rfl rfl c3 (o_move rfl) rfl fun _ _ _ h => ?_
    refine gg h rfl rfl c3 (o_bin rfl rfl rfl) rfl fun _ _ _ h => ?_
    refine ga h (o_pickT rfl rfl c3) rfl fun h => ?_
    refine mv h rfl rfl fun h => ?_
    by_cases c4 : decide (a1 ≤ 122) = true
    ·have H := ifT c4 H
     iterate 3 (refine gk h rfl rfl (nb_t c4) rfl fun _ h => ?_)
     refine gk h rfl rfl rfl rfl fun _ h => ?_
     refine gk h rfl rfl rfl rfl fun _ h => ?_
     refine gk h rfl rfl (nb_t c4) rfl fun _ h => ?_
     refine ga h (o_pickT rfl rfl c4) rfl fun h => ?_
     refine mv h rfl rfl fun h => ?_
     refine gk h rfl rfl (nb_t rfl) rfl fun _ h => ?_
     refine gk h rfl rfl (nb_t rfl) rfl fun _ h => ?_
     refine ga h (o_pickT rfl rfl rfl) rfl fun h => ?_
     refine mv h rfl rfl fun h => ?_
     refine gk h rfl rfl (nb_t rfl) rfl fun _ h => ?_
     refine gk h rfl rfl (nb_t rfl) rfl fun _ h => ?_
     refine ga h (o_pickT rfl rfl rfl) rfl fun h => ?_
     refine ga h (o_assign rfl) rfl fun h => ?_
     refine ga h (o_assign rfl) rfl fun h => ?_
     refine GoR.done ?_
     exact J2 (a1, true) _ _ (som H).symm ha1 (h.wr [])
    ·have H := ifF c4 H
     refine gg h rfl rfl (nbF c4) (o_move rfl) rfl fun _ _ _ h => ?_
     refine gg h rfl rfl (nbF c4) (o_bin rfl rfl rfl) rfl fun _ _ _ h => ?_
     refine gg h rfl rfl (nbF c4) (o_move rfl) rfl fun _ _ _ h => ?_
     by_cases c5 : decide (48 ≤ a1) = true
     ·have H := ifT c5 H
      refine gg h rfl rfl c5 (o_move rfl) rfl fun _ _ _ h => ?_
      refine gg h rfl rfl c5 (o_bin rfl rfl rfl) rfl fun _ _ _ h => ?_
      refine gg h rfl rfl (nbF c4) (o_pickT rfl rfl c5) rfl fun _ _ _ h => ?_
      refine ga h (o_pickF rfl rfl c4) rfl fun h => ?_
      refine mv h rfl rfl fun h => ?_
      by_cases c6 : decide (a1 ≤ 57) = true
      ·have H := ifT c6 H
       refine gk h rfl rfl (nb_t c6) rfl fun _ h => ?_
       refine gk h rfl rfl (nb_t c6) rfl fun _ h => ?_
       refine ga h (o_pickT rfl rfl c6) rfl fun h => ?_
       refine mv h rfl rfl fun h => ?_
       refine gk h rfl rfl (nb_t rfl) rfl fun _ h => ?_
       refine gk h rfl rfl (nb_t rfl) rfl fun _ h => ?_
       refine ga h (o_pickT rfl rfl rfl) rfl fun h => ?_
       refine ga h (o_assign rfl) rfl fun h => ?_
       refine ga h (o_assign rfl) rfl fun h => ?_
       refine GoR.done ?_
       exact J2 (a1, true) _ _ (som H).symm ha1 (h.wr [])
      ·have H := ifF c6 H
       refine gg h rfl rfl (nbF c6) (o_move rfl) rfl fun _ _ _ h => ?_
       refine gg h rfl rfl (nbF c6) (o_bin rfl rfl rfl) rfl fun _ _ _ h => ?_
       refine ga h (o_pickF rfl rfl c6) rfl fun h => ?_
       refine mv h rfl rfl fun h => ?_
       by_cases c7 : decide (a1 = 45) = true
       ·have H := ifT c7 H
        refine gk h rfl rfl (nb_t c7) rfl fun _ h => ?_
        refine gk h rfl rfl (nb_t c7) rfl fun _ h => ?_
        refine ga h (o_pickT rfl rfl c7) rfl fun h => ?_
        refine ga h (o_assign rfl) rfl fun h => ?_
        refine ga h (o_assign rfl) rfl fun h => ?_
        refine GoR.done ?_
        exact J2 (a1, true) _ _ (som H).symm ha1 (h.wr [])
       ·have H := ifF c7 H
        refine gg h rfl rfl (nbF c7) (o_move rfl) rfl fun _ _ _ h => ?_
        refine gg h rfl rfl (nbF c7) (o_bin rfl rfl rfl) rfl fun _ _ _ h => ?_
        refine ga h (o_pickF rfl rfl c7) rfl fun h => ?_
        refine ga h (o_assign rfl) rfl fun h => ?_
        obtain ⟨y2, ey2, H⟩ := ltE H
        refine ga h (o_assign' rfl (congrArg Value.bool ey2)) rfl fun h => ?_
        refine GoR.done ?_
        exact J2 (a1, y2) _ _ (som H).symm ha1 (h.wr [])
     ·have H := ifF c5 H
      refine gk h rfl rfl (nb_f c5) rfl fun _ h => ?_
      refine gk h rfl rfl (nb_f c5) rfl fun _ h => ?_
      refine gg h rfl rfl (nbF c4) (o_pickF rfl rfl c5) rfl fun _ _ _ h => ?_
      refine ga h (o_pickF rfl rfl c4) rfl fun h => ?_
      refine mv h rfl rfl fun h => ?_
      refine gg h rfl rfl (nbF Bool.false_ne_true) (o_move rfl) rfl fun _ _ _ h => ?_
      refine gg h rfl rfl (nbF Bool.false_ne_true) (o_bin rfl rfl rfl) rfl fun _ _ _ h => ?_
      refine ga h (o_pickF rfl rfl Bool.false_ne_true) rfl fun h => ?_
      refine mv h rfl rfl fun h => ?_
      by_cases c8 : decide (a1 = 45) = true
      ·have H := ifT c8 H
       refine gk h rfl rfl (nb_t c8) rfl fun _ h => ?_
       refine gk h rfl rfl (nb_t c8) rfl fun _ h => ?_
       refine ga h (o_pickT rfl rfl c8) rfl fun h => ?_
       refine ga h (o_assign rfl) rfl fun h => ?_
       refine ga h (o_assign rfl) rfl fun h => ?_
       refine GoR.done ?_
       exact J2 (a1, true) _ _ (som H).symm ha1 (h.wr [])
      ·have H := ifF c8 H
       refine gg h rfl rfl (nbF c8) (o_move rfl) rfl fun _ _ _ h => ?_
       refine gg h rfl rfl (nbF c8) (o_bin rfl rfl rfl) rfl fun _ _ _ h => ?_
       refine ga h (o_pickF rfl rfl c8) rfl fun h => ?_
       refine ga h (o_assign rfl) rfl fun h => ?_
       obtain ⟨y3, ey3, H⟩ := ltE H
       refine ga h (o_assign' rfl (congrArg Value.bool ey3)) rfl fun h => ?_
       refine GoR.done ?_
       exact J2 (a1, y3) _ _ (som H).symm ha1 (h.wr [])
   ·have H := ifF c3 H
    refine gk h rfl rfl (nb_f c3) rfl fun _ h => ?_
    refine gk h rfl rfl (nb_f c3) rfl fun _ h => ?_
    refine ga h (o_pickF rfl rfl c3) rfl fun h => ?_
    refine mv h rfl rfl fun h => ?_
    refine gg h rfl rfl (nbF Bool.false_ne_true) (o_move rfl) rfl fun _ _ _ h => ?_
    refine gg h rfl rfl (nbF Bool.false_ne_true) (o_bin rfl rfl rfl) rfl fun _ _ _ h => ?_
    refine gg h rfl rfl (nbF Bool.false_ne_true) (o_move rfl) rfl fun _ _ _ h => ?_
    by_cases c9 : decide (48 ≤ a1) = true
    ·have H := ifT c9 H
     refine gg h rfl rfl c9 (o_move rfl) rfl fun _ _ _ h => ?_
     refine gg h rfl rfl c9 (o_bin rfl rfl rfl) rfl fun _ _ _ h => ?_
     refine gg h rfl rfl (nbF Bool.false_ne_true) (o_pickT rfl rfl c9) rfl fun _ _ _ h => ?_
     refine ga h (o_pickF rfl rfl Bool.false_ne_true) rfl fun h => ?_
     refine mv h rfl rfl fun h => ?_
     by_cases c10 : decide (a1 ≤ 57) = true
     ·have H := ifT c10 H
      refine gk h rfl rfl (nb_t c10) rfl fun _ h => ?_
      refine gk h rfl rfl (nb_t c10) rfl fun _ h => ?_
      refine ga h (o_pickT rfl rfl c10) rfl fun h => ?_
      refine mv h rfl rfl fun h => ?_
      refine gk h rfl rfl (nb_t rfl) rfl fun _ h => ?_
      refine gk h rfl rfl (nb_t rfl) rfl fun _ h => ?_
      refine ga h (o_pickT rfl rfl rfl) rfl fun h => ?_
      refine ga h (o_assign rfl) rfl fun h => ?_
      refine ga h (o_assign rfl) rfl fun h => ?_
      refine GoR.done ?_
      exact J2 (a1, true) _ _ (som H).symm ha1 (h.wr [])
     ·have H := ifF c10 H
      refine gg h rfl rfl (nbF c10) (o_move rfl) rfl fun _ _ _ h => ?_
      refine gg h rfl rfl (nbF c10) (o_bin rfl rfl rfl) rfl fun _ _ _ h => ?_
      refine ga h (o_pickF rfl rfl c10) rfl fun h => ?_
      refine mv h rfl rfl fun h => ?_
      by_cases c11 : decide (a1 = 45) = true
      ·have H := ifT c11 H
       refine gk h rfl rfl (nb_t c11) rfl fun _ h => ?_
       refine gk h rfl rfl (nb_t c11) rfl fun _ h => ?_
       refine ga h (o_pickT rfl rfl c11) rfl fun h => ?_
       refine ga h (o_assign rfl) rfl fun h => ?_
       refine ga h (o_assign rfl) rfl fun h => ?_
       refine GoR.done ?_
       exact J2 (a1, true) _ _ (som H).symm ha1 (h.wr [])
      ·have H := ifF c11 H
       refine gg h rfl rfl (nbF c11) (o_move rfl) rfl fun _ _ _ h => ?_
       refine gg h rfl rfl (nbF c11) (o_bin rfl rfl rfl) rfl fun _ _ _ h => ?_
       refine ga h (o_pickF rfl rfl c11) rfl fun h => ?_
       refine ga h (o_assign rfl) rfl fun h => ?_
       obtain ⟨y4, ey4, H⟩ := ltE H
       refine ga h (o_assign' rfl (congrArg Value.bool ey4)) rfl fun h => ?_
       refine GoR.done ?_
       exact J2 (a1, y4) _ _ (som H).symm ha1 (h.wr [])
    ·have H := ifF c9 H
     refine gk h rfl rfl (nb_f c9) rfl fun _ h => ?_
     refine gk h rfl rfl (nb_f c9) rfl fun _ h => ?_
     refine gg h rfl rfl (nbF Bool.false_ne_true) (o_pickF rfl rfl c9) rfl fun _ _ _ h => ?_
     refine ga h (o_pickF rfl rfl Bool.false_ne_true) rfl fun h => ?_
     refine mv h rfl rfl fun h => ?_
     refine gg h rfl rfl (nbF Bool.false_ne_true) (o_move rfl) rfl fun _ _ _ h => ?_
     refine gg h rfl rfl (nbF Bool.false_ne_true) (o_bin rfl rfl rfl) rfl fun _ _ _ h => ?_
     refine ga h (o_pickF rfl rfl Bool.false_ne_true) rfl fun h => ?_
     refine mv h rfl rfl fun h => ?_
     by_cases c12 : decide (a1 = 45) = true
     ·have H := ifT c12 H
      refine gk h rfl rfl (nb_t c12) rfl fun _ h => ?_
      refine gk h rfl rfl (nb_t c12) rfl fun _ h => ?_
      refine ga h (o_pickT rfl rfl c12) rfl fun h => ?_
      refine ga h (o_assign rfl) rfl fun h => ?_
      refine ga h (o_assign rfl) rfl fun h => ?_
      refine GoR.done ?_
      exact J2 (a1, true) _ _ (som H).symm ha1 (h.wr [])
     ·have H := ifF c12 H
      refine gg h rfl rfl (nbF c12) (o_move rfl) rfl fun _ _ _ h => ?_
      refine gg h rfl rfl (nbF c12) (o_bin rfl rfl rfl) rfl fun _ _ _ h => ?_
      refine ga h (o_pickF rfl rfl c12) rfl fun h => ?_
      refine ga h (o_assign rfl) rfl fun h => ?_
      obtain ⟨y5, ey5, H⟩ := ltE H
      refine ga h (o_assign' rfl (congrArg Value.bool ey5)) rfl fun h => ?_
      refine GoR.done ?_
      exact J2 (a1, y5) _ _ (som H).symm ha1 (h.wr [])
 refine Go.reg ?_
 refine mv h rfl rfl fun h => ?_
 refine ga h (o_bin rfl rfl rfl) rfl fun h => ?_
 refine mv h rfl rfl fun h => ?_
 by_cases c1 : decide (65 ≤ a1) = true
 ·have H := ifT c1 H
  refine gg h rfl rfl c1 (o_move rfl) rfl fun _ _ _ h => ?_
  refine gg h rfl rfl c1 (o_bin rfl rfl rfl) rfl fun _ _ _ h => ?_
  refine ga h (o_pickT rfl rfl c1) rfl fun h => ?_
  refine GoR.done ?_
  exact J1 (decide (a1 ≤ 90)) _ _ (som H).symm (h.wr [])
 ·have H := ifF c1 H
  refine gk h rfl rfl (nb_f c1) rfl fun _ h => ?_
  refine gk h rfl rfl (nb_f c1) rfl fun _ h => ?_
  refine ga h (o_pickF rfl rfl c1) rfl fun h => ?_
  refine GoR.done ?_
  exact J1 false _ _ (som H).symm (h.wr [])
def ref21_letter.g (k_ : Nat) (a1 : Int) : Option (Int × Bool) :=
  ((if decide (65 ≤ a1) = true then some (decide (a1 ≤ 90)) else some (false))).bind (fun j1 => (if j1 = true then lt (IntKind.u8.wrap (a1 + 32)) fun y1 => some ((y1, true)) else ((if decide (97 ≤ a1) = true then (if decide (a1 ≤ 122) = true then some ((a1, true)) else (if decide (48 ≤ a1) = true then (if decide (a1 ≤ 57) = true then some ((a1, true)) else (if decide (a1 = 45) = true then some ((a1, true)) else lt (decide (a1 = 95)) fun y2 => some ((a1, y2)))) else (if decide (a1 = 45) = true then some ((a1, true)) else lt (decide (a1 = 95)) fun y3 => some ((a1, y3))))) else (if decide (48 ≤ a1) = true then (if decide (a1 ≤ 57) = true then some ((a1, true)) else (if decide (a1 = 45) = true then some ((a1, true)) else lt (decide (a1 = 95)) fun y4 => some ((a1, y4)))) else (if decide (a1 = 45) = true then some ((a1, true)) else lt (decide (a1 = 95)) fun y5 => some ((a1, y5)))))).bind (fun j2 => some ((j2.1, j2.2)))))
theorem ref21_letter.le (k_ : Nat) (a1 : Int) : Le (ref21_letter.g k_ a1) (ref21_letter.f a1) := by
 unfold ref21_letter.g ref21_letter.f
 repeat' (first | with_reducible refine le_loop fun _ => ?_ | with_reducible refine le_bind ?_ fun _ => ?_ | with_reducible refine le_ite ?_ ?_ | with_reducible refine le_lt fun _ => ?_ | with_reducible refine le_elim (fun _ => ?_) (fun _ => ?_) _ | with_reducible exact le_refl _)
/-! drawbridge/drawbridgeref21.names -/
noncomputable def ref21_names.f (a1 : List Int) (a2 : Int) : Option ((List Int) × Int × Int) :=
  (loop (fun s1 => (if decide ((a1.length : Int) ≤ s1.2) = true then some (.inr (.inr (([], 0, 160)))) else (idx a1 s1.2).bind fun x1 => (if decide (x1 = 0) = true then some (.inr (.inl ((s1.1, s1.2)))) else (if decide (63 < x1) = true then some (.inr (.inr (([], 0, 161)))) else ((if (!decide (s1.1 = [])) = true then (app s1.1 [46]).bind fun x2 => some (x2) else some (s1.1))).bind (fun j1 => (loop (fun s2 => (if decide (s2.2 ≤ x1) = true then (if decide ((a1.length : Int) ≤ (IntKind.i64.wrap (s1.2 + s2.2))) = true then some (.inr (.inr (([], 0, 160)))) else (idx a1 (IntKind.i64.wrap (s1.2 + s2.2))).bind fun x3 => (ref21_letter.f x3).bind fun r1 => (if (!r1.2) = true then some (.inr (.inr (([], 0, 161)))) else (app s2.1 ([r1.1] : List Int)).bind fun x4 => lt (IntKind.i64.wrap (s2.2 + 1)) fun y1 => some (.inl (x4, y1)))) else some (.inr (.inl (s2.1))))) (j1, 1)).bind (Sum.elim (fun j2 => lt (IntKind.i64.wrap ((IntKind.i64.wrap (s1.2 + 1)) + x1)) fun y2 => (if decide (255 < (IntKind.i64.wrap ((IntKind.i64.wrap (y2 - a2)) + 1))) = true then some (.inr (.inr (([], 0, 161)))) else some (.inl (j2, y2)))) (fun z_ => some (.inr (.inr (z_)))))))))) ([], a2)).bind (Sum.elim (fun j3 => lt (IntKind.i64.wrap (j3.2 + 1)) fun y3 => some ((j3.1, y3, 0))) (fun z_ => some (z_)))
set_option maxRecDepth 100000 in
set_option maxHeartbeats 4000000 in
theorem ref21_names.spc (v1 : Value) (a1 : List Int) (a2 : Int) (ha2 : InR .i64 a2) (r : (List Int) × Int × Int) (H : ref21_names.f a1 a2 = some r) : Spc Tryd.prog 40 [v1, .int .i64 a2] [Val (Kd.sl (Kd.int .u8)) v1 a1] [] (fun (s : Unit) => .tuple #[.string (mkS r.1), .int .i64 r.2.1, .int .i64 r.2.2]) (fun s => [Ent.pur (Bs r.1 ∧ InR .i64 r.2.1 ∧ InR .i64 r.2.2)]) := by
 unfold ref21_names.f at H
 refine Spc.go Tryd.func40 rfl (by kernel_rfl) rfl rfl (all_cons (Val.per Per_sl) all_nil) fun F a w h => ?_
 refine Go.seq ?_
 refine Go.reg ?_
 iterate 3 (refine ga h (o_assign rfl) rfl fun h => ?_)
 refine GoR.done ?_
 refine Go.seq ?_
 refine Go.reg ?_
 refine ga h (o_assign rfl) rfl fun h => ?_
 refine GoR.done ?_
 refine Go.seq ?_
 refine Go.reg ?_
 refine mv h rfl rfl fun h => ?_
 refine ga h (o_assign rfl) rfl fun h => ?_
 refine GoR.done ?_
 refine Go.seq ?_
 refine Go.block ?_
 obtain ⟨o1, hl, G1⟩ := bindE H
 refine g_cut (fun G => ∀ j3 (a : Act) (w : World), o1 = .inl (j3) → Bs j3.1 → InR .i64 j3.2 → St Tryd.f40.ntmps F [(7, .string (mkS j3.1)), (8, .int .i64 j3.2)] [] a w → G a w) 2 ?_ fun J3 => ?_
 ·intro j3 a w ho_ g13 g14 h
  rw [ho_] at G1
  have H := eInl G1
  refine Go.seq ?_
  refine Go.reg ?_
  refine mv h rfl rfl fun h => ?_
  refine mv h rfl rfl fun h => ?_
  refine ga h (o_bin rfl rfl rfl) rfl fun h => ?_
  refine ga h (o_assign rfl) rfl fun h => ?_
  obtain ⟨y3, ey3, H⟩ := ltE H
  refine ga h (o_assign' rfl (congrArg (fun z => Value.int .i64 z) ey3)) rfl fun h => ?_
  refine ga h (o_assign rfl) rfl fun h => ?_
  refine GoR.done ?_
  rw [← som H]
  exact g_ret (vs := [.string (mkS j3.1), .int .i64 y3, .int .i64 0]) h Tryd.func40 ⟨rfl, ⟨rfl, ⟨rfl, trivial⟩⟩⟩ ⟨(), rfl, ((h.mem.pick [] (by decide) rfl).addpur ⟨g13, (ey3 ▸ (wrap_in _ _)), (show InR .i64 0 by decide)⟩)⟩
 refine g_loop (fun s1 G => ∀  (a : Act) (w : World), Bs s1.1 → InR .i64 s1.2 → St Tryd.f40.ntmps F [(0, v1), (1, .int .i64 a2), (7, .string (mkS s1.1)), (8, .int .i64 s1.2)] [Val (Kd.sl (Kd.int .u8)) v1 a1] a w → G a w) hl (fun s1 p1 H i1 => ?_) fun I_ => ?_
 ·intro  a w g1 g2 h
  refine Go.block ?_
  refine Go.seq ?_
  refine Go.seq ?_
  refine Go.reg ?_
  refine mv h rfl rfl fun h => ?_
  refine mv h rfl rfl fun h => ?_
  have g3 := (len_at 0 rfl h.mem)
  refine ga h (o_ln rfl (rd_at 0 rfl) t_v22) rfl fun h => ?_
  refine ga h (o_bin rfl rfl rfl) rfl fun h => ?_
  refine GoR.done ?_
  by_cases c1 : decide ((a1.length : Int) ≤ s1.2) = true
  ·have H := ifT c1 H
   refine g_t h rfl c1 ?_
   refine Go.seq ?_
   refine Go.reg ?_
   iterate 3 (refine ga h (o_assign rfl) rfl fun h => ?_)
   refine GoR.done ?_
   have e_ := som H; subst e_
   rw [← nx_out i1] at G1
   have H := G1
   rw [← som H]
   exact g_ret (vs := [.string (mkS []), .int .i64 0, .int .i64 160]) h Tryd.func40 ⟨rfl, ⟨rfl, ⟨rfl, trivial⟩⟩⟩ ⟨(), rfl, ((h.mem.pick [] (by decide) rfl).addpur ⟨(show Bs [] by decide), (show InR .i64 0 by decide), (show InR .i64 160 by decide)⟩)⟩
  ·have H := ifF c1 H
   refine g_f h rfl c1 ?_
   refine Go.skip ?_
   refine Go.seq ?_
   refine Go.reg ?_
   refine mv h rfl rfl fun h => ?_
   refine mv h rfl rfl fun h => ?_
   obtain ⟨x1, ex1, H⟩ := bindE H
   refine ga h (o_ix rfl rfl (rd_at 0 rfl) ex1 t_v22) rfl fun h => ?_
   have g4 := (rd_inr (rd_at 0 rfl) ex1 h.mem)
   refine ga h (o_lex rfl (rd_at 0 rfl) ex1 X_int t_y5 (by decide)) rfl fun h => ?_
   refine ga h (o_convw rfl t_q5 t_u3 g4 rfl) rfl fun h => ?_
   refine ga h (o_assign rfl) rfl fun h => ?_
   refine GoR.done ?_
   refine Go.seq ?_
   refine Go.seq ?_
   refine Go.reg ?_
   refine mv h rfl rfl fun h => ?_
   refine ga h (o_bin rfl rfl rfl) rfl fun h => ?_
   refine GoR.done ?_
   by_cases c2 : decide (x1 = 0) = true
   ·have H := ifT c2 H
    refine g_t h rfl c2 ?_
    refine Go.exit rfl ?_
    have e_ := som H; subst e_
    exact J3 (s1.1, s1.2) _ _ (nx_out i1).symm g1 g2 (h.wr [])
   ·have H := ifF c2 H
    refine g_f h rfl c2 ?_
    refine Go.skip ?_
    refine Go.seq ?_
    refine Go.seq ?_
    refine Go.reg ?_
    refine mv h rfl rfl fun h => ?_
    refine ga h (o_bin rfl rfl rfl) rfl fun h => ?_
    refine GoR.done ?_
    by_cases c3 : decide (63 < x1) = true
    ·have H := ifT c3 H
     refine g_t h rfl c3 ?_
     refine Go.seq ?_
     refine Go.reg ?_
     iterate 3 (refine ga h (o_assign rfl) rfl fun h => ?_)
     refine GoR.done ?_
     have e_ := som H; subst e_
     rw [← nx_out i1] at G1
     have H := G1
     rw [← som H]
     exact g_ret (vs := [.string (mkS []), .int .i64 0, .int .i64 161]) h Tryd.func40 ⟨rfl, ⟨rfl, ⟨rfl, trivial⟩⟩⟩ ⟨(), rfl, ((h.mem.pick [] (by decide) rfl).addpur ⟨(show Bs [] by decide), (show InR .i64 0 by decide), (show InR .i64 161 by decide)⟩)⟩
    ·have H := ifF c3 H
     refine g_f h rfl c3 ?_
     refine Go.skip ?_
     refine Go.seq ?_
     obtain ⟨o2, H, G2⟩ := bindE H
     refine g_cut (fun G => ∀ j1 (a : Act) (w : World), o2 = j1 → Bs j1 → St Tryd.f40.ntmps F [(0, v1), (1, .int .i64 a2), (7, .string (mkS j1)), (8, .int .i64 s1.2), (9, .int .i64 x1)] [Val (Kd.sl (Kd.int .u8)) v1 a1] a w → G a w) 1 ?_ fun J1 => ?_
     ·intro j1 a w ho_ g5 h
      rw [ho_] at G2
      have H := G2
      refine Go.seq ?_
      refine Go.seq ?_
      refine Go.reg ?_
      refine ga h (o_assign rfl) rfl fun h => ?_
      refine GoR.done ?_
      refine Go.block ?_
      obtain ⟨o3, hl, G3⟩ := bindE H
      refine g_cut (fun G => ∀ j2 (a : Act) (w : World), o3 = .inl (j2) → Bs j2 → St Tryd.f40.ntmps F [(0, v1), (1, .int .i64 a2), (7, .string (mkS j2)), (8, .int .i64 s1.2), (9, .int .i64 x1)] [Val (Kd.sl (Kd.int .u8)) v1 a1] a w → G a w) 2 ?_ fun J2 => ?_
      ·intro j2 a w ho_ g12 h
       rw [ho_] at G3
       have H := eInl G3
       refine Go.seq ?_
       refine Go.reg ?_
       refine mv h rfl rfl fun h => ?_
       refine ga h (o_bin rfl rfl rfl) rfl fun h => ?_
       refine mv h rfl rfl fun h => ?_
       refine ga h (o_bin rfl rfl rfl) rfl fun h => ?_
       obtain ⟨y2, ey2, H⟩ := ltE H
       refine ga h (o_assign' rfl (congrArg (fun z => Value.int .i64 z) ey2)) rfl fun h => ?_
       refine GoR.done ?_
       refine Go.seq ?_
       refine Go.reg ?_
       refine mv h rfl rfl fun h => ?_
       refine mv h rfl rfl fun h => ?_
       iterate 3 (refine ga h (o_bin rfl rfl rfl) rfl fun h => ?_)
       refine GoR.done ?_
       by_cases c8 : decide (255 < (IntKind.i64.wrap ((IntKind.i64.wrap (y2 - a2)) + 1))) = true
       ·have H := ifT c8 H
        refine g_t h rfl c8 ?_
        refine Go.seq ?_
        refine Go.reg ?_
        iterate 3 (refine ga h (o_assign rfl) rfl fun h => ?_)
        refine GoR.done ?_
        have e_ := som H; subst e_
        rw [← nx_out i1] at G1
        have H := G1
        rw [← som H]
        exact g_ret (vs := [.string (mkS []), .int .i64 0, .int .i64 161]) h Tryd.func40 ⟨rfl, ⟨rfl, ⟨rfl, trivial⟩⟩⟩ ⟨(), rfl, ((h.mem.pick [] (by decide) rfl).addpur ⟨(show Bs [] by decide), (show InR .i64 0 by decide), (show InR .i64 161 by decide)⟩)⟩
       ·have H := ifF c8 H
        refine g_f h rfl c8 ?_
        refine Go.skip ?_
        refine Go.inBlock ?_
        have e_ := som H; subst e_
        exact Go.inLoop (nx_in i1 _ _ g12 (ey2 ▸ (wrap_in _ _)) (h.wr [0]))
      refine g_loop (fun s2 G => ∀  (a : Act) (w : World), Bs s2.1 → InR .i64 s2.2 → St Tryd.f40.ntmps F [(0, v1), (1, .int .i64 a2), (7, .string (mkS s2.1)), (8, .int .i64 s1.2), (9, .int .i64 x1), (10, .int .i64 s2.2)] [Val (Kd.sl (Kd.int .u8)) v1 a1] a w → G a w) hl (fun s2 p2 H i2 => ?_) fun I_ => ?_
      ·intro  a w g6 g7 h
       refine Go.seq ?_
       refine Go.seq ?_
       refine Go.reg ?_
       refine mv h rfl rfl fun h => ?_
       refine mv h rfl rfl fun h => ?_
       refine ga h (o_bin rfl rfl rfl) rfl fun h => ?_
       refine GoR.done ?_
       by_cases c5 : decide (s2.2 ≤ x1) = true
       ·have H := ifT c5 H
        refine g_t h rfl c5 ?_
        refine Go.skip ?_
        refine Go.seq ?_
        refine Go.block ?_
        refine Go.seq ?_
        refine Go.seq ?_
        refine Go.reg ?_
        refine mv h rfl rfl fun h => ?_
        refine mv h rfl rfl fun h => ?_
        refine ga h (o_bin rfl rfl rfl) rfl fun h => ?_
        refine mv h rfl rfl fun h => ?_
        have g8 := (len_at 0 rfl h.mem)
        refine ga h (o_ln rfl (rd_at 0 rfl) t_v22) rfl fun h => ?_
        refine ga h (o_bin rfl rfl rfl) rfl fun h => ?_
        refine GoR.done ?_
        by_cases c6 : decide ((a1.length : Int) ≤ (IntKind.i64.wrap (s1.2 + s2.2))) = true
        ·have H := ifT c6 H
         refine g_t h rfl c6 ?_
         refine Go.seq ?_
         refine Go.reg ?_
         iterate 3 (refine ga h (o_assign rfl) rfl fun h => ?_)
         refine GoR.done ?_
         have e_ := som H; subst e_
         rw [← nx_out i2] at G3
         have H := G3
         have e_ := som H; subst e_
         rw [← nx_out i1] at G1
         have H := G1
         rw [← som H]
         exact g_ret (vs := [.string (mkS []), .int .i64 0, .int .i64 160]) h Tryd.func40 ⟨rfl, ⟨rfl, ⟨rfl, trivial⟩⟩⟩ ⟨(), rfl, ((h.mem.pick [] (by decide) rfl).addpur ⟨(show Bs [] by decide), (show InR .i64 0 by decide), (show InR .i64 160 by decide)⟩)⟩
        ·have H := ifF c6 H
         refine g_f h rfl c6 ?_
         refine Go.skip ?_
         refine Go.seq ?_
         refine Go.reg ?_
         iterate 3 (refine ga h (o_move rfl) rfl fun h => ?_)
         refine ga h (o_bin rfl rfl rfl) rfl fun h => ?_
         obtain ⟨x3, ex3, H⟩ := bindE H
         refine ga h (o_ix rfl rfl (rd_at 0 rfl) ex3 t_v22) rfl fun h => ?_
         have g9 := (rd_inr (rd_at 0 rfl) ex3 h.mem)
         refine ga h (o_lex rfl (rd_at 0 rfl) ex3 X_int t_y5 (by decide)) rfl fun h => ?_
         obtain ⟨r1, er1, H⟩ := bindE H
         refine ga h (o_call (ref21_letter.spc x3 g9 r1 er1) rfl [] [] (by decide) rfl rfl) rfl fun h => ?_
         have g10 := h.mem.pur 0 rfl
         refine mv h rfl rfl fun h => ?_
         refine ga h (o_extract rfl rfl) rfl fun h => ?_
         refine ga h (o_extract rfl rfl) rfl fun h => ?_
         refine ga h (o_assign rfl) rfl fun h => ?_
         refine ga h (o_assign rfl) rfl fun h => ?_
         refine GoR.done ?_
         refine Go.seq ?_
         refine Go.seq ?_
         refine Go.reg ?_
         refine mv h rfl rfl fun h => ?_
         refine ga h (o_not rfl) rfl fun h => ?_
         refine GoR.done ?_
         by_cases c7 : (!r1.2) = true
         ·have H := ifT c7 H
          refine g_t h rfl c7 ?_
          refine Go.seq ?_
          refine Go.reg ?_
          iterate 3 (refine ga h (o_assign rfl) rfl fun h => ?_)
          refine GoR.done ?_
          have e_ := som H; subst e_
          rw [← nx_out i2] at G3
          have H := G3
          have e_ := som H; subst e_
          rw [← nx_out i1] at G1
          have H := G1
          rw [← som H]
          exact g_ret (vs := [.string (mkS []), .int .i64 0, .int .i64 161]) h Tryd.func40 ⟨rfl, ⟨rfl, ⟨rfl, trivial⟩⟩⟩ ⟨(), rfl, ((h.mem.pick [] (by decide) rfl).addpur ⟨(show Bs [] by decide), (show InR .i64 0 by decide), (show InR .i64 161 by decide)⟩)⟩
         ·have H := ifF c7 H
          refine g_f h rfl c7 ?_
          refine Go.skip ?_
          refine Go.reg ?_
          refine mv h rfl rfl fun h => ?_
          refine mv h rfl rfl fun h => ?_
          refine gs h (o_bs (K := (Kd.int .u8)) (vs := [.int .u8 r1.1]) (xs := ([r1.1] : List Int)) rfl rfl (pvs_cons (pv_int g10) pvs_nil) t_a22 (by decide) (by decide)) rfl fun v2 _ _ h => ?_
          have g11 := (rd_bs (rd_own 0 rfl) h.mem)
          refine ga h (o_b2s rfl (rd_own 0 rfl) t_u22 t_u5 t_u9) rfl fun h => ?_
          obtain ⟨x4, ex4, H⟩ := bindE H
          refine ga h (o_adds rfl rfl ex4) rfl fun h => ?_
          refine ga h (o_assign rfl) rfl fun h => ?_
          refine GoR.done ?_
          refine Go.inBlock ?_
          refine Go.reg ?_
          refine mv h rfl rfl fun h => ?_
          refine ga h (o_bin rfl rfl rfl) rfl fun h => ?_
          obtain ⟨y1, ey1, H⟩ := ltE H
          refine ga h (o_assign' rfl (congrArg (fun z => Value.int .i64 z) ey1)) rfl fun h => ?_
          refine GoR.done ?_
          have e_ := som H; subst e_
          exact Go.inLoop (nx_in i2 _ _ (Bs.app g6 g11 ex4) (ey1 ▸ (wrap_in _ _)) (h.wr [2]))
       ·have H := ifF c5 H
        refine g_f h rfl c5 ?_
        refine Go.exit rfl ?_
        have e_ := som H; subst e_
        exact J2 s2.1 _ _ (nx_out i2).symm g6 (h.wr [0])
      ·exact I_ _ _ g5 (show InR .i64 1 by decide) (h.wr [0])
     refine Go.seq ?_
     refine Go.reg ?_
     refine mv h rfl rfl fun h => ?_
     refine ga h (o_nes rfl rfl g1 (show Bs [] by decide)) rfl fun h => ?_
     refine GoR.done ?_
     by_cases c4 : (!decide (s1.1 = [])) = true
     ·have H := ifT c4 H
      refine g_t h rfl c4 ?_
      refine Go.reg ?_
      refine mv h rfl rfl fun h => ?_
      obtain ⟨x2, ex2, H⟩ := bindE H
      refine ga h (o_adds rfl rfl ex2) rfl fun h => ?_
      refine ga h (o_assign rfl) rfl fun h => ?_
      refine GoR.done ?_
      exact J1 x2 _ _ (som H).symm (Bs.app g1 (show Bs [46] by decide) ex2) (h.wr [0])
     ·have H := ifF c4 H
      refine g_f h rfl c4 ?_
      refine Go.skip ?_
      exact J1 s1.1 _ _ (som H).symm g1 (h.wr [0])
 ·exact I_ _ _ (show Bs [] by decide) ha2 (h.wr [0])
def ref21_names.g (k_ : Nat) (a1 : List Int) (a2 : Int) : Option ((List Int) × Int × Int) :=
  (loopK k_ (fun s1 => (if decide ((a1.length : Int) ≤ s1.2) = true then some (.inr (.inr (([], 0, 160)))) else (idx a1 s1.2).bind fun x1 => (if decide (x1 = 0) = true then some (.inr (.inl ((s1.1, s1.2)))) else (if decide (63 < x1) = true then some (.inr (.inr (([], 0, 161)))) else ((if (!decide (s1.1 = [])) = true then (app s1.1 [46]).bind fun x2 => some (x2) else some (s1.1))).bind (fun j1 => (loopK k_ (fun s2 => (if decide (s2.2 ≤ x1) = true then (if decide ((a1.length : Int) ≤ (IntKind.i64.wrap (s1.2 + s2.2))) = true then some (.inr (.inr (([], 0, 160)))) else (idx a1 (IntKind.i64.wrap (s1.2 + s2.2))).bind fun x3 => (ref21_letter.g k_ x3).bind fun r1 => (if (!r1.2) = true then some (.inr (.inr (([], 0, 161)))) else (app s2.1 ([r1.1] : List Int)).bind fun x4 => lt (IntKind.i64.wrap (s2.2 + 1)) fun y1 => some (.inl (x4, y1)))) else some (.inr (.inl (s2.1))))) (j1, 1)).bind (Sum.elim (fun j2 => lt (IntKind.i64.wrap ((IntKind.i64.wrap (s1.2 + 1)) + x1)) fun y2 => (if decide (255 < (IntKind.i64.wrap ((IntKind.i64.wrap (y2 - a2)) + 1))) = true then some (.inr (.inr (([], 0, 161)))) else some (.inl (j2, y2)))) (fun z_ => some (.inr (.inr (z_)))))))))) ([], a2)).bind (Sum.elim (fun j3 => lt (IntKind.i64.wrap (j3.2 + 1)) fun y3 => some ((j3.1, y3, 0))) (fun z_ => some (z_)))
theorem ref21_names.le (k_ : Nat) (a1 : List Int) (a2 : Int) : Le (ref21_names.g k_ a1 a2) (ref21_names.f a1 a2) := by
 unfold ref21_names.g ref21_names.f
 repeat' (first | with_reducible refine le_loop fun _ => ?_ | with_reducible refine le_bind ?_ fun _ => ?_ | with_reducible refine le_ite ?_ ?_ | with_reducible refine le_lt fun _ => ?_ | with_reducible refine le_elim (fun _ => ?_) (fun _ => ?_) _ | with_reducible apply ref21_letter.le | with_reducible exact le_refl _)
end Go.Proofs.YtjjceikmimhpnaaDoor.S
