/- Contracts, printed by a program of this session. -/
import Derived.Test.YtjjceikmimhpnaaDoorT5
import Derived.Test.YtjjceikmimhpnaaDoorT9
import Derived.Test.YtjjceikmimhpnaaDoorT10
import Derived.Test.YtjjceikmimhpnaaDoorT11
import Derived.Test.YtjjceikmimhpnaaDoorT12
namespace Go.Proofs.YtjjceikmimhpnaaDoor.S
open Go Go.SL Go.RowKit
set_option linter.unusedVariables false
set_option linter.unusedSimpArgs false
/-! drawbridge/drawbridgelaw21.DnsTells -/
noncomputable def law21_DnsTells.f (a1 : List Int) (a2 : List Int) (a3 : Int) (a4 : Int) : Option (Bool) :=
  ((if decide (2000 < (a1.length : Int)) = true then some (true) else some (decide (2000 < (a2.length : Int))))).bind (fun j1 => (if j1 = true then (law21_heads.f).bind fun r1 => some (r1) else (dns_Question.f a1).bind fun r2 => (ref21_Question.f a1).bind fun r3 => (dns_Ask.f a3 a2 a4).bind fun r4 => (ref21_Ask.f a3 a2 a4).bind fun r5 => (dns_Id.f a1).bind fun r6 => (ref21_Id.f a1).bind fun r7 => (dns_Fail.f a1 a4).bind fun r8 => (ref21_Fail.f a1 a4).bind fun r9 => ((if (!decide (r2.1 = r3.1)) = true then some (true) else (if (!decide (r2.2.1 = r3.2.1)) = true then some (true) else (if (!decide (r2.2.2 = r3.2.2)) = true then some (true) else (ref01_Same.f r4.1 r5.1).bind fun r10 => (if (!r10) = true then some (true) else (if (!decide (r4.2 = r5.2)) = true then some (true) else (if (!decide (r6.1 = r7.1)) = true then some (true) else (if (!(r6.2 == r7.2)) = true then some (true) else (ref01_Same.f r8.1 r9.1).bind fun r11 => (if (!r11) = true then some (true) else some ((!(r8.2 == r9.2)))))))))))).bind (fun j2 => (if j2 = true then some (false) else ((dns_With.f a1 a3).bind fun r12 => (ref21_With.f a1 a3).bind fun r13 => (ref01_Same.f r12 r13).bind fun r14 => (if r14 = true then (dns_Query.f a1).bind fun r15 => (ref21_Query.f a1).bind fun r16 => (if (r15 == r16) = true then (law21_heads.f).bind fun r17 => some (r17) else some (false)) else some (false))).bind (fun j3 => some (j3))))))
set_option maxRecDepth 100000 in
set_option maxHeartbeats 4000000 in
theorem law21_DnsTells.spc (v1 : Value) (a1 : List Int) (a2 : List Int) (ha2 : Bs a2) (a3 : Int) (ha3 : InR .i64 a3) (a4 : Int) (ha4 : InR .i64 a4) (r : Bool) (H : law21_DnsTells.f a1 a2 a3 a4 = some r) : Spc Tryd.prog 3 [v1, .string (mkS a2), .int .i64 a3, .int .i64 a4] [Val (Kd.sl (Kd.int .u8)) v1 a1, Pfl (Kd.eq gv0) 0 0 ()] [] (fun (s : Unit) => .bool r) (fun s => []) := by
 unfold law21_DnsTells.f at H
 refine Spc.go Tryd.func3 rfl (by kernel_rfl) rfl rfl (all_cons (Val.per Per_sl) (all_cons Per_pfl all_nil)) fun F a w h => ?_
 refine Go.seq ?_
 refine Go.reg ?_
 refine ga h (o_assign rfl) rfl fun h => ?_
 refine GoR.done ?_
 refine Go.seq ?_
 refine Go.seq ?_
 obtain ⟨o1, H, G1⟩ := bindE H
 refine g_cut (fun G => ∀ j1 (a : Act) (w : World), o1 = j1 → St Tryd.f3.ntmps F [(0, v1), (1, .string (mkS a2)), (2, .int .i64 a3), (3, .int .i64 a4), (34, .bool j1)] [Val (Kd.sl (Kd.int .u8)) v1 a1, Pfl (Kd.eq gv0) 0 0 ()] a w → G a w) 1 ?_ fun J1 => ?_
 ·intro j1 a w ho_ h
  rw [ho_] at G1
  have H := G1
  by_cases c2 : j1 = true
  ·have H := ifT c2 H
   refine g_t h rfl c2 ?_
   refine Go.seq ?_
   refine Go.reg ?_
   obtain ⟨r1, er1, H⟩ := bindE H
   refine ga h (o_call (law21_heads.spc  r1 er1) rfl [1] [] (by decide) rfl rfl) rfl fun h => ?_
   refine ga h (o_assign rfl) rfl fun h => ?_
   refine GoR.done ?_
   rw [← som H]
   exact g_ret (vs := [.bool r1]) h Tryd.func3 ⟨rfl, trivial⟩ ⟨(), rfl, (h.mem.pick [] (by decide) rfl)⟩
  ·have H := ifF c2 H
   refine g_f h rfl c2 ?_
   refine Go.skip ?_
   refine Go.seq ?_
   refine Go.reg ?_
   refine mv h rfl rfl fun h => ?_
   obtain ⟨r2, er2, H⟩ := bindE H
   refine ga h (o_call (dns_Question.spc v1 a1 r2 er2) rfl [0, 1] [] (by decide) rfl rfl) rfl fun h => ?_
   have g2 := h.mem.pur 0 rfl
   refine mv h rfl rfl fun h => ?_
   iterate 3 (refine ga h (o_extract rfl rfl) rfl fun h => ?_)
   iterate 3 (refine ga h (o_assign rfl) rfl fun h => ?_)
   refine GoR.done ?_
   refine Go.seq ?_
   refine Go.reg ?_
   refine mv h rfl rfl fun h => ?_
   obtain ⟨r3, er3, H⟩ := bindE H
   refine ga h (o_call (ref21_Question.spc v1 a1 r3 er3) rfl [1] [] (by decide) rfl rfl) rfl fun h => ?_
   have g3 := h.mem.pur 0 rfl
   refine mv h rfl rfl fun h => ?_
   iterate 3 (refine ga h (o_extract rfl rfl) rfl fun h => ?_)
   iterate 3 (refine ga h (o_assign rfl) rfl fun h => ?_)
   refine GoR.done ?_
   refine Go.seq ?_
   refine Go.reg ?_
   iterate 3 (refine ga h (o_move rfl) rfl fun h => ?_)
   obtain ⟨r4, er4, H⟩ := bindE H
   refine gs h (o_call (dns_Ask.spc a3 ha3 a2 ha2 a4 ha4 r4 er4) rfl [] [] (by decide) rfl rfl) rfl fun v2 _ _ h => ?_
   have g4 := h.mem.pur 0 rfl
   refine mv h rfl rfl fun h => ?_
   refine ga h (o_extract rfl rfl) rfl fun h => ?_
   refine ga h (o_extract rfl rfl) rfl fun h => ?_
   refine ga h (o_assign rfl) rfl fun h => ?_
   refine ga h (o_assign rfl) rfl fun h => ?_
   refine GoR.done ?_
   refine Go.seq ?_
   refine Go.reg ?_
   iterate 3 (refine ga h (o_move rfl) rfl fun h => ?_)
   obtain ⟨r5, er5, H⟩ := bindE H
   refine gs h (o_call (ref21_Ask.spc a3 ha3 a2 ha2 a4 ha4 r5 er5) rfl [] [] (by decide) rfl rfl) rfl fun v3 _ _ h => ?_
   have g5 := h.mem.pur 0 rfl
   refine mv h rfl rfl fun h => ?_
   refine ga h (o_extract rfl rfl) rfl fun h => ?_
   refine ga h (o_extract rfl rfl) rfl fun h => ?_
   refine ga h (o_assign rfl) rfl fun h => ?_
   refine ga h (o_assign rfl) rfl fun h => ?_
   refine GoR.done ?_
   refine Go.seq ?_
   refine Go.reg ?_
   refine mv h rfl rfl fun h => ?_
   obtain ⟨r6, er6, H⟩ := bindE H
   refine ga h (o_call (dns_Id.spc v1 a1 r6 er6) rfl [6] [] (by decide) rfl rfl) rfl fun h => ?_
   have g6 := h.mem.pur 0 rfl
   refine mv h rfl rfl fun h => ?_
   refine ga h (o_extract rfl rfl) rfl fun h => ?_
   refine ga h (o_extract rfl rfl) rfl fun h => ?_
   refine ga h (o_assign rfl) rfl fun h => ?_
   refine ga h (o_assign rfl) rfl fun h => ?_
   refine GoR.done ?_
   refine Go.seq ?_
   refine Go.reg ?_
   refine mv h rfl rfl fun h => ?_
   obtain ⟨r7, er7, H⟩ := bindE H
   refine ga h (o_call (ref21_Id.spc v1 a1 r7 er7) rfl [7] [] (by decide) rfl rfl) rfl fun h => ?_
   have g7 := h.mem.pur 0 rfl
   refine mv h rfl rfl fun h => ?_
   refine ga h (o_extract rfl rfl) rfl fun h => ?_
   refine ga h (o_extract rfl rfl) rfl fun h => ?_
   refine ga h (o_assign rfl) rfl fun h => ?_
   refine ga h (o_assign rfl) rfl fun h => ?_
   refine GoR.done ?_
   refine Go.seq ?_
   refine Go.reg ?_
   refine mv h rfl rfl fun h => ?_
   refine mv h rfl rfl fun h => ?_
   obtain ⟨r8, er8, H⟩ := bindE H
   refine gs h (o_call (dns_Fail.spc v1 a1 a4 ha4 r8 er8) rfl [8] [] (by decide) rfl rfl) rfl fun v4 _ _ h => ?_
   refine mv h rfl rfl fun h => ?_
   refine ga h (o_extract rfl rfl) rfl fun h => ?_
   refine ga h (o_extract rfl rfl) rfl fun h => ?_
   refine ga h (o_assign rfl) rfl fun h => ?_
   refine ga h (o_assign rfl) rfl fun h => ?_
   refine GoR.done ?_
   refine Go.seq ?_
   refine Go.reg ?_
   refine mv h rfl rfl fun h => ?_
   refine mv h rfl rfl fun h => ?_
   obtain ⟨r9, er9, H⟩ := bindE H
   refine gs h (o_call (ref21_Fail.spc v1 a1 a4 ha4 r9 er9) rfl [9] [] (by decide) rfl rfl) rfl fun v5 _ _ h => ?_
   refine mv h rfl rfl fun h => ?_
   refine ga h (o_extract rfl rfl) rfl fun h => ?_
   refine ga h (o_extract rfl rfl) rfl fun h => ?_
   refine ga h (o_assign rfl) rfl fun h => ?_
   refine ga h (o_assign rfl) rfl fun h => ?_
   refine GoR.done ?_
   refine Go.seq ?_
   refine Go.seq ?_
   obtain ⟨o2, H, G2⟩ := bindE H
   refine g_cut (fun G => ∀ j2 (a : Act) (w : World), o2 = j2 → St Tryd.f3.ntmps F [(0, v1), (2, .int .i64 a3), (128, .bool j2)] [Val (Kd.sl (Kd.int .u8)) v1 a1, Pfl (Kd.eq gv0) 0 0 ()] a w → G a w) 1 ?_ fun J2 => ?_
   ·intro j2 a w ho_ h
    rw [ho_] at G2
    have H := G2
    by_cases c11 : j2 = true
    ·have H := ifT c11 H
     refine g_t h rfl c11 ?_
     refine Go.seq ?_
     refine Go.reg ?_
     refine ga h (o_assign rfl) rfl fun h => ?_
     refine GoR.done ?_
     rw [← som H]
     exact g_ret (vs := [.bool false]) h Tryd.func3 ⟨rfl, trivial⟩ ⟨(), rfl, (h.mem.pick [] (by decide) rfl)⟩
    ·have H := ifF c11 H
     refine g_f h rfl c11 ?_
     refine Go.skip ?_
     refine Go.seq ?_
     obtain ⟨o3, H, G3⟩ := bindE H
     refine g_cut (fun G => ∀ j3 (a : Act) (w : World), o3 = j3 → St Tryd.f3.ntmps F [(8, .bool j3)] [Pfl (Kd.eq gv0) 0 0 ()] a w → G a w) 1 ?_ fun J3 => ?_
     ·intro j3 a w ho_ h
      rw [ho_] at G3
      have H := G3
      rw [← som H]
      exact g_ret (vs := [.bool j3]) h Tryd.func3 ⟨rfl, trivial⟩ ⟨(), rfl, (h.mem.pick [] (by decide) rfl)⟩
     refine Go.reg ?_
     refine mv h rfl rfl fun h => ?_
     refine mv h rfl rfl fun h => ?_
     obtain ⟨r12, er12, H⟩ := bindE H
     refine gs h (o_call (dns_With.spc v1 a1 a3 ha3 r12 er12) rfl [0] [] (by decide) rfl rfl) rfl fun v6 _ _ h => ?_
     refine mv h rfl rfl fun h => ?_
     refine mv h rfl rfl fun h => ?_
     obtain ⟨r13, er13, H⟩ := bindE H
     refine gs h (o_call (ref21_With.spc v1 a1 a3 ha3 r13 er13) rfl [1] [] (by decide) rfl rfl) rfl fun v7 _ _ h => ?_
     replace h := h.mm fun m => m.freeze 1 rfl
     replace h := h.mm fun m => m.freeze 0 rfl
     obtain ⟨r14, er14, H⟩ := bindE H
     refine ga h (o_call (ref01_Same.spc v6 r12 v7 r13 r14 er14) rfl [1, 0] [] (by decide) rfl rfl) rfl fun h => ?_
     refine mv h rfl rfl fun h => ?_
     by_cases c12 : r14 = true
     ·have H := ifT c12 H
      refine gg h rfl rfl c12 (o_move rfl) rfl fun _ _ _ h => ?_
      obtain ⟨r15, er15, H⟩ := bindE H
      refine gg h rfl rfl c12 (o_call (dns_Query.spc v1 a1 r15 er15) rfl [2] [] (by decide) rfl rfl) rfl fun _ _ _ h => ?_
      refine gg h rfl rfl c12 (o_move rfl) rfl fun _ _ _ h => ?_
      obtain ⟨r16, er16, H⟩ := bindE H
      refine gg h rfl rfl c12 (o_call (ref21_Query.spc v1 a1 r16 er16) rfl [2] [] (by decide) rfl rfl) rfl fun _ _ _ h => ?_
      refine gg h rfl rfl c12 (o_eqb rfl rfl t_u4) rfl fun _ _ _ h => ?_
      refine ga h (o_pickT rfl rfl c12) rfl fun h => ?_
      refine mv h rfl rfl fun h => ?_
      by_cases c13 : (r15 == r16) = true
      ·have H := ifT c13 H
       obtain ⟨r17, er17, H⟩ := bindE H
       refine gg h rfl rfl c13 (o_call (law21_heads.spc  r17 er17) rfl [3] [] (by decide) rfl rfl) rfl fun _ _ _ h => ?_
       refine ga h (o_pickT rfl rfl c13) rfl fun h => ?_
       refine ga h (o_assign rfl) rfl fun h => ?_
       refine GoR.done ?_
       exact J3 r17 _ _ (som H).symm (h.wr [3])
      ·have H := ifF c13 H
       refine gk h rfl rfl (nb_f c13) rfl fun _ h => ?_
       refine ga h (o_pickF rfl rfl c13) rfl fun h => ?_
       refine ga h (o_assign rfl) rfl fun h => ?_
       refine GoR.done ?_
       exact J3 false _ _ (som H).symm (h.wr [3])
     ·have H := ifF c12 H
      iterate 5 (refine gk h rfl rfl (nb_f c12) rfl fun _ h => ?_)
      refine ga h (o_pickF rfl rfl c12) rfl fun h => ?_
      refine mv h rfl rfl fun h => ?_
      refine gk h rfl rfl (nb_f Bool.false_ne_true) rfl fun _ h => ?_
      refine ga h (o_pickF rfl rfl Bool.false_ne_true) rfl fun h => ?_
      refine ga h (o_assign rfl) rfl fun h => ?_
      refine GoR.done ?_
      exact J3 false _ _ (som H).symm (h.wr [3])
   refine Go.reg ?_
   refine mv h rfl rfl fun h => ?_
   refine mv h rfl rfl fun h => ?_
   refine ga h (o_nes rfl rfl g2.1 g3.1) rfl fun h => ?_
   refine mv h rfl rfl fun h => ?_
   by_cases c3 : (!decide (r2.1 = r3.1)) = true
   ·have H := ifT c3 H
    iterate 3 (refine gk h rfl rfl (nb_t c3) rfl fun _ h => ?_)
    refine ga h (o_pickT rfl rfl c3) rfl fun h => ?_
    refine mv h rfl rfl fun h => ?_
    iterate 3 (refine gk h rfl rfl (nb_t rfl) rfl fun _ h => ?_)
    refine ga h (o_pickT rfl rfl rfl) rfl fun h => ?_
    refine mv h rfl rfl fun h => ?_
    iterate 4 (refine gk h rfl rfl (nb_t rfl) rfl fun _ h => ?_)
    refine ga h (o_pickT rfl rfl rfl) rfl fun h => ?_
    refine mv h rfl rfl fun h => ?_
    iterate 3 (refine gk h rfl rfl (nb_t rfl) rfl fun _ h => ?_)
    refine ga h (o_pickT rfl rfl rfl) rfl fun h => ?_
    refine mv h rfl rfl fun h => ?_
    iterate 3 (refine gk h rfl rfl (nb_t rfl) rfl fun _ h => ?_)
    refine ga h (o_pickT rfl rfl rfl) rfl fun h => ?_
    refine mv h rfl rfl fun h => ?_
    iterate 3 (refine gk h rfl rfl (nb_t rfl) rfl fun _ h => ?_)
    refine ga h (o_pickT rfl rfl rfl) rfl fun h => ?_
    refine mv h rfl rfl fun h => ?_
    iterate 4 (refine gk h rfl rfl (nb_t rfl) rfl fun _ h => ?_)
    refine ga h (o_pickT rfl rfl rfl) rfl fun h => ?_
    refine mv h rfl rfl fun h => ?_
    iterate 3 (refine gk h rfl rfl (nb_t rfl) rfl fun _ h => ?_)
    refine ga h (o_pickT rfl rfl rfl) rfl fun h => ?_
    refine GoR.done ?_
    exact J2 true _ _ (som H).symm (h.wr [10, 11])
   ·have H := ifF c3 H
    refine gg h rfl rfl (nbF c3) (o_move rfl) rfl fun _ _ _ h => ?_
    refine gg h rfl rfl (nbF c3) (o_move rfl) rfl fun _ _ _ h => ?_
    refine gg h rfl rfl (nbF c3) (o_bin rfl rfl rfl) rfl fun _ _ _ h => ?_
    refine ga h (o_pickF rfl rfl c3) rfl fun h => ?_
    refine mv h rfl rfl fun h => ?_
    by_cases c4 : (!decide (r2.2.1 = r3.2.1)) = true
    ·have H := ifT c4 H
     iterate 3 (refine gk h rfl rfl (nb_t c4) rfl fun _ h => ?_)
     refine ga h (o_pickT rfl rfl c4) rfl fun h => ?_
     refine mv h rfl rfl fun h => ?_
     iterate 4 (refine gk h rfl rfl (nb_t rfl) rfl fun _ h => ?_)
     refine ga h (o_pickT rfl rfl rfl) rfl fun h => ?_
     refine mv h rfl rfl fun h => ?_
     iterate 3 (refine gk h rfl rfl (nb_t rfl) rfl fun _ h => ?_)
     refine ga h (o_pickT rfl rfl rfl) rfl fun h => ?_
     refine mv h rfl rfl fun h => ?_
     iterate 3 (refine gk h rfl rfl (nb_t rfl) rfl fun _ h => ?_)
     refine ga h (o_pickT rfl rfl rfl) rfl fun h => ?_
     refine mv h rfl rfl fun h => ?_
     iterate 3 (refine gk h rfl rfl (nb_t rfl) rfl fun _ h => ?_)
     refine ga h (o_pickT rfl rfl rfl) rfl fun h => ?_
     refine mv h rfl rfl fun h => ?_
     iterate 4 (refine gk h rfl rfl (nb_t rfl) rfl fun _ h => ?_)
     refine ga h (o_pickT rfl rfl rfl) rfl fun h => ?_
     refine mv h rfl rfl fun h => ?_
     iterate 3 (refine gk h rfl rfl (nb_t rfl) rfl fun _ h => ?_)
     refine ga h (o_pickT rfl rfl rfl) rfl fun h => ?_
     refine GoR.done ?_
     exact J2 true _ _ (som H).symm (h.wr [10, 11])
    ·have H := ifF c4 H
     refine gg h rfl rfl (nbF c4) (o_move rfl) rfl fun _ _ _ h => ?_
     refine gg h rfl rfl (nbF c4) (o_move rfl) rfl fun _ _ _ h => ?_
     refine gg h rfl rfl (nbF c4) (o_bin rfl rfl rfl) rfl fun _ _ _ h => ?_
     refine ga h (o_pickF rfl rfl c4) rfl fun h => ?_
     refine mv h rfl rfl fun h => ?_
     by_cases c5 : (!decide (r2.2.2 = r3.2.2)) = true
     ·have H := ifT c5 H
      iterate 4 (refine gk h rfl rfl (nb_t c5) rfl fun _ h => ?_)
      refine ga h (o_pickT rfl rfl c5) rfl fun h => ?_
      refine mv h rfl rfl fun h => ?_
      iterate 3 (refine gk h rfl rfl (nb_t rfl) rfl fun _ h => ?_)
      refine ga h (o_pickT rfl rfl rfl) rfl fun h => ?_
      refine mv h rfl rfl fun h => ?_
      iterate 3 (refine gk h rfl rfl (nb_t rfl) rfl fun _ h => ?_)
      refine ga h (o_pickT rfl rfl rfl) rfl fun h => ?_
      refine mv h rfl rfl fun h => ?_
      iterate 3 (refine gk h rfl rfl (nb_t rfl) rfl fun _ h => ?_)
      refine ga h (o_pickT rfl rfl rfl) rfl fun h => ?_
      refine mv h rfl rfl fun h => ?_
      iterate 4 (refine gk h rfl rfl (nb_t rfl) rfl fun _ h => ?_)
      refine ga h (o_pickT rfl rfl rfl) rfl fun h => ?_
      refine mv h rfl rfl fun h => ?_
      iterate 3 (refine gk h rfl rfl (nb_t rfl) rfl fun _ h => ?_)
      refine ga h (o_pickT rfl rfl rfl) rfl fun h => ?_
      refine GoR.done ?_
      exact J2 true _ _ (som H).symm (h.wr [10, 11])
     ·have H := ifF c5 H
      refine gg h rfl rfl (nbF c5) (o_move rfl) rfl fun _ _ _ h => ?_
      refine gg h rfl rfl (nbF c5) (o_move rfl) rfl fun _ _ _ h => ?_
      replace h := h.mm fun m => m.freeze 7 rfl
      replace h := h.mm fun m => m.freeze 5 rfl
      obtain ⟨r10, er10, H⟩ := bindE H
      refine gg h rfl rfl (nbF c5) (o_call (ref01_Same.spc v2 r4.1 v3 r5.1 r10 er10) rfl [7, 5] [] (by decide) rfl rfl) rfl fun _ _ _ h => ?_
      refine gg h rfl rfl (nbF c5) (o_not rfl) rfl fun _ _ _ h => ?_
      refine ga h (o_pickF rfl rfl c5) rfl fun h => ?_
      refine mv h rfl rfl fun h => ?_
      by_cases c6 : (!r10) = true
      ·have H := ifT c6 H
       iterate 3 (refine gk h rfl rfl (nb_t c6) rfl fun _ h => ?_)
       refine ga h (o_pickT rfl rfl c6) rfl fun h => ?_
       refine mv h rfl rfl fun h => ?_
       iterate 3 (refine gk h rfl rfl (nb_t rfl) rfl fun _ h => ?_)
       refine ga h (o_pickT rfl rfl rfl) rfl fun h => ?_
       refine mv h rfl rfl fun h => ?_
       iterate 3 (refine gk h rfl rfl (nb_t rfl) rfl fun _ h => ?_)
       refine ga h (o_pickT rfl rfl rfl) rfl fun h => ?_
       refine mv h rfl rfl fun h => ?_
       iterate 4 (refine gk h rfl rfl (nb_t rfl) rfl fun _ h => ?_)
       refine ga h (o_pickT rfl rfl rfl) rfl fun h => ?_
       refine mv h rfl rfl fun h => ?_
       iterate 3 (refine gk h rfl rfl (nb_t rfl) rfl fun _ h => ?_)
       refine ga h (o_pickT rfl rfl rfl) rfl fun h => ?_
       refine GoR.done ?_
       exact J2 true _ _ (som H).symm (h.wr [10, 11])
      ·have H := ifF c6 H
       refine gg h rfl rfl (nbF c6) (o_move rfl) rfl fun _ _ _ h => ?_
       refine gg h rfl rfl (nbF c6) (o_move rfl) rfl fun _ _ _ h => ?_
       refine gg h rfl rfl (nbF c6) (o_bin rfl rfl rfl) rfl fun _ _ _ h => ?_
       refine ga h (o_pickF rfl rfl c6) rfl fun h => ?_
       refine mv h rfl rfl fun h => ?_
       by_cases c7 : (!decide (r4.2 = r5.2)) = true
       ·have H := ifT c7 H
        iterate 3 (refine gk h rfl rfl (nb_t c7) rfl fun _ h => ?_)
        refine ga h (o_pickT rfl rfl c7) rfl fun h => ?_
        refine mv h rfl rfl fun h => ?_
        iterate 3 (refine gk h rfl rfl (nb_t rfl) rfl fun _ h => ?_)
        refine ga h (o_pickT rfl rfl rfl) rfl fun h => ?_
        refine mv h rfl rfl fun h => ?_
        iterate 4 (refine gk h rfl rfl (nb_t rfl) rfl fun _ h => ?_)
        refine ga h (o_pickT rfl rfl rfl) rfl fun h => ?_
        refine mv h rfl rfl fun h => ?_
        iterate 3 (refine gk h rfl rfl (nb_t rfl) rfl fun _ h => ?_)
        refine ga h (o_pickT rfl rfl rfl) rfl fun h => ?_
        refine GoR.done ?_
        exact J2 true _ _ (som H).symm (h.wr [10, 11])
       ·have H := ifF c7 H
        refine gg h rfl rfl (nbF c7) (o_move rfl) rfl fun _ _ _ h => ?_
        refine gg h rfl rfl (nbF c7) (o_move rfl) rfl fun _ _ _ h => ?_
        refine gg h rfl rfl (nbF c7) (o_bin rfl rfl rfl) rfl fun _ _ _ h => ?_
        refine ga h (o_pickF rfl rfl c7) rfl fun h => ?_
        refine mv h rfl rfl fun h => ?_
        by_cases c8 : (!decide (r6.1 = r7.1)) = true
        ·have H := ifT c8 H
         iterate 3 (refine gk h rfl rfl (nb_t c8) rfl fun _ h => ?_)
         refine ga h (o_pickT rfl rfl c8) rfl fun h => ?_
         refine mv h rfl rfl fun h => ?_
         iterate 4 (refine gk h rfl rfl (nb_t rfl) rfl fun _ h => ?_)
         refine ga h (o_pickT rfl rfl rfl) rfl fun h => ?_
         refine mv h rfl rfl fun h => ?_
         iterate 3 (refine gk h rfl rfl (nb_t rfl) rfl fun _ h => ?_)
         refine ga h (o_pickT rfl rfl rfl) rfl fun h => ?_
         refine GoR.done ?_
         exact J2 true _ _ (som H).symm (h.wr [10, 11])
        ·have H := ifF c8 H
         refine gg h rfl rfl (nbF c8) (o_move rfl) rfl fun _ _ _ h => ?_
         refine gg h rfl rfl (nbF c8) (o_move rfl) rfl fun _ _ _ h => ?_
         refine gg h rfl rfl (nbF c8) (o_neb rfl rfl t_u4) rfl fun _ _ _ h => ?_
         refine ga h (o_pickF rfl rfl c8) rfl fun h => ?_
         refine mv h rfl rfl fun h => ?_
         by_cases c9 : (!(r6.2 == r7.2)) = true
         ·have H := ifT c9 H
          iterate 4 (refine gk h rfl rfl (nb_t c9) rfl fun _ h => ?_)
          refine ga h (o_pickT rfl rfl c9) rfl fun h => ?_
          refine mv h rfl rfl fun h => ?_
          iterate 3 (refine gk h rfl rfl (nb_t rfl) rfl fun _ h => ?_)
          refine ga h (o_pickT rfl rfl rfl) rfl fun h => ?_
          refine GoR.done ?_
          exact J2 true _ _ (som H).symm (h.wr [10, 11])
         ·have H := ifF c9 H
          refine gg h rfl rfl (nbF c9) (o_move rfl) rfl fun _ _ _ h => ?_
          refine gg h rfl rfl (nbF c9) (o_move rfl) rfl fun _ _ _ h => ?_
          replace h := h.mm fun m => m.freeze 1 rfl
          replace h := h.mm fun m => m.freeze 0 rfl
          obtain ⟨r11, er11, H⟩ := bindE H
          refine gg h rfl rfl (nbF c9) (o_call (ref01_Same.spc v4 r8.1 v5 r9.1 r11 er11) rfl [1, 0] [] (by decide) rfl rfl) rfl fun _ _ _ h => ?_
          refine gg h rfl rfl (nbF c9) (o_not rfl) rfl fun _ _ _ h => ?_
          refine ga h (o_pickF rfl rfl c9) rfl fun h => ?_
          refine mv h rfl rfl fun h => ?_
          by_cases c10 : (!r11) = true
          ·have H := ifT c10 H
           iterate 3 (refine gk h rfl rfl (nb_t c10) rfl fun _ h => ?_)
           refine ga h (o_pickT rfl rfl c10) rfl fun h => ?_
           refine GoR.done ?_
           exact J2 true _ _ (som H).symm (h.wr [10, 11])
          ·have H := ifF c10 H
           refine gg h rfl rfl (nbF c10) (o_move rfl) rfl fun _ _ _ h => ?_
           refine gg h rfl rfl (nbF c10) (o_move rfl) rfl fun _ _ _ h => ?_
           refine gg h rfl rfl (nbF c10) (o_neb rfl rfl t_u4) rfl fun _ _ _ h => ?_
           refine ga h (o_pickF rfl rfl c10) rfl fun h => ?_
           refine GoR.done ?_
           exact J2 (!(r8.2 == r9.2)) _ _ (som H).symm (h.wr [10, 11])
 refine Go.reg ?_
 refine mv h rfl rfl fun h => ?_
 have g1 := (len_at 0 rfl h.mem)
 refine ga h (o_ln rfl (rd_at 0 rfl) t_v22) rfl fun h => ?_
 refine ga h (o_bin rfl rfl rfl) rfl fun h => ?_
 refine mv h rfl rfl fun h => ?_
 by_cases c1 : decide (2000 < (a1.length : Int)) = true
 ·have H := ifT c1 H
  iterate 3 (refine gk h rfl rfl (nb_t c1) rfl fun _ h => ?_)
  refine ga h (o_pickT rfl rfl c1) rfl fun h => ?_
  refine GoR.done ?_
  exact J1 true _ _ (som H).symm (h.wr [0, 1])
 ·have H := ifF c1 H
  refine gg h rfl rfl (nbF c1) (o_move rfl) rfl fun _ _ _ h => ?_
  refine gg h rfl rfl (nbF c1) (o_lens rfl t_u9) rfl fun _ _ _ h => ?_
  refine gg h rfl rfl (nbF c1) (o_bin rfl rfl rfl) rfl fun _ _ _ h => ?_
  refine ga h (o_pickF rfl rfl c1) rfl fun h => ?_
  refine GoR.done ?_
  exact J1 (decide (2000 < (a2.length : Int))) _ _ (som H).symm (h.wr [0, 1])
def law21_DnsTells.g (k_ : Nat) (a1 : List Int) (a2 : List Int) (a3 : Int) (a4 : Int) : Option (Bool) :=
  ((if decide (2000 < (a1.length : Int)) = true then some (true) else some (decide (2000 < (a2.length : Int))))).bind (fun j1 => (if j1 = true then (law21_heads.g k_).bind fun r1 => some (r1) else (dns_Question.g k_ a1).bind fun r2 => (ref21_Question.g k_ a1).bind fun r3 => (dns_Ask.g k_ a3 a2 a4).bind fun r4 => (ref21_Ask.g k_ a3 a2 a4).bind fun r5 => (dns_Id.g k_ a1).bind fun r6 => (ref21_Id.g k_ a1).bind fun r7 => (dns_Fail.g k_ a1 a4).bind fun r8 => (ref21_Fail.g k_ a1 a4).bind fun r9 => ((if (!decide (r2.1 = r3.1)) = true then some (true) else (if (!decide (r2.2.1 = r3.2.1)) = true then some (true) else (if (!decide (r2.2.2 = r3.2.2)) = true then some (true) else (ref01_Same.g k_ r4.1 r5.1).bind fun r10 => (if (!r10) = true then some (true) else (if (!decide (r4.2 = r5.2)) = true then some (true) else (if (!decide (r6.1 = r7.1)) = true then some (true) else (if (!(r6.2 == r7.2)) = true then some (true) else (ref01_Same.g k_ r8.1 r9.1).bind fun r11 => (if (!r11) = true then some (true) else some ((!(r8.2 == r9.2)))))))))))).bind (fun j2 => (if j2 = true then some (false) else ((dns_With.g k_ a1 a3).bind fun r12 => (ref21_With.g k_ a1 a3).bind fun r13 => (ref01_Same.g k_ r12 r13).bind fun r14 => (if r14 = true then (dns_Query.g k_ a1).bind fun r15 => (ref21_Query.g k_ a1).bind fun r16 => (if (r15 == r16) = true then (law21_heads.g k_).bind fun r17 => some (r17) else some (false)) else some (false))).bind (fun j3 => some (j3))))))
theorem law21_DnsTells.le (k_ : Nat) (a1 : List Int) (a2 : List Int) (a3 : Int) (a4 : Int) : Le (law21_DnsTells.g k_ a1 a2 a3 a4) (law21_DnsTells.f a1 a2 a3 a4) := by
 unfold law21_DnsTells.g law21_DnsTells.f
 repeat' (first | with_reducible refine le_loop fun _ => ?_ | with_reducible refine le_bind ?_ fun _ => ?_ | with_reducible refine le_ite ?_ ?_ | with_reducible refine le_lt fun _ => ?_ | with_reducible refine le_elim (fun _ => ?_) (fun _ => ?_) _ | with_reducible apply dns_Ask.le | with_reducible apply dns_Fail.le | with_reducible apply dns_Id.le | with_reducible apply dns_Query.le | with_reducible apply dns_Question.le | with_reducible apply dns_With.le | with_reducible apply law21_heads.le | with_reducible apply ref01_Same.le | with_reducible apply ref21_Ask.le | with_reducible apply ref21_Fail.le | with_reducible apply ref21_Id.le | with_reducible apply ref21_Query.le | with_reducible apply ref21_Question.le | with_reducible apply ref21_With.le | with_reducible exact le_refl _)
end Go.Proofs.YtjjceikmimhpnaaDoor.S
