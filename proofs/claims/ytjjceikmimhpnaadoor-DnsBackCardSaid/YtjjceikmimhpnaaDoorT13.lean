/- Contracts, printed by a program of this session. -/
import Derived.Test.YtjjceikmimhpnaaDoorT5
import Derived.Test.YtjjceikmimhpnaaDoorT9
import Derived.Test.YtjjceikmimhpnaaDoorT10
import Derived.Test.YtjjceikmimhpnaaDoorT12
namespace Go.Proofs.YtjjceikmimhpnaaDoor.S
open Go Go.SL Go.RowKit
set_option linter.unusedVariables false
set_option linter.unusedSimpArgs false
/-! drawbridge/drawbridgeref21.Fail -/
noncomputable def ref21_Fail.f (a1 : List Int) (a2 : Int) : Option ((List Int) × Bool) :=
  (ref21_question.f a1).bind fun r1 => ((if (!decide (r1.2.2.2 = 0)) = true then some (true) else (ref21_Query.f a1).bind fun r2 => some ((!r2)))).bind (fun j1 => (if j1 = true then some (([], false)) else (idx a1 0).bind fun x1 => (idx a1 1).bind fun x2 => (mk 6 0).bind fun x3 => (app ([x1, x2, 129, IntKind.u8.wrap (IntKind.i64.wrap (128 + (bits .and .i64 a2 15))), 0, 1] : List Int) x3).bind fun x4 => (cut a1 12 r1.2.2.1).bind fun x5 => (app x4 x5).bind fun x6 => some ((x6, true))))
set_option maxRecDepth 100000 in
set_option maxHeartbeats 4000000 in
theorem ref21_Fail.spc (v1 : Value) (a1 : List Int) (a2 : Int) (ha2 : InR .i64 a2) (r : (List Int) × Bool) (H : ref21_Fail.f a1 a2 = some r) : Spc Tryd.prog 15 [v1, .int .i64 a2] [Val (Kd.sl (Kd.int .u8)) v1 a1] [] (fun (s : Value) => .tuple #[s, .bool r.2]) (fun s => [Val (Kd.osl (Kd.int .u8)) s r.1]) := by
 unfold ref21_Fail.f at H
 refine Spc.go Tryd.func15 rfl (by kernel_rfl) rfl rfl (all_cons (Val.per Per_sl) all_nil) fun F a w h => ?_
 refine Go.seq ?_
 refine Go.reg ?_
 refine ga h (o_assign rfl) rfl fun h => ?_
 refine ga h (o_assign rfl) rfl fun h => ?_
 refine GoR.done ?_
 refine Go.seq ?_
 refine Go.reg ?_
 refine mv h rfl rfl fun h => ?_
 obtain ⟨r1, er1, H⟩ := bindE H
 refine ga h (o_call (ref21_question.spc v1 a1 r1 er1) rfl [0] [] (by decide) rfl rfl) rfl fun h => ?_
 have g1 := h.mem.pur 0 rfl
 refine mv h rfl rfl fun h => ?_
 iterate 4 (refine ga h (o_extract rfl rfl) rfl fun h => ?_)
 iterate 4 (refine ga h (o_assign rfl) rfl fun h => ?_)
 refine GoR.done ?_
 refine Go.seq ?_
 refine Go.seq ?_
 obtain ⟨o1, H, G1⟩ := bindE H
 refine g_cut (fun G => ∀ j1 (a : Act) (w : World), o1 = j1 → St Tryd.f15.ntmps F [(0, v1), (1, .int .i64 a2), (8, .int .i64 r1.2.2.1), (24, .bool j1)] [Val (Kd.sl (Kd.int .u8)) v1 a1] a w → G a w) 1 ?_ fun J1 => ?_
 ·intro j1 a w ho_ h
  rw [ho_] at G1
  have H := G1
  by_cases c2 : j1 = true
  ·have H := ifT c2 H
   refine g_t h rfl c2 ?_
   refine Go.seq ?_
   refine Go.reg ?_
   refine ga h (o_assign rfl) rfl fun h => ?_
   refine ga h (o_assign rfl) rfl fun h => ?_
   refine GoR.done ?_
   replace h := h.mm fun m => m.nilo (Kd.int .u8)
   rw [← som H]
   exact g_ret (vs := [.slice none 0 0, .bool false]) h Tryd.func15 ⟨rfl, ⟨rfl, trivial⟩⟩ ⟨.slice none 0 0, rfl, (h.mem.pick [0] (by decide) rfl)⟩
  ·have H := ifF c2 H
   refine g_f h rfl c2 ?_
   refine Go.skip ?_
   refine Go.seq ?_
   replace h := h.wq [(0, v1), (1, .int .i64 a2), (8, .int .i64 r1.2.2.1)] [Val (Kd.sl (Kd.int .u8)) v1 a1] [0]
   obtain ⟨x1, ex1, H⟩ := bindE H
   obtain ⟨x2, ex2, H⟩ := bindE H
   refine Go.draw (E := [(0, v1), (1, .int .i64 a2), (8, .int .i64 r1.2.2.1)]) [] (L := [Val (Kd.sl (Kd.int .u8)) v1 a1]) h rfl rfl 10 [cn (v1), ce [0] (elemP v1 ((0 : Int).toNat * Kd.n (Kd.int .u8))), cm [0, 1] [] [] (.int .u8 x1) fun u => [Ent.pur (InR .u8 x1)], cn (v1), ce [3] (elemP v1 ((1 : Int).toNat * Kd.n (Kd.int .u8))), cm [3, 4] [] [] (.int .u8 x2) fun u => [Ent.pur (InR .u8 x2)], cn (.int .i64 a2), ce [6] (.int .i64 (bits .and .i64 a2 15)), ce [6, 7] (.int .i64 (IntKind.i64.wrap (128 + (bits .and .i64 a2 15)))), ce [6, 7, 8] (.int .u8 (IntKind.u8.wrap (IntKind.i64.wrap (128 + (bits .and .i64 a2 15)))))] rfl t_mxo (by kernel_rfl) (by rfl) ?_ fun f1 _ _ h => ?_
   ·exact ox rfl (o_move rfl) (ox rfl (o_ix rfl rfl (rd_at 0 rfl) ex1 t_v22) (ox rfl (OpS.pur (fun F w m_ => (rd_inr (rd_at 0 rfl) ex1 m_)) (o_lex rfl (rd_at 0 rfl) ex1 X_int t_y5 (by decide))) (ox rfl (o_move rfl) (ox rfl (o_ix rfl rfl (rd_at 0 rfl) ex2 t_v22) (ox rfl (OpS.pur (fun F w m_ => (rd_inr (rd_at 0 rfl) ex2 m_)) (o_lex rfl (rd_at 0 rfl) ex2 X_int t_y5 (by decide))) (ox rfl (o_move rfl) (ox rfl (o_bin rfl rfl rfl) (ox rfl (o_bin rfl rfl rfl) (ox rfl (o_conv rfl t_q3 t_u5) (obs_nil))))))))))
   replace h := h.wk (E' := [(0, v1), (8, .int .i64 r1.2.2.1), (27, .int .u8 x1), (30, .int .u8 x2), (34, .int .u8 (IntKind.u8.wrap (IntKind.i64.wrap (128 + (bits .and .i64 a2 15)))))]) (L' := [Ent.pur (InR .u8 x1), Ent.pur (InR .u8 x2), Val (Kd.sl (Kd.int .u8)) v1 a1]) (by kernel_rfl) [0, 1, 2] (by decide) (by kernel_rfl)
   have g2 := (Mem.pur 0 rfl h.mem)
   have g3 := (Mem.pur 1 rfl h.mem)
   refine gs h (o_bs (K := (Kd.int .u8)) (vs := [.int .u8 x1, .int .u8 x2, .int .u8 129, .int .u8 (IntKind.u8.wrap (IntKind.i64.wrap (128 + (bits .and .i64 a2 15)))), .int .u8 0, .int .u8 1]) (xs := ([x1, x2, 129, IntKind.u8.wrap (IntKind.i64.wrap (128 + (bits .and .i64 a2 15))), 0, 1] : List Int)) rfl rfl (pvs_cons (pv_int g2) (pvs_cons (pv_int g3) (pvs_cons (pv_int (show InR .u8 129 by decide)) (pvs_cons (pv_int (wrap_in _ _)) (pvs_cons (pv_int (show InR .u8 0 by decide)) (pvs_cons (pv_int (show InR .u8 1 by decide)) pvs_nil)))))) t_a22 (by decide) (by decide)) rfl fun v2 _ _ h => ?_
   obtain ⟨x3, ex3, H⟩ := bindE H
   obtain ⟨x4, ex4, H⟩ := bindE H
   refine gs h (o_appm (K := (Kd.int .u8)) 0 rfl rfl rfl ex3 ex4 t_a22 t_u3 (by decide) (fun e he => ⟨[.int .u8 0], by cases he; exact t_zc5, z_int⟩)) rfl fun v3 _ _ h => ?_
   refine ga h (o_assign rfl) rfl fun h => ?_
   refine GoR.done ?_
   refine Go.seq ?_
   refine Go.reg ?_
   iterate 3 (refine ga h (o_move rfl) rfl fun h => ?_)
   obtain ⟨x5, ex5, H⟩ := bindE H
   refine gs h (o_cut rfl (pv_at Per_sl 3 rfl) rfl rfl ex5 t_v22) rfl fun v4 _ _ h => ?_
   obtain ⟨x6, ex6, H⟩ := bindE H
   refine gs h (o_app (K := (Kd.int .u8)) 1 rfl rfl rfl (rd_at 0 rfl) ex6 t_a22 t_n22) rfl fun v5 _ _ h => ?_
   refine ga h (o_assign rfl) rfl fun h => ?_
   refine ga h (o_assign rfl) rfl fun h => ?_
   refine GoR.done ?_
   rw [← som H]
   exact g_ret (vs := [v5, .bool true]) h Tryd.func15 ⟨rfl, ⟨rfl, trivial⟩⟩ ⟨v5, rfl, (h.mem.pick [1] (by decide) rfl)⟩
 refine Go.reg ?_
 refine mv h rfl rfl fun h => ?_
 refine ga h (o_bin rfl rfl rfl) rfl fun h => ?_
 refine mv h rfl rfl fun h => ?_
 by_cases c1 : (!decide (r1.2.2.2 = 0)) = true
 ·have H := ifT c1 H
  iterate 3 (refine gk h rfl rfl (nb_t c1) rfl fun _ h => ?_)
  refine ga h (o_pickT rfl rfl c1) rfl fun h => ?_
  refine GoR.done ?_
  exact J1 true _ _ (som H).symm (h.wr [1])
 ·have H := ifF c1 H
  refine gg h rfl rfl (nbF c1) (o_move rfl) rfl fun _ _ _ h => ?_
  obtain ⟨r2, er2, H⟩ := bindE H
  refine gg h rfl rfl (nbF c1) (o_call (ref21_Query.spc v1 a1 r2 er2) rfl [1] [] (by decide) rfl rfl) rfl fun _ _ _ h => ?_
  refine gg h rfl rfl (nbF c1) (o_not rfl) rfl fun _ _ _ h => ?_
  refine ga h (o_pickF rfl rfl c1) rfl fun h => ?_
  refine GoR.done ?_
  exact J1 (!r2) _ _ (som H).symm (h.wr [1])
def ref21_Fail.g (k_ : Nat) (a1 : List Int) (a2 : Int) : Option ((List Int) × Bool) :=
  (ref21_question.g k_ a1).bind fun r1 => ((if (!decide (r1.2.2.2 = 0)) = true then some (true) else (ref21_Query.g k_ a1).bind fun r2 => some ((!r2)))).bind (fun j1 => (if j1 = true then some (([], false)) else (idx a1 0).bind fun x1 => (idx a1 1).bind fun x2 => (mk 6 0).bind fun x3 => (app ([x1, x2, 129, IntKind.u8.wrap (IntKind.i64.wrap (128 + (bits .and .i64 a2 15))), 0, 1] : List Int) x3).bind fun x4 => (cut a1 12 r1.2.2.1).bind fun x5 => (app x4 x5).bind fun x6 => some ((x6, true))))
theorem ref21_Fail.le (k_ : Nat) (a1 : List Int) (a2 : Int) : Le (ref21_Fail.g k_ a1 a2) (ref21_Fail.f a1 a2) := by
 unfold ref21_Fail.g ref21_Fail.f
 repeat' (first | with_reducible refine le_loop fun _ => ?_ | with_reducible refine le_bind ?_ fun _ => ?_ | with_reducible refine le_ite ?_ ?_ | with_reducible refine le_lt fun _ => ?_ | with_reducible refine le_elim (fun _ => ?_) (fun _ => ?_) _ | with_reducible apply ref21_Query.le | with_reducible apply ref21_question.le | with_reducible exact le_refl _)
/-! drawbridge/drawbridgeref01.Same -/
noncomputable def ref01_Same.f (a1 : List Int) (a2 : List Int) : Option (Bool) :=
  lt (decide (a1 = a2)) fun y1 => some (y1)
set_option maxRecDepth 100000 in
set_option maxHeartbeats 4000000 in
theorem ref01_Same.spc (v1 : Value) (a1 : List Int) (v2 : Value) (a2 : List Int) (r : Bool) (H : ref01_Same.f a1 a2 = some r) : Spc Tryd.prog 16 [v1, v2] [Val (Kd.sl (Kd.int .u8)) v1 a1, Val (Kd.sl (Kd.int .u8)) v2 a2] [] (fun (s : Unit) => .bool r) (fun s => []) := by
 unfold ref01_Same.f at H
 refine Spc.go Tryd.func16 rfl (by kernel_rfl) rfl rfl (all_cons (Val.per Per_sl) (all_cons (Val.per Per_sl) all_nil)) fun F a w h => ?_
 refine Go.seq ?_
 refine Go.reg ?_
 refine ga h (o_assign rfl) rfl fun h => ?_
 refine GoR.done ?_
 refine Go.seq ?_
 refine Go.reg ?_
 refine mv h rfl rfl fun h => ?_
 have g1 := (rd_bs (rd_at 0 rfl) h.mem)
 refine ga h (o_b2s rfl (rd_at 0 rfl) t_u22 t_u5 t_u9) rfl fun h => ?_
 refine mv h rfl rfl fun h => ?_
 have g2 := (rd_bs (rd_at 1 rfl) h.mem)
 refine ga h (o_b2s rfl (rd_at 1 rfl) t_u22 t_u5 t_u9) rfl fun h => ?_
 refine ga h (o_eqs rfl rfl g1 g2) rfl fun h => ?_
 obtain ⟨y1, ey1, H⟩ := ltE H
 refine ga h (o_assign' rfl (congrArg Value.bool ey1)) rfl fun h => ?_
 refine GoR.done ?_
 rw [← som H]
 exact g_ret (vs := [.bool y1]) h Tryd.func16 ⟨rfl, trivial⟩ ⟨(), rfl, (h.mem.pick [] (by decide) rfl)⟩
def ref01_Same.g (k_ : Nat) (a1 : List Int) (a2 : List Int) : Option (Bool) :=
  lt (decide (a1 = a2)) fun y1 => some (y1)
theorem ref01_Same.le (k_ : Nat) (a1 : List Int) (a2 : List Int) : Le (ref01_Same.g k_ a1 a2) (ref01_Same.f a1 a2) := by
 unfold ref01_Same.g ref01_Same.f
 repeat' (first | with_reducible refine le_loop fun _ => ?_ | with_reducible refine le_bind ?_ fun _ => ?_ | with_reducible refine le_ite ?_ ?_ | with_reducible refine le_lt fun _ => ?_ | with_reducible refine le_elim (fun _ => ?_) (fun _ => ?_) _ | with_reducible exact le_refl _)
/-! drawbridge/drawbridgeref21.With -/
noncomputable def ref21_With.f (a1 : List Int) (a2 : Int) : Option ((List Int)) :=
  (app ([] : List Int) a1).bind fun x1 => ((if decide (12 ≤ (a1.length : Int)) = true then (idx x1 0).bind fun x2 => lt (x1.set (0 : Int).toNat (IntKind.u8.wrap (ishr .i64 a2 8))) fun y1 => (idx y1 1).bind fun x3 => lt (y1.set (1 : Int).toNat (IntKind.u8.wrap a2)) fun y2 => some (y2) else some (x1))).bind (fun j1 => some (j1))
set_option maxRecDepth 100000 in
set_option maxHeartbeats 4000000 in
theorem ref21_With.spc (v1 : Value) (a1 : List Int) (a2 : Int) (ha2 : InR .i64 a2) (r : (List Int)) (H : ref21_With.f a1 a2 = some r) : Spc Tryd.prog 18 [v1, .int .i64 a2] [Val (Kd.sl (Kd.int .u8)) v1 a1] [] (fun (s : Value) => s) (fun s => [Val (Kd.osl (Kd.int .u8)) s r]) := by
 unfold ref21_With.f at H
 refine Spc.go Tryd.func18 rfl (by kernel_rfl) rfl rfl (all_cons (Val.per Per_sl) all_nil) fun F a w h => ?_
 refine Go.seq ?_
 refine Go.reg ?_
 refine ga h (o_assign rfl) rfl fun h => ?_
 refine GoR.done ?_
 refine Go.seq ?_
 refine Go.reg ?_
 refine gs h (o_bs (K := (Kd.int .u8)) (vs := []) (xs := ([] : List Int)) rfl rfl pvs_nil t_a22 (by decide) (by decide)) rfl fun v2 _ _ h => ?_
 refine mv h rfl rfl fun h => ?_
 obtain ⟨x1, ex1, H⟩ := bindE H
 refine gs h (o_app (K := (Kd.int .u8)) 0 rfl rfl rfl (rd_at 1 rfl) ex1 t_a22 t_n22) rfl fun v3 _ _ h => ?_
 refine ga h (o_assign rfl) rfl fun h => ?_
 refine GoR.done ?_
 refine Go.seq ?_
 obtain ⟨o1, H, G1⟩ := bindE H
 refine g_cut (fun G => ∀ j1 (a : Act) (w : World), o1 = j1 → St Tryd.f18.ntmps F [(5, v3)] [Val (Kd.osl (Kd.int .u8)) v3 j1] a w → G a w) 1 ?_ fun J1 => ?_
 ·intro j1 a w ho_ h
  rw [ho_] at G1
  have H := G1
  refine Go.seq ?_
  refine Go.reg ?_
  refine mv h rfl rfl fun h => ?_
  refine ga h (o_assign rfl) rfl fun h => ?_
  refine GoR.done ?_
  rw [← som H]
  exact g_ret (vs := [v3]) h Tryd.func18 ⟨rfl, trivial⟩ ⟨v3, rfl, (h.mem.pick [0] (by decide) rfl)⟩
 refine Go.seq ?_
 refine Go.reg ?_
 refine mv h rfl rfl fun h => ?_
 have g1 := (len_at 1 rfl h.mem)
 refine ga h (o_ln rfl (rd_at 1 rfl) t_v22) rfl fun h => ?_
 refine ga h (o_bin rfl rfl rfl) rfl fun h => ?_
 refine GoR.done ?_
 by_cases c1 : decide (12 ≤ (a1.length : Int)) = true
 ·have H := ifT c1 H
  refine g_t h rfl c1 ?_
  refine Go.reg ?_
  iterate 3 (refine ga h (o_move rfl) rfl fun h => ?_)
  refine ga h (o_shr rfl rfl (show (0 : Int) ≤ 8 by decide)) rfl fun h => ?_
  refine ga h (o_conv rfl t_q3 t_u5) rfl fun h => ?_
  refine mv h rfl rfl fun h => ?_
  refine ga h (o_conv rfl t_q3 t_u5) rfl fun h => ?_
  obtain ⟨x2, ex2, H⟩ := bindE H
  refine ga h (o_ix rfl rfl (rd_own 0 rfl) ex2 t_v22) rfl fun h => ?_
  obtain ⟨y1, ey1, H⟩ := ltE H
  refine gs0 h (o_ste 0 rfl rfl rfl (pv_int (wrap_in _ _)) ex2 t_w5 (by decide)) fun _ _ _ h => ?_
  rw [ey1] at h
  obtain ⟨x3, ex3, H⟩ := bindE H
  refine ga h (o_ix rfl rfl (rd_own 0 rfl) ex3 t_v22) rfl fun h => ?_
  obtain ⟨y2, ey2, H⟩ := ltE H
  refine gs0 h (o_ste 0 rfl rfl rfl (pv_int (wrap_in _ _)) ex3 t_w5 (by decide)) fun _ _ _ h => ?_
  rw [ey2] at h
  refine GoR.done ?_
  exact J1 y2 _ _ (som H).symm (h.wr [0])
 ·have H := ifF c1 H
  refine g_f h rfl c1 ?_
  refine Go.skip ?_
  exact J1 x1 _ _ (som H).symm (h.wr [0])
def ref21_With.g (k_ : Nat) (a1 : List Int) (a2 : Int) : Option ((List Int)) :=
  (app ([] : List Int) a1).bind fun x1 => ((if decide (12 ≤ (a1.length : Int)) = true then (idx x1 0).bind fun x2 => lt (x1.set (0 : Int).toNat (IntKind.u8.wrap (ishr .i64 a2 8))) fun y1 => (idx y1 1).bind fun x3 => lt (y1.set (1 : Int).toNat (IntKind.u8.wrap a2)) fun y2 => some (y2) else some (x1))).bind (fun j1 => some (j1))
theorem ref21_With.le (k_ : Nat) (a1 : List Int) (a2 : Int) : Le (ref21_With.g k_ a1 a2) (ref21_With.f a1 a2) := by
 unfold ref21_With.g ref21_With.f
 repeat' (first | with_reducible refine le_loop fun _ => ?_ | with_reducible refine le_bind ?_ fun _ => ?_ | with_reducible refine le_ite ?_ ?_ | with_reducible refine le_lt fun _ => ?_ | with_reducible refine le_elim (fun _ => ?_) (fun _ => ?_) _ | with_reducible exact le_refl _)
/-! drawbridge/drawbridgelaw21.DnsTells -/
noncomputable def law21_DnsTells.f (a1 : List Int) (a2 : List Int) (a3 : Int) (a4 : Int) : Option (Bool) :=
  ((if decide (2000 < (a1.length : Int)) = true then some (true) else some (decide (2000 < (a2.length : Int))))).bind (fun j1 => (if j1 = true then (law21_heads.f).bind fun r1 => some (r1) else (dns_Question.f a1).bind fun r2 => (ref21_Question.f a1).bind fun r3 => (dns_Ask.f a3 a2 a4).bind fun r4 => (ref21_Ask.f a3 a2 a4).bind fun r5 => (dns_Id.f a1).bind fun r6 => (ref21_Id.f a1).bind fun r7 => (dns_Fail.f a1 a4).bind fun r8 => (ref21_Fail.f a1 a4).bind fun r9 => ((if (!decide (r2.1 = r3.1)) = true then some (true) else (if (!decide (r2.2.1 = r3.2.1)) = true then some (true) else (if (!decide (r2.2.2 = r3.2.2)) = true then some (true) else (ref01_Same.f r4.1 r5.1).bind fun r10 => (if (!r10) = true then some (true) else (if (!decide (r4.2 = r5.2)) = true then some (true) else (if (!decide (r6.1 = r7.1)) = true then some (true) else (if (!(r6.2 == r7.2)) = true then some (true) else (ref01_Same.f r8.1 r9.1).bind fun r11 => (if (!r11) = true then some (true) else some ((!(r8.2 == r9.2)))))))))))).bind (fun j2 => (if j2 = true then some (false) else ((dns_With.f a1 a3).bind fun r12 => (ref21_With.f a1 a3).bind fun r13 => (ref01_Same.f r12 r13).bind fun r14 => (if r14 = true then (dns_Query.f a1).bind fun r15 => (ref21_Query.f a1).bind fun r16 => (if (r15 == r16) = true then (law21_heads.f).bind fun r17 => some (r17) else some (false)) else some (false))).bind (fun j3 => some (j3))))))
set_option maxRecDepth 100000 in
set_option maxHeartbeats 4000000 in
theorem law21_DnsTells.spc (v1 : Value) (a1 : List Int) (a2 : List Int) (ha2 : Bs a2) (a3 : Int) (ha3 : InR .i64 a3) (a4 : Int) (ha4 : InR .i64 a4) (r : Bool) (H : law21_DnsTells.f a1 a2 a3 a4 = some r) : Spc Tryd.prog 3 [v1, .string (mkS a2), .int .i64 a3, .int .i64 a4] [Val (Kd.sl (Kd.int .u8)) v1 a1, Pfl (Kd.eq gv0) 0 0 ()] [] (fun (s : Unit) => .bool r) (fun s => []) := by
 unfold law21_DnsTells.f at H
 refine Spc.go Tryd.func3 rfl (by kernel_rfl) rfl rfl (all_cons (Val.per Per_sl) (all_cons Per_pfl all_nil)) fun F a w h => ?_
 refine Go.seq ?_
 refine Go.reg ?_
 refine ga h (o_assign rfl) rfl fun h => ?_
 refine GoR.done ?_
 refine Go.seq ?_
 refine Go.seq ?_
 obtain ⟨o1, H, G1⟩ := bindE H
 refine g_cut (fun G => ∀ j1 (a : Act) (w : World), o1 = j1 → St Tryd.f3.ntmps F [(0, v1), (1, .string (mkS a2)), (2, .int .i64 a3), (3, .int .i64 a4), (34, .bool j1)] [Val (Kd.sl (Kd.int .u8)) v1 a1, Pfl (Kd.eq gv0) 0 0 ()] a w → G a w) 1 ?_ fun J1 => ?_
 ·intro j1 a w ho_ h
  rw [ho_] at G1
  have H := G1
  by_cases c2 : j1 = true
  ·have H := ifT c2 H
   refine g_t h rfl c2 ?_
   refine Go.seq ?_
   refine Go.reg ?_
   obtain ⟨r1, er1, H⟩ := bindE H
   refine ga h (o_call (law21_heads.spc  r1 er1) rfl [1] [] (by decide) rfl rfl) rfl fun h => ?_
   refine ga h (o_assign rfl) rfl fun h => ?_
   refine GoR.done ?_
   rw [← som H]
   exact g_ret (vs := [.bool r1]) h Tryd.func3 ⟨rfl, trivial⟩ ⟨(), rfl, (h.mem.pick [] (by decide) rfl)⟩
  ·have H := ifF c2 H
   refine g_f h rfl c2 ?_
   refine Go.skip ?_
   refine Go.seq ?_
   refine Go.reg ?_
   refine mv h rfl rfl fun h => ?_
   obtain ⟨r2, er2, H⟩ := bindE H
   refine ga h (o_call (dns_Question.spc v1 a1 r2 er2) rfl [0, 1] [] (by decide) rfl rfl) rfl fun h => ?_
   have g2 := h.mem.pur 0 rfl
   refine mv h rfl rfl fun h => ?_
   iterate 3 (refine ga h (o_extract rfl rfl) rfl fun h => ?_)
   iterate 3 (refine ga h (o_assign rfl) rfl fun h => ?_)
   refine GoR.done ?_
   refine Go.seq ?_
   refine Go.reg ?_
   refine mv h rfl rfl fun h => ?_
   obtain ⟨r3, er3, H⟩ := bindE H
   refine ga h (o_call (ref21_Question.spc v1 a1 r3 er3) rfl [1] [] (by decide) rfl rfl) rfl fun h => ?_
   have g3 := h.mem.pur 0 rfl
   refine mv h rfl rfl fun h => ?_
   iterate 3 (refine ga h (o_extract rfl rfl) rfl fun h => ?_)
   iterate 3 (refine ga h (o_assign rfl) rfl fun h => ?_)
   refine GoR.done ?_
   refine Go.seq ?_
   refine Go.reg ?_
   iterate 3 (refine ga h (o_move rfl) rfl fun h => ?_)
   obtain ⟨r4, er4, H⟩ := bindE H
   refine gs h (o_call (dns_Ask.spc a3 ha3 a2 ha2 a4 ha4 r4 er4) rfl [] [] (by decide) rfl rfl) rfl fun v2 _ _ h => ?_
   have g4 := h.mem.pur 0 rfl
   refine mv h rfl rfl fun h => ?_
   refine ga h (o_extract rfl rfl) rfl fun h => ?_
   refine ga h (o_extract rfl rfl) rfl fun h => ?_
   refine ga h (o_assign rfl) rfl fun h => ?_
   refine ga h (o_assign rfl) rfl fun h => ?_
   refine GoR.done ?_
   refine Go.seq ?_
   refine Go.reg ?_
   iterate 3 (refine ga h (o_move rfl) rfl fun h => ?_)
   obtain ⟨r5, er5, H⟩ := bindE H
   refine gs h (o_call (ref21_Ask.spc a3 ha3 a2 ha2 a4 ha4 r5 er5) rfl [] [] (by decide) rfl rfl) rfl fun v3 _ _ h => ?_
   have g5 := h.mem.pur 0 rfl
   refine mv h rfl rfl fun h => ?_
   refine ga h (o_extract rfl rfl) rfl fun h => ?_
   refine ga h (o_extract rfl rfl) rfl fun h => ?_
   refine ga h (o_assign rfl) rfl fun h => ?_
   refine ga h (o_assign rfl) rfl fun h => ?_
   refine GoR.done ?_
   refine Go.seq ?_
   refine Go.reg ?_
   refine mv h rfl rfl fun h => ?_
   obtain ⟨r6, er6, H⟩ := bindE H
   refine ga h (o_call (dns_Id.spc v1 a1 r6 er6) rfl [6] [] (by decide) rfl rfl) rfl fun h => ?_
   have g6 := h.mem.pur 0 rfl
   refine mv h rfl rfl fun h => ?_
   refine ga h (o_extract rfl rfl) rfl fun h => ?_
   refine ga h (o_extract rfl rfl) rfl fun h => ?_
   refine ga h (o_assign rfl) rfl fun h => ?_
   refine ga h (o_assign rfl) rfl fun h => ?_
   refine GoR.done ?_
   refine Go.seq ?_
   refine Go.reg ?_
   refine mv h rfl rfl fun h => ?_
   obtain ⟨r7, er7, H⟩ := bindE H
   refine ga h (o_call (ref21_Id.spc v1 a1 r7 er7) rfl [7] [] (by decide) rfl rfl) rfl fun h => ?_
   have g7 := h.mem.pur 0 rfl
   refine mv h rfl rfl fun h => ?_
   refine ga h (o_extract rfl rfl) rfl fun h => ?_
   refine ga h (o_extract rfl rfl) rfl fun h => ?_
   refine ga h (o_assign rfl) rfl fun h => ?_
   refine ga h (o_assign rfl) rfl fun h => ?_
   refine GoR.done ?_
   refine Go.seq ?_
   refine Go.reg ?_
   refine mv h rfl rfl fun h => ?_
   refine mv h rfl rfl fun h => ?_
   obtain ⟨r8, er8, H⟩ := bindE H
   refine gs h (o_call (dns_Fail.spc v1 a1 a4 ha4 r8 er8) rfl [8] [] (by decide) rfl rfl) rfl fun v4 _ _ h => ?_
   refine mv h rfl rfl fun h => ?_
   refine ga h (o_extract rfl rfl) rfl fun h => ?_
   refine ga h (o_extract rfl rfl) rfl fun h => ?_
   refine ga h (o_assign rfl) rfl fun h => ?_
   refine ga h (o_assign rfl) rfl fun h => ?_
   refine GoR.done ?_
   refine Go.seq ?_
   refine Go.reg ?_
   refine mv h rfl rfl fun h => ?_
   refine mv h rfl rfl fun h => ?_
   obtain ⟨r9, er9, H⟩ := bindE H
   refine gs h (o_call (ref21_Fail.spc v1 a1 a4 ha4 r9 er9) rfl [9] [] (by decide) rfl rfl) rfl fun v5 _ _ h => ?_
   refine mv h rfl rfl fun h => ?_
   refine ga h (o_extract rfl rfl) rfl fun h => ?_
   refine ga h (o_extract rfl rfl) rfl fun h => ?_
   refine ga h (o_assign rfl) rfl fun h => ?_
   refine ga h (o_assign rfl) rfl fun h => ?_
   refine GoR.done ?_
   refine Go.seq ?_
   refine Go.seq ?_
   obtain ⟨o2, H, G2⟩ := bindE H
   refine g_cut (fun G => ∀ j2 (a : Act) (w : World), o2 = j2 → St Tryd.f3.ntmps F [(0, v1), (2, .int .i64 a3), (128, .bool j2)] [Val (Kd.sl (Kd.int .u8)) v1 a1, Pfl (Kd.eq gv0) 0 0 ()] a w → G a w) 1 ?_ fun J2 => ?_
   ·intro j2 a w ho_ h
    rw [ho_] at G2
    have H := G2
    by_cases c11 : j2 = true
    ·have H := ifT c11 H
     refine g_t h rfl c11 ?_
     refine Go.seq ?_
     refine Go.reg ?_
     refine ga h (o_assign rfl) rfl fun h => ?_
     refine GoR.done ?_
     rw [← som H]
     exact g_ret (vs := [.bool false]) h Tryd.func3 ⟨rfl, trivial⟩ ⟨(), rfl, (h.mem.pick [] (by decide) rfl)⟩
    ·have H := ifF c11 H
     refine g_f h rfl c11 ?_
     refine Go.skip ?_
     refine Go.seq ?_
     obtain ⟨o3, H, G3⟩ := bindE H
     refine g_cut (fun G => ∀ j3 (a : Act) (w : World), o3 = j3 → St Tryd.f3.ntmps F [(8, .bool j3)] [Pfl (Kd.eq gv0) 0 0 ()] a w → G a w) 1 ?_ fun J3 => ?_
     ·intro j3 a w ho_ h
      rw [ho_] at G3
      have H := G3
      rw [← som H]
      exact g_ret (vs := [.bool j3]) h Tryd.func3 ⟨rfl, trivial⟩ ⟨(), rfl, (h.mem.pick [] (by decide) rfl)⟩
     refine Go.reg ?_
     refine mv h rfl rfl fun h => ?_
     refine mv h rfl rfl fun h => ?_
     obtain ⟨r12, er12, H⟩ := bindE H
     refine gs h (o_call (dns_With.spc v1 a1 a3 ha3 r12 er12) rfl [0] [] (by decide) rfl rfl) rfl fun v6 _ _ h => ?_
     refine mv h rfl rfl fun h => ?_
     refine mv h rfl rfl fun h => ?_
     obtain ⟨r13, er13, H⟩ := bindE H
     refine gs h (o_call (ref21_With.spc v1 a1 a3 ha3 r13 er13) rfl [1] [] (by decide) rfl rfl) rfl fun v7 _ _ h => ?_
     replace h := h.mm fun m => m.freeze 1 rfl
     replace h := h.mm fun m => m.freeze 0 rfl
     obtain ⟨r14, er14, H⟩ := bindE H
     refine ga h (o_call (ref01_Same.spc v6 r12 v7 r13 r14 er14) rfl [1, 0] [] (by decide) rfl rfl) rfl fun h => ?_
     refine mv h rfl rfl fun h => ?_
     by_cases c12 : r14 = true
     ·have H := ifT c12 H
      refine gg h rfl rfl c12 (o_move rfl) rfl fun _ _ _ h => ?_
      obtain ⟨r15, er15, H⟩ := bindE H
      refine gg h rfl rfl c12 (o_call (dns_Query.spc v1 a1 r15 er15) rfl [2] [] (by decide) rfl rfl) rfl fun _ _ _ h => ?_
      refine gg h rfl rfl c12 (o_move rfl) rfl fun _ _ _ h => ?_
      obtain ⟨r16, er16, H⟩ := bindE H
      refine gg h rfl rfl c12 (o_call (ref21_Query.spc v1 a1 r16 er16) rfl [2] [] (by decide) rfl rfl) rfl fun _ _ _ h => ?_
      refine gg h rfl rfl c12 (o_eqb rfl rfl t_u4) rfl fun _ _ _ h => ?_
      refine ga h (o_pickT rfl rfl c12) rfl fun h => ?_
      refine mv h rfl rfl fun h => ?_
      by_cases c13 : (r15 == r16) = true
      ·have H := ifT c13 H
       obtain ⟨r17, er17, H⟩ := bindE H
       refine gg h rfl rfl c13 (o_call (law21_heads.spc  r17 er17) rfl [3] [] (by decide) rfl rfl) rfl fun _ _ _ h => ?_
       refine ga h (o_pickT rfl rfl c13) rfl fun h => ?_
       refine ga h (o_assign rfl) rfl fun h => ?_
       refine GoR.done ?_
       exact J3 r17 _ _ (som H).symm (h.wr [3])
      ·have H := ifF c13 H
       refine gk h rfl rfl (nb_f c13) rfl fun _ h => ?_
       refine ga h (o_pickF rfl rfl c13) rfl fun h => ?_
       refine ga h (o_assign rfl) rfl fun h => ?_
       refine GoR.done ?_
       exact J3 false _ _ (som H).symm (h.wr [3])
     ·have H := ifF c12 H
      iterate 5 (refine gk h rfl rfl (nb_f c12) rfl fun _ h => ?_)
      refine ga h (o_pickF rfl rfl c12) rfl fun h => ?_
      refine mv h rfl rfl fun h => ?_
      refine gk h rfl rfl (nb_f Bool.false_ne_true) rfl fun _ h => ?_
      refine ga h (o_pickF rfl rfl Bool.false_ne_true) rfl fun h => ?_
      refine ga h (o_assign rfl) rfl fun h => ?_
      refine GoR.done ?_
      exact J3 false _ _ (som H).symm (h.wr [3])
   refine Go.reg ?_
   refine mv h rfl rfl fun h => ?_
   refine mv h rfl rfl fun h => ?_
   refine ga h (o_nes rfl rfl g2.1 g3.1) rfl fun h => ?_
   refine mv h rfl rfl fun h => ?_
   by_cases c3 : (!decide (r2.1 = r3.1)) = true
   ·have H := ifT c3 H
    iterate 3 (refine gk h rfl rfl (nb_t c3) rfl fun _ h => ?_)
    refine ga h (o_pickT rfl rfl c3) rfl fun h => ?_
    refine mv h rfl rfl fun h => ?_
    iterate 3 (refine gk h rfl rfl (nb_t rfl) rfl fun _ h => ?_)
    refine ga h (o_pickT rfl rfl rfl) rfl fun h => ?_
    refine mv h rfl rfl fun h => ?_
    iterate 4 (refine gk h rfl rfl (nb_t rfl) rfl fun _ h => ?_)
    refine ga h (o_pickT rfl rfl rfl) rfl fun h => ?_
    refine mv h rfl rfl fun h => ?_
    iterate 3 (refine gk h rfl rfl (nb_t rfl) rfl fun _ h => ?_)
    refine ga h (o_pickT rfl rfl rfl) rfl fun h => ?_
    refine mv h rfl rfl fun h => ?_
    iterate 3 (refine gk h rfl rfl (nb_t rfl) rfl fun _ h => ?_)
    refine ga h (o_pickT rfl rfl rfl) rfl fun h => ?_
    refine mv h rfl rfl fun h => ?_
    iterate 3 (refine gk h rfl rfl (nb_t rfl) rfl fun _ h => ?_)
    refine ga h (o_pickT rfl rfl rfl) rfl fun h => ?_
    refine mv h rfl rfl fun h => ?_
    iterate 4 (refine gk h rfl rfl (nb_t rfl) rfl fun _ h => ?_)
    refine ga h (o_pickT rfl rfl rfl) rfl fun h => ?_
    refine mv h rfl rfl fun h => ?_
    iterate 3 (refine gk h rfl rfl (nb_t rfl) rfl fun _ h => ?_)
    refine ga h (o_pickT rfl rfl rfl) rfl fun h => ?_
    refine GoR.done ?_
    exact J2 true _ _ (som H).symm (h.wr [10, 11])
   ·have H := ifF c3 H
    refine gg h rfl rfl (nbF c3) (o_move rfl) rfl fun _ _ _ h => ?_
    refine gg h rfl rfl (nbF c3) (o_move rfl) rfl fun _ _ _ h => ?_
    refine gg h rfl rfl (nbF c3) (o_bin rfl rfl rfl) rfl fun _ _ _ h => ?_
    refine ga h (o_pickF rfl rfl c3) rfl fun h => ?_
    refine mv h rfl rfl fun h => ?_
    by_cases c4 : (!decide (r2.2.1 = r3.2.1)) = true
    ·have H := ifT c4 H
     iterate 3 (refine gk h rfl rfl (nb_t c4) rfl fun _ h => ?_)
     refine ga h (o_pickT rfl rfl c4) rfl fun h => ?_
     refine mv h rfl rfl fun h => ?_
     iterate 4 (refine gk h rfl rfl (nb_t rfl) rfl fun _ h => ?_)
     refine ga h (o_pickT rfl rfl rfl) rfl fun h => ?_
     refine mv h rfl rfl fun h => ?_
     iterate 3 (refine gk h rfl rfl (nb_t rfl) rfl fun _ h => ?_)
     refine ga h (o_pickT rfl rfl rfl) rfl fun h => ?_
     refine mv h rfl rfl fun h => ?_
     iterate 3 (refine gk h rfl rfl (nb_t rfl) rfl fun _ h => ?_)
     refine ga h (o_pickT rfl rfl rfl) rfl fun h => ?_
     refine mv h rfl rfl fun h => ?_
     iterate 3 (refine gk h rfl rfl (nb_t rfl) rfl fun _ h => ?_)
     refine ga h (o_pickT rfl rfl rfl) rfl fun h => ?_
     refine mv h rfl rfl fun h => ?_
     iterate 4 (refine gk h rfl rfl (nb_t rfl) rfl fun _ h => ?_)
     refine ga h (o_pickT rfl rfl rfl) rfl fun h => ?_
     refine mv h rfl rfl fun h => ?_
     iterate 3 (refine gk h rfl rfl (nb_t rfl) rfl fun _ h => ?_)
     refine ga h (o_pickT rfl rfl rfl) rfl fun h => ?_
     refine GoR.done ?_
     exact J2 true _ _ (som H).symm (h.wr [10, 11])
    ·have H := ifF c4 H
     refine gg h rfl rfl (nbF c4) (o_move rfl) rfl fun _ _ _ h => ?_
     refine gg h rfl rfl (nbF c4) (o_move rfl) rfl fun _ _ _ h => ?_
     refine gg h rfl rfl (nbF c4) (o_bin rfl rfl rfl) rfl fun _ _ _ h => ?_
     refine ga h (o_pickF rfl rfl c4) rfl fun h => ?_
     refine mv h rfl rfl fun h => ?_
     by_cases c5 : (!decide (r2.2.2 = r3.2.2)) = true
     ·have H := ifT c5 H
      iterate 4 (refine gk h rfl rfl (nb_t c5) rfl fun _ h => ?_)
      refine ga h (o_pickT rfl rfl c5) rfl fun h => ?_
      refine mv h rfl rfl fun h => ?_
      iterate 3 (refine gk h rfl rfl (nb_t rfl) rfl fun _ h => ?_)
      refine ga h (o_pickT rfl rfl rfl) rfl fun h => ?_
      refine mv h rfl rfl fun h => ?_
      iterate 3 (refine gk h rfl rfl (nb_t rfl) rfl fun _ h => ?_)
      refine ga h (o_pickT rfl rfl rfl) rfl fun h => ?_
      refine mv h rfl rfl fun h => ?_
      iterate 3 (refine gk h rfl rfl (nb_t rfl) rfl fun _ h => ?_)
      refine ga h (o_pickT rfl rfl rfl) rfl fun h => ?_
      refine mv h rfl rfl fun h => ?_
      iterate 4 (refine gk h rfl rfl (nb_t rfl) rfl fun _ h => ?_)
      refine ga h (o_pickT rfl rfl rfl) rfl fun h => ?_
      refine mv h rfl rfl fun h => ?_
      iterate 3 (refine gk h rfl rfl (nb_t rfl) rfl fun _ h => ?_)
      refine ga h (o_pickT rfl rfl rfl) rfl fun h => ?_
      refine GoR.done ?_
      exact J2 true _ _ (som H).symm (h.wr [10, 11])
     ·have H := ifF c5 H
      refine gg h rfl rfl (nbF c5) (o_move rfl) rfl fun _ _ _ h => ?_
      refine gg h rfl rfl (nbF c5) (o_move rfl) rfl fun _ _ _ h => ?_
      replace h := h.mm fun m => m.freeze 7 rfl
      replace h := h.mm fun m => m.freeze 5 rfl
      obtain ⟨r10, er10, H⟩ := bindE H
      refine gg h rfl rfl (nbF c5) (o_call (ref01_Same.spc v2 r4.1 v3 r5.1 r10 er10) rfl [7, 5] [] (by decide) rfl rfl) rfl fun _ _ _ h => ?_
      refine gg h rfl rfl (nbF c5) (o_not rfl) rfl fun _ _ _ h => ?_
      refine ga h (o_pickF rfl rfl c5) rfl fun h => ?_
      refine mv h rfl rfl fun h => ?_
      by_cases c6 : (!r10) = true
      ·have H := ifT c6 H
       iterate 3 (refine gk h rfl rfl (nb_t c6) rfl fun _ h => ?_)
       refine ga h (o_pickT rfl rfl c6) rfl fun h => ?_
       refine mv h rfl rfl fun h => ?_
       iterate 3 (refine gk h rfl rfl (nb_t rfl) rfl fun _ h => ?_)
       refine ga h (o_pickT rfl rfl rfl) rfl fun h => ?_
       refine mv h rfl rfl fun h => ?_
       iterate 3 (refine gk h rfl rfl (nb_t rfl) rfl fun _ h => ?_)
       refine ga h (o_pickT rfl rfl rfl) rfl fun h => ?_
       refine mv h rfl rfl fun h => ?_
       iterate 4 (refine gk h rfl rfl (nb_t rfl) rfl fun _ h => ?_)
       refine ga h (o_pickT rfl rfl rfl) rfl fun h => ?_
       refine mv h rfl rfl fun h => ?_
       iterate 3 (refine gk h rfl rfl (nb_t rfl) rfl fun _ h => ?_)
       refine ga h (o_pickT rfl rfl rfl) rfl fun h => ?_
       refine GoR.done ?_
       exact J2 true _ _ (som H).symm (h.wr [10, 11])
      ·have H := ifF c6 H
       refine gg h rfl rfl (nbF c6) (o_move rfl) rfl fun _ _ _ h => ?_
       refine gg h rfl rfl (nbF c6) (o_move rfl) rfl fun _ _ _ h => ?_
       refine gg h rfl rfl (nbF c6) (o_bin rfl rfl rfl) rfl fun _ _ _ h => ?_
       refine ga h (o_pickF rfl rfl c6) rfl fun h => ?_
       refine mv h rfl rfl fun h => ?_
       by_cases c7 : (!decide (r4.2 = r5.2)) = true
       ·have H := ifT c7 H
        iterate 3 (refine gk h rfl rfl (nb_t c7) rfl fun _ h => ?_)
        refine ga h (o_pickT rfl rfl c7) rfl fun h => ?_
        refine mv h rfl rfl fun h => ?_
        iterate 3 (refine gk h rfl rfl (nb_t rfl) rfl fun _ h => ?_)
        refine ga h (o_pickT rfl rfl rfl) rfl fun h => ?_
        refine mv h rfl rfl fun h => ?_
        iterate 4 (refine gk h rfl rfl (nb_t rfl) rfl fun _ h => ?_)
        refine ga h (o_pickT rfl rfl rfl) rfl fun h => ?_
        refine mv h rfl rfl fun h => ?_
        iterate 3 (refine gk h rfl rfl (nb_t rfl) rfl fun _ h => ?_)
        refine ga h (o_pickT rfl rfl rfl) rfl fun h => ?_
        refine GoR.done ?_
        exact J2 true _ _ (som H).symm (h.wr [10, 11])
       ·have H := ifF c7 H
        refine gg h rfl rfl (nbF c7) (o_move rfl) rfl fun _ _ _ h => ?_
        refine gg h rfl rfl (nbF c7) (o_move rfl) rfl fun _ _ _ h => ?_
        refine gg h rfl rfl (nbF c7) (o_bin rfl rfl rfl) rfl fun _ _ _ h => ?_
        refine ga h (o_pickF rfl rfl c7) rfl fun h => ?_
        refine mv h rfl rfl fun h => ?_
        by_cases c8 : (!decide (r6.1 = r7.1)) = true
        ·have H := ifT c8 H
         iterate 3 (refine gk h rfl rfl (nb_t c8) rfl fun _ h => ?_)
         refine ga h (o_pickT rfl rfl c8) rfl fun h => ?_
         refine mv h rfl rfl fun h => ?_
         iterate 4 (refine gk h rfl rfl (nb_t rfl) rfl fun _ h => ?_)
         refine ga h (o_pickT rfl rfl rfl) rfl fun h => ?_
         refine mv h rfl rfl fun h => ?_
         iterate 3 (refine gk h rfl rfl (nb_t rfl) rfl fun _ h => ?_)
         refine ga h (o_pickT rfl rfl rfl) rfl fun h => ?_
         refine GoR.done ?_
         exact J2 true _ _ (som H).symm (h.wr [10, 11])
        ·have H := ifF c8 H
         refine gg h rfl rfl (nbF c8) (o_move rfl) rfl fun _ _ _ h => ?_
         refine gg h rfl rfl (nbF c8) (o_move rfl) rfl fun _ _ _ h => ?_
         refine gg h rfl rfl (nbF c8) (o_neb rfl rfl t_u4) rfl fun _ _ _ h => ?_
         refine ga h (o_pickF rfl rfl c8) rfl fun h => ?_
         refine mv h rfl rfl fun h => ?_
         by_cases c9 : (!(r6.2 == r7.2)) = true
         ·have H := ifT c9 H
          iterate 4 (refine gk h rfl rfl (nb_t c9) rfl fun _ h => ?_)
          refine ga h (o_pickT rfl rfl c9) rfl fun h => ?_
          refine mv h rfl rfl fun h => ?_
          iterate 3 (refine gk h rfl rfl (nb_t rfl) rfl fun _ h => ?_)
          refine ga h (o_pickT rfl rfl rfl) rfl fun h => ?_
          refine GoR.done ?_
          exact J2 true _ _ (som H).symm (h.wr [10, 11])
         ·have H := ifF c9 H
          refine gg h rfl rfl (nbF c9) (o_move rfl) rfl fun _ _ _ h => ?_
          refine gg h rfl rfl (nbF c9) (o_move rfl) rfl fun _ _ _ h => ?_
          replace h := h.mm fun m => m.freeze 1 rfl
          replace h := h.mm fun m => m.freeze 0 rfl
          obtain ⟨r11, er11, H⟩ := bindE H
          refine gg h rfl rfl (nbF c9) (o_call (ref01_Same.spc v4 r8.1 v5 r9.1 r11 er11) rfl [1, 0] [] (by decide) rfl rfl) rfl fun _ _ _ h => ?_
          refine gg h rfl rfl (nbF c9) (o_not rfl) rfl fun _ _ _ h => ?_
          refine ga h (o_pickF rfl rfl c9) rfl fun h => ?_
          refine mv h rfl rfl fun h => ?_
          by_cases c10 : (!r11) = true
          ·have H := ifT c10 H
           iterate 3 (refine gk h rfl rfl (nb_t c10) rfl fun _ h => ?_)
           refine ga h (o_pickT rfl rfl c10) rfl fun h => ?_
           refine GoR.done ?_
           exact J2 true _ _ (som H).symm (h.wr [10, 11])
          ·have H := ifF c10 H
           refine gg h rfl rfl (nbF c10) (o_move rfl) rfl fun _ _ _ h => ?_
           refine gg h rfl rfl (nbF c10) (o_move rfl) rfl fun _ _ _ h => ?_
           refine gg h rfl rfl (nbF c10) (o_neb rfl rfl t_u4) rfl fun _ _ _ h => ?_
           refine ga h (o_pickF rfl rfl c10) rfl fun h => ?_
           refine GoR.done ?_
           exact J2 (!(r8.2 == r9.2)) _ _ (som H).symm (h.wr [10, 11])
 refine Go.reg ?_
 refine mv h rfl rfl fun h => ?_
 have g1 := (len_at 0 rfl h.mem)
 refine ga h (o_ln rfl (rd_at 0 rfl) t_v22) rfl fun h => ?_
 refine ga h (o_bin rfl rfl rfl) rfl fun h => ?_
 refine mv h rfl rfl fun h => ?_
 by_cases c1 : decide (2000 < (a1.length : Int)) = true
 ·have H := ifT c1 H
  iterate 3 (refine gk h rfl rfl (nb_t c1) rfl fun _ h => ?_)
  refine ga h (o_pickT rfl rfl c1) rfl fun h => ?_
  refine GoR.done ?_
  exact J1 true _ _ (som H).symm (h.wr [0, 1])
 ·have H := ifF c1 H
  refine gg h rfl rfl (nbF c1) (o_move rfl) rfl fun _ _ _ h => ?_
  refine gg h rfl rfl (nbF c1) (o_lens rfl t_u9) rfl fun _ _ _ h => ?_
  refine gg h rfl rfl (nbF c1) (o_bin rfl rfl rfl) rfl fun _ _ _ h => ?_
  refine ga h (o_pickF rfl rfl c1) rfl fun h => ?_
  refine GoR.done ?_
  exact J1 (decide (2000 < (a2.length : Int))) _ _ (som H).symm (h.wr [0, 1])
def law21_DnsTells.g (k_ : Nat) (a1 : List Int) (a2 : List Int) (a3 : Int) (a4 : Int) : Option (Bool) :=
  ((if decide (2000 < (a1.length : Int)) = true then some (true) else some (decide (2000 < (a2.length : Int))))).bind (fun j1 => (if j1 = true then (law21_heads.g k_).bind fun r1 => some (r1) else (dns_Question.g k_ a1).bind fun r2 => (ref21_Question.g k_ a1).bind fun r3 => (dns_Ask.g k_ a3 a2 a4).bind fun r4 => (ref21_Ask.g k_ a3 a2 a4).bind fun r5 => (dns_Id.g k_ a1).bind fun r6 => (ref21_Id.g k_ a1).bind fun r7 => (dns_Fail.g k_ a1 a4).bind fun r8 => (ref21_Fail.g k_ a1 a4).bind fun r9 => ((if (!decide (r2.1 = r3.1)) = true then some (true) else (if (!decide (r2.2.1 = r3.2.1)) = true then some (true) else (if (!decide (r2.2.2 = r3.2.2)) = true then some (true) else (ref01_Same.g k_ r4.1 r5.1).bind fun r10 => (if (!r10) = true then some (true) else (if (!decide (r4.2 = r5.2)) = true then some (true) else (if (!decide (r6.1 = r7.1)) = true then some (true) else (if (!(r6.2 == r7.2)) = true then some (true) else (ref01_Same.g k_ r8.1 r9.1).bind fun r11 => (if (!r11) = true then some (true) else some ((!(r8.2 == r9.2)))))))))))).bind (fun j2 => (if j2 = true then some (false) else ((dns_With.g k_ a1 a3).bind fun r12 => (ref21_With.g k_ a1 a3).bind fun r13 => (ref01_Same.g k_ r12 r13).bind fun r14 => (if r14 = true then (dns_Query.g k_ a1).bind fun r15 => (ref21_Query.g k_ a1).bind fun r16 => (if (r15 == r16) = true then (law21_heads.g k_).bind fun r17 => some (r17) else some (false)) else some (false))).bind (fun j3 => some (j3))))))
theorem law21_DnsTells.le (k_ : Nat) (a1 : List Int) (a2 : List Int) (a3 : Int) (a4 : Int) : Le (law21_DnsTells.g k_ a1 a2 a3 a4) (law21_DnsTells.f a1 a2 a3 a4) := by
 unfold law21_DnsTells.g law21_DnsTells.f
 repeat' (first | with_reducible refine le_loop fun _ => ?_ | with_reducible refine le_bind ?_ fun _ => ?_ | with_reducible refine le_ite ?_ ?_ | with_reducible refine le_lt fun _ => ?_ | with_reducible refine le_elim (fun _ => ?_) (fun _ => ?_) _ | with_reducible apply dns_Ask.le | with_reducible apply dns_Fail.le | with_reducible apply dns_Id.le | with_reducible apply dns_Query.le | with_reducible apply dns_Question.le | with_reducible apply dns_With.le | with_reducible apply law21_heads.le | with_reducible apply ref01_Same.le | with_reducible apply ref21_Ask.le | with_reducible apply ref21_Fail.le | with_reducible apply ref21_Id.le | with_reducible apply ref21_Query.le | with_reducible apply ref21_Question.le | with_reducible apply ref21_With.le | with_reducible exact le_refl _)
end Go.Proofs.YtjjceikmimhpnaaDoor.S
