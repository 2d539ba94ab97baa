/- Contracts, printed by a program of this session. -/
import Derived.Test.YtjjceikmimhpnaaDoorT11
namespace Go.Proofs.YtjjceikmimhpnaaDoor.S
open Go Go.SL Go.RowKit
set_option linter.unusedVariables false
set_option linter.unusedSimpArgs false
/-! drawbridge/drawbridgeref21.question -/
noncomputable def ref21_question.f (a1 : List Int) : Option ((List Int) × Int × Int × Int) :=
  (if decide ((a1.length : Int) < 12) = true then some (([], 0, 0, 160)) else (cut a1 4 6).bind fun x1 => (ref21_number.f x1).bind fun r1 => (if (!decide (r1 = 1)) = true then some (([], 0, 0, 161)) else (ref21_names.f a1 12).bind fun r2 => (if (!decide (r2.2.2 = 0)) = true then some (([], 0, 0, r2.2.2)) else (if decide ((a1.length : Int) < (IntKind.i64.wrap (r2.2.1 + 4))) = true then some (([], 0, 0, 160)) else (cut a1 r2.2.1 (IntKind.i64.wrap (r2.2.1 + 2))).bind fun x2 => (ref21_number.f x2).bind fun r3 => lt (IntKind.i64.wrap (r2.2.1 + 4)) fun y1 => some ((r2.1, r3, y1, 0))))))
set_option maxRecDepth 100000 in
set_option maxHeartbeats 4000000 in
theorem ref21_question.spc (v1 : Value) (a1 : List Int) (r : (List Int) × Int × Int × Int) (H : ref21_question.f a1 = some r) : Spc Tryd.prog 25 [v1] [Val (Kd.sl (Kd.int .u8)) v1 a1] [] (fun (s : Unit) => .tuple #[.string (mkS r.1), .int .i64 r.2.1, .int .i64 r.2.2.1, .int .i64 r.2.2.2]) (fun s => [Ent.pur (Bs r.1 ∧ InR .i64 r.2.1 ∧ InR .i64 r.2.2.1 ∧ InR .i64 r.2.2.2)]) := by
 unfold ref21_question.f at H
 refine Spc.go Tryd.func25 rfl (by kernel_rfl) rfl rfl (all_cons (Val.per Per_sl) all_nil) fun F a w h => ?_
 refine Go.seq ?_
 refine Go.reg ?_
 iterate 4 (refine ga h (o_assign rfl) rfl fun h => ?_)
 refine GoR.done ?_
 refine Go.seq ?_
 refine Go.seq ?_
 refine Go.reg ?_
 refine mv h rfl rfl fun h => ?_
 have g1 := (len_at 0 rfl h.mem)
 refine ga h (o_ln rfl (rd_at 0 rfl) t_v22) rfl fun h => ?_
 refine ga h (o_bin rfl rfl rfl) rfl fun h => ?_
 refine GoR.done ?_
 by_cases c1 : decide ((a1.length : Int) < 12) = true
 ·have H := ifT c1 H
  refine g_t h rfl c1 ?_
  refine Go.seq ?_
  refine Go.reg ?_
  iterate 4 (refine ga h (o_assign rfl) rfl fun h => ?_)
  refine GoR.done ?_
  rw [← som H]
  exact g_ret (vs := [.string (mkS []), .int .i64 0, .int .i64 0, .int .i64 160]) h Tryd.func25 ⟨rfl, ⟨rfl, ⟨rfl, ⟨rfl, trivial⟩⟩⟩⟩ ⟨(), rfl, ((h.mem.pick [] (by decide) rfl).addpur ⟨(show Bs [] by decide), (show InR .i64 0 by decide), (show InR .i64 0 by decide), (show InR .i64 160 by decide)⟩)⟩
 ·have H := ifF c1 H
  refine g_f h rfl c1 ?_
  refine Go.skip ?_
  refine Go.seq ?_
  refine Go.seq ?_
  refine Go.reg ?_
  refine mv h rfl rfl fun h => ?_
  obtain ⟨x1, ex1, H⟩ := bindE H
  refine gs h (o_cut rfl (pv_at Per_sl 0 rfl) rfl rfl ex1 t_v22) rfl fun v2 _ _ h => ?_
  obtain ⟨r1, er1, H⟩ := bindE H
  refine ga h (o_call (ref21_number.spc v2 x1 r1 er1) rfl [0] [] (by decide) rfl rfl) rfl fun h => ?_
  have g2 := h.mem.pur 0 rfl
  refine ga h (o_bin rfl rfl rfl) rfl fun h => ?_
  refine GoR.done ?_
  by_cases c2 : (!decide (r1 = 1)) = true
  ·have H := ifT c2 H
   refine g_t h rfl c2 ?_
   refine Go.seq ?_
   refine Go.reg ?_
   iterate 4 (refine ga h (o_assign rfl) rfl fun h => ?_)
   refine GoR.done ?_
   rw [← som H]
   exact g_ret (vs := [.string (mkS []), .int .i64 0, .int .i64 0, .int .i64 161]) h Tryd.func25 ⟨rfl, ⟨rfl, ⟨rfl, ⟨rfl, trivial⟩⟩⟩⟩ ⟨(), rfl, ((h.mem.pick [] (by decide) rfl).addpur ⟨(show Bs [] by decide), (show InR .i64 0 by decide), (show InR .i64 0 by decide), (show InR .i64 161 by decide)⟩)⟩
  ·have H := ifF c2 H
   refine g_f h rfl c2 ?_
   refine Go.skip ?_
   refine Go.seq ?_
   refine Go.reg ?_
   refine mv h rfl rfl fun h => ?_
   obtain ⟨r2, er2, H⟩ := bindE H
   refine ga h (o_call (ref21_names.spc v1 a1 12 (show InR .i64 12 by decide) r2 er2) rfl [2] [] (by decide) rfl rfl) rfl fun h => ?_
   have g3 := h.mem.pur 0 rfl
   refine mv h rfl rfl fun h => ?_
   iterate 3 (refine ga h (o_extract rfl rfl) rfl fun h => ?_)
   iterate 3 (refine ga h (o_assign rfl) rfl fun h => ?_)
   refine GoR.done ?_
   refine Go.seq ?_
   refine Go.seq ?_
   refine Go.reg ?_
   refine mv h rfl rfl fun h => ?_
   refine ga h (o_bin rfl rfl rfl) rfl fun h => ?_
   refine GoR.done ?_
   by_cases c3 : (!decide (r2.2.2 = 0)) = true
   ·have H := ifT c3 H
    refine g_t h rfl c3 ?_
    refine Go.seq ?_
    refine Go.reg ?_
    refine mv h rfl rfl fun h => ?_
    iterate 4 (refine ga h (o_assign rfl) rfl fun h => ?_)
    refine GoR.done ?_
    rw [← som H]
    exact g_ret (vs := [.string (mkS []), .int .i64 0, .int .i64 0, .int .i64 r2.2.2]) h Tryd.func25 ⟨rfl, ⟨rfl, ⟨rfl, ⟨rfl, trivial⟩⟩⟩⟩ ⟨(), rfl, ((h.mem.pick [] (by decide) rfl).addpur ⟨(show Bs [] by decide), (show InR .i64 0 by decide), (show InR .i64 0 by decide), g3.2.2⟩)⟩
   ·have H := ifF c3 H
    refine g_f h rfl c3 ?_
    refine Go.skip ?_
    refine Go.seq ?_
    refine Go.seq ?_
    refine Go.reg ?_
    refine mv h rfl rfl fun h => ?_
    have g4 := (len_at 3 rfl h.mem)
    refine ga h (o_ln rfl (rd_at 3 rfl) t_v22) rfl fun h => ?_
    refine mv h rfl rfl fun h => ?_
    refine ga h (o_bin rfl rfl rfl) rfl fun h => ?_
    refine ga h (o_bin rfl rfl rfl) rfl fun h => ?_
    refine GoR.done ?_
    by_cases c4 : decide ((a1.length : Int) < (IntKind.i64.wrap (r2.2.1 + 4))) = true
    ·have H := ifT c4 H
     refine g_t h rfl c4 ?_
     refine Go.seq ?_
     refine Go.reg ?_
     iterate 4 (refine ga h (o_assign rfl) rfl fun h => ?_)
     refine GoR.done ?_
     rw [← som H]
     exact g_ret (vs := [.string (mkS []), .int .i64 0, .int .i64 0, .int .i64 160]) h Tryd.func25 ⟨rfl, ⟨rfl, ⟨rfl, ⟨rfl, trivial⟩⟩⟩⟩ ⟨(), rfl, ((h.mem.pick [] (by decide) rfl).addpur ⟨(show Bs [] by decide), (show InR .i64 0 by decide), (show InR .i64 0 by decide), (show InR .i64 160 by decide)⟩)⟩
    ·have H := ifF c4 H
     refine g_f h rfl c4 ?_
     refine Go.skip ?_
     refine Go.seq ?_
     refine Go.reg ?_
     iterate 4 (refine ga h (o_move rfl) rfl fun h => ?_)
     refine ga h (o_bin rfl rfl rfl) rfl fun h => ?_
     obtain ⟨x2, ex2, H⟩ := bindE H
     refine gs h (o_cut rfl (pv_at Per_sl 3 rfl) rfl rfl ex2 t_v22) rfl fun v3 _ _ h => ?_
     obtain ⟨r3, er3, H⟩ := bindE H
     refine ga h (o_call (ref21_number.spc v3 x2 r3 er3) rfl [0] [] (by decide) rfl rfl) rfl fun h => ?_
     have g5 := h.mem.pur 0 rfl
     refine mv h rfl rfl fun h => ?_
     refine ga h (o_bin rfl rfl rfl) rfl fun h => ?_
     refine ga h (o_assign rfl) rfl fun h => ?_
     refine ga h (o_assign rfl) rfl fun h => ?_
     obtain ⟨y1, ey1, H⟩ := ltE H
     refine ga h (o_assign' rfl (congrArg (fun z => Value.int .i64 z) ey1)) rfl fun h => ?_
     refine ga h (o_assign rfl) rfl fun h => ?_
     refine GoR.done ?_
     rw [← som H]
     exact g_ret (vs := [.string (mkS r2.1), .int .i64 r3, .int .i64 y1, .int .i64 0]) h Tryd.func25 ⟨rfl, ⟨rfl, ⟨rfl, ⟨rfl, trivial⟩⟩⟩⟩ ⟨(), rfl, ((h.mem.pick [] (by decide) rfl).addpur ⟨g3.1, g5, (ey1 ▸ (wrap_in _ _)), (show InR .i64 0 by decide)⟩)⟩
def ref21_question.g (k_ : Nat) (a1 : List Int) : Option ((List Int) × Int × Int × Int) :=
  (if decide ((a1.length : Int) < 12) = true then some (([], 0, 0, 160)) else (cut a1 4 6).bind fun x1 => (ref21_number.g k_ x1).bind fun r1 => (if (!decide (r1 = 1)) = true then some (([], 0, 0, 161)) else (ref21_names.g k_ a1 12).bind fun r2 => (if (!decide (r2.2.2 = 0)) = true then some (([], 0, 0, r2.2.2)) else (if decide ((a1.length : Int) < (IntKind.i64.wrap (r2.2.1 + 4))) = true then some (([], 0, 0, 160)) else (cut a1 r2.2.1 (IntKind.i64.wrap (r2.2.1 + 2))).bind fun x2 => (ref21_number.g k_ x2).bind fun r3 => lt (IntKind.i64.wrap (r2.2.1 + 4)) fun y1 => some ((r2.1, r3, y1, 0))))))
theorem ref21_question.le (k_ : Nat) (a1 : List Int) : Le (ref21_question.g k_ a1) (ref21_question.f a1) := by
 unfold ref21_question.g ref21_question.f
 repeat' (first | with_reducible refine le_loop fun _ => ?_ | with_reducible refine le_bind ?_ fun _ => ?_ | with_reducible refine le_ite ?_ ?_ | with_reducible refine le_lt fun _ => ?_ | with_reducible refine le_elim (fun _ => ?_) (fun _ => ?_) _ | with_reducible apply ref21_names.le | with_reducible apply ref21_number.le | with_reducible exact le_refl _)
/-! drawbridge/drawbridgeref21.Question -/
noncomputable def ref21_Question.f (a1 : List Int) : Option ((List Int) × Int × Int) :=
  (ref21_question.f a1).bind fun r1 => some ((r1.1, r1.2.1, r1.2.2.2))
set_option maxRecDepth 100000 in
set_option maxHeartbeats 4000000 in
theorem ref21_Question.spc (v1 : Value) (a1 : List Int) (r : (List Int) × Int × Int) (H : ref21_Question.f a1 = some r) : Spc Tryd.prog 9 [v1] [Val (Kd.sl (Kd.int .u8)) v1 a1] [] (fun (s : Unit) => .tuple #[.string (mkS r.1), .int .i64 r.2.1, .int .i64 r.2.2]) (fun s => [Ent.pur (Bs r.1 ∧ InR .i64 r.2.1 ∧ InR .i64 r.2.2)]) := by
 unfold ref21_Question.f at H
 refine Spc.go Tryd.func9 rfl (by kernel_rfl) rfl rfl (all_cons (Val.per Per_sl) all_nil) fun F a w h => ?_
 refine Go.seq ?_
 refine Go.reg ?_
 iterate 3 (refine ga h (o_assign rfl) rfl fun h => ?_)
 refine GoR.done ?_
 refine Go.seq ?_
 refine Go.reg ?_
 refine mv h rfl rfl fun h => ?_
 obtain ⟨r1, er1, H⟩ := bindE H
 refine ga h (o_call (ref21_question.spc v1 a1 r1 er1) rfl [0] [] (by decide) rfl rfl) rfl fun h => ?_
 have g1 := h.mem.pur 0 rfl
 refine mv h rfl rfl fun h => ?_
 iterate 4 (refine ga h (o_extract rfl rfl) rfl fun h => ?_)
 iterate 4 (refine ga h (o_assign rfl) rfl fun h => ?_)
 refine GoR.done ?_
 refine Go.seq ?_
 refine Go.reg ?_
 iterate 3 (refine ga h (o_move rfl) rfl fun h => ?_)
 iterate 3 (refine ga h (o_assign rfl) rfl fun h => ?_)
 refine GoR.done ?_
 rw [← som H]
 exact g_ret (vs := [.string (mkS r1.1), .int .i64 r1.2.1, .int .i64 r1.2.2.2]) h Tryd.func9 ⟨rfl, ⟨rfl, ⟨rfl, trivial⟩⟩⟩ ⟨(), rfl, ((h.mem.pick [] (by decide) rfl).addpur ⟨g1.1, g1.2.1, g1.2.2.2⟩)⟩
def ref21_Question.g (k_ : Nat) (a1 : List Int) : Option ((List Int) × Int × Int) :=
  (ref21_question.g k_ a1).bind fun r1 => some ((r1.1, r1.2.1, r1.2.2.2))
theorem ref21_Question.le (k_ : Nat) (a1 : List Int) : Le (ref21_Question.g k_ a1) (ref21_Question.f a1) := by
 unfold ref21_Question.g ref21_Question.f
 repeat' (first | with_reducible refine le_loop fun _ => ?_ | with_reducible refine le_bind ?_ fun _ => ?_ | with_reducible refine le_ite ?_ ?_ | with_reducible refine le_lt fun _ => ?_ | with_reducible refine le_elim (fun _ => ?_) (fun _ => ?_) _ | with_reducible apply ref21_question.le | with_reducible exact le_refl _)
/-! drawbridge/drawbridgeref21.labels -/
noncomputable def ref21_labels.f (a1 : List Int) : Option ((List Int) × Bool) :=
  (((if decide (0 < (a1.length : Int)) = true then (idx a1 (IntKind.i64.wrap ((a1.length : Int) - 1))).bind fun x1 => some (decide (x1 = 46)) else some (false))).bind (fun j1 => (if j1 = true then (cut a1 0 (IntKind.i64.wrap ((a1.length : Int) - 1))).bind fun x2 => some (x2) else some (a1)))).bind (fun j2 => (loop (fun s1 => ((if decide (s1.2.2 ≤ (j2.length : Int)) = true then some ((!decide (j2 = []))) else some (false))).bind (fun j3 => (if j3 = true then ((((if decide (s1.2.2 < (j2.length : Int)) = true then (idx j2 s1.2.2).bind fun x3 => some ((!decide (x3 = 46))) else some (false))).bind (fun j4 => (if j4 = true then (idx j2 s1.2.2).bind fun x4 => (ref21_letter.f x4).bind fun r1 => (if (!r1.2) = true then some (.inr (([], false))) else some (.inl ((s1.1, s1.2.1)))) else ((if decide ((IntKind.i64.wrap (s1.2.2 - s1.2.1)) < 1) = true then some (true) else some (decide (63 < (IntKind.i64.wrap (s1.2.2 - s1.2.1)))))).bind (fun j5 => (if j5 = true then some (.inr (([], false))) else (app s1.1 ([IntKind.u8.wrap (IntKind.i64.wrap (s1.2.2 - s1.2.1))] : List Int)).bind fun x5 => (cut j2 s1.2.1 s1.2.2).bind fun x6 => (app x5 x6).bind fun x7 => lt (IntKind.i64.wrap (s1.2.2 + 1)) fun y1 => some (.inl ((x7, y1)))))))).bind (Sum.elim (fun j6 => some (.inl ((j6.1, j6.2)))) (fun z_ => some (.inr (z_))))).bind (Sum.elim (fun j7 => lt (IntKind.i64.wrap (s1.2.2 + 1)) fun y2 => some (.inl (j7.1, j7.2, y2))) (fun z_ => some (.inr (.inr (z_))))) else some (.inr (.inl (s1.1)))))) (([] : List Int), 0, 0)).bind (Sum.elim (fun j8 => (app j8 ([0] : List Int)).bind fun x8 => lt (decide ((IntKind.i64.wrap ((j8.length : Int) + 1)) ≤ 255)) fun y3 => some ((x8, y3))) (fun z_ => some (z_))))
set_option maxRecDepth 100000 in
set_option maxHeartbeats 4000000 in
theorem ref21_labels.spc (a1 : List Int) (ha1 : Bs a1) (r : (List Int) × Bool) (H : ref21_labels.f a1 = some r) : Spc Tryd.prog 29 [.string (mkS a1)] [] [] (fun (s : Value) => .tuple #[s, .bool r.2]) (fun s => [Val (Kd.osl (Kd.int .u8)) s r.1]) := by
 unfold ref21_labels.f at H
 refine Spc.go Tryd.func29 rfl (by kernel_rfl) rfl rfl all_nil fun F a w h => ?_
 refine Go.seq ?_
 refine Go.reg ?_
 refine ga h (o_assign rfl) rfl fun h => ?_
 refine ga h (o_assign rfl) rfl fun h => ?_
 refine GoR.done ?_
 refine Go.seq ?_
 refine Go.reg ?_
 refine mv h rfl rfl fun h => ?_
 refine ga h (o_assign rfl) rfl fun h => ?_
 refine GoR.done ?_
 refine Go.seq ?_
 obtain ⟨o1, H, G1⟩ := bindE H
 refine g_cut (fun G => ∀ j2 (a : Act) (w : World), o1 = j2 → Bs j2 → St Tryd.f29.ntmps F [(4, .string (mkS j2))] [] a w → G a w) 1 ?_ fun J2 => ?_
 ·intro j2 a w ho_ g1 h
  rw [ho_] at G1
  have H := G1
  refine Go.seq ?_
  refine Go.reg ?_
  refine ga h (o_assign rfl) rfl fun h => ?_
  refine GoR.done ?_
  refine Go.seq ?_
  refine Go.reg ?_
  refine ga h (o_assign rfl) rfl fun h => ?_
  refine GoR.done ?_
  refine Go.seq ?_
  refine Go.seq ?_
  refine Go.reg ?_
  refine ga h (o_assign rfl) rfl fun h => ?_
  refine GoR.done ?_
  refine Go.block ?_
  obtain ⟨o3, hl, G3⟩ := bindE H
  refine g_cut (fun G => ∀ j8 (v7 : Value) (a : Act) (w : World), o3 = .inl (j8) → St Tryd.f29.ntmps F [(5, v7)] [Val (Kd.osl (Kd.int .u8)) v7 j8] a w → G a w) 2 ?_ fun J8 => ?_
  ·intro j8 v7 a w ho_ h
   rw [ho_] at G3
   have H := eInl G3
   refine Go.seq ?_
   refine Go.reg ?_
   refine mv h rfl rfl fun h => ?_
   refine gs h (o_bs (K := (Kd.int .u8)) (vs := [.int .u8 0]) (xs := ([0] : List Int)) rfl rfl (pvs_cons (pv_int (show InR .u8 0 by decide)) pvs_nil) t_a22 (by decide) (by decide)) rfl fun v8 _ _ h => ?_
   replace h := h.mm fun m => m.isl 1 rfl
   obtain ⟨x8, ex8, H⟩ := bindE H
   refine gs h (o_app (K := (Kd.int .u8)) 2 rfl rfl rfl (rd_own 1 rfl) ex8 t_a22 t_n22) rfl fun v9 _ _ h => ?_
   refine mv h rfl rfl fun h => ?_
   have g7 := Mem.pur 0 rfl h.mem
   refine ga h (o_lni g7 rfl t_v22) rfl fun h => ?_
   refine ga h (o_bin rfl rfl rfl) rfl fun h => ?_
   refine ga h (o_bin rfl rfl rfl) rfl fun h => ?_
   refine ga h (o_assign rfl) rfl fun h => ?_
   obtain ⟨y3, ey3, H⟩ := ltE H
   refine ga h (o_assign' rfl (congrArg Value.bool ey3)) rfl fun h => ?_
   refine GoR.done ?_
   rw [← som H]
   exact g_ret (vs := [v9, .bool y3]) h Tryd.func29 ⟨rfl, ⟨rfl, trivial⟩⟩ ⟨v9, rfl, (h.mem.pick [2] (by decide) rfl)⟩
  refine g_loop (fun s1 G => ∀ (v1 : Value) (a : Act) (w : World), InR .i64 s1.2.1 → InR .i64 s1.2.2 → St Tryd.f29.ntmps F [(4, .string (mkS j2)), (5, v1), (6, .int .i64 s1.2.1), (7, .int .i64 s1.2.2)] [Val (Kd.osl (Kd.int .u8)) v1 s1.1] a w → G a w) hl (fun s1 p1 H i1 => ?_) fun I_ => ?_
  ·intro v1 a w g2 g3 h
   refine Go.seq ?_
   refine Go.seq ?_
   obtain ⟨o4, H, G4⟩ := bindE H
   refine g_cut (fun G => ∀ j3 (a : Act) (w : World), o4 = j3 → St Tryd.f29.ntmps F [(4, .string (mkS j2)), (5, v1), (6, .int .i64 s1.2.1), (7, .int .i64 s1.2.2), (34, .bool j3)] [Val (Kd.osl (Kd.int .u8)) v1 s1.1] a w → G a w) 1 ?_ fun J3 => ?_
   ·intro j3 a w ho_ h
    rw [ho_] at G4
    have H := G4
    by_cases c4 : j3 = true
    ·have H := ifT c4 H
     refine g_t h rfl c4 ?_
     refine Go.skip ?_
     refine Go.seq ?_
     obtain ⟨o5, H, G5⟩ := bindE H
     refine g_cut (fun G => ∀ j7 (v6 : Value) (a : Act) (w : World), o5 = .inl (j7) → InR .i64 j7.2 → St Tryd.f29.ntmps F [(4, .string (mkS j2)), (5, v6), (6, .int .i64 j7.2), (7, .int .i64 s1.2.2)] [Val (Kd.osl (Kd.int .u8)) v6 j7.1] a w → G a w) 1 ?_ fun J7 => ?_
     ·intro j7 v6 a w ho_ g6 h
      rw [ho_] at G5
      have H := eInl G5
      refine Go.reg ?_
      refine mv h rfl rfl fun h => ?_
      refine ga h (o_bin rfl rfl rfl) rfl fun h => ?_
      obtain ⟨y2, ey2, H⟩ := ltE H
      refine ga h (o_assign' rfl (congrArg (fun z => Value.int .i64 z) ey2)) rfl fun h => ?_
      refine GoR.done ?_
      have e_ := som H; subst e_
      exact Go.inLoop (nx_in i1 v6 _ _ g6 (ey2 ▸ (wrap_in _ _)) (h.wr [0]))
     refine Go.block ?_
     obtain ⟨o6, H, G6⟩ := bindE H
     refine g_cut (fun G => ∀ j6 (v5 : Value) (a : Act) (w : World), o6 = .inl (j6) → InR .i64 j6.2 → St Tryd.f29.ntmps F [(4, .string (mkS j2)), (5, v5), (6, .int .i64 j6.2), (7, .int .i64 s1.2.2)] [Val (Kd.osl (Kd.int .u8)) v5 j6.1] a w → G a w) 2 ?_ fun J6 => ?_
     ·intro j6 v5 a w ho_ g5 h
      rw [ho_] at G6
      have H := eInl G6
      exact J7 (j6.1, j6.2) v5 _ _ (som H).symm g5 (h.wr [0])
     refine Go.seq ?_
     refine Go.seq ?_
     obtain ⟨o7, H, G7⟩ := bindE H
     refine g_cut (fun G => ∀ j4 (a : Act) (w : World), o7 = j4 → St Tryd.f29.ntmps F [(4, .string (mkS j2)), (5, v1), (6, .int .i64 s1.2.1), (7, .int .i64 s1.2.2), (46, .bool j4)] [Val (Kd.osl (Kd.int .u8)) v1 s1.1] a w → G a w) 1 ?_ fun J4 => ?_
     ·intro j4 a w ho_ h
      rw [ho_] at G7
      have H := G7
      by_cases c6 : j4 = true
      ·have H := ifT c6 H
       refine g_t h rfl c6 ?_
       refine Go.seq ?_
       refine Go.reg ?_
       refine mv h rfl rfl fun h => ?_
       refine mv h rfl rfl fun h => ?_
       obtain ⟨x4, ex4, H⟩ := bindE H
       refine ga h (o_ixs rfl rfl g1 ex4 t_u9) rfl fun h => ?_
       obtain ⟨r1, er1, H⟩ := bindE H
       refine ga h (o_call (ref21_letter.spc x4 (Bs.idx g1 ex4) r1 er1) rfl [] [] (by decide) rfl rfl) rfl fun h => ?_
       have g4 := h.mem.pur 0 rfl
       refine mv h rfl rfl fun h => ?_
       refine ga h (o_extract rfl rfl) rfl fun h => ?_
       refine ga h (o_extract rfl rfl) rfl fun h => ?_
       refine ga h (o_assign rfl) rfl fun h => ?_
       refine ga h (o_assign rfl) rfl fun h => ?_
       refine GoR.done ?_
       refine Go.seq ?_
       refine Go.seq ?_
       refine Go.reg ?_
       refine mv h rfl rfl fun h => ?_
       refine ga h (o_not rfl) rfl fun h => ?_
       refine GoR.done ?_
       by_cases c7 : (!r1.2) = true
       ·have H := ifT c7 H
        refine g_t h rfl c7 ?_
        refine Go.seq ?_
        refine Go.reg ?_
        refine ga h (o_assign rfl) rfl fun h => ?_
        refine ga h (o_assign rfl) rfl fun h => ?_
        refine GoR.done ?_
        replace h := h.mm fun m => m.nilo (Kd.int .u8)
        rw [← som H] at G6
        have H := G6
        rw [← som H] at G5
        have H := G5
        have e_ := som H; subst e_
        rw [← nx_out i1] at G3
        have H := G3
        rw [← som H]
        exact g_ret (vs := [.slice none 0 0, .bool false]) h Tryd.func29 ⟨rfl, ⟨rfl, trivial⟩⟩ ⟨.slice none 0 0, rfl, (h.mem.pick [0] (by decide) rfl)⟩
       ·have H := ifF c7 H
        refine g_f h rfl c7 ?_
        refine Go.skip ?_
        refine Go.exit rfl ?_
        exact J6 (s1.1, s1.2.1) v1 _ _ (som H).symm g2 (h.wr [1])
      ·have H := ifF c6 H
       refine g_f h rfl c6 ?_
       refine Go.skip ?_
       refine Go.seq ?_
       refine Go.seq ?_
       obtain ⟨o8, H, G8⟩ := bindE H
       refine g_cut (fun G => ∀ j5 (a : Act) (w : World), o8 = j5 → St Tryd.f29.ntmps F [(4, .string (mkS j2)), (5, v1), (6, .int .i64 s1.2.1), (7, .int .i64 s1.2.2), (65, .bool j5)] [Val (Kd.osl (Kd.int .u8)) v1 s1.1] a w → G a w) 1 ?_ fun J5 => ?_
       ·intro j5 a w ho_ h
        rw [ho_] at G8
        have H := G8
        by_cases c9 : j5 = true
        ·have H := ifT c9 H
         refine g_t h rfl c9 ?_
         refine Go.seq ?_
         refine Go.reg ?_
         refine ga h (o_assign rfl) rfl fun h => ?_
         refine ga h (o_assign rfl) rfl fun h => ?_
         refine GoR.done ?_
         replace h := h.mm fun m => m.nilo (Kd.int .u8)
         rw [← som H] at G6
         have H := G6
         rw [← som H] at G5
         have H := G5
         have e_ := som H; subst e_
         rw [← nx_out i1] at G3
         have H := G3
         rw [← som H]
         exact g_ret (vs := [.slice none 0 0, .bool false]) h Tryd.func29 ⟨rfl, ⟨rfl, trivial⟩⟩ ⟨.slice none 0 0, rfl, (h.mem.pick [0] (by decide) rfl)⟩
        ·have H := ifF c9 H
         refine g_f h rfl c9 ?_
         refine Go.skip ?_
         refine Go.seq ?_
         replace h := h.wq [(4, .string (mkS j2)), (5, v1), (6, .int .i64 s1.2.1), (7, .int .i64 s1.2.2)] [Val (Kd.osl (Kd.int .u8)) v1 s1.1] [0]
         obtain ⟨x5, ex5, H⟩ := bindE H
         obtain ⟨x6, ex6, H⟩ := bindE H
         refine Go.draw (E := [(4, .string (mkS j2)), (5, v1), (6, .int .i64 s1.2.1), (7, .int .i64 s1.2.2)]) [] (L := []) h rfl rfl 11 [cn (v1), cn (.int .i64 s1.2.2), cn (.int .i64 s1.2.1), ce [1, 2] (.int .i64 (IntKind.i64.wrap (s1.2.2 - s1.2.1))), ce [1, 2, 3] (.int .u8 (IntKind.u8.wrap (IntKind.i64.wrap (s1.2.2 - s1.2.1)))), cw [1, 2, 3, 4] [] [] fun u => [Val (Kd.osl (Kd.int .u8)) u ([IntKind.u8.wrap (IntKind.i64.wrap (s1.2.2 - s1.2.1))] : List Int)], cw [0, 1, 2, 3, 4, 5] [11, 5] [11] fun u => [Val (Kd.osl (Kd.int .u8)) u x5], cn (.string (mkS j2)), cn (.int .i64 s1.2.1), cn (.int .i64 s1.2.2), ce [7, 8, 9] (.string (mkS x6)), cm [] [] [] undef fun u => [Val (Kd.osl (Kd.int .u8)) v1 s1.1]] rfl t_mxo (by kernel_rfl) (by rfl) ?_ fun f1 _ _ h => ?_
         ·exact ox rfl (o_move rfl) (ox rfl (o_move rfl) (ox rfl (o_move rfl) (ox rfl (o_bin rfl rfl rfl) (ox rfl (o_conv rfl t_q3 t_u5) (oy rfl (o_bs (K := (Kd.int .u8)) (vs := [.int .u8 (IntKind.u8.wrap (IntKind.i64.wrap (s1.2.2 - s1.2.1)))]) (xs := ([IntKind.u8.wrap (IntKind.i64.wrap (s1.2.2 - s1.2.1))] : List Int)) rfl rfl (pvs_cons (pv_int (wrap_in _ _)) pvs_nil) t_a22 (by decide) (by decide)) (oy rfl (o_app (K := (Kd.int .u8)) 0 rfl rfl rfl (rd_own 1 rfl) ex5 t_a22 t_n22) (ox rfl (o_move rfl) (ox rfl (o_move rfl) (ox rfl (o_move rfl) (ox rfl (o_sls rfl rfl rfl ex6 t_u9) (obs_nil)))))))))))
         replace h := h.wk (E' := [(4, .string (mkS j2)), (5, v1), (7, .int .i64 s1.2.2), (72, (f1 6)), (76, .string (mkS x6))]) (L' := [Val (Kd.osl (Kd.int .u8)) (f1 5) ([IntKind.u8.wrap (IntKind.i64.wrap (s1.2.2 - s1.2.1))] : List Int), Val (Kd.osl (Kd.int .u8)) (f1 6) x5]) (by kernel_rfl) [0, 1] (by decide) (by kernel_rfl)
         obtain ⟨x7, ex7, H⟩ := bindE H
         refine gs h (o_apps 1 rfl rfl (Bs.cut g1 ex6) rfl ex7 t_a22 t_n9) rfl fun v4 _ _ h => ?_
         refine ga h (o_assign rfl) rfl fun h => ?_
         refine GoR.done ?_
         refine Go.reg ?_
         refine mv h rfl rfl fun h => ?_
         refine ga h (o_bin rfl rfl rfl) rfl fun h => ?_
         obtain ⟨y1, ey1, H⟩ := ltE H
         refine ga h (o_assign' rfl (congrArg (fun z => Value.int .i64 z) ey1)) rfl fun h => ?_
         refine GoR.done ?_
         refine Go.inBlock ?_
         exact J6 (x7, y1) v4 _ _ (som H).symm (ey1 ▸ (wrap_in _ _)) (h.wr [1])
       refine Go.reg ?_
       refine mv h rfl rfl fun h => ?_
       refine mv h rfl rfl fun h => ?_
       refine ga h (o_bin rfl rfl rfl) rfl fun h => ?_
       refine ga h (o_bin rfl rfl rfl) rfl fun h => ?_
       refine mv h rfl rfl fun h => ?_
       by_cases c8 : decide ((IntKind.i64.wrap (s1.2.2 - s1.2.1)) < 1) = true
       ·have H := ifT c8 H
        iterate 4 (refine gk h rfl rfl (nb_t c8) rfl fun _ h => ?_)
        refine ga h (o_pickT rfl rfl c8) rfl fun h => ?_
        refine GoR.done ?_
        exact J5 true _ _ (som H).symm (h.wr [0])
       ·have H := ifF c8 H
        refine gg h rfl rfl (nbF c8) (o_move rfl) rfl fun _ _ _ h => ?_
        refine gg h rfl rfl (nbF c8) (o_move rfl) rfl fun _ _ _ h => ?_
        refine gg h rfl rfl (nbF c8) (o_bin rfl rfl rfl) rfl fun _ _ _ h => ?_
        refine gg h rfl rfl (nbF c8) (o_bin rfl rfl rfl) rfl fun _ _ _ h => ?_
        refine ga h (o_pickF rfl rfl c8) rfl fun h => ?_
        refine GoR.done ?_
        exact J5 (decide (63 < (IntKind.i64.wrap (s1.2.2 - s1.2.1)))) _ _ (som H).symm (h.wr [0])
     refine Go.reg ?_
     refine mv h rfl rfl fun h => ?_
     refine mv h rfl rfl fun h => ?_
     refine ga h (o_lens rfl t_u9) rfl fun h => ?_
     refine ga h (o_bin rfl rfl rfl) rfl fun h => ?_
     refine mv h rfl rfl fun h => ?_
     by_cases c5 : decide (s1.2.2 < (j2.length : Int)) = true
     ·have H := ifT c5 H
      refine gg h rfl rfl c5 (o_move rfl) rfl fun _ _ _ h => ?_
      refine gg h rfl rfl c5 (o_move rfl) rfl fun _ _ _ h => ?_
      obtain ⟨x3, ex3, H⟩ := bindE H
      refine gg h rfl rfl c5 (o_ixs rfl rfl g1 ex3 t_u9) rfl fun _ _ _ h => ?_
      refine gg h rfl rfl c5 (o_bin rfl rfl rfl) rfl fun _ _ _ h => ?_
      refine ga h (o_pickT rfl rfl c5) rfl fun h => ?_
      refine GoR.done ?_
      exact J4 (!decide (x3 = 46)) _ _ (som H).symm (h.wr [0])
     ·have H := ifF c5 H
      iterate 4 (refine gk h rfl rfl (nb_f c5) rfl fun _ h => ?_)
      refine ga h (o_pickF rfl rfl c5) rfl fun h => ?_
      refine GoR.done ?_
      exact J4 false _ _ (som H).symm (h.wr [0])
    ·have H := ifF c4 H
     refine g_f h rfl c4 ?_
     refine Go.exit rfl ?_
     have e_ := som H; subst e_
     exact J8 s1.1 v1 _ _ (nx_out i1).symm (h.wr [0])
   refine Go.reg ?_
   refine mv h rfl rfl fun h => ?_
   refine mv h rfl rfl fun h => ?_
   refine ga h (o_lens rfl t_u9) rfl fun h => ?_
   refine ga h (o_bin rfl rfl rfl) rfl fun h => ?_
   refine mv h rfl rfl fun h => ?_
   by_cases c3 : decide (s1.2.2 ≤ (j2.length : Int)) = true
   ·have H := ifT c3 H
    refine gg h rfl rfl c3 (o_move rfl) rfl fun _ _ _ h => ?_
    refine gg h rfl rfl c3 (o_nes rfl rfl g1 (show Bs [] by decide)) rfl fun _ _ _ h => ?_
    refine ga h (o_pickT rfl rfl c3) rfl fun h => ?_
    refine GoR.done ?_
    exact J3 (!decide (j2 = [])) _ _ (som H).symm (h.wr [0])
   ·have H := ifF c3 H
    refine gk h rfl rfl (nb_f c3) rfl fun _ h => ?_
    refine gk h rfl rfl (nb_f c3) rfl fun _ h => ?_
    refine ga h (o_pickF rfl rfl c3) rfl fun h => ?_
    refine GoR.done ?_
    exact J3 false _ _ (som H).symm (h.wr [0])
  ·replace h := h.mm fun m => m.nilo (Kd.int .u8)
   exact I_ (.slice none 0 0) _ _ (show InR .i64 0 by decide) (show InR .i64 0 by decide) (h.wr [0])
 refine Go.seq ?_
 obtain ⟨o2, H, G2⟩ := bindE H
 refine g_cut (fun G => ∀ j1 (a : Act) (w : World), o2 = j1 → St Tryd.f29.ntmps F [(4, .string (mkS a1)), (21, .bool j1)] [] a w → G a w) 1 ?_ fun J1 => ?_
 ·intro j1 a w ho_ h
  rw [ho_] at G2
  have H := G2
  by_cases c2 : j1 = true
  ·have H := ifT c2 H
   refine g_t h rfl c2 ?_
   refine Go.reg ?_
   refine mv h rfl rfl fun h => ?_
   refine mv h rfl rfl fun h => ?_
   refine ga h (o_lens rfl t_u9) rfl fun h => ?_
   refine ga h (o_bin rfl rfl rfl) rfl fun h => ?_
   obtain ⟨x2, ex2, H⟩ := bindE H
   refine ga h (o_slsh rfl rfl ex2 t_u9) rfl fun h => ?_
   refine ga h (o_assign rfl) rfl fun h => ?_
   refine GoR.done ?_
   exact J2 x2 _ _ (som H).symm (Bs.cut ha1 ex2) (h.wr [])
  ·have H := ifF c2 H
   refine g_f h rfl c2 ?_
   refine Go.skip ?_
   exact J2 a1 _ _ (som H).symm ha1 (h.wr [])
 refine Go.reg ?_
 refine mv h rfl rfl fun h => ?_
 refine ga h (o_lens rfl t_u9) rfl fun h => ?_
 refine ga h (o_bin rfl rfl rfl) rfl fun h => ?_
 refine mv h rfl rfl fun h => ?_
 by_cases c1 : decide (0 < (a1.length : Int)) = true
 ·have H := ifT c1 H
  refine gg h rfl rfl c1 (o_move rfl) rfl fun _ _ _ h => ?_
  refine gg h rfl rfl c1 (o_move rfl) rfl fun _ _ _ h => ?_
  refine gg h rfl rfl c1 (o_lens rfl t_u9) rfl fun _ _ _ h => ?_
  refine gg h rfl rfl c1 (o_bin rfl rfl rfl) rfl fun _ _ _ h => ?_
  obtain ⟨x1, ex1, H⟩ := bindE H
  refine gg h rfl rfl c1 (o_ixs rfl rfl ha1 ex1 t_u9) rfl fun _ _ _ h => ?_
  refine gg h rfl rfl c1 (o_bin rfl rfl rfl) rfl fun _ _ _ h => ?_
  refine ga h (o_pickT rfl rfl c1) rfl fun h => ?_
  refine GoR.done ?_
  exact J1 (decide (x1 = 46)) _ _ (som H).symm (h.wr [])
 ·have H := ifF c1 H
  iterate 6 (refine gk h rfl rfl (nb_f c1) rfl fun _ h => ?_)
  refine ga h (o_pickF rfl rfl c1) rfl fun h => ?_
  refine GoR.done ?_
  exact J1 false _ _ (som H).symm (h.wr [])
def ref21_labels.g (k_ : Nat) (a1 : List Int) : Option ((List Int) × Bool) :=
  (((if decide (0 < (a1.length : Int)) = true then (idx a1 (IntKind.i64.wrap ((a1.length : Int) - 1))).bind fun x1 => some (decide (x1 = 46)) else some (false))).bind (fun j1 => (if j1 = true then (cut a1 0 (IntKind.i64.wrap ((a1.length : Int) - 1))).bind fun x2 => some (x2) else some (a1)))).bind (fun j2 => (loopK k_ (fun s1 => ((if decide (s1.2.2 ≤ (j2.length : Int)) = true then some ((!decide (j2 = []))) else some (false))).bind (fun j3 => (if j3 = true then ((((if decide (s1.2.2 < (j2.length : Int)) = true then (idx j2 s1.2.2).bind fun x3 => some ((!decide (x3 = 46))) else some (false))).bind (fun j4 => (if j4 = true then (idx j2 s1.2.2).bind fun x4 => (ref21_letter.g k_ x4).bind fun r1 => (if (!r1.2) = true then some (.inr (([], false))) else some (.inl ((s1.1, s1.2.1)))) else ((if decide ((IntKind.i64.wrap (s1.2.2 - s1.2.1)) < 1) = true then some (true) else some (decide (63 < (IntKind.i64.wrap (s1.2.2 - s1.2.1)))))).bind (fun j5 => (if j5 = true then some (.inr (([], false))) else (app s1.1 ([IntKind.u8.wrap (IntKind.i64.wrap (s1.2.2 - s1.2.1))] : List Int)).bind fun x5 => (cut j2 s1.2.1 s1.2.2).bind fun x6 => (app x5 x6).bind fun x7 => lt (IntKind.i64.wrap (s1.2.2 + 1)) fun y1 => some (.inl ((x7, y1)))))))).bind (Sum.elim (fun j6 => some (.inl ((j6.1, j6.2)))) (fun z_ => some (.inr (z_))))).bind (Sum.elim (fun j7 => lt (IntKind.i64.wrap (s1.2.2 + 1)) fun y2 => some (.inl (j7.1, j7.2, y2))) (fun z_ => some (.inr (.inr (z_))))) else some (.inr (.inl (s1.1)))))) (([] : List Int), 0, 0)).bind (Sum.elim (fun j8 => (app j8 ([0] : List Int)).bind fun x8 => lt (decide ((IntKind.i64.wrap ((j8.length : Int) + 1)) ≤ 255)) fun y3 => some ((x8, y3))) (fun z_ => some (z_))))
theorem ref21_labels.le (k_ : Nat) (a1 : List Int) : Le (ref21_labels.g k_ a1) (ref21_labels.f a1) := by
 unfold ref21_labels.g ref21_labels.f
 repeat' (first | with_reducible refine le_loop fun _ => ?_ | with_reducible refine le_bind ?_ fun _ => ?_ | with_reducible refine le_ite ?_ ?_ | with_reducible refine le_lt fun _ => ?_ | with_reducible refine le_elim (fun _ => ?_) (fun _ => ?_) _ | with_reducible apply ref21_letter.le | with_reducible exact le_refl _)
/-! drawbridge/drawbridgeref01.Put -/
noncomputable def ref01_Put.f (a1 : Int) (a2 : Int) (a3 : Bool) : Option ((List Int)) :=
  (loop (fun s1 => ((if decide (s1.2 < a2) = true then some (decide (s1.2 < 8)) else some (false))).bind (fun j1 => (if j1 = true then ((if 0 ≤ (IntKind.u64.wrap (IntKind.i64.wrap (8 * s1.2))) then (lt (IntKind.u8.wrap (ishr .u64 a1 (IntKind.u64.wrap (IntKind.i64.wrap (8 * s1.2))))) fun y1 => (if a3 = true then (app ([y1] : List Int) s1.1).bind fun x1 => some (x1) else (app s1.1 ([y1] : List Int)).bind fun x2 => some (x2))) else none).bind (fun j2 => some (j2))).bind (fun j3 => lt (IntKind.i64.wrap (s1.2 + 1)) fun y2 => some (.inl (j3, y2))) else some (.inr (s1.1))))) (([] : List Int), 0)).bind (fun j4 => some (j4))
set_option maxRecDepth 100000 in
set_option maxHeartbeats 4000000 in
theorem ref01_Put.spc (a1 : Int) (ha1 : InR .u64 a1) (a2 : Int) (ha2 : InR .i64 a2) (a3 : Bool) (r : (List Int)) (H : ref01_Put.f a1 a2 a3 = some r) : Spc Tryd.prog 49 [.int .u64 a1, .int .i64 a2, .bool a3] [] [] (fun (s : Value) => s) (fun s => [Val (Kd.osl (Kd.int .u8)) s r]) := by
 unfold ref01_Put.f at H
 refine Spc.go Tryd.func49 rfl (by kernel_rfl) rfl rfl all_nil fun F a w h => ?_
 refine Go.seq ?_
 refine Go.reg ?_
 refine ga h (o_assign rfl) rfl fun h => ?_
 refine GoR.done ?_
 refine Go.seq ?_
 refine Go.reg ?_
 refine ga h (o_assign rfl) rfl fun h => ?_
 refine GoR.done ?_
 refine Go.seq ?_
 refine Go.seq ?_
 refine Go.reg ?_
 refine ga h (o_assign rfl) rfl fun h => ?_
 refine GoR.done ?_
 refine Go.block ?_
 obtain ⟨o1, hl, G1⟩ := bindE H
 refine g_cut (fun G => ∀ j4 (v8 : Value) (a : Act) (w : World), o1 = j4 → St Tryd.f49.ntmps F [(7, v8)] [Val (Kd.osl (Kd.int .u8)) v8 j4] a w → G a w) 2 ?_ fun J4 => ?_
 ·intro j4 v8 a w ho_ h
  rw [ho_] at G1
  have H := G1
  refine Go.seq ?_
  refine Go.reg ?_
  refine mv h rfl rfl fun h => ?_
  refine ga h (o_assign rfl) rfl fun h => ?_
  refine GoR.done ?_
  rw [← som H]
  exact g_ret (vs := [v8]) h Tryd.func49 ⟨rfl, trivial⟩ ⟨v8, rfl, (h.mem.pick [0] (by decide) rfl)⟩
 refine g_loop (fun s1 G => ∀ (v1 : Value) (a : Act) (w : World), InR .i64 s1.2 → St Tryd.f49.ntmps F [(0, .int .u64 a1), (1, .int .i64 a2), (2, .bool a3), (7, v1), (8, .int .i64 s1.2)] [Val (Kd.osl (Kd.int .u8)) v1 s1.1] a w → G a w) hl (fun s1 p1 H i1 => ?_) fun I_ => ?_
 ·intro v1 a w g1 h
  refine Go.seq ?_
  refine Go.seq ?_
  obtain ⟨o2, H, G2⟩ := bindE H
  refine g_cut (fun G => ∀ j1 (a : Act) (w : World), o2 = j1 → St Tryd.f49.ntmps F [(0, .int .u64 a1), (1, .int .i64 a2), (2, .bool a3), (7, v1), (8, .int .i64 s1.2), (16, .bool j1)] [Val (Kd.osl (Kd.int .u8)) v1 s1.1] a w → G a w) 1 ?_ fun J1 => ?_
  ·intro j1 a w ho_ h
   rw [ho_] at G2
   have H := G2
   by_cases c2 : j1 = true
   ·have H := ifT c2 H
    refine g_t h rfl c2 ?_
    refine Go.skip ?_
    refine Go.seq ?_
    obtain ⟨o3, H, G3⟩ := bindE H
    refine g_cut (fun G => ∀ j3 (v7 : Value) (a : Act) (w : World), o3 = j3 → St Tryd.f49.ntmps F [(0, .int .u64 a1), (1, .int .i64 a2), (2, .bool a3), (7, v7), (8, .int .i64 s1.2)] [Val (Kd.osl (Kd.int .u8)) v7 j3] a w → G a w) 1 ?_ fun J3 => ?_
    ·intro j3 v7 a w ho_ h
     rw [ho_] at G3
     have H := G3
     refine Go.reg ?_
     refine mv h rfl rfl fun h => ?_
     refine ga h (o_bin rfl rfl rfl) rfl fun h => ?_
     obtain ⟨y2, ey2, H⟩ := ltE H
     refine ga h (o_assign' rfl (congrArg (fun z => Value.int .i64 z) ey2)) rfl fun h => ?_
     refine GoR.done ?_
     have e_ := som H; subst e_
     exact Go.inLoop (nx_in i1 v7 _ _ (ey2 ▸ (wrap_in _ _)) (h.wr [0]))
    refine Go.block ?_
    obtain ⟨o4, H, G4⟩ := bindE H
    refine g_cut (fun G => ∀ j2 (v6 : Value) (a : Act) (w : World), o4 = j2 → St Tryd.f49.ntmps F [(0, .int .u64 a1), (1, .int .i64 a2), (2, .bool a3), (7, v6), (8, .int .i64 s1.2)] [Val (Kd.osl (Kd.int .u8)) v6 j2] a w → G a w) 2 ?_ fun J2 => ?_
    ·intro j2 v6 a w ho_ h
     rw [ho_] at G4
     have H := G4
     exact J3 j2 v6 _ _ (som H).symm (h.wr [0])
    refine Go.seq ?_
    refine Go.reg ?_
    refine mv h rfl rfl fun h => ?_
    refine mv h rfl rfl fun h => ?_
    refine ga h (o_bin rfl rfl rfl) rfl fun h => ?_
    refine ga h (o_conv rfl t_q3 t_u56) rfl fun h => ?_
    obtain ⟨q1, H⟩ := ifS H
    refine ga h (o_shr rfl rfl q1) rfl fun h => ?_
    refine ga h (o_conv rfl t_q87 t_u5) rfl fun h => ?_
    obtain ⟨y1, ey1, H⟩ := ltE H
    refine ga h (o_assign' rfl (congrArg (fun z => Value.int .u8 z) ey1)) rfl fun h => ?_
    refine GoR.done ?_
    refine Go.seq ?_
    refine Go.reg ?_
    refine mv h rfl rfl fun h => ?_
    refine GoR.done ?_
    by_cases c3 : a3 = true
    ·have H := ifT c3 H
     refine g_t h rfl c3 ?_
     refine Go.reg ?_
     refine mv h rfl rfl fun h => ?_
     refine gs h (o_bs (K := (Kd.int .u8)) (vs := [.int .u8 y1]) (xs := ([y1] : List Int)) rfl rfl (pvs_cons (pv_int (ey1 ▸ (wrap_in _ _))) pvs_nil) t_a22 (by decide) (by decide)) rfl fun v2 _ _ h => ?_
     refine mv h rfl rfl fun h => ?_
     obtain ⟨x1, ex1, H⟩ := bindE H
     refine gs h (o_app (K := (Kd.int .u8)) 0 rfl rfl rfl (rd_own 1 rfl) ex1 t_a22 t_n22) rfl fun v3 _ _ h => ?_
     refine ga h (o_assign rfl) rfl fun h => ?_
     refine GoR.done ?_
     refine Go.inBlock ?_
     exact J2 x1 v3 _ _ (som H).symm (h.wr [0])
    ·have H := ifF c3 H
     refine g_f h rfl c3 ?_
     refine Go.reg ?_
     refine mv h rfl rfl fun h => ?_
     refine mv h rfl rfl fun h => ?_
     refine gs h (o_bs (K := (Kd.int .u8)) (vs := [.int .u8 y1]) (xs := ([y1] : List Int)) rfl rfl (pvs_cons (pv_int (ey1 ▸ (wrap_in _ _))) pvs_nil) t_a22 (by decide) (by decide)) rfl fun v4 _ _ h => ?_
     obtain ⟨x2, ex2, H⟩ := bindE H
     refine gs h (o_app (K := (Kd.int .u8)) 1 rfl rfl rfl (rd_own 0 rfl) ex2 t_a22 t_n22) rfl fun v5 _ _ h => ?_
     refine ga h (o_assign rfl) rfl fun h => ?_
     refine GoR.done ?_
     refine Go.inBlock ?_
     exact J2 x2 v5 _ _ (som H).symm (h.wr [1])
   ·have H := ifF c2 H
    refine g_f h rfl c2 ?_
    refine Go.exit rfl ?_
    have e_ := som H; subst e_
    exact J4 s1.1 v1 _ _ (nx_out i1).symm (h.wr [0])
  refine Go.reg ?_
  refine mv h rfl rfl fun h => ?_
  refine mv h rfl rfl fun h => ?_
  refine ga h (o_bin rfl rfl rfl) rfl fun h => ?_
  refine mv h rfl rfl fun h => ?_
  by_cases c1 : decide (s1.2 < a2) = true
  ·have H := ifT c1 H
   refine gg h rfl rfl c1 (o_move rfl) rfl fun _ _ _ h => ?_
   refine gg h rfl rfl c1 (o_bin rfl rfl rfl) rfl fun _ _ _ h => ?_
   refine ga h (o_pickT rfl rfl c1) rfl fun h => ?_
   refine GoR.done ?_
   exact J1 (decide (s1.2 < 8)) _ _ (som H).symm (h.wr [0])
  ·have H := ifF c1 H
   refine gk h rfl rfl (nb_f c1) rfl fun _ h => ?_
   refine gk h rfl rfl (nb_f c1) rfl fun _ h => ?_
   refine ga h (o_pickF rfl rfl c1) rfl fun h => ?_
   refine GoR.done ?_
   exact J1 false _ _ (som H).symm (h.wr [0])
 ·replace h := h.mm fun m => m.nilo (Kd.int .u8)
  exact I_ (.slice none 0 0) _ _ (show InR .i64 0 by decide) (h.wr [0])
def ref01_Put.g (k_ : Nat) (a1 : Int) (a2 : Int) (a3 : Bool) : Option ((List Int)) :=
  (loopK k_ (fun s1 => ((if decide (s1.2 < a2) = true then some (decide (s1.2 < 8)) else some (false))).bind (fun j1 => (if j1 = true then ((if 0 ≤ (IntKind.u64.wrap (IntKind.i64.wrap (8 * s1.2))) then (lt (IntKind.u8.wrap (ishr .u64 a1 (IntKind.u64.wrap (IntKind.i64.wrap (8 * s1.2))))) fun y1 => (if a3 = true then (app ([y1] : List Int) s1.1).bind fun x1 => some (x1) else (app s1.1 ([y1] : List Int)).bind fun x2 => some (x2))) else none).bind (fun j2 => some (j2))).bind (fun j3 => lt (IntKind.i64.wrap (s1.2 + 1)) fun y2 => some (.inl (j3, y2))) else some (.inr (s1.1))))) (([] : List Int), 0)).bind (fun j4 => some (j4))
theorem ref01_Put.le (k_ : Nat) (a1 : Int) (a2 : Int) (a3 : Bool) : Le (ref01_Put.g k_ a1 a2 a3) (ref01_Put.f a1 a2 a3) := by
 unfold ref01_Put.g ref01_Put.f
 repeat' (first | with_reducible refine le_loop fun _ => ?_ | with_reducible refine le_bind ?_ fun _ => ?_ | with_reducible refine le_ite ?_ ?_ | with_reducible refine le_lt fun _ => ?_ | with_reducible refine le_elim (fun _ => ?_) (fun _ => ?_) _ | with_reducible exact le_refl _)
/-! drawbridge/drawbridgeref21.two -/
noncomputable def ref21_two.f (a1 : Int) : Option ((List Int)) :=
  (ref01_Put.f (IntKind.u64.wrap a1) 2 true).bind fun r1 => some (r1)
set_option maxRecDepth 100000 in
set_option maxHeartbeats 4000000 in
theorem ref21_two.spc (a1 : Int) (ha1 : InR .i64 a1) (r : (List Int)) (H : ref21_two.f a1 = some r) : Spc Tryd.prog 30 [.int .i64 a1] [] [] (fun (s : Value) => s) (fun s => [Val (Kd.osl (Kd.int .u8)) s r]) := by
 unfold ref21_two.f at H
 refine Spc.go Tryd.func30 rfl (by kernel_rfl) rfl rfl all_nil fun F a w h => ?_
 refine Go.seq ?_
 refine Go.reg ?_
 refine ga h (o_assign rfl) rfl fun h => ?_
 refine GoR.done ?_
 refine Go.seq ?_
 refine Go.reg ?_
 refine mv h rfl rfl fun h => ?_
 refine ga h (o_conv rfl t_q3 t_u87) rfl fun h => ?_
 obtain ⟨r1, er1, H⟩ := bindE H
 refine gs h (o_call (ref01_Put.spc (IntKind.u64.wrap a1) (wrap_in _ _) 2 (show InR .i64 2 by decide) true r1 er1) rfl [] [] (by decide) rfl rfl) rfl fun v1 _ _ h => ?_
 refine ga h (o_assign rfl) rfl fun h => ?_
 refine GoR.done ?_
 rw [← som H]
 exact g_ret (vs := [v1]) h Tryd.func30 ⟨rfl, trivial⟩ ⟨v1, rfl, (h.mem.pick [0] (by decide) rfl)⟩
def ref21_two.g (k_ : Nat) (a1 : Int) : Option ((List Int)) :=
  (ref01_Put.g k_ (IntKind.u64.wrap a1) 2 true).bind fun r1 => some (r1)
theorem ref21_two.le (k_ : Nat) (a1 : Int) : Le (ref21_two.g k_ a1) (ref21_two.f a1) := by
 unfold ref21_two.g ref21_two.f
 repeat' (first | with_reducible refine le_loop fun _ => ?_ | with_reducible refine le_bind ?_ fun _ => ?_ | with_reducible refine le_ite ?_ ?_ | with_reducible refine le_lt fun _ => ?_ | with_reducible refine le_elim (fun _ => ?_) (fun _ => ?_) _ | with_reducible apply ref01_Put.le | with_reducible exact le_refl _)
/-! drawbridge/drawbridgeref21.Ask -/
noncomputable def ref21_Ask.f (a1 : Int) (a2 : List Int) (a3 : Int) : Option ((List Int) × Int) :=
  (ref21_labels.f a2).bind fun r1 => ((if (!r1.2) = true then some (true) else (if decide (a1 < 0) = true then some (true) else (if decide (65535 < a1) = true then some (true) else (if decide (a3 < 0) = true then some (true) else some (decide (65535 < a3))))))).bind (fun j1 => (if j1 = true then some (([], 2)) else (ref21_two.f a1).bind fun r2 => (app r2 ([1, 0, 0, 1, 0, 0, 0, 0, 0, 0] : List Int)).bind fun x1 => (app x1 r1.1).bind fun x2 => (ref21_two.f a3).bind fun r3 => (app x2 r3).bind fun x3 => (app x3 ([0, 1] : List Int)).bind fun x4 => some ((x4, 0))))
set_option maxRecDepth 100000 in
set_option maxHeartbeats 4000000 in
theorem ref21_Ask.spc (a1 : Int) (ha1 : InR .i64 a1) (a2 : List Int) (ha2 : Bs a2) (a3 : Int) (ha3 : InR .i64 a3) (r : (List Int) × Int) (H : ref21_Ask.f a1 a2 a3 = some r) : Spc Tryd.prog 11 [.int .i64 a1, .string (mkS a2), .int .i64 a3] [] [] (fun (s : Value) => .tuple #[s, .int .i64 r.2]) (fun s => [Ent.pur (InR .i64 r.2), Val (Kd.osl (Kd.int .u8)) s r.1]) := by
 unfold ref21_Ask.f at H
 refine Spc.go Tryd.func11 rfl (by kernel_rfl) rfl rfl all_nil fun F a w h => ?_
 refine Go.seq ?_
 refine Go.reg ?_
 refine ga h (o_assign rfl) rfl fun h => ?_
 refine ga h (o_assign rfl) rfl fun h => ?_
 refine GoR.done ?_
 refine Go.seq ?_
 refine Go.reg ?_
 refine mv h rfl rfl fun h => ?_
 obtain ⟨r1, er1, H⟩ := bindE H
 refine gs h (o_call (ref21_labels.spc a2 ha2 r1 er1) rfl [] [] (by decide) rfl rfl) rfl fun v1 _ _ h => ?_
 refine mv h rfl rfl fun h => ?_
 refine ga h (o_extract rfl rfl) rfl fun h => ?_
 refine ga h (o_extract rfl rfl) rfl fun h => ?_
 refine ga h (o_assign rfl) rfl fun h => ?_
 refine ga h (o_assign rfl) rfl fun h => ?_
 refine GoR.done ?_
 refine Go.seq ?_
 refine Go.seq ?_
 obtain ⟨o1, H, G1⟩ := bindE H
 refine g_cut (fun G => ∀ j1 (a : Act) (w : World), o1 = j1 → St Tryd.f11.ntmps F [(0, .int .i64 a1), (2, .int .i64 a3), (8, v1), (33, .bool j1)] [Val (Kd.osl (Kd.int .u8)) v1 r1.1] a w → G a w) 1 ?_ fun J1 => ?_
 ·intro j1 a w ho_ h
  rw [ho_] at G1
  have H := G1
  by_cases c5 : j1 = true
  ·have H := ifT c5 H
   refine g_t h rfl c5 ?_
   refine Go.seq ?_
   refine Go.reg ?_
   refine ga h (o_assign rfl) rfl fun h => ?_
   refine ga h (o_assign rfl) rfl fun h => ?_
   refine GoR.done ?_
   replace h := h.mm fun m => m.nilo (Kd.int .u8)
   rw [← som H]
   exact g_ret (vs := [.slice none 0 0, .int .i64 2]) h Tryd.func11 ⟨rfl, ⟨rfl, trivial⟩⟩ ⟨.slice none 0 0, rfl, ((h.mem.pick [0] (by decide) rfl).addpur (show InR .i64 2 by decide))⟩
  ·have H := ifF c5 H
   refine g_f h rfl c5 ?_
   refine Go.skip ?_
   refine Go.seq ?_
   refine Go.reg ?_
   refine mv h rfl rfl fun h => ?_
   obtain ⟨r2, er2, H⟩ := bindE H
   refine gs h (o_call (ref21_two.spc a1 ha1 r2 er2) rfl [] [] (by decide) rfl rfl) rfl fun v2 _ _ h => ?_
   refine gs h (o_bs (K := (Kd.int .u8)) (vs := [.int .u8 1, .int .u8 0, .int .u8 0, .int .u8 1, .int .u8 0, .int .u8 0, .int .u8 0, .int .u8 0, .int .u8 0, .int .u8 0]) (xs := ([1, 0, 0, 1, 0, 0, 0, 0, 0, 0] : List Int)) rfl rfl (pvs_cons (pv_int (show InR .u8 1 by decide)) (pvs_cons (pv_int (show InR .u8 0 by decide)) (pvs_cons (pv_int (show InR .u8 0 by decide)) (pvs_cons (pv_int (show InR .u8 1 by decide)) (pvs_cons (pv_int (show InR .u8 0 by decide)) (pvs_cons (pv_int (show InR .u8 0 by decide)) (pvs_cons (pv_int (show InR .u8 0 by decide)) (pvs_cons (pv_int (show InR .u8 0 by decide)) (pvs_cons (pv_int (show InR .u8 0 by decide)) (pvs_cons (pv_int (show InR .u8 0 by decide)) pvs_nil)))))))))) t_a22 (by decide) (by decide)) rfl fun v3 _ _ h => ?_
   obtain ⟨x1, ex1, H⟩ := bindE H
   refine gs h (o_app (K := (Kd.int .u8)) 1 rfl rfl rfl (rd_own 0 rfl) ex1 t_a22 t_n22) rfl fun v4 _ _ h => ?_
   refine ga h (o_assign rfl) rfl fun h => ?_
   refine GoR.done ?_
   refine Go.seq ?_
   refine Go.reg ?_
   refine mv h rfl rfl fun h => ?_
   refine mv h rfl rfl fun h => ?_
   obtain ⟨x2, ex2, H⟩ := bindE H
   refine gs h (o_app (K := (Kd.int .u8)) 1 rfl rfl rfl (rd_own 2 rfl) ex2 t_a22 t_n22) rfl fun v5 _ _ h => ?_
   refine mv h rfl rfl fun h => ?_
   obtain ⟨r3, er3, H⟩ := bindE H
   refine gs h (o_call (ref21_two.spc a3 ha3 r3 er3) rfl [] [] (by decide) rfl rfl) rfl fun v6 _ _ h => ?_
   obtain ⟨x3, ex3, H⟩ := bindE H
   refine gs h (o_app (K := (Kd.int .u8)) 2 rfl rfl rfl (rd_own 0 rfl) ex3 t_a22 t_n22) rfl fun v7 _ _ h => ?_
   refine gs h (o_bs (K := (Kd.int .u8)) (vs := [.int .u8 0, .int .u8 1]) (xs := ([0, 1] : List Int)) rfl rfl (pvs_cons (pv_int (show InR .u8 0 by decide)) (pvs_cons (pv_int (show InR .u8 1 by decide)) pvs_nil)) t_a22 (by decide) (by decide)) rfl fun v8 _ _ h => ?_
   obtain ⟨x4, ex4, H⟩ := bindE H
   refine gs h (o_app (K := (Kd.int .u8)) 3 rfl rfl rfl (rd_own 0 rfl) ex4 t_a22 t_n22) rfl fun v9 _ _ h => ?_
   refine ga h (o_assign rfl) rfl fun h => ?_
   refine ga h (o_assign rfl) rfl fun h => ?_
   refine GoR.done ?_
   rw [← som H]
   exact g_ret (vs := [v9, .int .i64 0]) h Tryd.func11 ⟨rfl, ⟨rfl, trivial⟩⟩ ⟨v9, rfl, ((h.mem.pick [3] (by decide) rfl).addpur (show InR .i64 0 by decide))⟩
 refine Go.reg ?_
 refine mv h rfl rfl fun h => ?_
 refine ga h (o_not rfl) rfl fun h => ?_
 refine mv h rfl rfl fun h => ?_
 by_cases c1 : (!r1.2) = true
 ·have H := ifT c1 H
  refine gk h rfl rfl (nb_t c1) rfl fun _ h => ?_
  refine gk h rfl rfl (nb_t c1) rfl fun _ h => ?_
  refine ga h (o_pickT rfl rfl c1) rfl fun h => ?_
  refine mv h rfl rfl fun h => ?_
  refine gk h rfl rfl (nb_t rfl) rfl fun _ h => ?_
  refine gk h rfl rfl (nb_t rfl) rfl fun _ h => ?_
  refine ga h (o_pickT rfl rfl rfl) rfl fun h => ?_
  refine mv h rfl rfl fun h => ?_
  refine gk h rfl rfl (nb_t rfl) rfl fun _ h => ?_
  refine gk h rfl rfl (nb_t rfl) rfl fun _ h => ?_
  refine ga h (o_pickT rfl rfl rfl) rfl fun h => ?_
  refine mv h rfl rfl fun h => ?_
  refine gk h rfl rfl (nb_t rfl) rfl fun _ h => ?_
  refine gk h rfl rfl (nb_t rfl) rfl fun _ h => ?_
  refine ga h (o_pickT rfl rfl rfl) rfl fun h => ?_
  refine GoR.done ?_
  exact J1 true _ _ (som H).symm (h.wr [0])
 ·have H := ifF c1 H
  refine gg h rfl rfl (nbF c1) (o_move rfl) rfl fun _ _ _ h => ?_
  refine gg h rfl rfl (nbF c1) (o_bin rfl rfl rfl) rfl fun _ _ _ h => ?_
  refine ga h (o_pickF rfl rfl c1) rfl fun h => ?_
  refine mv h rfl rfl fun h => ?_
  by_cases c2 : decide (a1 < 0) = true
  ·have H := ifT c2 H
   refine gk h rfl rfl (nb_t c2) rfl fun _ h => ?_
   refine gk h rfl rfl (nb_t c2) rfl fun _ h => ?_
   refine ga h (o_pickT rfl rfl c2) rfl fun h => ?_
   refine mv h rfl rfl fun h => ?_
   refine gk h rfl rfl (nb_t rfl) rfl fun _ h => ?_
   refine gk h rfl rfl (nb_t rfl) rfl fun _ h => ?_
   refine ga h (o_pickT rfl rfl rfl) rfl fun h => ?_
   refine mv h rfl rfl fun h => ?_
   refine gk h rfl rfl (nb_t rfl) rfl fun _ h => ?_
   refine gk h rfl rfl (nb_t rfl) rfl fun _ h => ?_
   refine ga h (o_pickT rfl rfl rfl) rfl fun h => ?_
   refine GoR.done ?_
   exact J1 true _ _ (som H).symm (h.wr [0])
  ·have H := ifF c2 H
   refine gg h rfl rfl (nbF c2) (o_move rfl) rfl fun _ _ _ h => ?_
   refine gg h rfl rfl (nbF c2) (o_bin rfl rfl rfl) rfl fun _ _ _ h => ?_
   refine ga h (o_pickF rfl rfl c2) rfl fun h => ?_
   refine mv h rfl rfl fun h => ?_
   by_cases c3 : decide (65535 < a1) = true
   ·have H := ifT c3 H
    refine gk h rfl rfl (nb_t c3) rfl fun _ h => ?_
    refine gk h rfl rfl (nb_t c3) rfl fun _ h => ?_
    refine ga h (o_pickT rfl rfl c3) rfl fun h => ?_
    refine mv h rfl rfl fun h => ?_
    refine gk h rfl rfl (nb_t rfl) rfl fun _ h => ?_
    refine gk h rfl rfl (nb_t rfl) rfl fun _ h => ?_
    refine ga h (o_pickT rfl rfl rfl) rfl fun h => ?_
    refine GoR.done ?_
    exact J1 true _ _ (som H).symm (h.wr [0])
   ·have H := ifF c3 H
    refine gg h rfl rfl (nbF c3) (o_move rfl) rfl fun _ _ _ h => ?_
    refine gg h rfl rfl (nbF c3) (o_bin rfl rfl rfl) rfl fun _ _ _ h => ?_
    refine ga h (o_pickF rfl rfl c3) rfl fun h => ?_
    refine mv h rfl rfl fun h => ?_
    by_cases c4 : decide (a3 < 0) = true
    ·have H := ifT c4 H
     refine gk h rfl rfl (nb_t c4) rfl fun _ h => ?_
     refine gk h rfl rfl (nb_t c4) rfl fun _ h => ?_
     refine ga h (o_pickT rfl rfl c4) rfl fun h => ?_
     refine GoR.done ?_
     exact J1 true _ _ (som H).symm (h.wr [0])
    ·have H := ifF c4 H
     refine gg h rfl rfl (nbF c4) (o_move rfl) rfl fun _ _ _ h => ?_
     refine gg h rfl rfl (nbF c4) (o_bin rfl rfl rfl) rfl fun _ _ _ h => ?_
     refine ga h (o_pickF rfl rfl c4) rfl fun h => ?_
     refine GoR.done ?_
     exact J1 (decide (65535 < a3)) _ _ (som H).symm (h.wr [0])
def ref21_Ask.g (k_ : Nat) (a1 : Int) (a2 : List Int) (a3 : Int) : Option ((List Int) × Int) :=
  (ref21_labels.g k_ a2).bind fun r1 => ((if (!r1.2) = true then some (true) else (if decide (a1 < 0) = true then some (true) else (if decide (65535 < a1) = true then some (true) else (if decide (a3 < 0) = true then some (true) else some (decide (65535 < a3))))))).bind (fun j1 => (if j1 = true then some (([], 2)) else (ref21_two.g k_ a1).bind fun r2 => (app r2 ([1, 0, 0, 1, 0, 0, 0, 0, 0, 0] : List Int)).bind fun x1 => (app x1 r1.1).bind fun x2 => (ref21_two.g k_ a3).bind fun r3 => (app x2 r3).bind fun x3 => (app x3 ([0, 1] : List Int)).bind fun x4 => some ((x4, 0))))
theorem ref21_Ask.le (k_ : Nat) (a1 : Int) (a2 : List Int) (a3 : Int) : Le (ref21_Ask.g k_ a1 a2 a3) (ref21_Ask.f a1 a2 a3) := by
 unfold ref21_Ask.g ref21_Ask.f
 repeat' (first | with_reducible refine le_loop fun _ => ?_ | with_reducible refine le_bind ?_ fun _ => ?_ | with_reducible refine le_ite ?_ ?_ | with_reducible refine le_lt fun _ => ?_ | with_reducible refine le_elim (fun _ => ?_) (fun _ => ?_) _ | with_reducible apply ref21_labels.le | with_reducible apply ref21_two.le | with_reducible exact le_refl _)
/-! drawbridge/drawbridgeref21.Id -/
noncomputable def ref21_Id.f (a1 : List Int) : Option (Int × Bool) :=
  (if decide ((a1.length : Int) < 12) = true then some ((0, false)) else (cut a1 0 2).bind fun x1 => (ref21_number.f x1).bind fun r1 => some ((r1, true)))
set_option maxRecDepth 100000 in
set_option maxHeartbeats 4000000 in
theorem ref21_Id.spc (v1 : Value) (a1 : List Int) (r : Int × Bool) (H : ref21_Id.f a1 = some r) : Spc Tryd.prog 13 [v1] [Val (Kd.sl (Kd.int .u8)) v1 a1] [] (fun (s : Unit) => .tuple #[.int .i64 r.1, .bool r.2]) (fun s => [Ent.pur (InR .i64 r.1)]) := by
 unfold ref21_Id.f at H
 refine Spc.go Tryd.func13 rfl (by kernel_rfl) rfl rfl (all_cons (Val.per Per_sl) all_nil) fun F a w h => ?_
 refine Go.seq ?_
 refine Go.reg ?_
 refine ga h (o_assign rfl) rfl fun h => ?_
 refine ga h (o_assign rfl) rfl fun h => ?_
 refine GoR.done ?_
 refine Go.seq ?_
 refine Go.seq ?_
 refine Go.reg ?_
 refine mv h rfl rfl fun h => ?_
 have g1 := (len_at 0 rfl h.mem)
 refine ga h (o_ln rfl (rd_at 0 rfl) t_v22) rfl fun h => ?_
 refine ga h (o_bin rfl rfl rfl) rfl fun h => ?_
 refine GoR.done ?_
 by_cases c1 : decide ((a1.length : Int) < 12) = true
 ·have H := ifT c1 H
  refine g_t h rfl c1 ?_
  refine Go.seq ?_
  refine Go.reg ?_
  refine ga h (o_assign rfl) rfl fun h => ?_
  refine ga h (o_assign rfl) rfl fun h => ?_
  refine GoR.done ?_
  rw [← som H]
  exact g_ret (vs := [.int .i64 0, .bool false]) h Tryd.func13 ⟨rfl, ⟨rfl, trivial⟩⟩ ⟨(), rfl, ((h.mem.pick [] (by decide) rfl).addpur (show InR .i64 0 by decide))⟩
 ·have H := ifF c1 H
  refine g_f h rfl c1 ?_
  refine Go.skip ?_
  refine Go.seq ?_
  refine Go.reg ?_
  refine mv h rfl rfl fun h => ?_
  obtain ⟨x1, ex1, H⟩ := bindE H
  refine gs h (o_cuth rfl (pv_at Per_sl 0 rfl) rfl ex1 t_v22) rfl fun v2 _ _ h => ?_
  obtain ⟨r1, er1, H⟩ := bindE H
  refine ga h (o_call (ref21_number.spc v2 x1 r1 er1) rfl [0] [] (by decide) rfl rfl) rfl fun h => ?_
  have g2 := h.mem.pur 0 rfl
  refine ga h (o_assign rfl) rfl fun h => ?_
  refine ga h (o_assign rfl) rfl fun h => ?_
  refine GoR.done ?_
  rw [← som H]
  exact g_ret (vs := [.int .i64 r1, .bool true]) h Tryd.func13 ⟨rfl, ⟨rfl, trivial⟩⟩ ⟨(), rfl, ((h.mem.pick [] (by decide) rfl).addpur g2)⟩
def ref21_Id.g (k_ : Nat) (a1 : List Int) : Option (Int × Bool) :=
  (if decide ((a1.length : Int) < 12) = true then some ((0, false)) else (cut a1 0 2).bind fun x1 => (ref21_number.g k_ x1).bind fun r1 => some ((r1, true)))
theorem ref21_Id.le (k_ : Nat) (a1 : List Int) : Le (ref21_Id.g k_ a1) (ref21_Id.f a1) := by
 unfold ref21_Id.g ref21_Id.f
 repeat' (first | with_reducible refine le_loop fun _ => ?_ | with_reducible refine le_bind ?_ fun _ => ?_ | with_reducible refine le_ite ?_ ?_ | with_reducible refine le_lt fun _ => ?_ | with_reducible refine le_elim (fun _ => ?_) (fun _ => ?_) _ | with_reducible apply ref21_number.le | with_reducible exact le_refl _)
/-! drawbridge/drawbridgeref21.Query -/
noncomputable def ref21_Query.f (a1 : List Int) : Option (Bool) :=
  ((if decide (12 ≤ (a1.length : Int)) = true then (idx a1 2).bind fun x1 => lt (decide (x1 < 128)) fun y1 => some (y1) else some (false))).bind (fun j1 => some (j1))
set_option maxRecDepth 100000 in
set_option maxHeartbeats 4000000 in
theorem ref21_Query.spc (v1 : Value) (a1 : List Int) (r : Bool) (H : ref21_Query.f a1 = some r) : Spc Tryd.prog 20 [v1] [Val (Kd.sl (Kd.int .u8)) v1 a1] [] (fun (s : Unit) => .bool r) (fun s => []) := by
 unfold ref21_Query.f at H
 refine Spc.go Tryd.func20 rfl (by kernel_rfl) rfl rfl (all_cons (Val.per Per_sl) all_nil) fun F a w h => ?_
 refine Go.seq ?_
 refine Go.reg ?_
 refine ga h (o_assign rfl) rfl fun h => ?_
 refine GoR.done ?_
 refine Go.seq ?_
 obtain ⟨o1, H, G1⟩ := bindE H
 refine g_cut (fun G => ∀ j1 (a : Act) (w : World), o1 = j1 → St Tryd.f20.ntmps F [(2, .bool j1)] [] a w → G a w) 1 ?_ fun J1 => ?_
 ·intro j1 a w ho_ h
  rw [ho_] at G1
  have H := G1
  rw [← som H]
  exact g_ret (vs := [.bool j1]) h Tryd.func20 ⟨rfl, trivial⟩ ⟨(), rfl, (h.mem.pick [] (by decide) rfl)⟩
 refine Go.reg ?_
 refine mv h rfl rfl fun h => ?_
 have g1 := (len_at 0 rfl h.mem)
 refine ga h (o_ln rfl (rd_at 0 rfl) t_v22) rfl fun h => ?_
 refine ga h (o_bin rfl rfl rfl) rfl fun h => ?_
 refine mv h rfl rfl fun h => ?_
 by_cases c1 : decide (12 ≤ (a1.length : Int)) = true
 ·have H := ifT c1 H
  refine gg h rfl rfl c1 (o_move rfl) rfl fun _ _ _ h => ?_
  obtain ⟨x1, ex1, H⟩ := bindE H
  refine gg h rfl rfl c1 (o_ix rfl rfl (rd_at 0 rfl) ex1 t_v22) rfl fun _ _ _ h => ?_
  have g2 := (rd_inr (rd_at 0 rfl) ex1 h.mem)
  refine gg h rfl rfl c1 (o_lex rfl (rd_at 0 rfl) ex1 X_int t_y5 (by decide)) rfl fun _ _ _ h => ?_
  refine gg h rfl rfl c1 (o_bin rfl rfl rfl) rfl fun _ _ _ h => ?_
  refine ga h (o_pickT rfl rfl c1) rfl fun h => ?_
  obtain ⟨y1, ey1, H⟩ := ltE H
  refine ga h (o_assign' rfl (congrArg Value.bool ey1)) rfl fun h => ?_
  refine GoR.done ?_
  exact J1 y1 _ _ (som H).symm (h.wr [])
 ·have H := ifF c1 H
  iterate 4 (refine gk h rfl rfl (nb_f c1) rfl fun _ h => ?_)
  refine ga h (o_pickF rfl rfl c1) rfl fun h => ?_
  refine ga h (o_assign rfl) rfl fun h => ?_
  refine GoR.done ?_
  exact J1 false _ _ (som H).symm (h.wr [])
def ref21_Query.g (k_ : Nat) (a1 : List Int) : Option (Bool) :=
  ((if decide (12 ≤ (a1.length : Int)) = true then (idx a1 2).bind fun x1 => lt (decide (x1 < 128)) fun y1 => some (y1) else some (false))).bind (fun j1 => some (j1))
theorem ref21_Query.le (k_ : Nat) (a1 : List Int) : Le (ref21_Query.g k_ a1) (ref21_Query.f a1) := by
 unfold ref21_Query.g ref21_Query.f
 repeat' (first | with_reducible refine le_loop fun _ => ?_ | with_reducible refine le_bind ?_ fun _ => ?_ | with_reducible refine le_ite ?_ ?_ | with_reducible refine le_lt fun _ => ?_ | with_reducible refine le_elim (fun _ => ?_) (fun _ => ?_) _ | with_reducible exact le_refl _)
end Go.Proofs.YtjjceikmimhpnaaDoor.S
