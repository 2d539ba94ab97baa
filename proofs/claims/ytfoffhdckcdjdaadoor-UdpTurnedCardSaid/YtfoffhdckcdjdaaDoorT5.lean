/- Contracts, printed by a program of this session. -/
import Derived.Test.YtfoffhdckcdjdaaDoorT4
namespace Go.Proofs.YtfoffhdckcdjdaaDoor.S
open Go Go.SL Go.RowKit
set_option linter.unusedVariables false
set_option linter.unusedSimpArgs false
/-! drawbridge/drawbridgeref15.Sum -/
noncomputable def ref15_Sum.f (a1 : List Int) : Option (Int) :=
  (loop (fun s1 => (if decide (s1.2 < (a1.length : Int)) = true then (((idx a1 s1.2).bind fun x1 => lt (IntKind.i64.wrap (s1.1 + (IntKind.i64.wrap (256 * x1)))) fun y1 => ((if decide ((IntKind.i64.wrap (s1.2 + 1)) < (a1.length : Int)) = true then (idx a1 (IntKind.i64.wrap (s1.2 + 1))).bind fun x2 => lt (IntKind.i64.wrap (y1 + x2)) fun y2 => some (y2) else some (y1))).bind (fun j1 => (if decide (65535 < j1) = true then lt (IntKind.i64.wrap (j1 - 65535)) fun y3 => some (y3) else some (j1)))).bind (fun j2 => some (j2))).bind (fun j3 => lt (IntKind.i64.wrap (s1.2 + 2)) fun y4 => some (.inl (j3, y4))) else some (.inr (s1.1)))) (0, 0)).bind (fun j4 => lt (IntKind.i64.wrap (65535 - j4)) fun y5 => some (y5))
set_option maxRecDepth 100000 in
set_option maxHeartbeats 4000000 in
theorem ref15_Sum.spc (v1 : Value) (a1 : List Int) (r : Int) (H : ref15_Sum.f a1 = some r) : Spc Tryd.prog 18 [v1] [Val (Kd.sl (Kd.int .u8)) v1 a1] [] (fun (s : Unit) => .int .i64 r) (fun s => [Ent.pur (InR .i64 r)]) := by
 unfold ref15_Sum.f at H
 refine Spc.go Tryd.func18 rfl (by kernel_rfl) rfl rfl (all_cons (Val.per Per_sl) all_nil) fun F a w h => ?_
 refine Go.seq ?_
 refine Go.reg ?_
 refine gs h (o_assign rfl) rfl fun _ _ _ h => ?_
 refine GoR.done ?_
 refine Go.seq ?_
 refine Go.reg ?_
 refine gs h (o_assign rfl) rfl fun _ _ _ h => ?_
 refine GoR.done ?_
 refine Go.seq ?_
 refine Go.seq ?_
 refine Go.reg ?_
 refine gs h (o_assign rfl) rfl fun _ _ _ h => ?_
 refine GoR.done ?_
 refine Go.block ?_
 obtain ⟨o1, hl, G1⟩ := bindE H
 refine g_cut (fun G => ∀ j4 (a : Act) (w : World), o1 = j4 → InR .i64 j4 → St Tryd.f18.ntmps F [(3, .int .i64 j4)] [] a w → G a w) 2 ?_ fun J4 => ?_
 ·intro j4 a w ho_ g10 h
  rw [ho_] at G1
  have H := G1
  refine Go.seq ?_
  refine Go.reg ?_
  refine gs h (o_move rfl) rfl fun _ _ _ h => ?_
  refine gs h (o_bin rfl rfl rfl) rfl fun _ _ _ h => ?_
  obtain ⟨y5, ey5, H⟩ := ltE H
  refine gs h (o_assign' rfl (congrArg (fun z => Value.int .i64 z) ey5)) rfl fun _ _ _ h => ?_
  refine GoR.done ?_
  rw [← som H]
  exact g_ret (vs := [.int .i64 y5]) h Tryd.func18 ⟨rfl, trivial⟩ ⟨(), rfl, ((h.mem.pick [] (by decide) rfl).addpur (ey5 ▸ (wrap_in _ _)))⟩
 refine g_loop (fun s1 G => ∀  (a : Act) (w : World), InR .i64 s1.1 → InR .i64 s1.2 → St Tryd.f18.ntmps F [(0, v1), (3, .int .i64 s1.1), (4, .int .i64 s1.2)] [Val (Kd.sl (Kd.int .u8)) v1 a1] a w → G a w) hl (fun s1 p1 H i1 => ?_) fun I_ => ?_
 ·intro  a w g1 g2 h
  refine Go.seq ?_
  refine Go.seq ?_
  refine Go.reg ?_
  refine gs h (o_move rfl) rfl fun _ _ _ h => ?_
  refine gs h (o_move rfl) rfl fun _ _ _ h => ?_
  have g3 := (len_at 0 rfl h.mem)
  refine gs h (o_ln rfl (rd_at 0 rfl) t_v22) rfl fun _ _ _ h => ?_
  refine gs h (o_bin rfl rfl rfl) rfl fun _ _ _ h => ?_
  refine GoR.done ?_
  by_cases c1 : decide (s1.2 < (a1.length : Int)) = true
  ·have H := ifT c1 H
   refine g_t h rfl c1 ?_
   refine Go.skip ?_
   refine Go.seq ?_
   obtain ⟨o2, H, G2⟩ := bindE H
   refine g_cut (fun G => ∀ j3 (a : Act) (w : World), o2 = j3 → InR .i64 j3 → St Tryd.f18.ntmps F [(0, v1), (3, .int .i64 j3), (4, .int .i64 s1.2)] [Val (Kd.sl (Kd.int .u8)) v1 a1] a w → G a w) 1 ?_ fun J3 => ?_
   ·intro j3 a w ho_ g9 h
    rw [ho_] at G2
    have H := G2
    refine Go.reg ?_
    refine gs h (o_move rfl) rfl fun _ _ _ h => ?_
    refine gs h (o_bin rfl rfl rfl) rfl fun _ _ _ h => ?_
    obtain ⟨y4, ey4, H⟩ := ltE H
    refine gs h (o_assign' rfl (congrArg (fun z => Value.int .i64 z) ey4)) rfl fun _ _ _ h => ?_
    refine GoR.done ?_
    have e_ := som H; subst e_
    exact Go.inLoop (nx_in i1 _ _ g9 (ey4 ▸ (wrap_in _ _)) (h.wk (by rfl) [0] (by decide) (by rfl)))
   refine Go.block ?_
   obtain ⟨o3, H, G3⟩ := bindE H
   refine g_cut (fun G => ∀ j2 (a : Act) (w : World), o3 = j2 → InR .i64 j2 → St Tryd.f18.ntmps F [(0, v1), (3, .int .i64 j2), (4, .int .i64 s1.2)] [Val (Kd.sl (Kd.int .u8)) v1 a1] a w → G a w) 2 ?_ fun J2 => ?_
   ·intro j2 a w ho_ g8 h
    rw [ho_] at G3
    have H := G3
    exact J3 j2 _ _ (som H).symm g8 (h.wk (by rfl) [0] (by decide) (by rfl))
   refine Go.seq ?_
   refine Go.reg ?_
   refine gs h (o_move rfl) rfl fun _ _ _ h => ?_
   refine gs h (o_move rfl) rfl fun _ _ _ h => ?_
   refine gs h (o_move rfl) rfl fun _ _ _ h => ?_
   obtain ⟨x1, ex1, H⟩ := bindE H
   refine gs h (o_ix rfl rfl (rd_at 0 rfl) ex1 t_v22) rfl fun _ _ _ h => ?_
   have g4 := (rd_inr (rd_at 0 rfl) ex1 h.mem)
   refine gs h (o_lex rfl (rd_at 0 rfl) ex1 X_int t_y5 (by decide)) rfl fun _ _ _ h => ?_
   refine gs h (o_convw rfl t_q5 t_u3 g4 rfl) rfl fun _ _ _ h => ?_
   refine gs h (o_bin rfl rfl rfl) rfl fun _ _ _ h => ?_
   refine gs h (o_bin rfl rfl rfl) rfl fun _ _ _ h => ?_
   obtain ⟨y1, ey1, H⟩ := ltE H
   refine gs h (o_assign' rfl (congrArg (fun z => Value.int .i64 z) ey1)) rfl fun _ _ _ h => ?_
   refine GoR.done ?_
   refine Go.seq ?_
   obtain ⟨o4, H, G4⟩ := bindE H
   refine g_cut (fun G => ∀ j1 (a : Act) (w : World), o4 = j1 → InR .i64 j1 → St Tryd.f18.ntmps F [(0, v1), (3, .int .i64 j1), (4, .int .i64 s1.2)] [Val (Kd.sl (Kd.int .u8)) v1 a1] a w → G a w) 1 ?_ fun J1 => ?_
   ·intro j1 a w ho_ g7 h
    rw [ho_] at G4
    have H := G4
    refine Go.seq ?_
    refine Go.reg ?_
    refine gs h (o_move rfl) rfl fun _ _ _ h => ?_
    refine gs h (o_bin rfl rfl rfl) rfl fun _ _ _ h => ?_
    refine GoR.done ?_
    by_cases c3 : decide (65535 < j1) = true
    ·have H := ifT c3 H
     refine g_t h rfl c3 ?_
     refine Go.reg ?_
     refine gs h (o_move rfl) rfl fun _ _ _ h => ?_
     refine gs h (o_bin rfl rfl rfl) rfl fun _ _ _ h => ?_
     obtain ⟨y3, ey3, H⟩ := ltE H
     refine gs h (o_assign' rfl (congrArg (fun z => Value.int .i64 z) ey3)) rfl fun _ _ _ h => ?_
     refine GoR.done ?_
     refine Go.inBlock ?_
     exact J2 y3 _ _ (som H).symm (ey3 ▸ (wrap_in _ _)) (h.wk (by rfl) [0] (by decide) (by rfl))
    ·have H := ifF c3 H
     refine g_f h rfl c3 ?_
     refine Go.skip ?_
     refine Go.inBlock ?_
     exact J2 j1 _ _ (som H).symm g7 (h.wk (by rfl) [0] (by decide) (by rfl))
   refine Go.seq ?_
   refine Go.reg ?_
   refine gs h (o_move rfl) rfl fun _ _ _ h => ?_
   refine gs h (o_bin rfl rfl rfl) rfl fun _ _ _ h => ?_
   refine gs h (o_move rfl) rfl fun _ _ _ h => ?_
   have g5 := (len_at 0 rfl h.mem)
   refine gs h (o_ln rfl (rd_at 0 rfl) t_v22) rfl fun _ _ _ h => ?_
   refine gs h (o_bin rfl rfl rfl) rfl fun _ _ _ h => ?_
   refine GoR.done ?_
   by_cases c2 : decide ((IntKind.i64.wrap (s1.2 + 1)) < (a1.length : Int)) = true
   ·have H := ifT c2 H
    refine g_t h rfl c2 ?_
    refine Go.reg ?_
    refine gs h (o_move rfl) rfl fun _ _ _ h => ?_
    refine gs h (o_move rfl) rfl fun _ _ _ h => ?_
    refine gs h (o_move rfl) rfl fun _ _ _ h => ?_
    refine gs h (o_bin rfl rfl rfl) rfl fun _ _ _ h => ?_
    obtain ⟨x2, ex2, H⟩ := bindE H
    refine gs h (o_ix rfl rfl (rd_at 0 rfl) ex2 t_v22) rfl fun _ _ _ h => ?_
    have g6 := (rd_inr (rd_at 0 rfl) ex2 h.mem)
    refine gs h (o_lex rfl (rd_at 0 rfl) ex2 X_int t_y5 (by decide)) rfl fun _ _ _ h => ?_
    refine gs h (o_convw rfl t_q5 t_u3 g6 rfl) rfl fun _ _ _ h => ?_
    refine gs h (o_bin rfl rfl rfl) rfl fun _ _ _ h => ?_
    obtain ⟨y2, ey2, H⟩ := ltE H
    refine gs h (o_assign' rfl (congrArg (fun z => Value.int .i64 z) ey2)) rfl fun _ _ _ h => ?_
    refine GoR.done ?_
    exact J1 y2 _ _ (som H).symm (ey2 ▸ (wrap_in _ _)) (h.wk (by rfl) [0] (by decide) (by rfl))
   ·have H := ifF c2 H
    refine g_f h rfl c2 ?_
    refine Go.skip ?_
    exact J1 y1 _ _ (som H).symm (ey1 ▸ (wrap_in _ _)) (h.wk (by rfl) [0] (by decide) (by rfl))
  ·have H := ifF c1 H
   refine g_f h rfl c1 ?_
   refine Go.exit rfl ?_
   have e_ := som H; subst e_
   exact J4 s1.1 _ _ (nx_out i1).symm g1 (h.wk (by rfl) [] (by decide) (by rfl))
 ·exact I_ _ _ (show InR .i64 0 by decide) (show InR .i64 0 by decide) (h.wk (by rfl) [0] (by decide) (by rfl))
def ref15_Sum.g (k_ : Nat) (a1 : List Int) : Option (Int) :=
  (loopK k_ (fun s1 => (if decide (s1.2 < (a1.length : Int)) = true then (((idx a1 s1.2).bind fun x1 => lt (IntKind.i64.wrap (s1.1 + (IntKind.i64.wrap (256 * x1)))) fun y1 => ((if decide ((IntKind.i64.wrap (s1.2 + 1)) < (a1.length : Int)) = true then (idx a1 (IntKind.i64.wrap (s1.2 + 1))).bind fun x2 => lt (IntKind.i64.wrap (y1 + x2)) fun y2 => some (y2) else some (y1))).bind (fun j1 => (if decide (65535 < j1) = true then lt (IntKind.i64.wrap (j1 - 65535)) fun y3 => some (y3) else some (j1)))).bind (fun j2 => some (j2))).bind (fun j3 => lt (IntKind.i64.wrap (s1.2 + 2)) fun y4 => some (.inl (j3, y4))) else some (.inr (s1.1)))) (0, 0)).bind (fun j4 => lt (IntKind.i64.wrap (65535 - j4)) fun y5 => some (y5))
theorem ref15_Sum.le (k_ : Nat) (a1 : List Int) : Le (ref15_Sum.g k_ a1) (ref15_Sum.f a1) := by
 unfold ref15_Sum.g ref15_Sum.f
 repeat' (first | with_reducible refine le_loop fun _ => ?_ | with_reducible refine le_bind ?_ fun _ => ?_ | with_reducible refine le_ite ?_ ?_ | with_reducible refine le_lt fun _ => ?_ | with_reducible refine le_elim (fun _ => ?_) (fun _ => ?_) _ | with_reducible exact le_refl _)
/-! drawbridge/drawbridgeref15.Right -/
noncomputable def ref15_Right.f (a1 : List Int) : Option (Bool) :=
  (ref15_Sum.f a1).bind fun r1 => lt (decide (r1 = 0)) fun y1 => some (y1)
set_option maxRecDepth 100000 in
set_option maxHeartbeats 4000000 in
theorem ref15_Right.spc (v1 : Value) (a1 : List Int) (r : Bool) (H : ref15_Right.f a1 = some r) : Spc Tryd.prog 23 [v1] [Val (Kd.sl (Kd.int .u8)) v1 a1] [] (fun (s : Unit) => .bool r) (fun s => []) := by
 unfold ref15_Right.f at H
 refine Spc.go Tryd.func23 rfl (by kernel_rfl) rfl rfl (all_cons (Val.per Per_sl) all_nil) fun F a w h => ?_
 refine Go.seq ?_
 refine Go.reg ?_
 refine gs h (o_assign rfl) rfl fun _ _ _ h => ?_
 refine GoR.done ?_
 refine Go.seq ?_
 refine Go.reg ?_
 refine gs h (o_move rfl) rfl fun _ _ _ h => ?_
 obtain ⟨r1, er1, H⟩ := bindE H
 refine gs h (o_call (ref15_Sum.spc v1 a1 r1 er1) rfl [0] [] (by decide) rfl rfl) rfl fun _ _ _ h => ?_
 have g1 := h.mem.pur 0 rfl
 refine gs h (o_bin rfl rfl rfl) rfl fun _ _ _ h => ?_
 obtain ⟨y1, ey1, H⟩ := ltE H
 refine gs h (o_assign' rfl (congrArg Value.bool ey1)) rfl fun _ _ _ h => ?_
 refine GoR.done ?_
 rw [← som H]
 exact g_ret (vs := [.bool y1]) h Tryd.func23 ⟨rfl, trivial⟩ ⟨(), rfl, (h.mem.pick [] (by decide) rfl)⟩
def ref15_Right.g (k_ : Nat) (a1 : List Int) : Option (Bool) :=
  (ref15_Sum.g k_ a1).bind fun r1 => lt (decide (r1 = 0)) fun y1 => some (y1)
theorem ref15_Right.le (k_ : Nat) (a1 : List Int) : Le (ref15_Right.g k_ a1) (ref15_Right.f a1) := by
 unfold ref15_Right.g ref15_Right.f
 repeat' (first | with_reducible refine le_loop fun _ => ?_ | with_reducible refine le_bind ?_ fun _ => ?_ | with_reducible refine le_ite ?_ ?_ | with_reducible refine le_lt fun _ => ?_ | with_reducible refine le_elim (fun _ => ?_) (fun _ => ?_) _ | with_reducible apply ref15_Sum.le | with_reducible exact le_refl _)
/-! drawbridge/drawbridgeref15.Pseudo -/
noncomputable def ref15_Pseudo.f (a1 : Int) (a2 : Int) (a3 : Int) (a4 : Int) : Option ((List Int)) :=
  (ref01_Put.f a1 4 true).bind fun r1 => (ref01_Put.f a2 4 true).bind fun r2 => (app r1 r2).bind fun x1 => (app x1 ([0, IntKind.u8.wrap a3] : List Int)).bind fun x2 => (ref01_Put.f (IntKind.u64.wrap a4) 2 true).bind fun r3 => (app x2 r3).bind fun x3 => some (x3)
set_option maxRecDepth 100000 in
set_option maxHeartbeats 4000000 in
theorem ref15_Pseudo.spc (a1 : Int) (ha1 : InR .u32 a1) (a2 : Int) (ha2 : InR .u32 a2) (a3 : Int) (ha3 : InR .i64 a3) (a4 : Int) (ha4 : InR .i64 a4) (r : (List Int)) (H : ref15_Pseudo.f a1 a2 a3 a4 = some r) : Spc Tryd.prog 19 [.int .u32 a1, .int .u32 a2, .int .i64 a3, .int .i64 a4] [] [] (fun (s : Value) => s) (fun s => [Val (Kd.osl (Kd.int .u8)) s r]) := by
 unfold ref15_Pseudo.f at H
 refine Spc.go Tryd.func19 rfl (by kernel_rfl) rfl rfl all_nil fun F a w h => ?_
 refine Go.seq ?_
 refine Go.reg ?_
 refine gs h (o_assign rfl) rfl fun _ _ _ h => ?_
 refine GoR.done ?_
 refine Go.seq ?_
 refine Go.reg ?_
 refine gs h (o_move rfl) rfl fun _ _ _ h => ?_
 refine gs h (o_convw rfl t_q25 t_u43 ha1 rfl) rfl fun _ _ _ h => ?_
 obtain ⟨r1, er1, H⟩ := bindE H
 refine gs h (o_call (ref01_Put.spc a1 (inr_wid (k := .u32) (k' := .u64) ha1 rfl) 4 (show InR .i64 4 by decide) true r1 er1) rfl [] [] (by decide) rfl rfl) rfl fun v1 _ _ h => ?_
 refine gs h (o_move rfl) rfl fun _ _ _ h => ?_
 refine gs h (o_convw rfl t_q25 t_u43 ha2 rfl) rfl fun _ _ _ h => ?_
 obtain ⟨r2, er2, H⟩ := bindE H
 refine gs h (o_call (ref01_Put.spc a2 (inr_wid (k := .u32) (k' := .u64) ha2 rfl) 4 (show InR .i64 4 by decide) true r2 er2) rfl [] [] (by decide) rfl rfl) rfl fun v2 _ _ h => ?_
 obtain ⟨x1, ex1, H⟩ := bindE H
 refine gs h (o_app (K := (Kd.int .u8)) 1 rfl rfl rfl (rd_own 0 rfl) ex1 t_a22 t_n22) rfl fun v3 _ _ h => ?_
 refine gs h (o_assign rfl) rfl fun _ _ _ h => ?_
 refine GoR.done ?_
 refine Go.seq ?_
 refine Go.reg ?_
 refine gs h (o_move rfl) rfl fun _ _ _ h => ?_
 refine gs h (o_move rfl) rfl fun _ _ _ h => ?_
 refine gs h (o_conv rfl t_q3 t_u5) rfl fun _ _ _ h => ?_
 refine gs h (o_bs (K := (Kd.int .u8)) (vs := [.int .u8 0, .int .u8 (IntKind.u8.wrap a3)]) (xs := ([0, IntKind.u8.wrap a3] : List Int)) rfl rfl (pvs_cons (pv_int (show InR .u8 0 by decide)) (pvs_cons (pv_int (wrap_in _ _)) pvs_nil)) t_a22 (by decide) (by decide)) rfl fun v4 _ _ h => ?_
 obtain ⟨x2, ex2, H⟩ := bindE H
 refine gs h (o_app (K := (Kd.int .u8)) 2 rfl rfl rfl (rd_own 0 rfl) ex2 t_a22 t_n22) rfl fun v5 _ _ h => ?_
 refine gs h (o_move rfl) rfl fun _ _ _ h => ?_
 refine gs h (o_conv rfl t_q3 t_u43) rfl fun _ _ _ h => ?_
 obtain ⟨r3, er3, H⟩ := bindE H
 refine gs h (o_call (ref01_Put.spc (IntKind.u64.wrap a4) (wrap_in _ _) 2 (show InR .i64 2 by decide) true r3 er3) rfl [] [] (by decide) rfl rfl) rfl fun v6 _ _ h => ?_
 obtain ⟨x3, ex3, H⟩ := bindE H
 refine gs h (o_app (K := (Kd.int .u8)) 3 rfl rfl rfl (rd_own 0 rfl) ex3 t_a22 t_n22) rfl fun v7 _ _ h => ?_
 refine gs h (o_assign rfl) rfl fun _ _ _ h => ?_
 refine GoR.done ?_
 rw [← som H]
 exact g_ret (vs := [v7]) h Tryd.func19 ⟨rfl, trivial⟩ ⟨v7, rfl, (h.mem.pick [3] (by decide) rfl)⟩
def ref15_Pseudo.g (k_ : Nat) (a1 : Int) (a2 : Int) (a3 : Int) (a4 : Int) : Option ((List Int)) :=
  (ref01_Put.g k_ a1 4 true).bind fun r1 => (ref01_Put.g k_ a2 4 true).bind fun r2 => (app r1 r2).bind fun x1 => (app x1 ([0, IntKind.u8.wrap a3] : List Int)).bind fun x2 => (ref01_Put.g k_ (IntKind.u64.wrap a4) 2 true).bind fun r3 => (app x2 r3).bind fun x3 => some (x3)
theorem ref15_Pseudo.le (k_ : Nat) (a1 : Int) (a2 : Int) (a3 : Int) (a4 : Int) : Le (ref15_Pseudo.g k_ a1 a2 a3 a4) (ref15_Pseudo.f a1 a2 a3 a4) := by
 unfold ref15_Pseudo.g ref15_Pseudo.f
 repeat' (first | with_reducible refine le_loop fun _ => ?_ | with_reducible refine le_bind ?_ fun _ => ?_ | with_reducible refine le_ite ?_ ?_ | with_reducible refine le_lt fun _ => ?_ | with_reducible refine le_elim (fun _ => ?_) (fun _ => ?_) _ | with_reducible apply ref01_Put.le | with_reducible exact le_refl _)
end Go.Proofs.YtfoffhdckcdjdaaDoor.S
