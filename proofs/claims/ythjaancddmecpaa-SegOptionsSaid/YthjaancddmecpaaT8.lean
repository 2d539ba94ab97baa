/- Contracts, printed by a program of this session. -/
import Derived.Test.YthjaancddmecpaaT6
import Derived.Test.YthjaancddmecpaaT7
namespace Go.Proofs.Ythjaancddmecpaa.S
open Go Go.SL Go.RowKit
set_option linter.unusedVariables false
set_option linter.unusedSimpArgs false
/-! drawbridge/drawbridgeref19.mss -/
noncomputable def ref19_mss.f (a1 : List Int) : Option (Int × Bool) :=
  (loop (fun s1 => (if decide (s1.2.2 < (a1.length : Int)) = true then ((idx a1 s1.2.2).bind fun x1 => (if decide (x1 = 0) = true then some (.inr ((s1.1, true))) else (idx a1 s1.2.2).bind fun x2 => (if decide (x2 = 1) = true then lt (IntKind.i64.wrap (s1.2.2 + 1)) fun y1 => some (.inl ((s1.1, s1.2.1, y1))) else ((if decide ((a1.length : Int) ≤ (IntKind.i64.wrap (s1.2.2 + 1))) = true then some (true) else (idx a1 (IntKind.i64.wrap (s1.2.2 + 1))).bind fun x3 => (if decide (x3 < 2) = true then some (true) else (idx a1 (IntKind.i64.wrap (s1.2.2 + 1))).bind fun x4 => some (decide ((IntKind.i64.wrap ((a1.length : Int) - s1.2.2)) < x4))))).bind (fun j1 => (if j1 = true then some (.inr ((0, false))) else (((idx a1 s1.2.2).bind fun x5 => (if decide (x5 = 2) = true then (idx a1 (IntKind.i64.wrap (s1.2.2 + 1))).bind fun x6 => (if decide (x6 = 4) = true then some ((!s1.2.1)) else some (false)) else some (false))).bind (fun j2 => (if j2 = true then (cut a1 (IntKind.i64.wrap (s1.2.2 + 2)) (IntKind.i64.wrap (s1.2.2 + 4))).bind fun x7 => (ref19_get.f x7).bind fun r1 => lt (IntKind.i64.wrap r1) fun y2 => some ((y2, true)) else some ((s1.1, s1.2.1))))).bind (fun j3 => (idx a1 (IntKind.i64.wrap (s1.2.2 + 1))).bind fun x8 => lt (IntKind.i64.wrap (s1.2.2 + x8)) fun y3 => some (.inl ((j3.1, j3.2, y3))))))))).bind (Sum.elim (fun j4 => some (.inl (j4.1, j4.2.1, j4.2.2))) (fun z_ => some (.inr (.inr (z_))))) else some (.inr (.inl (s1.1))))) (0, false, 0)).bind (Sum.elim (fun j5 => some ((j5, true))) (fun z_ => some (z_)))
set_option maxRecDepth 100000 in
set_option maxHeartbeats 4000000 in
theorem ref19_mss.spc (v1 : Value) (a1 : List Int) (r : Int × Bool) (H : ref19_mss.f a1 = some r) : Spc Try.prog 38 [v1] [Val (Kd.sl (Kd.int .u8)) v1 a1] [] (fun (s : Unit) => .tuple #[.int .i64 r.1, .bool r.2]) (fun s => [Ent.pur (InR .i64 r.1)]) := by
 unfold ref19_mss.f at H
 refine Spc.go Try.func38 rfl (by kernel_rfl) rfl rfl (all_cons (Val.per Per_sl) all_nil) fun F a w h => ?_
 refine Go.seq ?_
 refine Go.reg ?_
 refine gs h (o_assign rfl) rfl fun _ _ _ h => ?_
 refine gs h (o_assign rfl) rfl fun _ _ _ h => ?_
 refine GoR.done ?_
 refine Go.seq ?_
 refine Go.reg ?_
 refine gs h (o_assign rfl) rfl fun _ _ _ h => ?_
 refine gs h (o_assign rfl) rfl fun _ _ _ h => ?_
 refine GoR.done ?_
 refine Go.seq ?_
 refine Go.seq ?_
 refine Go.reg ?_
 refine gs h (o_assign rfl) rfl fun _ _ _ h => ?_
 refine GoR.done ?_
 refine Go.block ?_
 obtain ⟨o1, hl, G1⟩ := bindE H
 refine g_cut (fun G => ∀ j5 (a : Act) (w : World), o1 = .inl (j5) → InR .i64 j5 → St Try.f38.ntmps F [(4, .int .i64 j5)] [] a w → G a w) 2 ?_ fun J5 => ?_
 ·intro j5 a w ho_ g17 h
  rw [ho_] at G1
  have H := G1
  refine Go.seq ?_
  refine Go.reg ?_
  refine gs h (o_move rfl) rfl fun _ _ _ h => ?_
  refine gs h (o_assign rfl) rfl fun _ _ _ h => ?_
  refine gs h (o_assign rfl) rfl fun _ _ _ h => ?_
  refine GoR.done ?_
  rw [← som H]
  exact g_ret (vs := [.int .i64 j5, .bool true]) h Try.func38 ⟨rfl, ⟨rfl, trivial⟩⟩ ⟨(), rfl, ((h.mem.pick [] (by decide) rfl).addpur g17)⟩
 refine g_loop (fun s1 G => ∀  (a : Act) (w : World), InR .i64 s1.1 → InR .i64 s1.2.2 → St Try.f38.ntmps F [(0, v1), (4, .int .i64 s1.1), (5, .bool s1.2.1), (6, .int .i64 s1.2.2)] [Val (Kd.sl (Kd.int .u8)) v1 a1] a w → G a w) hl (fun s1 p1 H i1 => ?_) fun I_ => ?_
 ·intro  a w g1 g2 h
  refine Go.seq ?_
  refine Go.seq ?_
  refine Go.reg ?_
  refine gs h (o_move rfl) rfl fun _ _ _ h => ?_
  refine gs h (o_move rfl) rfl fun _ _ _ h => ?_
  have g3 := (len_at 0 rfl h.mem)
  refine gs h (o_ln rfl (rd_at 0 rfl) t_v23) rfl fun _ _ _ h => ?_
  refine gs h (o_bin rfl rfl rfl) rfl fun _ _ _ h => ?_
  refine GoR.done ?_
  by_cases c1 : decide (s1.2.2 < (a1.length : Int)) = true
  ·have H := ifT c1 H
   refine g_t h rfl c1 ?_
   refine Go.skip ?_
   refine Go.block ?_
   obtain ⟨o2, H, G2⟩ := bindE H
   refine g_cut (fun G => ∀ j4 (a : Act) (w : World), o2 = .inl (j4) → InR .i64 j4.1 → InR .i64 j4.2.2 → St Try.f38.ntmps F [(0, v1), (4, .int .i64 j4.1), (5, .bool j4.2.1), (6, .int .i64 j4.2.2)] [Val (Kd.sl (Kd.int .u8)) v1 a1] a w → G a w) 2 ?_ fun J4 => ?_
   ·intro j4 a w ho_ g15 g16 h
    rw [ho_] at G2
    have H := G2
    have e_ := som H; subst e_
    exact Go.inLoop (nx_in i1 _ _ g15 g16 (h.wk (by rfl) [0] (by decide) (by rfl)))
   refine Go.seq ?_
   refine Go.seq ?_
   refine Go.reg ?_
   refine gs h (o_move rfl) rfl fun _ _ _ h => ?_
   refine gs h (o_move rfl) rfl fun _ _ _ h => ?_
   obtain ⟨x1, ex1, H⟩ := bindE H
   refine gs h (o_ix rfl rfl (rd_at 0 rfl) ex1 t_v23) rfl fun _ _ _ h => ?_
   have g4 := (rd_inr (rd_at 0 rfl) ex1 h.mem)
   refine gs h (o_lex rfl (rd_at 0 rfl) ex1 X_int t_y5 (by decide)) rfl fun _ _ _ h => ?_
   refine gs h (o_bin rfl rfl rfl) rfl fun _ _ _ h => ?_
   refine GoR.done ?_
   by_cases c2 : decide (x1 = 0) = true
   ·have H := ifT c2 H
    refine g_t h rfl c2 ?_
    refine Go.seq ?_
    refine Go.reg ?_
    refine gs h (o_move rfl) rfl fun _ _ _ h => ?_
    refine gs h (o_assign rfl) rfl fun _ _ _ h => ?_
    refine gs h (o_assign rfl) rfl fun _ _ _ h => ?_
    refine GoR.done ?_
    rw [← som H] at G2
    have H := G2
    have e_ := som H; subst e_
    rw [← nx_out i1] at G1
    have H := G1
    rw [← som H]
    exact g_ret (vs := [.int .i64 s1.1, .bool true]) h Try.func38 ⟨rfl, ⟨rfl, trivial⟩⟩ ⟨(), rfl, ((h.mem.pick [] (by decide) rfl).addpur g1)⟩
   ·have H := ifF c2 H
    refine g_f h rfl c2 ?_
    refine Go.skip ?_
    refine Go.seq ?_
    refine Go.seq ?_
    refine Go.reg ?_
    refine gs h (o_move rfl) rfl fun _ _ _ h => ?_
    refine gs h (o_move rfl) rfl fun _ _ _ h => ?_
    obtain ⟨x2, ex2, H⟩ := bindE H
    refine gs h (o_ix rfl rfl (rd_at 0 rfl) ex2 t_v23) rfl fun _ _ _ h => ?_
    have g5 := (rd_inr (rd_at 0 rfl) ex2 h.mem)
    refine gs h (o_lex rfl (rd_at 0 rfl) ex2 X_int t_y5 (by decide)) rfl fun _ _ _ h => ?_
    refine gs h (o_bin rfl rfl rfl) rfl fun _ _ _ h => ?_
    refine GoR.done ?_
    by_cases c3 : decide (x2 = 1) = true
    ·have H := ifT c3 H
     refine g_t h rfl c3 ?_
     refine Go.seq ?_
     refine Go.reg ?_
     refine gs h (o_move rfl) rfl fun _ _ _ h => ?_
     refine gs h (o_bin rfl rfl rfl) rfl fun _ _ _ h => ?_
     obtain ⟨y1, ey1, H⟩ := ltE H
     refine gs h (o_assign' rfl (congrArg (fun z => Value.int .i64 z) ey1)) rfl fun _ _ _ h => ?_
     refine GoR.done ?_
     refine Go.exit rfl ?_
     exact J4 (s1.1, s1.2.1, y1) _ _ (som H).symm g1 (ey1 ▸ (wrap_in _ _)) (h.wk (by rfl) [0] (by decide) (by rfl))
    ·have H := ifF c3 H
     refine g_f h rfl c3 ?_
     refine Go.skip ?_
     refine Go.seq ?_
     refine Go.seq ?_
     obtain ⟨o3, H, G3⟩ := bindE H
     refine g_cut (fun G => ∀ j1 (a : Act) (w : World), o3 = j1 → St Try.f38.ntmps F [(0, v1), (4, .int .i64 s1.1), (5, .bool s1.2.1), (6, .int .i64 s1.2.2), (49, .bool j1)] [Val (Kd.sl (Kd.int .u8)) v1 a1] a w → G a w) 1 ?_ fun J1 => ?_
     ·intro j1 a w ho_ h
      rw [ho_] at G3
      have H := G3
      by_cases c6 : j1 = true
      ·have H := ifT c6 H
       refine g_t h rfl c6 ?_
       refine Go.seq ?_
       refine Go.reg ?_
       refine gs h (o_assign rfl) rfl fun _ _ _ h => ?_
       refine gs h (o_assign rfl) rfl fun _ _ _ h => ?_
       refine GoR.done ?_
       rw [← som H] at G2
       have H := G2
       have e_ := som H; subst e_
       rw [← nx_out i1] at G1
       have H := G1
       rw [← som H]
       exact g_ret (vs := [.int .i64 0, .bool false]) h Try.func38 ⟨rfl, ⟨rfl, trivial⟩⟩ ⟨(), rfl, ((h.mem.pick [] (by decide) rfl).addpur (show InR .i64 0 by decide))⟩
      ·have H := ifF c6 H
       refine g_f h rfl c6 ?_
       refine Go.skip ?_
       refine Go.seq ?_
       obtain ⟨o4, H, G4⟩ := bindE H
       refine g_cut (fun G => ∀ j3 (a : Act) (w : World), o4 = j3 → InR .i64 j3.1 → St Try.f38.ntmps F [(0, v1), (4, .int .i64 j3.1), (5, .bool j3.2), (6, .int .i64 s1.2.2)] [Val (Kd.sl (Kd.int .u8)) v1 a1] a w → G a w) 1 ?_ fun J3 => ?_
       ·intro j3 a w ho_ g13 h
        rw [ho_] at G4
        have H := G4
        refine Go.reg ?_
        refine gs h (o_move rfl) rfl fun _ _ _ h => ?_
        refine gs h (o_move rfl) rfl fun _ _ _ h => ?_
        refine gs h (o_move rfl) rfl fun _ _ _ h => ?_
        refine gs h (o_bin rfl rfl rfl) rfl fun _ _ _ h => ?_
        obtain ⟨x8, ex8, H⟩ := bindE H
        refine gs h (o_ix rfl rfl (rd_at 0 rfl) ex8 t_v23) rfl fun _ _ _ h => ?_
        have g14 := (rd_inr (rd_at 0 rfl) ex8 h.mem)
        refine gs h (o_lex rfl (rd_at 0 rfl) ex8 X_int t_y5 (by decide)) rfl fun _ _ _ h => ?_
        refine gs h (o_convw rfl t_q5 t_u3 g14 rfl) rfl fun _ _ _ h => ?_
        refine gs h (o_bin rfl rfl rfl) rfl fun _ _ _ h => ?_
        obtain ⟨y3, ey3, H⟩ := ltE H
        refine gs h (o_assign' rfl (congrArg (fun z => Value.int .i64 z) ey3)) rfl fun _ _ _ h => ?_
        refine GoR.done ?_
        refine Go.inBlock ?_
        exact J4 (j3.1, j3.2, y3) _ _ (som H).symm g13 (ey3 ▸ (wrap_in _ _)) (h.wk (by rfl) [0] (by decide) (by rfl))
       refine Go.seq ?_
       obtain ⟨o5, H, G5⟩ := bindE H
       refine g_cut (fun G => ∀ j2 (a : Act) (w : World), o5 = j2 → St Try.f38.ntmps F [(0, v1), (4, .int .i64 s1.1), (5, .bool s1.2.1), (6, .int .i64 s1.2.2), (66, .bool j2)] [Val (Kd.sl (Kd.int .u8)) v1 a1] a w → G a w) 1 ?_ fun J2 => ?_
       ·intro j2 a w ho_ h
        rw [ho_] at G5
        have H := G5
        by_cases c9 : j2 = true
        ·have H := ifT c9 H
         refine g_t h rfl c9 ?_
         refine Go.reg ?_
         refine gs h (o_move rfl) rfl fun _ _ _ h => ?_
         refine gs h (o_move rfl) rfl fun _ _ _ h => ?_
         refine gs h (o_bin rfl rfl rfl) rfl fun _ _ _ h => ?_
         refine gs h (o_move rfl) rfl fun _ _ _ h => ?_
         refine gs h (o_bin rfl rfl rfl) rfl fun _ _ _ h => ?_
         obtain ⟨x7, ex7, H⟩ := bindE H
         refine gs h (o_cut rfl (pv_at Per_sl 0 rfl) rfl rfl ex7 t_v23) rfl fun v2 _ _ h => ?_
         obtain ⟨r1, er1, H⟩ := bindE H
         refine gs h (o_call (ref19_get.spc v2 x7 r1 er1) rfl [0] [] (by decide) rfl rfl) rfl fun _ _ _ h => ?_
         have g12 := h.mem.pur 0 rfl
         refine gs h (o_conv rfl t_q49 t_u3) rfl fun _ _ _ h => ?_
         obtain ⟨y2, ey2, H⟩ := ltE H
         refine gs h (o_assign' rfl (congrArg (fun z => Value.int .i64 z) ey2)) rfl fun _ _ _ h => ?_
         refine gs h (o_assign rfl) rfl fun _ _ _ h => ?_
         refine GoR.done ?_
         exact J3 (y2, true) _ _ (som H).symm (ey2 ▸ (wrap_in _ _)) (h.wk (by rfl) [2] (by decide) (by rfl))
        ·have H := ifF c9 H
         refine g_f h rfl c9 ?_
         refine Go.skip ?_
         exact J3 (s1.1, s1.2.1) _ _ (som H).symm g1 (h.wk (by rfl) [0] (by decide) (by rfl))
       refine Go.reg ?_
       refine gs h (o_move rfl) rfl fun _ _ _ h => ?_
       refine gs h (o_move rfl) rfl fun _ _ _ h => ?_
       obtain ⟨x5, ex5, H⟩ := bindE H
       refine gs h (o_ix rfl rfl (rd_at 0 rfl) ex5 t_v23) rfl fun _ _ _ h => ?_
       have g10 := (rd_inr (rd_at 0 rfl) ex5 h.mem)
       refine gs h (o_lex rfl (rd_at 0 rfl) ex5 X_int t_y5 (by decide)) rfl fun _ _ _ h => ?_
       refine gs h (o_bin rfl rfl rfl) rfl fun _ _ _ h => ?_
       refine gs h (o_move rfl) rfl fun _ _ _ h => ?_
       by_cases c7 : decide (x5 = 2) = true
       ·have H := ifT c7 H
        refine gg h rfl rfl c7 (o_move rfl) rfl fun _ _ _ h => ?_
        refine gg h rfl rfl c7 (o_move rfl) rfl fun _ _ _ h => ?_
        refine gg h rfl rfl c7 (o_bin rfl rfl rfl) rfl fun _ _ _ h => ?_
        obtain ⟨x6, ex6, H⟩ := bindE H
        refine gg h rfl rfl c7 (o_ix rfl rfl (rd_at 0 rfl) ex6 t_v23) rfl fun _ _ _ h => ?_
        have g11 := (rd_inr (rd_at 0 rfl) ex6 h.mem)
        refine gg h rfl rfl c7 (o_lex rfl (rd_at 0 rfl) ex6 X_int t_y5 (by decide)) rfl fun _ _ _ h => ?_
        refine gg h rfl rfl c7 (o_bin rfl rfl rfl) rfl fun _ _ _ h => ?_
        refine gs h (o_pickT rfl rfl c7) rfl fun _ _ _ h => ?_
        refine gs h (o_move rfl) rfl fun _ _ _ h => ?_
        by_cases c8 : decide (x6 = 4) = true
        ·have H := ifT c8 H
         refine gg h rfl rfl c8 (o_move rfl) rfl fun _ _ _ h => ?_
         refine gg h rfl rfl c8 (o_not rfl) rfl fun _ _ _ h => ?_
         refine gs h (o_pickT rfl rfl c8) rfl fun _ _ _ h => ?_
         refine GoR.done ?_
         exact J2 (!s1.2.1) _ _ (som H).symm (h.wk (by rfl) [0] (by decide) (by rfl))
        ·have H := ifF c8 H
         refine gk h rfl rfl (nb_f c8) rfl fun _ h => ?_
         refine gk h rfl rfl (nb_f c8) rfl fun _ h => ?_
         refine gs h (o_pickF rfl rfl c8) rfl fun _ _ _ h => ?_
         refine GoR.done ?_
         exact J2 false _ _ (som H).symm (h.wk (by rfl) [0] (by decide) (by rfl))
       ·have H := ifF c7 H
        refine gk h rfl rfl (nb_f c7) rfl fun _ h => ?_
        refine gk h rfl rfl (nb_f c7) rfl fun _ h => ?_
        refine gk h rfl rfl (nb_f c7) rfl fun _ h => ?_
        refine gk h rfl rfl (nb_f c7) rfl fun _ h => ?_
        refine gk h rfl rfl (nb_f c7) rfl fun _ h => ?_
        refine gk h rfl rfl (nb_f c7) rfl fun _ h => ?_
        refine gs h (o_pickF rfl rfl c7) rfl fun _ _ _ h => ?_
        refine gs h (o_move rfl) rfl fun _ _ _ h => ?_
        refine gk h rfl rfl (nb_f Bool.false_ne_true) rfl fun _ h => ?_
        refine gk h rfl rfl (nb_f Bool.false_ne_true) rfl fun _ h => ?_
        refine gs h (o_pickF rfl rfl Bool.false_ne_true) rfl fun _ _ _ h => ?_
        refine GoR.done ?_
        exact J2 false _ _ (som H).symm (h.wk (by rfl) [0] (by decide) (by rfl))
     refine Go.reg ?_
     refine gs h (o_move rfl) rfl fun _ _ _ h => ?_
     refine gs h (o_bin rfl rfl rfl) rfl fun _ _ _ h => ?_
     refine gs h (o_move rfl) rfl fun _ _ _ h => ?_
     have g6 := (len_at 0 rfl h.mem)
     refine gs h (o_ln rfl (rd_at 0 rfl) t_v23) rfl fun _ _ _ h => ?_
     refine gs h (o_bin rfl rfl rfl) rfl fun _ _ _ h => ?_
     refine gs h (o_move rfl) rfl fun _ _ _ h => ?_
     by_cases c4 : decide ((a1.length : Int) ≤ (IntKind.i64.wrap (s1.2.2 + 1))) = true
     ·have H := ifT c4 H
      refine gk h rfl rfl (nb_t c4) rfl fun _ h => ?_
      refine gk h rfl rfl (nb_t c4) rfl fun _ h => ?_
      refine gk h rfl rfl (nb_t c4) rfl fun _ h => ?_
      refine gk h rfl rfl (nb_t c4) rfl fun _ h => ?_
      refine gk h rfl rfl (nb_t c4) rfl fun _ h => ?_
      refine gk h rfl rfl (nb_t c4) rfl fun _ h => ?_
      refine gs h (o_pickT rfl rfl c4) rfl fun _ _ _ h => ?_
      refine gs h (o_move rfl) rfl fun _ _ _ h => ?_
      refine gk h rfl rfl (nb_t rfl) rfl fun _ h => ?_
      refine gk h rfl rfl (nb_t rfl) rfl fun _ h => ?_
      refine gk h rfl rfl (nb_t rfl) rfl fun _ h => ?_
      refine gk h rfl rfl (nb_t rfl) rfl fun _ h => ?_
      refine gk h rfl rfl (nb_t rfl) rfl fun _ h => ?_
      refine gk h rfl rfl (nb_t rfl) rfl fun _ h => ?_
      refine gk h rfl rfl (nb_t rfl) rfl fun _ h => ?_
      refine gk h rfl rfl (nb_t rfl) rfl fun _ h => ?_
      refine gk h rfl rfl (nb_t rfl) rfl fun _ h => ?_
      refine gk h rfl rfl (nb_t rfl) rfl fun _ h => ?_
      refine gk h rfl rfl (nb_t rfl) rfl fun _ h => ?_
      refine gs h (o_pickT rfl rfl rfl) rfl fun _ _ _ h => ?_
      refine GoR.done ?_
      exact J1 true _ _ (som H).symm (h.wk (by rfl) [0] (by decide) (by rfl))
     ·have H := ifF c4 H
      refine gg h rfl rfl (nbF c4) (o_move rfl) rfl fun _ _ _ h => ?_
      refine gg h rfl rfl (nbF c4) (o_move rfl) rfl fun _ _ _ h => ?_
      refine gg h rfl rfl (nbF c4) (o_bin rfl rfl rfl) rfl fun _ _ _ h => ?_
      obtain ⟨x3, ex3, H⟩ := bindE H
      refine gg h rfl rfl (nbF c4) (o_ix rfl rfl (rd_at 0 rfl) ex3 t_v23) rfl fun _ _ _ h => ?_
      have g7 := (rd_inr (rd_at 0 rfl) ex3 h.mem)
      refine gg h rfl rfl (nbF c4) (o_lex rfl (rd_at 0 rfl) ex3 X_int t_y5 (by decide)) rfl fun _ _ _ h => ?_
      refine gg h rfl rfl (nbF c4) (o_bin rfl rfl rfl) rfl fun _ _ _ h => ?_
      refine gs h (o_pickF rfl rfl c4) rfl fun _ _ _ h => ?_
      refine gs h (o_move rfl) rfl fun _ _ _ h => ?_
      by_cases c5 : decide (x3 < 2) = true
      ·have H := ifT c5 H
       refine gk h rfl rfl (nb_t c5) rfl fun _ h => ?_
       refine gk h rfl rfl (nb_t c5) rfl fun _ h => ?_
       refine gk h rfl rfl (nb_t c5) rfl fun _ h => ?_
       refine gk h rfl rfl (nb_t c5) rfl fun _ h => ?_
       refine gk h rfl rfl (nb_t c5) rfl fun _ h => ?_
       refine gk h rfl rfl (nb_t c5) rfl fun _ h => ?_
       refine gk h rfl rfl (nb_t c5) rfl fun _ h => ?_
       refine gk h rfl rfl (nb_t c5) rfl fun _ h => ?_
       refine gk h rfl rfl (nb_t c5) rfl fun _ h => ?_
       refine gk h rfl rfl (nb_t c5) rfl fun _ h => ?_
       refine gk h rfl rfl (nb_t c5) rfl fun _ h => ?_
       refine gs h (o_pickT rfl rfl c5) rfl fun _ _ _ h => ?_
       refine GoR.done ?_
       exact J1 true _ _ (som H).symm (h.wk (by rfl) [0] (by decide) (by rfl))
      ·have H := ifF c5 H
       refine gg h rfl rfl (nbF c5) (o_move rfl) rfl fun _ _ _ h => ?_
       refine gg h rfl rfl (nbF c5) (o_move rfl) rfl fun _ _ _ h => ?_
       refine gg h rfl rfl (nbF c5) (o_bin rfl rfl rfl) rfl fun _ _ _ h => ?_
       obtain ⟨x4, ex4, H⟩ := bindE H
       refine gg h rfl rfl (nbF c5) (o_ix rfl rfl (rd_at 0 rfl) ex4 t_v23) rfl fun _ _ _ h => ?_
       have g8 := (rd_inr (rd_at 0 rfl) ex4 h.mem)
       refine gg h rfl rfl (nbF c5) (o_lex rfl (rd_at 0 rfl) ex4 X_int t_y5 (by decide)) rfl fun _ _ _ h => ?_
       refine gg h rfl rfl (nbF c5) (o_convw rfl t_q5 t_u3 g8 rfl) rfl fun _ _ _ h => ?_
       refine gg h rfl rfl (nbF c5) (o_move rfl) rfl fun _ _ _ h => ?_
       have g9 := (len_at 0 rfl h.mem)
       refine gg h rfl rfl (nbF c5) (o_ln rfl (rd_at 0 rfl) t_v23) rfl fun _ _ _ h => ?_
       refine gg h rfl rfl (nbF c5) (o_move rfl) rfl fun _ _ _ h => ?_
       refine gg h rfl rfl (nbF c5) (o_bin rfl rfl rfl) rfl fun _ _ _ h => ?_
       refine gg h rfl rfl (nbF c5) (o_bin rfl rfl rfl) rfl fun _ _ _ h => ?_
       refine gs h (o_pickF rfl rfl c5) rfl fun _ _ _ h => ?_
       refine GoR.done ?_
       exact J1 (decide ((IntKind.i64.wrap ((a1.length : Int) - s1.2.2)) < x4)) _ _ (som H).symm (h.wk (by rfl) [0] (by decide) (by rfl))
  ·have H := ifF c1 H
   refine g_f h rfl c1 ?_
   refine Go.exit rfl ?_
   have e_ := som H; subst e_
   exact J5 s1.1 _ _ (nx_out i1).symm g1 (h.wk (by rfl) [] (by decide) (by rfl))
 ·exact I_ _ _ (show InR .i64 0 by decide) (show InR .i64 0 by decide) (h.wk (by rfl) [0] (by decide) (by rfl))
def ref19_mss.g (k_ : Nat) (a1 : List Int) : Option (Int × Bool) :=
  (loopK k_ (fun s1 => (if decide (s1.2.2 < (a1.length : Int)) = true then ((idx a1 s1.2.2).bind fun x1 => (if decide (x1 = 0) = true then some (.inr ((s1.1, true))) else (idx a1 s1.2.2).bind fun x2 => (if decide (x2 = 1) = true then lt (IntKind.i64.wrap (s1.2.2 + 1)) fun y1 => some (.inl ((s1.1, s1.2.1, y1))) else ((if decide ((a1.length : Int) ≤ (IntKind.i64.wrap (s1.2.2 + 1))) = true then some (true) else (idx a1 (IntKind.i64.wrap (s1.2.2 + 1))).bind fun x3 => (if decide (x3 < 2) = true then some (true) else (idx a1 (IntKind.i64.wrap (s1.2.2 + 1))).bind fun x4 => some (decide ((IntKind.i64.wrap ((a1.length : Int) - s1.2.2)) < x4))))).bind (fun j1 => (if j1 = true then some (.inr ((0, false))) else (((idx a1 s1.2.2).bind fun x5 => (if decide (x5 = 2) = true then (idx a1 (IntKind.i64.wrap (s1.2.2 + 1))).bind fun x6 => (if decide (x6 = 4) = true then some ((!s1.2.1)) else some (false)) else some (false))).bind (fun j2 => (if j2 = true then (cut a1 (IntKind.i64.wrap (s1.2.2 + 2)) (IntKind.i64.wrap (s1.2.2 + 4))).bind fun x7 => (ref19_get.g k_ x7).bind fun r1 => lt (IntKind.i64.wrap r1) fun y2 => some ((y2, true)) else some ((s1.1, s1.2.1))))).bind (fun j3 => (idx a1 (IntKind.i64.wrap (s1.2.2 + 1))).bind fun x8 => lt (IntKind.i64.wrap (s1.2.2 + x8)) fun y3 => some (.inl ((j3.1, j3.2, y3))))))))).bind (Sum.elim (fun j4 => some (.inl (j4.1, j4.2.1, j4.2.2))) (fun z_ => some (.inr (.inr (z_))))) else some (.inr (.inl (s1.1))))) (0, false, 0)).bind (Sum.elim (fun j5 => some ((j5, true))) (fun z_ => some (z_)))
theorem ref19_mss.le (k_ : Nat) (a1 : List Int) : Le (ref19_mss.g k_ a1) (ref19_mss.f a1) := by
 unfold ref19_mss.g ref19_mss.f
 repeat' (first | with_reducible refine le_loop fun _ => ?_ | with_reducible refine le_bind ?_ fun _ => ?_ | with_reducible refine le_ite ?_ ?_ | with_reducible refine le_lt fun _ => ?_ | with_reducible refine le_elim (fun _ => ?_) (fun _ => ?_) _ | with_reducible apply ref19_get.le | with_reducible exact le_refl _)
/-! drawbridge/drawbridgeref19.Get -/
noncomputable def ref19_Get.f (a1 : List Int) (a2 : Int) (a3 : Int) : Option (TSeg × Int) :=
  (if decide ((a1.length : Int) < 20) = true then some (((⟨0, 0, 0, 0, 0, 0, 0, []⟩ : TSeg), 160)) else (idx a1 12).bind fun x1 => lt (IntKind.i64.wrap ((IntKind.u8.wrap (Int.tdiv x1 16)) * 4)) fun y1 => ((if decide (65535 < (a1.length : Int)) = true then some (true) else some (decide (y1 < 20)))).bind (fun j1 => (if j1 = true then some (((⟨0, 0, 0, 0, 0, 0, 0, []⟩ : TSeg), 161)) else (if decide ((a1.length : Int) < y1) = true then some (((⟨0, 0, 0, 0, 0, 0, 0, []⟩ : TSeg), 160)) else (ref15_Pseudo.f a2 a3 6 (a1.length : Int)).bind fun r1 => (app r1 a1).bind fun x2 => (ref15_Right.f x2).bind fun r2 => (if (!r2) = true then some (((⟨0, 0, 0, 0, 0, 0, 0, []⟩ : TSeg), 162)) else (cut a1 20 y1).bind fun x3 => (ref19_mss.f x3).bind fun r3 => (if (!r3.2) = true then some (((⟨0, 0, 0, 0, 0, 0, 0, []⟩ : TSeg), 161)) else (cut a1 0 2).bind fun x4 => (ref19_get.f x4).bind fun r4 => (cut a1 2 4).bind fun x5 => (ref19_get.f x5).bind fun r5 => (cut a1 4 8).bind fun x6 => (ref19_get.f x6).bind fun r6 => (cut a1 8 12).bind fun x7 => (ref19_get.f x7).bind fun r7 => (idx a1 13).bind fun x8 => (cut a1 14 16).bind fun x9 => (ref19_get.f x9).bind fun r8 => (cut a1 y1 (a1.length : Int)).bind fun x10 => (app ([] : List Int) x10).bind fun x11 => some (((⟨(⟨IntKind.i64.wrap r4, IntKind.i64.wrap r5, IntKind.u32.wrap r6, IntKind.u32.wrap r7, Int.tmod x8 64, IntKind.i64.wrap r8, r3.1, []⟩ : TSeg).Src, (⟨IntKind.i64.wrap r4, IntKind.i64.wrap r5, IntKind.u32.wrap r6, IntKind.u32.wrap r7, Int.tmod x8 64, IntKind.i64.wrap r8, r3.1, []⟩ : TSeg).Dst, (⟨IntKind.i64.wrap r4, IntKind.i64.wrap r5, IntKind.u32.wrap r6, IntKind.u32.wrap r7, Int.tmod x8 64, IntKind.i64.wrap r8, r3.1, []⟩ : TSeg).Seq, (⟨IntKind.i64.wrap r4, IntKind.i64.wrap r5, IntKind.u32.wrap r6, IntKind.u32.wrap r7, Int.tmod x8 64, IntKind.i64.wrap r8, r3.1, []⟩ : TSeg).Ack, (⟨IntKind.i64.wrap r4, IntKind.i64.wrap r5, IntKind.u32.wrap r6, IntKind.u32.wrap r7, Int.tmod x8 64, IntKind.i64.wrap r8, r3.1, []⟩ : TSeg).Flags, (⟨IntKind.i64.wrap r4, IntKind.i64.wrap r5, IntKind.u32.wrap r6, IntKind.u32.wrap r7, Int.tmod x8 64, IntKind.i64.wrap r8, r3.1, []⟩ : TSeg).Win, (⟨IntKind.i64.wrap r4, IntKind.i64.wrap r5, IntKind.u32.wrap r6, IntKind.u32.wrap r7, Int.tmod x8 64, IntKind.i64.wrap r8, r3.1, []⟩ : TSeg).Mss, x11⟩ : TSeg), 0))))))))
set_option maxRecDepth 100000 in
set_option maxHeartbeats 4000000 in
theorem ref19_Get.spc (v1 : Value) (a1 : List Int) (a2 : Int) (ha2 : InR .u32 a2) (a3 : Int) (ha3 : InR .u32 a3) (r : TSeg × Int) (H : ref19_Get.f a1 a2 a3 = some r) : Spc Try.prog 11 [v1, .int .u32 a2, .int .u32 a3] [Val (Kd.sl (Kd.int .u8)) v1 a1] [] (fun (s : Value) => .tuple #[s, .int .i64 r.2]) (fun s => [Ent.pur (InR .i64 r.2), Val KSeg s r.1]) := by
 unfold ref19_Get.f at H
 refine Spc.go Try.func11 rfl (by kernel_rfl) rfl rfl (all_cons (Val.per Per_sl) all_nil) fun F a w h => ?_
 refine Go.seq ?_
 refine Go.reg ?_
 refine gs h (o_alloc (K := KSeg) (z := (.agg #[.int .i64 0, .int .i64 0, .int .u32 0, .int .u32 0, .int .i64 0, .int .i64 0, .int .i64 0, .slice none 0 0])) rfl ZSeg) rfl fun b1 _ _ h => ?_
 refine gs h (o_assign rfl) rfl fun _ _ _ h => ?_
 refine GoR.done ?_
 refine Go.seq ?_
 refine Go.seq ?_
 refine Go.reg ?_
 refine gs h (o_move rfl) rfl fun _ _ _ h => ?_
 have g1 := (len_at 1 rfl h.mem)
 refine gs h (o_ln rfl (rd_at 1 rfl) t_v23) rfl fun _ _ _ h => ?_
 refine gs h (o_bin rfl rfl rfl) rfl fun _ _ _ h => ?_
 refine GoR.done ?_
 by_cases c1 : decide ((a1.length : Int) < 20) = true
 ·have H := ifT c1 H
  refine g_t h rfl c1 ?_
  refine Go.seq ?_
  refine Go.reg ?_
  refine gs h (o_build (K := KSeg) (x := (⟨0, 0, 0, 0, 0, 0, 0, []⟩ : TSeg)) (ps := []) rfl (zs := zsSeg) rfl t_b25 rfl (show PB (Kd.pair (Kd.int .i64) (Kd.pair (Kd.int .i64) (Kd.pair (Kd.int .u32) (Kd.pair (Kd.int .u32) (Kd.pair (Kd.int .i64) (Kd.pair (Kd.int .i64) (Kd.pair (Kd.int .i64) (Kd.last (Kd.sl (Kd.int .u8)))))))))) (0, 0, 0, 0, 0, 0, 0, []) 0 zsSeg _ _ from (pb_zero z_int (pb_zero z_int (pb_zero z_int (pb_zero z_int (pb_zero z_int (pb_zero z_int (pb_zero z_int (pb_lastz z_sl)))))))))) rfl fun v2 _ _ h => ?_
  refine gs0 h (o_st 1 rfl rfl rfl (pv_at PSeg 0 rfl) rfl t_w25) fun _ _ _ h => ?_
  refine gs h (o_assign rfl) rfl fun _ _ _ h => ?_
  refine GoR.done ?_
  obtain ⟨v3, h, u1⟩ := h.peek 1 rfl PSeg t_y25
  rw [← som H]
  exact g_ret (vs := [v3, .int .i64 160]) h Try.func11 ⟨⟨_, rfl, u1⟩, ⟨rfl, trivial⟩⟩ ⟨v3, rfl, ((h.mem.pick [0] (by decide) rfl).addpur (show InR .i64 160 by decide))⟩
 ·have H := ifF c1 H
  refine g_f h rfl c1 ?_
  refine Go.skip ?_
  refine Go.seq ?_
  refine Go.reg ?_
  refine gs h (o_move rfl) rfl fun _ _ _ h => ?_
  obtain ⟨x1, ex1, H⟩ := bindE H
  refine gs h (o_ix rfl rfl (rd_at 1 rfl) ex1 t_v23) rfl fun _ _ _ h => ?_
  have g2 := (rd_inr (rd_at 1 rfl) ex1 h.mem)
  refine gs h (o_lex rfl (rd_at 1 rfl) ex1 X_int t_y5 (by decide)) rfl fun _ _ _ h => ?_
  refine gs h (o_quo rfl rfl (show (16 : Int) ≠ 0 by decide)) rfl fun _ _ _ h => ?_
  refine gs h (o_convw rfl t_q5 t_u3 (wrap_in _ _) rfl) rfl fun _ _ _ h => ?_
  refine gs h (o_bin rfl rfl rfl) rfl fun _ _ _ h => ?_
  obtain ⟨y1, ey1, H⟩ := ltE H
  refine gs h (o_assign' rfl (congrArg (fun z => Value.int .i64 z) ey1)) rfl fun _ _ _ h => ?_
  refine GoR.done ?_
  refine Go.seq ?_
  refine Go.seq ?_
  obtain ⟨o1, H, G1⟩ := bindE H
  refine g_cut (fun G => ∀ j1 (a : Act) (w : World), o1 = j1 → St Try.f11.ntmps F [(0, v1), (1, .int .u32 a2), (2, .int .u32 a3), (6, .pointer (some ⟨b1, 0, none⟩)), (8, .int .i64 y1), (28, .bool j1)] [Val (Kd.sl (Kd.int .u8)) v1 a1, Fld KSeg b1 0 zSeg] a w → G a w) 1 ?_ fun J1 => ?_
  ·intro j1 a w ho_ h
   rw [ho_] at G1
   have H := G1
   by_cases c3 : j1 = true
   ·have H := ifT c3 H
    refine g_t h rfl c3 ?_
    refine Go.seq ?_
    refine Go.reg ?_
    refine gs h (o_build (K := KSeg) (x := (⟨0, 0, 0, 0, 0, 0, 0, []⟩ : TSeg)) (ps := []) rfl (zs := zsSeg) rfl t_b25 rfl (show PB (Kd.pair (Kd.int .i64) (Kd.pair (Kd.int .i64) (Kd.pair (Kd.int .u32) (Kd.pair (Kd.int .u32) (Kd.pair (Kd.int .i64) (Kd.pair (Kd.int .i64) (Kd.pair (Kd.int .i64) (Kd.last (Kd.sl (Kd.int .u8)))))))))) (0, 0, 0, 0, 0, 0, 0, []) 0 zsSeg _ _ from (pb_zero z_int (pb_zero z_int (pb_zero z_int (pb_zero z_int (pb_zero z_int (pb_zero z_int (pb_zero z_int (pb_lastz z_sl)))))))))) rfl fun v4 _ _ h => ?_
    refine gs0 h (o_st 2 rfl rfl rfl (pv_at PSeg 0 rfl) rfl t_w25) fun _ _ _ h => ?_
    refine gs h (o_assign rfl) rfl fun _ _ _ h => ?_
    refine GoR.done ?_
    obtain ⟨v5, h, u2⟩ := h.peek 2 rfl PSeg t_y25
    rw [← som H]
    exact g_ret (vs := [v5, .int .i64 161]) h Try.func11 ⟨⟨_, rfl, u2⟩, ⟨rfl, trivial⟩⟩ ⟨v5, rfl, ((h.mem.pick [0] (by decide) rfl).addpur (show InR .i64 161 by decide))⟩
   ·have H := ifF c3 H
    refine g_f h rfl c3 ?_
    refine Go.skip ?_
    refine Go.seq ?_
    refine Go.seq ?_
    refine Go.reg ?_
    refine gs h (o_move rfl) rfl fun _ _ _ h => ?_
    have g4 := (len_at 0 rfl h.mem)
    refine gs h (o_ln rfl (rd_at 0 rfl) t_v23) rfl fun _ _ _ h => ?_
    refine gs h (o_move rfl) rfl fun _ _ _ h => ?_
    refine gs h (o_bin rfl rfl rfl) rfl fun _ _ _ h => ?_
    refine GoR.done ?_
    by_cases c4 : decide ((a1.length : Int) < y1) = true
    ·have H := ifT c4 H
     refine g_t h rfl c4 ?_
     refine Go.seq ?_
     refine Go.reg ?_
     refine gs h (o_build (K := KSeg) (x := (⟨0, 0, 0, 0, 0, 0, 0, []⟩ : TSeg)) (ps := []) rfl (zs := zsSeg) rfl t_b25 rfl (show PB (Kd.pair (Kd.int .i64) (Kd.pair (Kd.int .i64) (Kd.pair (Kd.int .u32) (Kd.pair (Kd.int .u32) (Kd.pair (Kd.int .i64) (Kd.pair (Kd.int .i64) (Kd.pair (Kd.int .i64) (Kd.last (Kd.sl (Kd.int .u8)))))))))) (0, 0, 0, 0, 0, 0, 0, []) 0 zsSeg _ _ from (pb_zero z_int (pb_zero z_int (pb_zero z_int (pb_zero z_int (pb_zero z_int (pb_zero z_int (pb_zero z_int (pb_lastz z_sl)))))))))) rfl fun v6 _ _ h => ?_
     refine gs0 h (o_st 2 rfl rfl rfl (pv_at PSeg 0 rfl) rfl t_w25) fun _ _ _ h => ?_
     refine gs h (o_assign rfl) rfl fun _ _ _ h => ?_
     refine GoR.done ?_
     obtain ⟨v7, h, u3⟩ := h.peek 2 rfl PSeg t_y25
     rw [← som H]
     exact g_ret (vs := [v7, .int .i64 160]) h Try.func11 ⟨⟨_, rfl, u3⟩, ⟨rfl, trivial⟩⟩ ⟨v7, rfl, ((h.mem.pick [0] (by decide) rfl).addpur (show InR .i64 160 by decide))⟩
    ·have H := ifF c4 H
     refine g_f h rfl c4 ?_
     refine Go.skip ?_
     refine Go.seq ?_
     refine Go.seq ?_
     refine Go.reg ?_
     refine gs h (o_move rfl) rfl fun _ _ _ h => ?_
     refine gs h (o_move rfl) rfl fun _ _ _ h => ?_
     refine gs h (o_move rfl) rfl fun _ _ _ h => ?_
     have g5 := (len_at 0 rfl h.mem)
     refine gs h (o_ln rfl (rd_at 0 rfl) t_v23) rfl fun _ _ _ h => ?_
     obtain ⟨r1, er1, H⟩ := bindE H
     refine gs h (o_call (ref15_Pseudo.spc a2 ha2 a3 ha3 6 (show InR .i64 6 by decide) (a1.length : Int) g5 r1 er1) rfl [] [] (by decide) rfl rfl) rfl fun v8 _ _ h => ?_
     refine gs h (o_move rfl) rfl fun _ _ _ h => ?_
     obtain ⟨x2, ex2, H⟩ := bindE H
     refine gs h (o_app (K := (Kd.int .u8)) 0 rfl rfl rfl (rd_at 1 rfl) ex2 t_a23 t_n23) rfl fun v9 _ _ h => ?_
     replace h := h.mm fun m => m.freeze 0 rfl
     obtain ⟨r2, er2, H⟩ := bindE H
     refine gs h (o_call (ref15_Right.spc v9 x2 r2 er2) rfl [0] [] (by decide) rfl rfl) rfl fun _ _ _ h => ?_
     refine gs h (o_not rfl) rfl fun _ _ _ h => ?_
     refine GoR.done ?_
     by_cases c5 : (!r2) = true
     ·have H := ifT c5 H
      refine g_t h rfl c5 ?_
      refine Go.seq ?_
      refine Go.reg ?_
      refine gs h (o_build (K := KSeg) (x := (⟨0, 0, 0, 0, 0, 0, 0, []⟩ : TSeg)) (ps := []) rfl (zs := zsSeg) rfl t_b25 rfl (show PB (Kd.pair (Kd.int .i64) (Kd.pair (Kd.int .i64) (Kd.pair (Kd.int .u32) (Kd.pair (Kd.int .u32) (Kd.pair (Kd.int .i64) (Kd.pair (Kd.int .i64) (Kd.pair (Kd.int .i64) (Kd.last (Kd.sl (Kd.int .u8)))))))))) (0, 0, 0, 0, 0, 0, 0, []) 0 zsSeg _ _ from (pb_zero z_int (pb_zero z_int (pb_zero z_int (pb_zero z_int (pb_zero z_int (pb_zero z_int (pb_zero z_int (pb_lastz z_sl)))))))))) rfl fun v10 _ _ h => ?_
      refine gs0 h (o_st 3 rfl rfl rfl (pv_at PSeg 0 rfl) rfl t_w25) fun _ _ _ h => ?_
      refine gs h (o_assign rfl) rfl fun _ _ _ h => ?_
      refine GoR.done ?_
      obtain ⟨v11, h, u4⟩ := h.peek 3 rfl PSeg t_y25
      rw [← som H]
      exact g_ret (vs := [v11, .int .i64 162]) h Try.func11 ⟨⟨_, rfl, u4⟩, ⟨rfl, trivial⟩⟩ ⟨v11, rfl, ((h.mem.pick [0] (by decide) rfl).addpur (show InR .i64 162 by decide))⟩
     ·have H := ifF c5 H
      refine g_f h rfl c5 ?_
      refine Go.skip ?_
      refine Go.seq ?_
      refine Go.reg ?_
      refine gs h (o_move rfl) rfl fun _ _ _ h => ?_
      refine gs h (o_move rfl) rfl fun _ _ _ h => ?_
      obtain ⟨x3, ex3, H⟩ := bindE H
      refine gs h (o_cut rfl (pv_at Per_sl 1 rfl) rfl rfl ex3 t_v23) rfl fun v12 _ _ h => ?_
      obtain ⟨r3, er3, H⟩ := bindE H
      refine gs h (o_call (ref19_mss.spc v12 x3 r3 er3) rfl [0] [] (by decide) rfl rfl) rfl fun _ _ _ h => ?_
      have g6 := h.mem.pur 0 rfl
      refine gs h (o_move rfl) rfl fun _ _ _ h => ?_
      refine gs h (o_extract rfl rfl) rfl fun _ _ _ h => ?_
      refine gs h (o_extract rfl rfl) rfl fun _ _ _ h => ?_
      refine gs h (o_assign rfl) rfl fun _ _ _ h => ?_
      refine gs h (o_assign rfl) rfl fun _ _ _ h => ?_
      refine GoR.done ?_
      refine Go.seq ?_
      refine Go.seq ?_
      refine Go.reg ?_
      refine gs h (o_move rfl) rfl fun _ _ _ h => ?_
      refine gs h (o_not rfl) rfl fun _ _ _ h => ?_
      refine GoR.done ?_
      by_cases c6 : (!r3.2) = true
      ·have H := ifT c6 H
       refine g_t h rfl c6 ?_
       refine Go.seq ?_
       refine Go.reg ?_
       refine gs h (o_build (K := KSeg) (x := (⟨0, 0, 0, 0, 0, 0, 0, []⟩ : TSeg)) (ps := []) rfl (zs := zsSeg) rfl t_b25 rfl (show PB (Kd.pair (Kd.int .i64) (Kd.pair (Kd.int .i64) (Kd.pair (Kd.int .u32) (Kd.pair (Kd.int .u32) (Kd.pair (Kd.int .i64) (Kd.pair (Kd.int .i64) (Kd.pair (Kd.int .i64) (Kd.last (Kd.sl (Kd.int .u8)))))))))) (0, 0, 0, 0, 0, 0, 0, []) 0 zsSeg _ _ from (pb_zero z_int (pb_zero z_int (pb_zero z_int (pb_zero z_int (pb_zero z_int (pb_zero z_int (pb_zero z_int (pb_lastz z_sl)))))))))) rfl fun v13 _ _ h => ?_
       refine gs0 h (o_st 5 rfl rfl rfl (pv_at PSeg 0 rfl) rfl t_w25) fun _ _ _ h => ?_
       refine gs h (o_assign rfl) rfl fun _ _ _ h => ?_
       refine GoR.done ?_
       obtain ⟨v14, h, u5⟩ := h.peek 5 rfl PSeg t_y25
       rw [← som H]
       exact g_ret (vs := [v14, .int .i64 161]) h Try.func11 ⟨⟨_, rfl, u5⟩, ⟨rfl, trivial⟩⟩ ⟨v14, rfl, ((h.mem.pick [0] (by decide) rfl).addpur (show InR .i64 161 by decide))⟩
      ·have H := ifF c6 H
       refine g_f h rfl c6 ?_
       refine Go.skip ?_
       refine Go.seq ?_
       replace h := h.wk (E' := [(0, v1), (6, .pointer (some ⟨b1, 0, none⟩)), (8, .int .i64 y1), (9, .int .i64 r3.1)]) (L' := [Ent.pur (InR .i64 r3.1), Val (Kd.sl (Kd.int .u8)) v12 x3, Val (Kd.sl (Kd.int .u8)) v9 x2, Val (Kd.sl (Kd.int .u8)) v1 a1, Fld KSeg b1 0 zSeg]) (by rfl) [0, 1, 2, 3, 4] (by decide) (by rfl)
       obtain ⟨x4, ex4, H⟩ := bindE H
       obtain ⟨r4, er4, H⟩ := bindE H
       obtain ⟨x5, ex5, H⟩ := bindE H
       obtain ⟨r5, er5, H⟩ := bindE H
       obtain ⟨x6, ex6, H⟩ := bindE H
       obtain ⟨r6, er6, H⟩ := bindE H
       obtain ⟨x7, ex7, H⟩ := bindE H
       obtain ⟨r7, er7, H⟩ := bindE H
       obtain ⟨x8, ex8, H⟩ := bindE H
       obtain ⟨x9, ex9, H⟩ := bindE H
       obtain ⟨r8, er8, H⟩ := bindE H
       refine Go.draw (L := [Ent.pur (InR .i64 r3.1), Val (Kd.sl (Kd.int .u8)) v12 x3, Val (Kd.sl (Kd.int .u8)) v9 x2, Val (Kd.sl (Kd.int .u8)) v1 a1, Fld KSeg b1 0 zSeg]) h 28 [⟨[], [], [], false, .con (v1), none, fun u => []⟩, ⟨[0], [], [], false, .own, none, fun u => [Val (Kd.sl (Kd.int .u8)) u x4]⟩, ⟨[0, 1], [1], [], false, .con (.int .u64 r4), none, fun u => [Ent.pur (InR .u64 r4)]⟩, ⟨[0, 1, 2], [], [], false, .con (.int .i64 (IntKind.i64.wrap r4)), none, fun u => []⟩, ⟨[], [], [], false, .con (v1), none, fun u => []⟩, ⟨[4], [], [], false, .own, none, fun u => [Val (Kd.sl (Kd.int .u8)) u x5]⟩, ⟨[4, 5], [5], [], false, .con (.int .u64 r5), none, fun u => [Ent.pur (InR .u64 r5)]⟩, ⟨[4, 5, 6], [], [], false, .con (.int .i64 (IntKind.i64.wrap r5)), none, fun u => []⟩, ⟨[], [], [], false, .con (v1), none, fun u => []⟩, ⟨[8], [], [], false, .own, none, fun u => [Val (Kd.sl (Kd.int .u8)) u x6]⟩, ⟨[8, 9], [9], [], false, .con (.int .u64 r6), none, fun u => [Ent.pur (InR .u64 r6)]⟩, ⟨[8, 9, 10], [], [], false, .con (.int .u32 (IntKind.u32.wrap r6)), none, fun u => []⟩, ⟨[], [], [], false, .con (v1), none, fun u => []⟩, ⟨[12], [], [], false, .own, none, fun u => [Val (Kd.sl (Kd.int .u8)) u x7]⟩, ⟨[12, 13], [13], [], false, .con (.int .u64 r7), none, fun u => [Ent.pur (InR .u64 r7)]⟩, ⟨[12, 13, 14], [], [], false, .con (.int .u32 (IntKind.u32.wrap r7)), none, fun u => []⟩, ⟨[], [], [], false, .con (v1), none, fun u => []⟩, ⟨[16], [], [], false, .con (elemP v1 ((13 : Int).toNat * Kd.n (Kd.int .u8))), none, fun u => []⟩, ⟨[16, 17], [], [], false, .con (.int .u8 x8), none, fun u => [Ent.pur (InR .u8 x8)]⟩, ⟨[16, 17, 18], [], [], false, .con (.int .u8 (Int.tmod x8 64)), none, fun u => []⟩, ⟨[16, 17, 18, 19], [18], [], false, .con (.int .i64 (Int.tmod x8 64)), none, fun u => []⟩, ⟨[], [], [], false, .con (v1), none, fun u => []⟩, ⟨[21], [], [], false, .own, none, fun u => [Val (Kd.sl (Kd.int .u8)) u x9]⟩, ⟨[21, 22], [22], [], false, .con (.int .u64 r8), none, fun u => [Ent.pur (InR .u64 r8)]⟩, ⟨[21, 22, 23], [], [], false, .con (.int .i64 (IntKind.i64.wrap r8)), none, fun u => []⟩, ⟨[], [], [], false, .con (.int .i64 r3.1), none, fun u => []⟩, ⟨[0, 1, 2, 3, 4, 5, 6, 7, 8, 9, 10, 11, 12, 13, 14, 15, 16, 17, 18, 19, 20, 21, 22, 23, 24, 25], [18], [], false, .own, none, fun u => [Val KSeg u (⟨IntKind.i64.wrap r4, IntKind.i64.wrap r5, IntKind.u32.wrap r6, IntKind.u32.wrap r7, Int.tmod x8 64, IntKind.i64.wrap r8, r3.1, []⟩ : TSeg)]⟩, ⟨[], [], [], false, .own, none, fun u => [Ent.pur (u = .pointer (some ⟨blk u, 0, none⟩)), Fld KSeg (blk u) 0 zSeg]⟩] rfl t_mxo (by kernel_rfl) (by rfl) ?_ fun f1 _ _ h => ?_
       ·exact obs_cons (ob_con rfl (gok_none rfl) rfl fun f1 => (o_move rfl)) (obs_cons (ob_own rfl (gok_none rfl) rfl fun f1 => (o_cuth rfl (pv_at Per_sl 3 rfl) rfl ex4 t_v23)) (obs_cons (ob_con rfl (gok_none rfl) rfl fun f1 => (o_call (ref19_get.spc (f1 1) x4 r4 er4) rfl [0] [] (by decide) rfl rfl)) (obs_cons (ob_con rfl (gok_none rfl) rfl fun f1 => (o_conv rfl t_q49 t_u3)) (obs_cons (ob_con rfl (gok_none rfl) rfl fun f1 => (o_move rfl)) (obs_cons (ob_own rfl (gok_none rfl) rfl fun f1 => (o_cut rfl (pv_at Per_sl 3 rfl) rfl rfl ex5 t_v23)) (obs_cons (ob_con rfl (gok_none rfl) rfl fun f1 => (o_call (ref19_get.spc (f1 5) x5 r5 er5) rfl [0] [] (by decide) rfl rfl)) (obs_cons (ob_con rfl (gok_none rfl) rfl fun f1 => (o_conv rfl t_q49 t_u3)) (obs_cons (ob_con rfl (gok_none rfl) rfl fun f1 => (o_move rfl)) (obs_cons (ob_own rfl (gok_none rfl) rfl fun f1 => (o_cut rfl (pv_at Per_sl 3 rfl) rfl rfl ex6 t_v23)) (obs_cons (ob_con rfl (gok_none rfl) rfl fun f1 => (o_call (ref19_get.spc (f1 9) x6 r6 er6) rfl [0] [] (by decide) rfl rfl)) (obs_cons (ob_con rfl (gok_none rfl) rfl fun f1 => (o_conv rfl t_q49 t_u22)) (obs_cons (ob_con rfl (gok_none rfl) rfl fun f1 => (o_move rfl)) (obs_cons (ob_own rfl (gok_none rfl) rfl fun f1 => (o_cut rfl (pv_at Per_sl 3 rfl) rfl rfl ex7 t_v23)) (obs_cons (ob_con rfl (gok_none rfl) rfl fun f1 => (o_call (ref19_get.spc (f1 13) x7 r7 er7) rfl [0] [] (by decide) rfl rfl)) (obs_cons (ob_con rfl (gok_none rfl) rfl fun f1 => (o_conv rfl t_q49 t_u22)) (obs_cons (ob_con rfl (gok_none rfl) rfl fun f1 => (o_move rfl)) (obs_cons (ob_con rfl (gok_none rfl) rfl fun f1 => (o_ix rfl rfl (rd_at 3 rfl) ex8 t_v23)) (obs_cons (ob_con rfl (gok_none rfl) rfl fun f1 => (OpS.pur (fun F w m_ => (rd_inr (rd_at 3 rfl) ex8 m_)) (o_lex rfl (rd_at 3 rfl) ex8 X_int t_y5 (by decide)))) (obs_cons (ob_con rfl (gok_none rfl) rfl fun f1 => (o_rem rfl rfl (show (64 : Int) ≠ 0 by decide))) (obs_cons (ob_con rfl (gok_none rfl) rfl fun f1 => (OpS.fact (p := InR .u8 (Int.tmod x8 64)) (fun F w m_ => (inr_rem (Mem.pur 0 rfl m_))) fun g7 => (o_convw rfl t_q5 t_u3 g7 rfl))) (obs_cons (ob_con rfl (gok_none rfl) rfl fun f1 => (o_move rfl)) (obs_cons (ob_own rfl (gok_none rfl) rfl fun f1 => (o_cut rfl (pv_at Per_sl 3 rfl) rfl rfl ex9 t_v23)) (obs_cons (ob_con rfl (gok_none rfl) rfl fun f1 => (o_call (ref19_get.spc (f1 22) x9 r8 er8) rfl [0] [] (by decide) rfl rfl)) (obs_cons (ob_con rfl (gok_none rfl) rfl fun f1 => (o_conv rfl t_q49 t_u3)) (obs_cons (ob_con rfl (gok_none rfl) rfl fun f1 => (o_move rfl)) (obs_cons (ob_own rfl (gok_none rfl) rfl fun f1 => (OpS.fact (p := InR .i64 (Int.tmod x8 64)) (fun F w m_ => (inr_wid (k := .u8) (k' := .i64) (inr_rem (Mem.pur 0 rfl m_)) rfl)) fun g8 => (OpS.fact (p := InR .i64 (Int.tmod x8 64)) (fun F w m_ => (inr_wid (k := .u8) (k' := .i64) (inr_rem (Mem.pur 0 rfl m_)) rfl)) fun g9 => (o_build (K := KSeg) (x := (⟨IntKind.i64.wrap r4, IntKind.i64.wrap r5, IntKind.u32.wrap r6, IntKind.u32.wrap r7, Int.tmod x8 64, IntKind.i64.wrap r8, r3.1, []⟩ : TSeg)) (ps := [(0, .int .i64 (IntKind.i64.wrap r4)), (1, .int .i64 (IntKind.i64.wrap r5)), (2, .int .u32 (IntKind.u32.wrap r6)), (3, .int .u32 (IntKind.u32.wrap r7)), (4, .int .i64 (Int.tmod x8 64)), (5, .int .i64 (IntKind.i64.wrap r8)), (6, .int .i64 r3.1)]) rfl (zs := zsSeg) rfl t_b25 rfl (show PB (Kd.pair (Kd.int .i64) (Kd.pair (Kd.int .i64) (Kd.pair (Kd.int .u32) (Kd.pair (Kd.int .u32) (Kd.pair (Kd.int .i64) (Kd.pair (Kd.int .i64) (Kd.pair (Kd.int .i64) (Kd.last (Kd.sl (Kd.int .u8)))))))))) (IntKind.i64.wrap r4, IntKind.i64.wrap r5, IntKind.u32.wrap r6, IntKind.u32.wrap r7, Int.tmod x8 64, IntKind.i64.wrap r8, r3.1, []) 0 zsSeg _ _ from (pb_part (pv_int (wrap_in _ _)) rfl (pb_part (pv_int (wrap_in _ _)) rfl (pb_part (pv_int (wrap_in _ _)) rfl (pb_part (pv_int (wrap_in _ _)) rfl (pb_part (pv_int g9) rfl (pb_part (pv_int (wrap_in _ _)) rfl (pb_part (pv_int g6) rfl (pb_lastz z_sl))))))))))))) (obs_cons (ob_own rfl (gok_none rfl) rfl fun f1 => (ptr_d (o_alloc (K := KSeg) (z := (.agg #[.int .i64 0, .int .i64 0, .int .u32 0, .int .u32 0, .int .i64 0, .int .i64 0, .int .i64 0, .slice none 0 0])) rfl ZSeg))) (obs_nil))))))))))))))))))))))))))))
       replace h := h.wk (E' := [(0, v1), (6, .pointer (some ⟨b1, 0, none⟩)), (8, .int .i64 y1), (81, (f1 26)), (11, (f1 27))]) (L' := [Val (Kd.sl (Kd.int .u8)) (f1 1) x4, Ent.pur (InR .u64 r4), Val (Kd.sl (Kd.int .u8)) (f1 5) x5, Ent.pur (InR .u64 r5), Val (Kd.sl (Kd.int .u8)) (f1 9) x6, Ent.pur (InR .u64 r6), Val (Kd.sl (Kd.int .u8)) (f1 13) x7, Ent.pur (InR .u64 r7), Ent.pur (InR .u8 x8), Val (Kd.sl (Kd.int .u8)) (f1 22) x9, Ent.pur (InR .u64 r8), Val KSeg (f1 26) (⟨IntKind.i64.wrap r4, IntKind.i64.wrap r5, IntKind.u32.wrap r6, IntKind.u32.wrap r7, Int.tmod x8 64, IntKind.i64.wrap r8, r3.1, []⟩ : TSeg), Ent.pur ((f1 27) = .pointer (some ⟨blk (f1 27), 0, none⟩)), Fld KSeg (blk (f1 27)) 0 zSeg, Ent.pur (InR .i64 r3.1), Val (Kd.sl (Kd.int .u8)) v12 x3, Val (Kd.sl (Kd.int .u8)) v9 x2, Val (Kd.sl (Kd.int .u8)) v1 a1, Fld KSeg b1 0 zSeg]) (by kernel_rfl) [0, 1, 2, 3, 4, 5, 6, 7, 8, 9, 10, 11, 12, 13, 14, 15, 16, 17, 18] (by decide) (by kernel_rfl)
       have q_ := h.mem.pur 12 rfl
       generalize blk (f1 27) = b3 at h q_
       rw [q_] at h
       refine gs0 h (o_st 13 rfl rfl rfl (pv_at PSeg 11 rfl) rfl t_w25) fun _ _ _ h => ?_
       refine GoR.done ?_
       refine Go.seq ?_
       refine Go.reg ?_
       refine gs h (o_bs (K := (Kd.int .u8)) (vs := []) (xs := ([] : List Int)) rfl rfl pvs_nil t_a23 (by decide) (by decide)) rfl fun v21 _ _ h => ?_
       refine gs h (o_move rfl) rfl fun _ _ _ h => ?_
       refine gs h (o_move rfl) rfl fun _ _ _ h => ?_
       obtain ⟨x10, ex10, H⟩ := bindE H
       refine gs h (o_cutl rfl (pv_at Per_sl 18 rfl) rfl ex10 t_v23) rfl fun v22 _ _ h => ?_
       obtain ⟨x11, ex11, H⟩ := bindE H
       refine gs h (o_app (K := (Kd.int .u8)) 1 rfl rfl rfl (rd_at 0 rfl) ex11 t_a23 t_n23) rfl fun v23 _ _ h => ?_
       refine gs h (o_fa rfl t_f25_7 rfl rfl) rfl fun _ _ _ h => ?_
       replace h := h.mm fun m => (m.take (i := 15) rfl).opn (cSeg _ _)
       replace h := h.mm fun m => m.freeze 9 rfl
       refine gs0 h (o_st 7 rfl rfl rfl (pv_at Per_sl 9 rfl) rfl t_w23) fun _ _ _ h => ?_
       refine GoR.done ?_
       refine Go.seq ?_
       refine Go.reg ?_
       replace h := h.mm fun m => (m.pull (Lo := [Fld (Kd.int .i64) b3 0 ((⟨IntKind.i64.wrap r4, IntKind.i64.wrap r5, IntKind.u32.wrap r6, IntKind.u32.wrap r7, Int.tmod x8 64, IntKind.i64.wrap r8, r3.1, []⟩ : TSeg).Src), Fld (Kd.int .i64) b3 1 ((⟨IntKind.i64.wrap r4, IntKind.i64.wrap r5, IntKind.u32.wrap r6, IntKind.u32.wrap r7, Int.tmod x8 64, IntKind.i64.wrap r8, r3.1, []⟩ : TSeg).Dst), Fld (Kd.int .u32) b3 2 ((⟨IntKind.i64.wrap r4, IntKind.i64.wrap r5, IntKind.u32.wrap r6, IntKind.u32.wrap r7, Int.tmod x8 64, IntKind.i64.wrap r8, r3.1, []⟩ : TSeg).Seq), Fld (Kd.int .u32) b3 3 ((⟨IntKind.i64.wrap r4, IntKind.i64.wrap r5, IntKind.u32.wrap r6, IntKind.u32.wrap r7, Int.tmod x8 64, IntKind.i64.wrap r8, r3.1, []⟩ : TSeg).Ack), Fld (Kd.int .i64) b3 4 ((⟨IntKind.i64.wrap r4, IntKind.i64.wrap r5, IntKind.u32.wrap r6, IntKind.u32.wrap r7, Int.tmod x8 64, IntKind.i64.wrap r8, r3.1, []⟩ : TSeg).Flags), Fld (Kd.int .i64) b3 5 ((⟨IntKind.i64.wrap r4, IntKind.i64.wrap r5, IntKind.u32.wrap r6, IntKind.u32.wrap r7, Int.tmod x8 64, IntKind.i64.wrap r8, r3.1, []⟩ : TSeg).Win), Fld (Kd.int .i64) b3 6 ((⟨IntKind.i64.wrap r4, IntKind.i64.wrap r5, IntKind.u32.wrap r6, IntKind.u32.wrap r7, Int.tmod x8 64, IntKind.i64.wrap r8, r3.1, []⟩ : TSeg).Mss), Fld (Kd.sl (Kd.int .u8)) b3 7 x11]) [0, 1, 2, 3, 4, 5, 6, 7] (by decide) rfl).cls (cSeg _ (⟨(⟨IntKind.i64.wrap r4, IntKind.i64.wrap r5, IntKind.u32.wrap r6, IntKind.u32.wrap r7, Int.tmod x8 64, IntKind.i64.wrap r8, r3.1, []⟩ : TSeg).Src, (⟨IntKind.i64.wrap r4, IntKind.i64.wrap r5, IntKind.u32.wrap r6, IntKind.u32.wrap r7, Int.tmod x8 64, IntKind.i64.wrap r8, r3.1, []⟩ : TSeg).Dst, (⟨IntKind.i64.wrap r4, IntKind.i64.wrap r5, IntKind.u32.wrap r6, IntKind.u32.wrap r7, Int.tmod x8 64, IntKind.i64.wrap r8, r3.1, []⟩ : TSeg).Seq, (⟨IntKind.i64.wrap r4, IntKind.i64.wrap r5, IntKind.u32.wrap r6, IntKind.u32.wrap r7, Int.tmod x8 64, IntKind.i64.wrap r8, r3.1, []⟩ : TSeg).Ack, (⟨IntKind.i64.wrap r4, IntKind.i64.wrap r5, IntKind.u32.wrap r6, IntKind.u32.wrap r7, Int.tmod x8 64, IntKind.i64.wrap r8, r3.1, []⟩ : TSeg).Flags, (⟨IntKind.i64.wrap r4, IntKind.i64.wrap r5, IntKind.u32.wrap r6, IntKind.u32.wrap r7, Int.tmod x8 64, IntKind.i64.wrap r8, r3.1, []⟩ : TSeg).Win, (⟨IntKind.i64.wrap r4, IntKind.i64.wrap r5, IntKind.u32.wrap r6, IntKind.u32.wrap r7, Int.tmod x8 64, IntKind.i64.wrap r8, r3.1, []⟩ : TSeg).Mss, x11⟩ : TSeg))
       refine gs h (o_ldv 0 rfl rfl PSeg t_y25) rfl fun v24 _ _ h => ?_
       refine gs0 h (o_st 30 rfl rfl rfl (pv_at PSeg 0 rfl) rfl t_w25) fun _ _ _ h => ?_
       refine gs h (o_assign rfl) rfl fun _ _ _ h => ?_
       refine GoR.done ?_
       obtain ⟨v25, h, u6⟩ := h.peek 30 rfl PSeg t_y25
       rw [← som H]
       exact g_ret (vs := [v25, .int .i64 0]) h Try.func11 ⟨⟨_, rfl, u6⟩, ⟨rfl, trivial⟩⟩ ⟨v25, rfl, ((h.mem.pick [0] (by decide) rfl).addpur (show InR .i64 0 by decide))⟩
  refine Go.reg ?_
  refine gs h (o_move rfl) rfl fun _ _ _ h => ?_
  have g3 := (len_at 1 rfl h.mem)
  refine gs h (o_ln rfl (rd_at 1 rfl) t_v23) rfl fun _ _ _ h => ?_
  refine gs h (o_bin rfl rfl rfl) rfl fun _ _ _ h => ?_
  refine gs h (o_move rfl) rfl fun _ _ _ h => ?_
  by_cases c2 : decide (65535 < (a1.length : Int)) = true
  ·have H := ifT c2 H
   refine gk h rfl rfl (nb_t c2) rfl fun _ h => ?_
   refine gk h rfl rfl (nb_t c2) rfl fun _ h => ?_
   refine gs h (o_pickT rfl rfl c2) rfl fun _ _ _ h => ?_
   refine GoR.done ?_
   exact J1 true _ _ (som H).symm (h.wk (by rfl) [1, 0] (by decide) (by rfl))
  ·have H := ifF c2 H
   refine gg h rfl rfl (nbF c2) (o_move rfl) rfl fun _ _ _ h => ?_
   refine gg h rfl rfl (nbF c2) (o_bin rfl rfl rfl) rfl fun _ _ _ h => ?_
   refine gs h (o_pickF rfl rfl c2) rfl fun _ _ _ h => ?_
   refine GoR.done ?_
   exact J1 (decide (y1 < 20)) _ _ (som H).symm (h.wk (by rfl) [1, 0] (by decide) (by rfl))
def ref19_Get.g (k_ : Nat) (a1 : List Int) (a2 : Int) (a3 : Int) : Option (TSeg × Int) :=
  (if decide ((a1.length : Int) < 20) = true then some (((⟨0, 0, 0, 0, 0, 0, 0, []⟩ : TSeg), 160)) else (idx a1 12).bind fun x1 => lt (IntKind.i64.wrap ((IntKind.u8.wrap (Int.tdiv x1 16)) * 4)) fun y1 => ((if decide (65535 < (a1.length : Int)) = true then some (true) else some (decide (y1 < 20)))).bind (fun j1 => (if j1 = true then some (((⟨0, 0, 0, 0, 0, 0, 0, []⟩ : TSeg), 161)) else (if decide ((a1.length : Int) < y1) = true then some (((⟨0, 0, 0, 0, 0, 0, 0, []⟩ : TSeg), 160)) else (ref15_Pseudo.g k_ a2 a3 6 (a1.length : Int)).bind fun r1 => (app r1 a1).bind fun x2 => (ref15_Right.g k_ x2).bind fun r2 => (if (!r2) = true then some (((⟨0, 0, 0, 0, 0, 0, 0, []⟩ : TSeg), 162)) else (cut a1 20 y1).bind fun x3 => (ref19_mss.g k_ x3).bind fun r3 => (if (!r3.2) = true then some (((⟨0, 0, 0, 0, 0, 0, 0, []⟩ : TSeg), 161)) else (cut a1 0 2).bind fun x4 => (ref19_get.g k_ x4).bind fun r4 => (cut a1 2 4).bind fun x5 => (ref19_get.g k_ x5).bind fun r5 => (cut a1 4 8).bind fun x6 => (ref19_get.g k_ x6).bind fun r6 => (cut a1 8 12).bind fun x7 => (ref19_get.g k_ x7).bind fun r7 => (idx a1 13).bind fun x8 => (cut a1 14 16).bind fun x9 => (ref19_get.g k_ x9).bind fun r8 => (cut a1 y1 (a1.length : Int)).bind fun x10 => (app ([] : List Int) x10).bind fun x11 => some (((⟨(⟨IntKind.i64.wrap r4, IntKind.i64.wrap r5, IntKind.u32.wrap r6, IntKind.u32.wrap r7, Int.tmod x8 64, IntKind.i64.wrap r8, r3.1, []⟩ : TSeg).Src, (⟨IntKind.i64.wrap r4, IntKind.i64.wrap r5, IntKind.u32.wrap r6, IntKind.u32.wrap r7, Int.tmod x8 64, IntKind.i64.wrap r8, r3.1, []⟩ : TSeg).Dst, (⟨IntKind.i64.wrap r4, IntKind.i64.wrap r5, IntKind.u32.wrap r6, IntKind.u32.wrap r7, Int.tmod x8 64, IntKind.i64.wrap r8, r3.1, []⟩ : TSeg).Seq, (⟨IntKind.i64.wrap r4, IntKind.i64.wrap r5, IntKind.u32.wrap r6, IntKind.u32.wrap r7, Int.tmod x8 64, IntKind.i64.wrap r8, r3.1, []⟩ : TSeg).Ack, (⟨IntKind.i64.wrap r4, IntKind.i64.wrap r5, IntKind.u32.wrap r6, IntKind.u32.wrap r7, Int.tmod x8 64, IntKind.i64.wrap r8, r3.1, []⟩ : TSeg).Flags, (⟨IntKind.i64.wrap r4, IntKind.i64.wrap r5, IntKind.u32.wrap r6, IntKind.u32.wrap r7, Int.tmod x8 64, IntKind.i64.wrap r8, r3.1, []⟩ : TSeg).Win, (⟨IntKind.i64.wrap r4, IntKind.i64.wrap r5, IntKind.u32.wrap r6, IntKind.u32.wrap r7, Int.tmod x8 64, IntKind.i64.wrap r8, r3.1, []⟩ : TSeg).Mss, x11⟩ : TSeg), 0))))))))
theorem ref19_Get.le (k_ : Nat) (a1 : List Int) (a2 : Int) (a3 : Int) : Le (ref19_Get.g k_ a1 a2 a3) (ref19_Get.f a1 a2 a3) := by
 unfold ref19_Get.g ref19_Get.f
 repeat' (first | with_reducible refine le_loop fun _ => ?_ | with_reducible refine le_bind ?_ fun _ => ?_ | with_reducible refine le_ite ?_ ?_ | with_reducible refine le_lt fun _ => ?_ | with_reducible refine le_elim (fun _ => ?_) (fun _ => ?_) _ | with_reducible apply ref15_Pseudo.le | with_reducible apply ref15_Right.le | with_reducible apply ref19_get.le | with_reducible apply ref19_mss.le | with_reducible exact le_refl _)
/-! drawbridge/drawbridgeref19.word -/
noncomputable def ref19_word.f (a1 : Int) : Option (Bool) :=
  ((if decide (0 ≤ a1) = true then lt (decide (a1 ≤ 65535)) fun y1 => some (y1) else some (false))).bind (fun j1 => some (j1))
set_option maxRecDepth 100000 in
set_option maxHeartbeats 4000000 in
theorem ref19_word.spc (a1 : Int) (ha1 : InR .i64 a1) (r : Bool) (H : ref19_word.f a1 = some r) : Spc Try.prog 27 [.int .i64 a1] [] [] (fun (s : Unit) => .bool r) (fun s => []) := by
 unfold ref19_word.f at H
 refine Spc.go Try.func27 rfl (by kernel_rfl) rfl rfl all_nil fun F a w h => ?_
 refine Go.seq ?_
 refine Go.reg ?_
 refine gs h (o_assign rfl) rfl fun _ _ _ h => ?_
 refine GoR.done ?_
 refine Go.seq ?_
 obtain ⟨o1, H, G1⟩ := bindE H
 refine g_cut (fun G => ∀ j1 (a : Act) (w : World), o1 = j1 → St Try.f27.ntmps F [(2, .bool j1)] [] a w → G a w) 1 ?_ fun J1 => ?_
 ·intro j1 a w ho_ h
  rw [ho_] at G1
  have H := G1
  rw [← som H]
  exact g_ret (vs := [.bool j1]) h Try.func27 ⟨rfl, trivial⟩ ⟨(), rfl, (h.mem.pick [] (by decide) rfl)⟩
 refine Go.reg ?_
 refine gs h (o_move rfl) rfl fun _ _ _ h => ?_
 refine gs h (o_bin rfl rfl rfl) rfl fun _ _ _ h => ?_
 refine gs h (o_move rfl) rfl fun _ _ _ h => ?_
 by_cases c1 : decide (0 ≤ a1) = true
 ·have H := ifT c1 H
  refine gg h rfl rfl c1 (o_move rfl) rfl fun _ _ _ h => ?_
  refine gg h rfl rfl c1 (o_bin rfl rfl rfl) rfl fun _ _ _ h => ?_
  refine gs h (o_pickT rfl rfl c1) rfl fun _ _ _ h => ?_
  obtain ⟨y1, ey1, H⟩ := ltE H
  refine gs h (o_assign' rfl (congrArg Value.bool ey1)) rfl fun _ _ _ h => ?_
  refine GoR.done ?_
  exact J1 y1 _ _ (som H).symm (h.wk (by rfl) [] (by decide) (by rfl))
 ·have H := ifF c1 H
  refine gk h rfl rfl (nb_f c1) rfl fun _ h => ?_
  refine gk h rfl rfl (nb_f c1) rfl fun _ h => ?_
  refine gs h (o_pickF rfl rfl c1) rfl fun _ _ _ h => ?_
  refine gs h (o_assign rfl) rfl fun _ _ _ h => ?_
  refine GoR.done ?_
  exact J1 false _ _ (som H).symm (h.wk (by rfl) [] (by decide) (by rfl))
def ref19_word.g (k_ : Nat) (a1 : Int) : Option (Bool) :=
  ((if decide (0 ≤ a1) = true then lt (decide (a1 ≤ 65535)) fun y1 => some (y1) else some (false))).bind (fun j1 => some (j1))
theorem ref19_word.le (k_ : Nat) (a1 : Int) : Le (ref19_word.g k_ a1) (ref19_word.f a1) := by
 unfold ref19_word.g ref19_word.f
 repeat' (first | with_reducible refine le_loop fun _ => ?_ | with_reducible refine le_bind ?_ fun _ => ?_ | with_reducible refine le_ite ?_ ?_ | with_reducible refine le_lt fun _ => ?_ | with_reducible refine le_elim (fun _ => ?_) (fun _ => ?_) _ | with_reducible exact le_refl _)
/-! drawbridge/drawbridgeref19.put -/
noncomputable def ref19_put.f (a1 : Int) (a2 : Int) : Option ((List Int)) :=
  (ref01_Put.f a1 a2 true).bind fun r1 => some (r1)
set_option maxRecDepth 100000 in
set_option maxHeartbeats 4000000 in
theorem ref19_put.spc (a1 : Int) (ha1 : InR .u64 a1) (a2 : Int) (ha2 : InR .i64 a2) (r : (List Int)) (H : ref19_put.f a1 a2 = some r) : Spc Try.prog 28 [.int .u64 a1, .int .i64 a2] [] [] (fun (s : Value) => s) (fun s => [Val (Kd.osl (Kd.int .u8)) s r]) := by
 unfold ref19_put.f at H
 refine Spc.go Try.func28 rfl (by kernel_rfl) rfl rfl all_nil fun F a w h => ?_
 refine Go.seq ?_
 refine Go.reg ?_
 refine gs h (o_assign rfl) rfl fun _ _ _ h => ?_
 refine GoR.done ?_
 refine Go.seq ?_
 refine Go.reg ?_
 refine gs h (o_move rfl) rfl fun _ _ _ h => ?_
 refine gs h (o_move rfl) rfl fun _ _ _ h => ?_
 obtain ⟨r1, er1, H⟩ := bindE H
 refine gs h (o_call (ref01_Put.spc a1 ha1 a2 ha2 true r1 er1) rfl [] [] (by decide) rfl rfl) rfl fun v1 _ _ h => ?_
 refine gs h (o_assign rfl) rfl fun _ _ _ h => ?_
 refine GoR.done ?_
 rw [← som H]
 exact g_ret (vs := [v1]) h Try.func28 ⟨rfl, trivial⟩ ⟨v1, rfl, (h.mem.pick [0] (by decide) rfl)⟩
def ref19_put.g (k_ : Nat) (a1 : Int) (a2 : Int) : Option ((List Int)) :=
  (ref01_Put.g k_ a1 a2 true).bind fun r1 => some (r1)
theorem ref19_put.le (k_ : Nat) (a1 : Int) (a2 : Int) : Le (ref19_put.g k_ a1 a2) (ref19_put.f a1 a2) := by
 unfold ref19_put.g ref19_put.f
 repeat' (first | with_reducible refine le_loop fun _ => ?_ | with_reducible refine le_bind ?_ fun _ => ?_ | with_reducible refine le_ite ?_ ?_ | with_reducible refine le_lt fun _ => ?_ | with_reducible refine le_elim (fun _ => ?_) (fun _ => ?_) _ | with_reducible apply ref01_Put.le | with_reducible exact le_refl _)
end Go.Proofs.Ythjaancddmecpaa.S
