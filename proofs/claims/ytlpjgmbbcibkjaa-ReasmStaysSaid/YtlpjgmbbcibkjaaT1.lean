/- Contracts, printed by a program of this session. -/
import Derived.Test.YtlpjgmbbcibkjaaT0
namespace Go.Proofs.Ytlpjgmbbcibkjaa.S
open Go Go.SL Go.RowKit
set_option linter.unusedVariables false
set_option linter.unusedSimpArgs false
/-! drawbridge/drawbridgelaw24.small -/
noncomputable def law24_small.f (a1 : List TPiece) (a2 : TIp) : Option (Bool) :=
  ((if decide (20 < (a1.length : Int)) = true then some (true) else some (decide (70000 < (a2.Data.length : Int))))).bind (fun j1 => (if j1 = true then some (false) else (loop (fun s1 => (if decide (s1 < (a1.length : Int)) = true then ((idx a1 s1).bind fun x1 => (if decide (9000 < (x1.Data.length : Int)) = true then some (true) else (idx a1 s1).bind fun x2 => some (decide (9000 < (x2.Have.length : Int))))).bind (fun j2 => (if j2 = true then some (.inr (.inr (false))) else lt (IntKind.i64.wrap (s1 + 1)) fun y1 => some (.inl y1))) else some (.inr (.inl (()))))) 0).bind (Sum.elim (fun j3 => some (true)) (fun z_ => some (z_)))))
set_option maxRecDepth 100000 in
set_option maxHeartbeats 4000000 in
theorem law24_small.spc (v1 : Value) (a1 : List TPiece) (v2 : Value) (a2 : TIp) (r : Bool) (H : law24_small.f a1 a2 = some r) : Spc Try.prog 11 [v1, v2] [Val (Kd.sl KPiece) v1 a1, Val KIp v2 a2] [] (fun (s : Unit) => .bool r) (fun s => []) := by
 unfold law24_small.f at H
 refine Spc.go Try.func11 rfl (by kernel_rfl) rfl rfl (all_cons (Val.per Per_sl) (all_cons (Val.per PIp) all_nil)) fun F a w h => ?_
 refine Go.seq ?_
 refine Go.reg ?_
 refine gs h (o_box (K := KIp) rfl (pv_at PIp 1 rfl)) rfl fun b1 _ _ h => ?_
 refine gs h (o_assign rfl) rfl fun _ _ _ h => ?_
 refine GoR.done ?_
 refine Go.seq ?_
 refine Go.seq ?_
 obtain ⟨o1, H, G1⟩ := bindE H
 refine g_cut (fun G => ∀ j1 (a : Act) (w : World), o1 = j1 → St Try.f11.ntmps F [(0, v1), (14, .bool j1)] [Val (Kd.sl KPiece) v1 a1, Fld KIp b1 0 a2] a w → G a w) 1 ?_ fun J1 => ?_
 ·intro j1 a w ho_ h
  rw [ho_] at G1
  have H := G1
  by_cases c2 : j1 = true
  ·have H := ifT c2 H
   refine g_t h rfl c2 ?_
   refine Go.seq ?_
   refine Go.reg ?_
   refine gs h (o_assign rfl) rfl fun _ _ _ h => ?_
   refine GoR.done ?_
   rw [← som H]
   exact g_ret (vs := [.bool false]) h Try.func11 ⟨rfl, trivial⟩ ⟨(), rfl, (h.mem.pick [] (by decide) rfl)⟩
  ·have H := ifF c2 H
   refine g_f h rfl c2 ?_
   refine Go.skip ?_
   refine Go.seq ?_
   refine Go.seq ?_
   refine Go.reg ?_
   refine gs h (o_assign rfl) rfl fun _ _ _ h => ?_
   refine GoR.done ?_
   refine Go.block ?_
   obtain ⟨o2, hl, G2⟩ := bindE H
   refine g_cut (fun G => ∀ j3 (a : Act) (w : World), o2 = .inl (j3) → St Try.f11.ntmps F [] [Fld KIp b1 0 a2] a w → G a w) 2 ?_ fun J3 => ?_
   ·intro j3 a w ho_ h
    rw [ho_] at G2
    have H := G2
    refine Go.seq ?_
    refine Go.reg ?_
    refine gs h (o_assign rfl) rfl fun _ _ _ h => ?_
    refine GoR.done ?_
    rw [← som H]
    exact g_ret (vs := [.bool true]) h Try.func11 ⟨rfl, trivial⟩ ⟨(), rfl, (h.mem.pick [] (by decide) rfl)⟩
   refine g_loop (fun s1 G => ∀  (a : Act) (w : World), InR .i64 s1 → St Try.f11.ntmps F [(0, v1), (5, .int .i64 s1)] [Val (Kd.sl KPiece) v1 a1, Fld KIp b1 0 a2] a w → G a w) hl (fun s1 p1 H i1 => ?_) fun I_ => ?_
   ·intro  a w g3 h
    refine Go.seq ?_
    refine Go.seq ?_
    refine Go.reg ?_
    refine gs h (o_move rfl) rfl fun _ _ _ h => ?_
    refine gs h (o_move rfl) rfl fun _ _ _ h => ?_
    have g4 := (len_at 0 rfl h.mem)
    refine gs h (o_ln rfl (rd_at 0 rfl) t_v23) rfl fun _ _ _ h => ?_
    refine gs h (o_bin rfl rfl rfl) rfl fun _ _ _ h => ?_
    refine GoR.done ?_
    by_cases c3 : decide (s1 < (a1.length : Int)) = true
    ·have H := ifT c3 H
     refine g_t h rfl c3 ?_
     refine Go.skip ?_
     refine Go.seq ?_
     refine Go.block ?_
     refine Go.seq ?_
     obtain ⟨o3, H, G3⟩ := bindE H
     refine g_cut (fun G => ∀ j2 (a : Act) (w : World), o3 = j2 → St Try.f11.ntmps F [(0, v1), (5, .int .i64 s1), (36, .bool j2)] [Val (Kd.sl KPiece) v1 a1, Fld KIp b1 0 a2] a w → G a w) 1 ?_ fun J2 => ?_
     ·intro j2 a w ho_ h
      rw [ho_] at G3
      have H := G3
      by_cases c5 : j2 = true
      ·have H := ifT c5 H
       refine g_t h rfl c5 ?_
       refine Go.seq ?_
       refine Go.reg ?_
       refine gs h (o_assign rfl) rfl fun _ _ _ h => ?_
       refine GoR.done ?_
       have e_ := som H; subst e_
       rw [← nx_out i1] at G2
       have H := G2
       rw [← som H]
       exact g_ret (vs := [.bool false]) h Try.func11 ⟨rfl, trivial⟩ ⟨(), rfl, (h.mem.pick [] (by decide) rfl)⟩
      ·have H := ifF c5 H
       refine g_f h rfl c5 ?_
       refine Go.skip ?_
       refine Go.inBlock ?_
       refine Go.reg ?_
       refine gs h (o_move rfl) rfl fun _ _ _ h => ?_
       refine gs h (o_bin rfl rfl rfl) rfl fun _ _ _ h => ?_
       obtain ⟨y1, ey1, H⟩ := ltE H
       refine gs h (o_assign' rfl (congrArg (fun z => Value.int .i64 z) ey1)) rfl fun _ _ _ h => ?_
       refine GoR.done ?_
       have e_ := som H; subst e_
       exact Go.inLoop (nx_in i1 _ _ (ey1 ▸ (wrap_in _ _)) (h.wk (by rfl) [0, 1] (by decide) (by rfl)))
     refine Go.reg ?_
     refine gs h (o_move rfl) rfl fun _ _ _ h => ?_
     refine gs h (o_move rfl) rfl fun _ _ _ h => ?_
     obtain ⟨x1, ex1, H⟩ := bindE H
     refine gs h (o_ix rfl rfl (rd_at 0 rfl) ex1 t_v23) rfl fun _ _ _ h => ?_
     refine gs h (o_fae (k' := s1.toNat * Kd.n KPiece + 5) rfl (rd_at 0 rfl) ex1 (by decide) t_f50_5 rfl rfl) rfl fun _ _ _ h => ?_
     refine gs h (o_lsv rfl (rd_at 0 rfl) ex1 sPiece_Data t_y25 (by decide)) rfl fun v4 _ _ h => ?_
     have g5 := (len_at 0 rfl h.mem)
     refine gs h (o_ln rfl (rd_at 0 rfl) t_v25) rfl fun _ _ _ h => ?_
     refine gs h (o_bin rfl rfl rfl) rfl fun _ _ _ h => ?_
     refine gs h (o_move rfl) rfl fun _ _ _ h => ?_
     by_cases c4 : decide (9000 < (x1.Data.length : Int)) = true
     ·have H := ifT c4 H
      refine gk h rfl rfl (nb_t c4) rfl fun _ h => ?_
      refine gk h rfl rfl (nb_t c4) rfl fun _ h => ?_
      refine gk h rfl rfl (nb_t c4) rfl fun _ h => ?_
      refine gk h rfl rfl (nb_t c4) rfl fun _ h => ?_
      refine gk h rfl rfl (nb_t c4) rfl fun _ h => ?_
      refine gk h rfl rfl (nb_t c4) rfl fun _ h => ?_
      refine gk h rfl rfl (nb_t c4) rfl fun _ h => ?_
      refine gs h (o_pickT rfl rfl c4) rfl fun _ _ _ h => ?_
      refine GoR.done ?_
      exact J2 true _ _ (som H).symm (h.wk (by rfl) [1, 2] (by decide) (by rfl))
     ·have H := ifF c4 H
      refine gg h rfl rfl (nbF c4) (o_move rfl) rfl fun _ _ _ h => ?_
      refine gg h rfl rfl (nbF c4) (o_move rfl) rfl fun _ _ _ h => ?_
      obtain ⟨x2, ex2, H⟩ := bindE H
      refine gg h rfl rfl (nbF c4) (o_ix rfl rfl (rd_at 1 rfl) ex2 t_v23) rfl fun _ _ _ h => ?_
      refine gg h rfl rfl (nbF c4) (o_fae (k' := s1.toNat * Kd.n KPiece + 6) rfl (rd_at 1 rfl) ex2 (by decide) t_f50_6 rfl rfl) rfl fun _ _ _ h => ?_
      refine gg h rfl rfl (nbF c4) (o_lsv rfl (rd_at 1 rfl) ex2 sPiece_Have t_y38 (by decide)) rfl fun v5 _ _ h => ?_
      have g6 := (len_at 0 rfl h.mem)
      refine gg h rfl rfl (nbF c4) (o_ln rfl (rd_at 0 rfl) t_v38) rfl fun _ _ _ h => ?_
      refine gg h rfl rfl (nbF c4) (o_bin rfl rfl rfl) rfl fun _ _ _ h => ?_
      refine gs h (o_pickF rfl rfl c4) rfl fun _ _ _ h => ?_
      refine GoR.done ?_
      exact J2 (decide (9000 < (x2.Have.length : Int))) _ _ (som H).symm (h.wk (by rfl) [2, 3] (by decide) (by rfl))
    ·have H := ifF c3 H
     refine g_f h rfl c3 ?_
     refine Go.exit rfl ?_
     have e_ := som H; subst e_
     exact J3 () _ _ (nx_out i1).symm (h.wk (by rfl) [1] (by decide) (by rfl))
   ·exact I_ _ _ (show InR .i64 0 by decide) (h.wk (by rfl) [0, 1] (by decide) (by rfl))
 refine Go.reg ?_
 refine gs h (o_move rfl) rfl fun _ _ _ h => ?_
 have g1 := (len_at 1 rfl h.mem)
 refine gs h (o_ln rfl (rd_at 1 rfl) t_v23) rfl fun _ _ _ h => ?_
 refine gs h (o_bin rfl rfl rfl) rfl fun _ _ _ h => ?_
 refine gs h (o_move rfl) rfl fun _ _ _ h => ?_
 by_cases c1 : decide (20 < (a1.length : Int)) = true
 ·have H := ifT c1 H
  refine gk h rfl rfl (nb_t c1) rfl fun _ h => ?_
  refine gk h rfl rfl (nb_t c1) rfl fun _ h => ?_
  refine gk h rfl rfl (nb_t c1) rfl fun _ h => ?_
  refine gk h rfl rfl (nb_t c1) rfl fun _ h => ?_
  refine gs h (o_pickT rfl rfl c1) rfl fun _ _ _ h => ?_
  refine GoR.done ?_
  exact J1 true _ _ (som H).symm (h.wk (by rfl) [1, 0] (by decide) (by rfl))
 ·have H := ifF c1 H
  refine gg h rfl rfl (nbF c1) (o_fa rfl t_f27_9 rfl rfl) rfl fun _ _ _ h => ?_
  refine gg h rfl rfl (nbF c1) (o_lfv 0 rfl rfl sIp_Data rfl Per_sl t_y25) rfl fun v3 _ _ h => ?_
  have g2 := (len_at 0 rfl h.mem)
  refine gg h rfl rfl (nbF c1) (o_ln rfl (rd_at 0 rfl) t_v25) rfl fun _ _ _ h => ?_
  refine gg h rfl rfl (nbF c1) (o_bin rfl rfl rfl) rfl fun _ _ _ h => ?_
  refine gs h (o_pickF rfl rfl c1) rfl fun _ _ _ h => ?_
  refine GoR.done ?_
  exact J1 (decide (70000 < (a2.Data.length : Int))) _ _ (som H).symm (h.wk (by rfl) [2, 1] (by decide) (by rfl))
def law24_small.g (k_ : Nat) (a1 : List TPiece) (a2 : TIp) : Option (Bool) :=
  ((if decide (20 < (a1.length : Int)) = true then some (true) else some (decide (70000 < (a2.Data.length : Int))))).bind (fun j1 => (if j1 = true then some (false) else (loopK k_ (fun s1 => (if decide (s1 < (a1.length : Int)) = true then ((idx a1 s1).bind fun x1 => (if decide (9000 < (x1.Data.length : Int)) = true then some (true) else (idx a1 s1).bind fun x2 => some (decide (9000 < (x2.Have.length : Int))))).bind (fun j2 => (if j2 = true then some (.inr (.inr (false))) else lt (IntKind.i64.wrap (s1 + 1)) fun y1 => some (.inl y1))) else some (.inr (.inl (()))))) 0).bind (Sum.elim (fun j3 => some (true)) (fun z_ => some (z_)))))
theorem law24_small.le (k_ : Nat) (a1 : List TPiece) (a2 : TIp) : Le (law24_small.g k_ a1 a2) (law24_small.f a1 a2) := by
 unfold law24_small.g law24_small.f
 repeat' (first | with_reducible refine le_loop fun _ => ?_ | with_reducible refine le_bind ?_ fun _ => ?_ | with_reducible refine le_ite ?_ ?_ | with_reducible refine le_lt fun _ => ?_ | with_reducible refine le_elim (fun _ => ?_) (fun _ => ?_) _ | with_reducible exact le_refl _)
/-! drawbridge/reasm.right -/
noncomputable def reasm_right.f (a1 : TPiece) : Option (Bool) :=
  ((if (!decide ((ishr .i64 a1.Id 16) = 0)) = true then some (true) else (if (!decide ((ishr .i64 a1.Proto 8) = 0)) = true then some (true) else (if decide (a1.Until < 0) = true then some (true) else (if decide (1099511627776 < a1.Until) = true then some (true) else (if (!decide ((a1.Have.length : Int) = (a1.Data.length : Int))) = true then some (true) else some (decide (8192 < (a1.Data.length : Int))))))))).bind (fun j1 => (if j1 = true then some (false) else ((if decide (a1.Total = (-1)) = true then some (true) else (if decide ((a1.Data.length : Int) ≤ a1.Total) = true then lt (decide (a1.Total ≤ 8192)) fun y1 => some (y1) else some (false)))).bind (fun j2 => some (j2))))
set_option maxRecDepth 100000 in
set_option maxHeartbeats 4000000 in
theorem reasm_right.spc (v1 : Value) (a1 : TPiece) (r : Bool) (H : reasm_right.f a1 = some r) : Spc Try.prog 25 [v1] [Val KPiece v1 a1] [] (fun (s : Unit) => .bool r) (fun s => []) := by
 unfold reasm_right.f at H
 refine Spc.go Try.func25 rfl (by kernel_rfl) rfl rfl (all_cons (Val.per PPiece) all_nil) fun F a w h => ?_
 refine Go.seq ?_
 refine Go.reg ?_
 refine gs h (o_box (K := KPiece) rfl (pv_at PPiece 0 rfl)) rfl fun b1 _ _ h => ?_
 refine gs h (o_assign rfl) rfl fun _ _ _ h => ?_
 refine GoR.done ?_
 refine Go.seq ?_
 refine Go.seq ?_
 obtain ⟨o1, H, G1⟩ := bindE H
 refine g_cut (fun G => ∀ j1 (a : Act) (w : World), o1 = j1 → St Try.f25.ntmps F [(1, .pointer (some ⟨b1, 0, none⟩)), (37, .bool j1)] [Fld KPiece b1 0 a1] a w → G a w) 1 ?_ fun J1 => ?_
 ·intro j1 a w ho_ h
  rw [ho_] at G1
  have H := G1
  by_cases c6 : j1 = true
  ·have H := ifT c6 H
   refine g_t h rfl c6 ?_
   refine Go.seq ?_
   refine Go.reg ?_
   refine gs h (o_assign rfl) rfl fun _ _ _ h => ?_
   refine GoR.done ?_
   rw [← som H]
   exact g_ret (vs := [.bool false]) h Try.func25 ⟨rfl, trivial⟩ ⟨(), rfl, (h.mem.pick [] (by decide) rfl)⟩
  ·have H := ifF c6 H
   refine g_f h rfl c6 ?_
   refine Go.skip ?_
   refine Go.seq ?_
   obtain ⟨o2, H, G2⟩ := bindE H
   refine g_cut (fun G => ∀ j2 (a : Act) (w : World), o2 = j2 → St Try.f25.ntmps F [(2, .bool j2)] [Fld KPiece b1 0 a1] a w → G a w) 1 ?_ fun J2 => ?_
   ·intro j2 a w ho_ h
    rw [ho_] at G2
    have H := G2
    rw [← som H]
    exact g_ret (vs := [.bool j2]) h Try.func25 ⟨rfl, trivial⟩ ⟨(), rfl, (h.mem.pick [] (by decide) rfl)⟩
   refine Go.reg ?_
   refine gs h (o_fa rfl t_f50_7 rfl rfl) rfl fun _ _ _ h => ?_
   have g8 := (in2 (fd_sub sPiece_Total 0 rfl h.mem))
   refine gs h (o_lfx 0 rfl rfl sPiece_Total rfl X_int t_y3) rfl fun _ _ _ h => ?_
   refine gs h (o_bin rfl rfl rfl) rfl fun _ _ _ h => ?_
   refine gs h (o_move rfl) rfl fun _ _ _ h => ?_
   by_cases c7 : decide (a1.Total = (-1)) = true
   ·have H := ifT c7 H
    refine gk h rfl rfl (nb_t c7) rfl fun _ h => ?_
    refine gk h rfl rfl (nb_t c7) rfl fun _ h => ?_
    refine gk h rfl rfl (nb_t c7) rfl fun _ h => ?_
    refine gk h rfl rfl (nb_t c7) rfl fun _ h => ?_
    refine gk h rfl rfl (nb_t c7) rfl fun _ h => ?_
    refine gk h rfl rfl (nb_t c7) rfl fun _ h => ?_
    refine gk h rfl rfl (nb_t c7) rfl fun _ h => ?_
    refine gk h rfl rfl rfl rfl fun _ h => ?_
    refine gk h rfl rfl rfl rfl fun _ h => ?_
    refine gk h rfl rfl rfl rfl fun _ h => ?_
    refine gk h rfl rfl (nb_t c7) rfl fun _ h => ?_
    refine gs h (o_pickT rfl rfl c7) rfl fun _ _ _ h => ?_
    refine gs h (o_assign rfl) rfl fun _ _ _ h => ?_
    refine GoR.done ?_
    exact J2 true _ _ (som H).symm (h.wk (by rfl) [0] (by decide) (by rfl))
   ·have H := ifF c7 H
    refine gg h rfl rfl (nbF c7) (o_fa rfl t_f50_7 rfl rfl) rfl fun _ _ _ h => ?_
    have g9 := (in2 (fd_sub sPiece_Total 0 rfl h.mem))
    refine gg h rfl rfl (nbF c7) (o_lfx 0 rfl rfl sPiece_Total rfl X_int t_y3) rfl fun _ _ _ h => ?_
    refine gg h rfl rfl (nbF c7) (o_fa rfl t_f50_5 rfl rfl) rfl fun _ _ _ h => ?_
    refine gg h rfl rfl (nbF c7) (o_lfv 0 rfl rfl sPiece_Data rfl Per_sl t_y25) rfl fun v5 _ _ h => ?_
    have g10 := (len_at 0 rfl h.mem)
    refine gg h rfl rfl (nbF c7) (o_ln rfl (rd_at 0 rfl) t_v25) rfl fun _ _ _ h => ?_
    refine gg h rfl rfl (nbF c7) (o_bin rfl rfl rfl) rfl fun _ _ _ h => ?_
    refine gg h rfl rfl (nbF c7) (o_move rfl) rfl fun _ _ _ h => ?_
    by_cases c8 : decide ((a1.Data.length : Int) ≤ a1.Total) = true
    ·have H := ifT c8 H
     refine gg h rfl rfl c8 (o_fa rfl t_f50_7 rfl rfl) rfl fun _ _ _ h => ?_
     have g11 := (in2 (fd_sub sPiece_Total 1 rfl h.mem))
     refine gg h rfl rfl c8 (o_lfx 1 rfl rfl sPiece_Total rfl X_int t_y3) rfl fun _ _ _ h => ?_
     refine gg h rfl rfl c8 (o_bin rfl rfl rfl) rfl fun _ _ _ h => ?_
     refine gg h rfl rfl (nbF c7) (o_pickT rfl rfl c8) rfl fun _ _ _ h => ?_
     refine gs h (o_pickF rfl rfl c7) rfl fun _ _ _ h => ?_
     obtain ⟨y1, ey1, H⟩ := ltE H
     refine gs h (o_assign' rfl (congrArg Value.bool ey1)) rfl fun _ _ _ h => ?_
     refine GoR.done ?_
     exact J2 y1 _ _ (som H).symm (h.wk (by rfl) [1] (by decide) (by rfl))
    ·have H := ifF c8 H
     refine gk h rfl rfl (nb_f c8) rfl fun _ h => ?_
     refine gk h rfl rfl (nb_f c8) rfl fun _ h => ?_
     refine gk h rfl rfl (nb_f c8) rfl fun _ h => ?_
     refine gg h rfl rfl (nbF c7) (o_pickF rfl rfl c8) rfl fun _ _ _ h => ?_
     refine gs h (o_pickF rfl rfl c7) rfl fun _ _ _ h => ?_
     refine gs h (o_assign rfl) rfl fun _ _ _ h => ?_
     refine GoR.done ?_
     exact J2 false _ _ (som H).symm (h.wk (by rfl) [1] (by decide) (by rfl))
 refine Go.reg ?_
 refine gs h (o_fa rfl t_f50_2 rfl rfl) rfl fun _ _ _ h => ?_
 have g1 := (in2 (fd_sub sPiece_Id 0 rfl h.mem))
 refine gs h (o_lfx 0 rfl rfl sPiece_Id rfl X_int t_y3) rfl fun _ _ _ h => ?_
 refine gs h (o_shr rfl rfl (show (0 : Int) ≤ 16 by decide)) rfl fun _ _ _ h => ?_
 refine gs h (o_bin rfl rfl rfl) rfl fun _ _ _ h => ?_
 refine gs h (o_move rfl) rfl fun _ _ _ h => ?_
 by_cases c1 : (!decide ((ishr .i64 a1.Id 16) = 0)) = true
 ·have H := ifT c1 H
  refine gk h rfl rfl (nb_t c1) rfl fun _ h => ?_
  refine gk h rfl rfl (nb_t c1) rfl fun _ h => ?_
  refine gk h rfl rfl (nb_t c1) rfl fun _ h => ?_
  refine gk h rfl rfl (nb_t c1) rfl fun _ h => ?_
  refine gs h (o_pickT rfl rfl c1) rfl fun _ _ _ h => ?_
  refine gs h (o_move rfl) rfl fun _ _ _ h => ?_
  refine gk h rfl rfl (nb_t rfl) rfl fun _ h => ?_
  refine gk h rfl rfl (nb_t rfl) rfl fun _ h => ?_
  refine gk h rfl rfl (nb_t rfl) rfl fun _ h => ?_
  refine gs h (o_pickT rfl rfl rfl) rfl fun _ _ _ h => ?_
  refine gs h (o_move rfl) rfl fun _ _ _ h => ?_
  refine gk h rfl rfl (nb_t rfl) rfl fun _ h => ?_
  refine gk h rfl rfl (nb_t rfl) rfl fun _ h => ?_
  refine gk h rfl rfl (nb_t rfl) rfl fun _ h => ?_
  refine gs h (o_pickT rfl rfl rfl) rfl fun _ _ _ h => ?_
  refine gs h (o_move rfl) rfl fun _ _ _ h => ?_
  refine gk h rfl rfl (nb_t rfl) rfl fun _ h => ?_
  refine gk h rfl rfl (nb_t rfl) rfl fun _ h => ?_
  refine gk h rfl rfl (nb_t rfl) rfl fun _ h => ?_
  refine gk h rfl rfl (nb_t rfl) rfl fun _ h => ?_
  refine gk h rfl rfl (nb_t rfl) rfl fun _ h => ?_
  refine gk h rfl rfl (nb_t rfl) rfl fun _ h => ?_
  refine gk h rfl rfl (nb_t rfl) rfl fun _ h => ?_
  refine gs h (o_pickT rfl rfl rfl) rfl fun _ _ _ h => ?_
  refine gs h (o_move rfl) rfl fun _ _ _ h => ?_
  refine gk h rfl rfl (nb_t rfl) rfl fun _ h => ?_
  refine gk h rfl rfl (nb_t rfl) rfl fun _ h => ?_
  refine gk h rfl rfl (nb_t rfl) rfl fun _ h => ?_
  refine gk h rfl rfl (nb_t rfl) rfl fun _ h => ?_
  refine gs h (o_pickT rfl rfl rfl) rfl fun _ _ _ h => ?_
  refine GoR.done ?_
  exact J1 true _ _ (som H).symm (h.wk (by rfl) [0] (by decide) (by rfl))
 ·have H := ifF c1 H
  refine gg h rfl rfl (nbF c1) (o_fa rfl t_f50_3 rfl rfl) rfl fun _ _ _ h => ?_
  have g2 := (in2 (fd_sub sPiece_Proto 0 rfl h.mem))
  refine gg h rfl rfl (nbF c1) (o_lfx 0 rfl rfl sPiece_Proto rfl X_int t_y3) rfl fun _ _ _ h => ?_
  refine gg h rfl rfl (nbF c1) (o_shr rfl rfl (show (0 : Int) ≤ 8 by decide)) rfl fun _ _ _ h => ?_
  refine gg h rfl rfl (nbF c1) (o_bin rfl rfl rfl) rfl fun _ _ _ h => ?_
  refine gs h (o_pickF rfl rfl c1) rfl fun _ _ _ h => ?_
  refine gs h (o_move rfl) rfl fun _ _ _ h => ?_
  by_cases c2 : (!decide ((ishr .i64 a1.Proto 8) = 0)) = true
  ·have H := ifT c2 H
   refine gk h rfl rfl (nb_t c2) rfl fun _ h => ?_
   refine gk h rfl rfl (nb_t c2) rfl fun _ h => ?_
   refine gk h rfl rfl (nb_t c2) rfl fun _ h => ?_
   refine gs h (o_pickT rfl rfl c2) rfl fun _ _ _ h => ?_
   refine gs h (o_move rfl) rfl fun _ _ _ h => ?_
   refine gk h rfl rfl (nb_t rfl) rfl fun _ h => ?_
   refine gk h rfl rfl (nb_t rfl) rfl fun _ h => ?_
   refine gk h rfl rfl (nb_t rfl) rfl fun _ h => ?_
   refine gs h (o_pickT rfl rfl rfl) rfl fun _ _ _ h => ?_
   refine gs h (o_move rfl) rfl fun _ _ _ h => ?_
   refine gk h rfl rfl (nb_t rfl) rfl fun _ h => ?_
   refine gk h rfl rfl (nb_t rfl) rfl fun _ h => ?_
   refine gk h rfl rfl (nb_t rfl) rfl fun _ h => ?_
   refine gk h rfl rfl (nb_t rfl) rfl fun _ h => ?_
   refine gk h rfl rfl (nb_t rfl) rfl fun _ h => ?_
   refine gk h rfl rfl (nb_t rfl) rfl fun _ h => ?_
   refine gk h rfl rfl (nb_t rfl) rfl fun _ h => ?_
   refine gs h (o_pickT rfl rfl rfl) rfl fun _ _ _ h => ?_
   refine gs h (o_move rfl) rfl fun _ _ _ h => ?_
   refine gk h rfl rfl (nb_t rfl) rfl fun _ h => ?_
   refine gk h rfl rfl (nb_t rfl) rfl fun _ h => ?_
   refine gk h rfl rfl (nb_t rfl) rfl fun _ h => ?_
   refine gk h rfl rfl (nb_t rfl) rfl fun _ h => ?_
   refine gs h (o_pickT rfl rfl rfl) rfl fun _ _ _ h => ?_
   refine GoR.done ?_
   exact J1 true _ _ (som H).symm (h.wk (by rfl) [0] (by decide) (by rfl))
  ·have H := ifF c2 H
   refine gg h rfl rfl (nbF c2) (o_fa rfl t_f50_4 rfl rfl) rfl fun _ _ _ h => ?_
   have g3 := (in2 (fd_sub sPiece_Until 0 rfl h.mem))
   refine gg h rfl rfl (nbF c2) (o_lfx 0 rfl rfl sPiece_Until rfl X_int t_y3) rfl fun _ _ _ h => ?_
   refine gg h rfl rfl (nbF c2) (o_bin rfl rfl rfl) rfl fun _ _ _ h => ?_
   refine gs h (o_pickF rfl rfl c2) rfl fun _ _ _ h => ?_
   refine gs h (o_move rfl) rfl fun _ _ _ h => ?_
   by_cases c3 : decide (a1.Until < 0) = true
   ·have H := ifT c3 H
    refine gk h rfl rfl (nb_t c3) rfl fun _ h => ?_
    refine gk h rfl rfl (nb_t c3) rfl fun _ h => ?_
    refine gk h rfl rfl (nb_t c3) rfl fun _ h => ?_
    refine gs h (o_pickT rfl rfl c3) rfl fun _ _ _ h => ?_
    refine gs h (o_move rfl) rfl fun _ _ _ h => ?_
    refine gk h rfl rfl (nb_t rfl) rfl fun _ h => ?_
    refine gk h rfl rfl (nb_t rfl) rfl fun _ h => ?_
    refine gk h rfl rfl (nb_t rfl) rfl fun _ h => ?_
    refine gk h rfl rfl (nb_t rfl) rfl fun _ h => ?_
    refine gk h rfl rfl (nb_t rfl) rfl fun _ h => ?_
    refine gk h rfl rfl (nb_t rfl) rfl fun _ h => ?_
    refine gk h rfl rfl (nb_t rfl) rfl fun _ h => ?_
    refine gs h (o_pickT rfl rfl rfl) rfl fun _ _ _ h => ?_
    refine gs h (o_move rfl) rfl fun _ _ _ h => ?_
    refine gk h rfl rfl (nb_t rfl) rfl fun _ h => ?_
    refine gk h rfl rfl (nb_t rfl) rfl fun _ h => ?_
    refine gk h rfl rfl (nb_t rfl) rfl fun _ h => ?_
    refine gk h rfl rfl (nb_t rfl) rfl fun _ h => ?_
    refine gs h (o_pickT rfl rfl rfl) rfl fun _ _ _ h => ?_
    refine GoR.done ?_
    exact J1 true _ _ (som H).symm (h.wk (by rfl) [0] (by decide) (by rfl))
   ·have H := ifF c3 H
    refine gg h rfl rfl (nbF c3) (o_fa rfl t_f50_4 rfl rfl) rfl fun _ _ _ h => ?_
    have g4 := (in2 (fd_sub sPiece_Until 0 rfl h.mem))
    refine gg h rfl rfl (nbF c3) (o_lfx 0 rfl rfl sPiece_Until rfl X_int t_y3) rfl fun _ _ _ h => ?_
    refine gg h rfl rfl (nbF c3) (o_bin rfl rfl rfl) rfl fun _ _ _ h => ?_
    refine gs h (o_pickF rfl rfl c3) rfl fun _ _ _ h => ?_
    refine gs h (o_move rfl) rfl fun _ _ _ h => ?_
    by_cases c4 : decide (1099511627776 < a1.Until) = true
    ·have H := ifT c4 H
     refine gk h rfl rfl (nb_t c4) rfl fun _ h => ?_
     refine gk h rfl rfl (nb_t c4) rfl fun _ h => ?_
     refine gk h rfl rfl (nb_t c4) rfl fun _ h => ?_
     refine gk h rfl rfl (nb_t c4) rfl fun _ h => ?_
     refine gk h rfl rfl (nb_t c4) rfl fun _ h => ?_
     refine gk h rfl rfl (nb_t c4) rfl fun _ h => ?_
     refine gk h rfl rfl (nb_t c4) rfl fun _ h => ?_
     refine gs h (o_pickT rfl rfl c4) rfl fun _ _ _ h => ?_
     refine gs h (o_move rfl) rfl fun _ _ _ h => ?_
     refine gk h rfl rfl (nb_t rfl) rfl fun _ h => ?_
     refine gk h rfl rfl (nb_t rfl) rfl fun _ h => ?_
     refine gk h rfl rfl (nb_t rfl) rfl fun _ h => ?_
     refine gk h rfl rfl (nb_t rfl) rfl fun _ h => ?_
     refine gs h (o_pickT rfl rfl rfl) rfl fun _ _ _ h => ?_
     refine GoR.done ?_
     exact J1 true _ _ (som H).symm (h.wk (by rfl) [0] (by decide) (by rfl))
    ·have H := ifF c4 H
     refine gg h rfl rfl (nbF c4) (o_fa rfl t_f50_6 rfl rfl) rfl fun _ _ _ h => ?_
     refine gg h rfl rfl (nbF c4) (o_lfv 0 rfl rfl sPiece_Have rfl Per_sl t_y38) rfl fun v2 _ _ h => ?_
     have g5 := (len_at 0 rfl h.mem)
     refine gg h rfl rfl (nbF c4) (o_ln rfl (rd_at 0 rfl) t_v38) rfl fun _ _ _ h => ?_
     refine gg h rfl rfl (nbF c4) (o_fa rfl t_f50_5 rfl rfl) rfl fun _ _ _ h => ?_
     refine gg h rfl rfl (nbF c4) (o_lfv 1 rfl rfl sPiece_Data rfl Per_sl t_y25) rfl fun v3 _ _ h => ?_
     have g6 := (len_at 0 rfl h.mem)
     refine gg h rfl rfl (nbF c4) (o_ln rfl (rd_at 0 rfl) t_v25) rfl fun _ _ _ h => ?_
     refine gg h rfl rfl (nbF c4) (o_bin rfl rfl rfl) rfl fun _ _ _ h => ?_
     refine gs h (o_pickF rfl rfl c4) rfl fun _ _ _ h => ?_
     refine gs h (o_move rfl) rfl fun _ _ _ h => ?_
     by_cases c5 : (!decide ((a1.Have.length : Int) = (a1.Data.length : Int))) = true
     ·have H := ifT c5 H
      refine gk h rfl rfl (nb_t c5) rfl fun _ h => ?_
      refine gk h rfl rfl (nb_t c5) rfl fun _ h => ?_
      refine gk h rfl rfl (nb_t c5) rfl fun _ h => ?_
      refine gk h rfl rfl (nb_t c5) rfl fun _ h => ?_
      refine gs h (o_pickT rfl rfl c5) rfl fun _ _ _ h => ?_
      refine GoR.done ?_
      exact J1 true _ _ (som H).symm (h.wk (by rfl) [2] (by decide) (by rfl))
     ·have H := ifF c5 H
      refine gg h rfl rfl (nbF c5) (o_fa rfl t_f50_5 rfl rfl) rfl fun _ _ _ h => ?_
      refine gg h rfl rfl (nbF c5) (o_lfv 2 rfl rfl sPiece_Data rfl Per_sl t_y25) rfl fun v4 _ _ h => ?_
      have g7 := (len_at 0 rfl h.mem)
      refine gg h rfl rfl (nbF c5) (o_ln rfl (rd_at 0 rfl) t_v25) rfl fun _ _ _ h => ?_
      refine gg h rfl rfl (nbF c5) (o_bin rfl rfl rfl) rfl fun _ _ _ h => ?_
      refine gs h (o_pickF rfl rfl c5) rfl fun _ _ _ h => ?_
      refine GoR.done ?_
      exact J1 (decide (8192 < (a1.Data.length : Int))) _ _ (som H).symm (h.wk (by rfl) [3] (by decide) (by rfl))
def reasm_right.g (k_ : Nat) (a1 : TPiece) : Option (Bool) :=
  ((if (!decide ((ishr .i64 a1.Id 16) = 0)) = true then some (true) else (if (!decide ((ishr .i64 a1.Proto 8) = 0)) = true then some (true) else (if decide (a1.Until < 0) = true then some (true) else (if decide (1099511627776 < a1.Until) = true then some (true) else (if (!decide ((a1.Have.length : Int) = (a1.Data.length : Int))) = true then some (true) else some (decide (8192 < (a1.Data.length : Int))))))))).bind (fun j1 => (if j1 = true then some (false) else ((if decide (a1.Total = (-1)) = true then some (true) else (if decide ((a1.Data.length : Int) ≤ a1.Total) = true then lt (decide (a1.Total ≤ 8192)) fun y1 => some (y1) else some (false)))).bind (fun j2 => some (j2))))
theorem reasm_right.le (k_ : Nat) (a1 : TPiece) : Le (reasm_right.g k_ a1) (reasm_right.f a1) := by
 unfold reasm_right.g reasm_right.f
 repeat' (first | with_reducible refine le_loop fun _ => ?_ | with_reducible refine le_bind ?_ fun _ => ?_ | with_reducible refine le_ite ?_ ?_ | with_reducible refine le_lt fun _ => ?_ | with_reducible refine le_elim (fun _ => ?_) (fun _ => ?_) _ | with_reducible exact le_refl _)
/-! drawbridge/reasm.whose -/
noncomputable def reasm_whose.f (a1 : TPiece) : Option (Twho) :=
  some ((⟨a1.Src, a1.Dst, a1.Id, a1.Proto⟩ : Twho))
set_option maxRecDepth 100000 in
set_option maxHeartbeats 4000000 in
theorem reasm_whose.spc (v1 : Value) (a1 : TPiece) (r : Twho) (H : reasm_whose.f a1 = some r) : Spc Try.prog 17 [v1] [Val KPiece v1 a1] [] (fun (s : Value) => s) (fun s => [Val Kwho s r]) := by
 unfold reasm_whose.f at H
 refine Spc.go Try.func17 rfl (by kernel_rfl) rfl rfl (all_cons (Val.per PPiece) all_nil) fun F a w h => ?_
 refine Go.seq ?_
 refine Go.reg ?_
 refine gs h (o_box (K := KPiece) rfl (pv_at PPiece 0 rfl)) rfl fun b1 _ _ h => ?_
 refine gs h (o_alloc (K := Kwho) (z := (.agg #[.int .u32 0, .int .u32 0, .int .i64 0, .int .i64 0])) rfl Zwho) rfl fun b2 _ _ h => ?_
 refine GoR.done ?_
 refine Go.seq ?_
 refine Go.reg ?_
 refine gs h (o_fa rfl t_f50_0 rfl rfl) rfl fun _ _ _ h => ?_
 have g1 := (in2 (fd_sub sPiece_Src 1 rfl h.mem))
 refine gs h (o_lfx 1 rfl rfl sPiece_Src rfl X_int t_y24) rfl fun _ _ _ h => ?_
 refine gs h (o_fa rfl t_f50_1 rfl rfl) rfl fun _ _ _ h => ?_
 have g2 := (in2 (fd_sub sPiece_Dst 1 rfl h.mem))
 refine gs h (o_lfx 1 rfl rfl sPiece_Dst rfl X_int t_y24) rfl fun _ _ _ h => ?_
 refine gs h (o_fa rfl t_f50_2 rfl rfl) rfl fun _ _ _ h => ?_
 have g3 := (in2 (fd_sub sPiece_Id 1 rfl h.mem))
 refine gs h (o_lfx 1 rfl rfl sPiece_Id rfl X_int t_y3) rfl fun _ _ _ h => ?_
 refine gs h (o_fa rfl t_f50_3 rfl rfl) rfl fun _ _ _ h => ?_
 have g4 := (in2 (fd_sub sPiece_Proto 1 rfl h.mem))
 refine gs h (o_lfx 1 rfl rfl sPiece_Proto rfl X_int t_y3) rfl fun _ _ _ h => ?_
 refine gs h (o_build (K := Kwho) (x := (⟨a1.Src, a1.Dst, a1.Id, a1.Proto⟩ : Twho)) (ps := [(0, .int .u32 a1.Src), (1, .int .u32 a1.Dst), (2, .int .i64 a1.Id), (3, .int .i64 a1.Proto)]) rfl (zs := zswho) rfl t_b53 rfl (show PB (Kd.pair (Kd.int .u32) (Kd.pair (Kd.int .u32) (Kd.pair (Kd.int .i64) (Kd.last (Kd.int .i64))))) (a1.Src, a1.Dst, a1.Id, a1.Proto) 0 zswho _ _ from (pb_part (pv_int g1) rfl (pb_part (pv_int g2) rfl (pb_part (pv_int g3) rfl (pb_lastp (pv_int g4) rfl)))))) rfl fun v2 _ _ h => ?_
 refine gs0 h (o_st 1 rfl rfl rfl (pv_at Pwho 0 rfl) rfl t_w53) fun _ _ _ h => ?_
 refine GoR.done ?_
 obtain ⟨v3, h, u1⟩ := h.peek 1 rfl Pwho t_y53
 rw [← som H]
 exact g_ret (vs := [v3]) h Try.func17 ⟨⟨_, rfl, u1⟩, trivial⟩ ⟨v3, rfl, (h.mem.pick [0] (by decide) rfl)⟩
def reasm_whose.g (k_ : Nat) (a1 : TPiece) : Option (Twho) :=
  some ((⟨a1.Src, a1.Dst, a1.Id, a1.Proto⟩ : Twho))
theorem reasm_whose.le (k_ : Nat) (a1 : TPiece) : Le (reasm_whose.g k_ a1) (reasm_whose.f a1) := by
 unfold reasm_whose.g reasm_whose.f
 repeat' (first | with_reducible refine le_loop fun _ => ?_ | with_reducible refine le_bind ?_ fun _ => ?_ | with_reducible refine le_ite ?_ ?_ | with_reducible refine le_lt fun _ => ?_ | with_reducible refine le_elim (fun _ => ?_) (fun _ => ?_) _ | with_reducible exact le_refl _)
/-! drawbridge/reasm.Check -/
noncomputable def reasm_Check.f (a1 : List TPiece) : Option (Bool) :=
  (if decide (4 < (a1.length : Int)) = true then some (false) else (loop (fun s1 => (if decide (s1.2 < (a1.length : Int)) = true then (idx a1 s1.2).bind fun x1 => ((reasm_right.f x1).bind fun r1 => (if (!r1) = true then some (true) else (reasm_whose.f x1).bind fun r2 => some ((mget s1.1 r2).getD false))).bind (fun j1 => (if j1 = true then some (.inr (.inr (false))) else (reasm_whose.f x1).bind fun r3 => lt (mput s1.1 r3 true) fun y1 => some (.inl (y1, IntKind.i64.wrap (s1.2 + 1))))) else some (.inr (.inl (()))))) (([] : List (Twho × Bool)), 0)).bind (Sum.elim (fun j2 => some (true)) (fun z_ => some (z_))))
set_option maxRecDepth 100000 in
set_option maxHeartbeats 4000000 in
theorem reasm_Check.spc (v1 : Value) (a1 : List TPiece) (r : Bool) (H : reasm_Check.f a1 = some r) : Spc Try.prog 12 [v1] [Val (Kd.sl KPiece) v1 a1] [] (fun (s : Unit) => .bool r) (fun s => []) := by
 unfold reasm_Check.f at H
 refine Spc.go Try.func12 rfl (by kernel_rfl) rfl rfl (all_cons (Val.per Per_sl) all_nil) fun F a w h => ?_
 refine Go.seq ?_
 refine Go.reg ?_
 refine gs h (o_assign rfl) rfl fun _ _ _ h => ?_
 refine GoR.done ?_
 refine Go.seq ?_
 refine Go.seq ?_
 refine Go.reg ?_
 refine gs h (o_move rfl) rfl fun _ _ _ h => ?_
 have g1 := (len_at 0 rfl h.mem)
 refine gs h (o_ln rfl (rd_at 0 rfl) t_v23) rfl fun _ _ _ h => ?_
 refine gs h (o_bin rfl rfl rfl) rfl fun _ _ _ h => ?_
 refine GoR.done ?_
 by_cases c1 : decide (4 < (a1.length : Int)) = true
 ·have H := ifT c1 H
  refine g_t h rfl c1 ?_
  refine Go.seq ?_
  refine Go.reg ?_
  refine gs h (o_assign rfl) rfl fun _ _ _ h => ?_
  refine GoR.done ?_
  rw [← som H]
  exact g_ret (vs := [.bool false]) h Try.func12 ⟨rfl, trivial⟩ ⟨(), rfl, (h.mem.pick [] (by decide) rfl)⟩
 ·have H := ifF c1 H
  refine g_f h rfl c1 ?_
  refine Go.skip ?_
  refine Go.seq ?_
  refine Go.reg ?_
  refine gs h (o_mkmap Kwho Kd.bool) rfl fun v2 _ _ h => ?_
  refine gs h (o_assign rfl) rfl fun _ _ _ h => ?_
  refine GoR.done ?_
  refine Go.seq ?_
  refine Go.seq ?_
  refine Go.reg ?_
  refine gs h (o_move rfl) rfl fun _ _ _ h => ?_
  have g2 := (len_at 1 rfl h.mem)
  refine gs h (o_ln rfl (rd_at 1 rfl) t_v23) rfl fun _ _ _ h => ?_
  refine gs h (o_move rfl) rfl fun _ _ _ h => ?_
  refine GoR.done ?_
  refine Go.block ?_
  obtain ⟨o1, hl, G1⟩ := bindE H
  refine g_cut (fun G => ∀ j2 (a : Act) (w : World), o1 = .inl (j2) → St Try.f12.ntmps F [] [] a w → G a w) 2 ?_ fun J2 => ?_
  ·intro j2 a w ho_ h
   rw [ho_] at G1
   have H := G1
   refine Go.seq ?_
   refine Go.reg ?_
   refine gs h (o_assign rfl) rfl fun _ _ _ h => ?_
   refine GoR.done ?_
   rw [← som H]
   exact g_ret (vs := [.bool true]) h Try.func12 ⟨rfl, trivial⟩ ⟨(), rfl, (h.mem.pick [] (by decide) rfl)⟩
  refine g_loop (fun s1 G => ∀  (a : Act) (w : World), InR .i64 s1.2 → St Try.f12.ntmps F [(3, v2), (10, v1), (11, .int .i64 (a1.length : Int)), (12, .int .i64 s1.2)] [Val (Kd.mp Kwho Kd.bool) v2 s1.1, Val (Kd.sl KPiece) v1 a1] a w → G a w) hl (fun s1 p1 H i1 => ?_) fun I_ => ?_
  ·intro  a w g3 h
   refine Go.seq ?_
   refine Go.reg ?_
   refine gs h (o_bin rfl rfl rfl) rfl fun _ _ _ h => ?_
   refine GoR.done ?_
   refine Go.seq ?_
   by_cases c2 : decide (s1.2 < (a1.length : Int)) = true
   ·have H := ifT c2 H
    refine g_t h rfl c2 ?_
    refine Go.skip ?_
    refine Go.seq ?_
    refine Go.block ?_
    refine Go.seq ?_
    refine Go.reg ?_
    obtain ⟨x1, ex1, H⟩ := bindE H
    refine gs h (o_ix rfl rfl (rd_at 1 rfl) ex1 t_v23) rfl fun _ _ _ h => ?_
    refine gs h (o_lev rfl (rd_at 1 rfl) ex1 t_y50 (by decide)) rfl fun v3 _ _ h => ?_
    refine gs h (o_alloc (K := KPiece) (z := (.agg #[.int .u32 0, .int .u32 0, .int .i64 0, .int .i64 0, .int .i64 0, .slice none 0 0, .slice none 0 0, .int .i64 0])) rfl ZPiece) rfl fun b1 _ _ h => ?_
    refine gs0 h (o_st 0 rfl rfl rfl (pv_at PPiece 1 rfl) rfl t_w50) fun _ _ _ h => ?_
    refine GoR.done ?_
    refine Go.seq ?_
    refine Go.seq ?_
    obtain ⟨o2, H, G2⟩ := bindE H
    refine g_cut (fun G => ∀ j1 (a : Act) (w : World), o2 = j1 → St Try.f12.ntmps F [(3, v2), (5, .pointer (some ⟨b1, 0, none⟩)), (10, v1), (11, .int .i64 (a1.length : Int)), (12, .int .i64 s1.2), (24, .bool j1)] [Val (Kd.mp Kwho Kd.bool) v2 s1.1, Val (Kd.sl KPiece) v1 a1, Fld KPiece b1 0 x1] a w → G a w) 1 ?_ fun J1 => ?_
    ·intro j1 a w ho_ h
     rw [ho_] at G2
     have H := G2
     by_cases c4 : j1 = true
     ·have H := ifT c4 H
      refine g_t h rfl c4 ?_
      refine Go.seq ?_
      refine Go.reg ?_
      refine gs h (o_assign rfl) rfl fun _ _ _ h => ?_
      refine GoR.done ?_
      have e_ := som H; subst e_
      rw [← nx_out i1] at G1
      have H := G1
      rw [← som H]
      exact g_ret (vs := [.bool false]) h Try.func12 ⟨rfl, trivial⟩ ⟨(), rfl, (h.mem.pick [] (by decide) rfl)⟩
     ·have H := ifF c4 H
      refine g_f h rfl c4 ?_
      refine Go.skip ?_
      refine Go.reg ?_
      refine gs h (o_move rfl) rfl fun _ _ _ h => ?_
      refine gs h (o_ldv 2 rfl rfl PPiece t_y50) rfl fun v7 _ _ h => ?_
      obtain ⟨r3, er3, H⟩ := bindE H
      refine gs h (o_call (reasm_whose.spc v7 x1 r3 er3) rfl [0] [] (by decide) rfl rfl) rfl fun v8 _ _ h => ?_
      obtain ⟨y1, ey1, H⟩ := ltE H
      refine gs0 h (o_mput 2 rfl rfl rfl rfl (pv_at Pwho 0 rfl) pv_bool t_u62 t_mk53) fun _ _ _ h => ?_
      rw [ey1] at h
      refine GoR.done ?_
      refine Go.inBlock ?_
      refine Go.reg ?_
      refine gs h (o_bin rfl rfl rfl) rfl fun _ _ _ h => ?_
      refine gs h (o_move rfl) rfl fun _ _ _ h => ?_
      refine GoR.done ?_
      have e_ := som H; subst e_
      exact Go.inLoop (nx_in i1 _ _ (wrap_in _ _) (h.wk (by rfl) [2, 3] (by decide) (by rfl)))
    refine Go.reg ?_
    refine gs h (o_ldv 0 rfl rfl PPiece t_y50) rfl fun v4 _ _ h => ?_
    obtain ⟨r1, er1, H⟩ := bindE H
    refine gs h (o_call (reasm_right.spc v4 x1 r1 er1) rfl [0] [] (by decide) rfl rfl) rfl fun _ _ _ h => ?_
    refine gs h (o_not rfl) rfl fun _ _ _ h => ?_
    refine gs h (o_move rfl) rfl fun _ _ _ h => ?_
    by_cases c3 : (!r1) = true
    ·have H := ifT c3 H
     refine gk h rfl rfl (nb_t c3) rfl fun _ h => ?_
     refine gk h rfl rfl (nb_t c3) rfl fun _ h => ?_
     refine gk h rfl rfl (nb_t c3) rfl fun _ h => ?_
     refine gk h rfl rfl (nb_t c3) rfl fun _ h => ?_
     refine gs h (o_pickT rfl rfl c3) rfl fun _ _ _ h => ?_
     refine GoR.done ?_
     exact J1 true _ _ (som H).symm (h.wk (by rfl) [3, 4, 1] (by decide) (by rfl))
    ·have H := ifF c3 H
     refine gg h rfl rfl (nbF c3) (o_move rfl) rfl fun _ _ _ h => ?_
     refine gg h rfl rfl (nbF c3) (o_ldv 1 rfl rfl PPiece t_y50) rfl fun v5 _ _ h => ?_
     obtain ⟨r2, er2, H⟩ := bindE H
     refine gg h rfl rfl (nbF c3) (o_call (reasm_whose.spc v5 x1 r2 er2) rfl [0] [] (by decide) rfl rfl) rfl fun v6 _ _ h => ?_
     refine gg h rfl rfl (nbF c3) (o_mget (zv := .bool false) 5 rfl rfl rfl (pv_at Pwho 0 rfl) t_u62 t_mk53 t_zz4 (fun m => ⟨_, z_bool _, rfl⟩) X_bool) rfl fun _ _ _ h => ?_
     refine gs h (o_pickF rfl rfl c3) rfl fun _ _ _ h => ?_
     refine GoR.done ?_
     exact J1 ((mget s1.1 r2).getD false) _ _ (som H).symm (h.wk (by rfl) [5, 6, 3] (by decide) (by rfl))
   ·have H := ifF c2 H
    refine g_f h rfl c2 ?_
    refine Go.exit rfl ?_
    have e_ := som H; subst e_
    exact J2 () _ _ (nx_out i1).symm (h.wk (by rfl) [] (by decide) (by rfl))
  ·exact I_ _ _ (show InR .i64 0 by decide) (h.wk (by rfl) [0, 1] (by decide) (by rfl))
def reasm_Check.g (k_ : Nat) (a1 : List TPiece) : Option (Bool) :=
  (if decide (4 < (a1.length : Int)) = true then some (false) else (loopK k_ (fun s1 => (if decide (s1.2 < (a1.length : Int)) = true then (idx a1 s1.2).bind fun x1 => ((reasm_right.g k_ x1).bind fun r1 => (if (!r1) = true then some (true) else (reasm_whose.g k_ x1).bind fun r2 => some ((mget s1.1 r2).getD false))).bind (fun j1 => (if j1 = true then some (.inr (.inr (false))) else (reasm_whose.g k_ x1).bind fun r3 => lt (mput s1.1 r3 true) fun y1 => some (.inl (y1, IntKind.i64.wrap (s1.2 + 1))))) else some (.inr (.inl (()))))) (([] : List (Twho × Bool)), 0)).bind (Sum.elim (fun j2 => some (true)) (fun z_ => some (z_))))
theorem reasm_Check.le (k_ : Nat) (a1 : List TPiece) : Le (reasm_Check.g k_ a1) (reasm_Check.f a1) := by
 unfold reasm_Check.g reasm_Check.f
 repeat' (first | with_reducible refine le_loop fun _ => ?_ | with_reducible refine le_bind ?_ fun _ => ?_ | with_reducible refine le_ite ?_ ?_ | with_reducible refine le_lt fun _ => ?_ | with_reducible refine le_elim (fun _ => ?_) (fun _ => ?_) _ | with_reducible apply reasm_right.le | with_reducible apply reasm_whose.le | with_reducible exact le_refl _)
/-! drawbridge/ip.right$1 -/
noncomputable def ip_right_1.f (a1 : Int) : Option (Bool) :=
  lt (!decide ((ishr .i64 a1 8) = 0)) fun y1 => some (y1)
set_option maxRecDepth 100000 in
set_option maxHeartbeats 4000000 in
theorem ip_right_1.spc (a1 : Int) (ha1 : InR .i64 a1) (r : Bool) (H : ip_right_1.f a1 = some r) : Spc Try.prog 37 [.int .i64 a1] [] [] (fun (s : Unit) => .bool r) (fun s => []) := by
 unfold ip_right_1.f at H
 refine Spc.go Try.func37 rfl (by kernel_rfl) rfl rfl all_nil fun F a w h => ?_
 refine Go.seq ?_
 refine Go.reg ?_
 refine gs h (o_assign rfl) rfl fun _ _ _ h => ?_
 refine GoR.done ?_
 refine Go.seq ?_
 refine Go.reg ?_
 refine gs h (o_move rfl) rfl fun _ _ _ h => ?_
 refine gs h (o_shr rfl rfl (show (0 : Int) ≤ 8 by decide)) rfl fun _ _ _ h => ?_
 refine gs h (o_bin rfl rfl rfl) rfl fun _ _ _ h => ?_
 obtain ⟨y1, ey1, H⟩ := ltE H
 refine gs h (o_assign' rfl (congrArg Value.bool ey1)) rfl fun _ _ _ h => ?_
 refine GoR.done ?_
 rw [← som H]
 exact g_ret (vs := [.bool y1]) h Try.func37 ⟨rfl, trivial⟩ ⟨(), rfl, (h.mem.pick [] (by decide) rfl)⟩
def ip_right_1.g (k_ : Nat) (a1 : Int) : Option (Bool) :=
  lt (!decide ((ishr .i64 a1 8) = 0)) fun y1 => some (y1)
theorem ip_right_1.le (k_ : Nat) (a1 : Int) : Le (ip_right_1.g k_ a1) (ip_right_1.f a1) := by
 unfold ip_right_1.g ip_right_1.f
 repeat' (first | with_reducible refine le_loop fun _ => ?_ | with_reducible refine le_bind ?_ fun _ => ?_ | with_reducible refine le_ite ?_ ?_ | with_reducible refine le_lt fun _ => ?_ | with_reducible refine le_elim (fun _ => ?_) (fun _ => ?_) _ | with_reducible exact le_refl _)
/-! slices.IndexFunc[[]int,int] -/
noncomputable def slices_IndexFunc_s_int_int_at_ip_right_1.f (a1 : List Int) : Option (Int) :=
  (loop (fun s1 => (if decide (s1 < (a1.length : Int)) = true then (idx a1 s1).bind fun x1 => (ip_right_1.f x1).bind fun r1 => (if r1 = true then some (.inr (.inr (s1))) else some (.inl (IntKind.i64.wrap (s1 + 1)))) else some (.inr (.inl (()))))) 0).bind (Sum.elim (fun j1 => some ((-1))) (fun z_ => some (z_)))
set_option maxRecDepth 100000 in
set_option maxHeartbeats 4000000 in
theorem slices_IndexFunc_s_int_int_at_ip_right_1.spc (v1 : Value) (a1 : List Int) (r : Int) (H : slices_IndexFunc_s_int_int_at_ip_right_1.f a1 = some r) : Spc Try.prog 42 [v1, .func (.func 37) #[] #[]] [Val (Kd.sl (Kd.int .i64)) v1 a1] [] (fun (s : Unit) => .int .i64 r) (fun s => [Ent.pur (InR .i64 r)]) := by
 unfold slices_IndexFunc_s_int_int_at_ip_right_1.f at H
 refine Spc.go Try.func42 rfl (by kernel_rfl) rfl rfl (all_cons (Val.per Per_sl) all_nil) fun F a w h => ?_
 refine Go.seq ?_
 refine Go.reg ?_
 refine gs h (o_assign rfl) rfl fun _ _ _ h => ?_
 refine GoR.done ?_
 refine Go.seq ?_
 refine Go.seq ?_
 refine Go.reg ?_
 refine gs h (o_move rfl) rfl fun _ _ _ h => ?_
 have g1 := (len_at 0 rfl h.mem)
 refine gs h (o_ln rfl (rd_at 0 rfl) t_v34) rfl fun _ _ _ h => ?_
 refine gs h (o_move rfl) rfl fun _ _ _ h => ?_
 refine GoR.done ?_
 refine Go.block ?_
 obtain ⟨o1, hl, G1⟩ := bindE H
 refine g_cut (fun G => ∀ j1 (a : Act) (w : World), o1 = .inl (j1) → St Try.f42.ntmps F [] [] a w → G a w) 2 ?_ fun J1 => ?_
 ·intro j1 a w ho_ h
  rw [ho_] at G1
  have H := G1
  refine Go.seq ?_
  refine Go.reg ?_
  refine gs h (o_assign rfl) rfl fun _ _ _ h => ?_
  refine GoR.done ?_
  rw [← som H]
  exact g_ret (vs := [.int .i64 (-1)]) h Try.func42 ⟨rfl, trivial⟩ ⟨(), rfl, ((h.mem.pick [] (by decide) rfl).addpur (show InR .i64 (-1) by decide))⟩
 refine g_loop (fun s1 G => ∀  (a : Act) (w : World), InR .i64 s1 → St Try.f42.ntmps F [(0, v1), (1, .func (.func 37) #[] #[]), (7, .int .i64 (a1.length : Int)), (8, .int .i64 s1)] [Val (Kd.sl (Kd.int .i64)) v1 a1] a w → G a w) hl (fun s1 p1 H i1 => ?_) fun I_ => ?_
 ·intro  a w g2 h
  refine Go.seq ?_
  refine Go.reg ?_
  refine gs h (o_bin rfl rfl rfl) rfl fun _ _ _ h => ?_
  refine GoR.done ?_
  refine Go.seq ?_
  by_cases c1 : decide (s1 < (a1.length : Int)) = true
  ·have H := ifT c1 H
   refine g_t h rfl c1 ?_
   refine Go.skip ?_
   refine Go.seq ?_
   refine Go.block ?_
   refine Go.seq ?_
   refine Go.reg ?_
   refine gs h (o_move rfl) rfl fun _ _ _ h => ?_
   refine gs h (o_assign rfl) rfl fun _ _ _ h => ?_
   refine GoR.done ?_
   refine Go.seq ?_
   refine Go.reg ?_
   refine gs h (o_move rfl) rfl fun _ _ _ h => ?_
   refine gs h (o_move rfl) rfl fun _ _ _ h => ?_
   refine gs h (o_move rfl) rfl fun _ _ _ h => ?_
   obtain ⟨x1, ex1, H⟩ := bindE H
   refine gs h (o_ix rfl rfl (rd_at 0 rfl) ex1 t_v34) rfl fun _ _ _ h => ?_
   have g3 := (rd_inr (rd_at 0 rfl) ex1 h.mem)
   refine gs h (o_lex rfl (rd_at 0 rfl) ex1 X_int t_y3 (by decide)) rfl fun _ _ _ h => ?_
   obtain ⟨r1, er1, H⟩ := bindE H
   refine gs h (o_callv (vs := [.int .i64 x1]) (caps := []) rfl rfl (ip_right_1.spc x1 g3 r1 er1) [] [] (by decide) rfl rfl) rfl fun _ _ _ h => ?_
   refine GoR.done ?_
   by_cases c2 : r1 = true
   ·have H := ifT c2 H
    refine g_t h rfl c2 ?_
    refine Go.seq ?_
    refine Go.reg ?_
    refine gs h (o_move rfl) rfl fun _ _ _ h => ?_
    refine gs h (o_assign rfl) rfl fun _ _ _ h => ?_
    refine GoR.done ?_
    have e_ := som H; subst e_
    rw [← nx_out i1] at G1
    have H := G1
    rw [← som H]
    exact g_ret (vs := [.int .i64 s1]) h Try.func42 ⟨rfl, trivial⟩ ⟨(), rfl, ((h.mem.pick [] (by decide) rfl).addpur g2)⟩
   ·have H := ifF c2 H
    refine g_f h rfl c2 ?_
    refine Go.skip ?_
    refine Go.inBlock ?_
    refine Go.reg ?_
    refine gs h (o_bin rfl rfl rfl) rfl fun _ _ _ h => ?_
    refine gs h (o_move rfl) rfl fun _ _ _ h => ?_
    refine GoR.done ?_
    have e_ := som H; subst e_
    exact Go.inLoop (nx_in i1 _ _ (wrap_in _ _) (h.wk (by rfl) [0] (by decide) (by rfl)))
  ·have H := ifF c1 H
   refine g_f h rfl c1 ?_
   refine Go.exit rfl ?_
   have e_ := som H; subst e_
   exact J1 () _ _ (nx_out i1).symm (h.wk (by rfl) [] (by decide) (by rfl))
 ·exact I_ _ _ (show InR .i64 0 by decide) (h.wk (by rfl) [0] (by decide) (by rfl))
def slices_IndexFunc_s_int_int_at_ip_right_1.g (k_ : Nat) (a1 : List Int) : Option (Int) :=
  (loopK k_ (fun s1 => (if decide (s1 < (a1.length : Int)) = true then (idx a1 s1).bind fun x1 => (ip_right_1.g k_ x1).bind fun r1 => (if r1 = true then some (.inr (.inr (s1))) else some (.inl (IntKind.i64.wrap (s1 + 1)))) else some (.inr (.inl (()))))) 0).bind (Sum.elim (fun j1 => some ((-1))) (fun z_ => some (z_)))
theorem slices_IndexFunc_s_int_int_at_ip_right_1.le (k_ : Nat) (a1 : List Int) : Le (slices_IndexFunc_s_int_int_at_ip_right_1.g k_ a1) (slices_IndexFunc_s_int_int_at_ip_right_1.f a1) := by
 unfold slices_IndexFunc_s_int_int_at_ip_right_1.g slices_IndexFunc_s_int_int_at_ip_right_1.f
 repeat' (first | with_reducible refine le_loop fun _ => ?_ | with_reducible refine le_bind ?_ fun _ => ?_ | with_reducible refine le_ite ?_ ?_ | with_reducible refine le_lt fun _ => ?_ | with_reducible refine le_elim (fun _ => ?_) (fun _ => ?_) _ | with_reducible apply ip_right_1.le | with_reducible exact le_refl _)
/-! slices.ContainsFunc[[]int,int] -/
noncomputable def slices_ContainsFunc_s_int_int_at_ip_right_1.f (a1 : List Int) : Option (Bool) :=
  (slices_IndexFunc_s_int_int_at_ip_right_1.f a1).bind fun r1 => lt (decide (0 ≤ r1)) fun y1 => some (y1)
set_option maxRecDepth 100000 in
set_option maxHeartbeats 4000000 in
theorem slices_ContainsFunc_s_int_int_at_ip_right_1.spc (v1 : Value) (a1 : List Int) (r : Bool) (H : slices_ContainsFunc_s_int_int_at_ip_right_1.f a1 = some r) : Spc Try.prog 36 [v1, .func (.func 37) #[] #[]] [Val (Kd.sl (Kd.int .i64)) v1 a1] [] (fun (s : Unit) => .bool r) (fun s => []) := by
 unfold slices_ContainsFunc_s_int_int_at_ip_right_1.f at H
 refine Spc.go Try.func36 rfl (by kernel_rfl) rfl rfl (all_cons (Val.per Per_sl) all_nil) fun F a w h => ?_
 refine Go.seq ?_
 refine Go.reg ?_
 refine gs h (o_assign rfl) rfl fun _ _ _ h => ?_
 refine GoR.done ?_
 refine Go.seq ?_
 refine Go.reg ?_
 refine gs h (o_move rfl) rfl fun _ _ _ h => ?_
 refine gs h (o_move rfl) rfl fun _ _ _ h => ?_
 obtain ⟨r1, er1, H⟩ := bindE H
 refine gs h (o_call (slices_IndexFunc_s_int_int_at_ip_right_1.spc v1 a1 r1 er1) rfl [0] [] (by decide) rfl rfl) rfl fun _ _ _ h => ?_
 have g1 := h.mem.pur 0 rfl
 refine gs h (o_bin rfl rfl rfl) rfl fun _ _ _ h => ?_
 obtain ⟨y1, ey1, H⟩ := ltE H
 refine gs h (o_assign' rfl (congrArg Value.bool ey1)) rfl fun _ _ _ h => ?_
 refine GoR.done ?_
 rw [← som H]
 exact g_ret (vs := [.bool y1]) h Try.func36 ⟨rfl, trivial⟩ ⟨(), rfl, (h.mem.pick [] (by decide) rfl)⟩
def slices_ContainsFunc_s_int_int_at_ip_right_1.g (k_ : Nat) (a1 : List Int) : Option (Bool) :=
  (slices_IndexFunc_s_int_int_at_ip_right_1.g k_ a1).bind fun r1 => lt (decide (0 ≤ r1)) fun y1 => some (y1)
theorem slices_ContainsFunc_s_int_int_at_ip_right_1.le (k_ : Nat) (a1 : List Int) : Le (slices_ContainsFunc_s_int_int_at_ip_right_1.g k_ a1) (slices_ContainsFunc_s_int_int_at_ip_right_1.f a1) := by
 unfold slices_ContainsFunc_s_int_int_at_ip_right_1.g slices_ContainsFunc_s_int_int_at_ip_right_1.f
 repeat' (first | with_reducible refine le_loop fun _ => ?_ | with_reducible refine le_bind ?_ fun _ => ?_ | with_reducible refine le_ite ?_ ?_ | with_reducible refine le_lt fun _ => ?_ | with_reducible refine le_elim (fun _ => ?_) (fun _ => ?_) _ | with_reducible apply slices_IndexFunc_s_int_int_at_ip_right_1.le | with_reducible exact le_refl _)
end Go.Proofs.Ytlpjgmbbcibkjaa.S
