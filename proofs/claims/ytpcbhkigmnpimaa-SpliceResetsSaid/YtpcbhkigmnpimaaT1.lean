/- Contracts, printed by a program of this session. -/
import Derived.Test.YtpcbhkigmnpimaaT0
namespace Go.Proofs.Ytpcbhkigmnpimaa.S
open Go Go.SL Go.RowKit
set_option linter.unusedVariables false
set_option linter.unusedSimpArgs false
/-! drawbridge/drawbridgelaw28.small -/
noncomputable def law28_small.f (a1 : TConn) : Option (Bool) :=
  ((if decide (5000 < (a1.ToHost.length : Int)) = true then some (true) else (if decide (5000 < (a1.ToGuest.length : Int)) = true then some (true) else some (decide (20 < (a1.Early.length : Int)))))).bind (fun j1 => (if j1 = true then some (false) else (loop (fun s1 => (if decide (s1 < (a1.Early.length : Int)) = true then (idx a1.Early s1).bind fun x1 => (if decide (5000 < (x1.Data.length : Int)) = true then some (.inr (.inr (false))) else lt (IntKind.i64.wrap (s1 + 1)) fun y1 => some (.inl y1)) else some (.inr (.inl (()))))) 0).bind (Sum.elim (fun j2 => some (true)) (fun z_ => some (z_)))))
set_option maxRecDepth 100000 in
set_option maxHeartbeats 4000000 in
theorem law28_small.spc (v1 : Value) (a1 : TConn) (r : Bool) (H : law28_small.f a1 = some r) : Spc Try.prog 9 [v1] [Val KConn v1 a1] [] (fun (s : Unit) => .bool r) (fun s => []) := by
 unfold law28_small.f at H
 refine Spc.go Try.func9 rfl (by kernel_rfl) rfl rfl (all_cons (Val.per PConn) all_nil) fun F a w h => ?_
 refine Go.seq ?_
 refine Go.reg ?_
 refine gs h (o_box (K := KConn) rfl (pv_at PConn 0 rfl)) rfl fun b1 _ _ h => ?_
 refine gs h (o_assign rfl) rfl fun _ _ _ h => ?_
 refine GoR.done ?_
 refine Go.seq ?_
 refine Go.seq ?_
 obtain ⟨o1, H, G1⟩ := bindE H
 refine g_cut (fun G => ∀ j1 (a : Act) (w : World), o1 = j1 → St Try.f9.ntmps F [(1, .pointer (some ⟨b1, 0, none⟩)), (19, .bool j1)] [Fld KConn b1 0 a1] a w → G a w) 1 ?_ fun J1 => ?_
 ·intro j1 a w ho_ h
  rw [ho_] at G1
  have H := G1
  by_cases c3 : j1 = true
  ·have H := ifT c3 H
   refine g_t h rfl c3 ?_
   refine Go.seq ?_
   refine Go.reg ?_
   refine gs h (o_assign rfl) rfl fun _ _ _ h => ?_
   refine GoR.done ?_
   rw [← som H]
   exact g_ret (vs := [.bool false]) h Try.func9 ⟨rfl, trivial⟩ ⟨(), rfl, (h.mem.pick [] (by decide) rfl)⟩
  ·have H := ifF c3 H
   refine g_f h rfl c3 ?_
   refine Go.skip ?_
   refine Go.seq ?_
   refine Go.seq ?_
   refine Go.reg ?_
   refine gs h (o_assign rfl) rfl fun _ _ _ h => ?_
   refine GoR.done ?_
   refine Go.block ?_
   obtain ⟨o2, hl, G2⟩ := bindE H
   refine g_cut (fun G => ∀ j2 (a : Act) (w : World), o2 = .inl (j2) → St Try.f9.ntmps F [] [Fld KConn b1 0 a1] a w → G a w) 2 ?_ fun J2 => ?_
   ·intro j2 a w ho_ h
    rw [ho_] at G2
    have H := eInl G2
    refine Go.seq ?_
    refine Go.reg ?_
    refine gs h (o_assign rfl) rfl fun _ _ _ h => ?_
    refine GoR.done ?_
    rw [← som H]
    exact g_ret (vs := [.bool true]) h Try.func9 ⟨rfl, trivial⟩ ⟨(), rfl, (h.mem.pick [] (by decide) rfl)⟩
   refine g_loop (fun s1 G => ∀  (a : Act) (w : World), InR .i64 s1 → St Try.f9.ntmps F [(1, .pointer (some ⟨b1, 0, none⟩)), (3, .int .i64 s1)] [Fld KConn b1 0 a1] a w → G a w) hl (fun s1 p1 H i1 => ?_) fun I_ => ?_
   ·intro  a w g4 h
    refine Go.seq ?_
    refine Go.seq ?_
    refine Go.reg ?_
    refine gs h (o_move rfl) rfl fun _ _ _ h => ?_
    refine gs h (o_fa rfl t_f26_16 rfl rfl) rfl fun _ _ _ h => ?_
    refine gs h (o_lfv 0 rfl rfl sConn_Early rfl Per_sl t_y24) rfl fun v5 _ _ h => ?_
    have g5 := (len_at 0 rfl h.mem)
    refine gs h (o_ln rfl (rd_at 0 rfl) t_v24) rfl fun _ _ _ h => ?_
    refine gs h (o_bin rfl rfl rfl) rfl fun _ _ _ h => ?_
    refine GoR.done ?_
    by_cases c4 : decide (s1 < (a1.Early.length : Int)) = true
    ·have H := ifT c4 H
     refine g_t h rfl c4 ?_
     refine Go.skip ?_
     refine Go.seq ?_
     refine Go.block ?_
     refine Go.seq ?_
     refine Go.reg ?_
     refine gs h (o_fa rfl t_f26_16 rfl rfl) rfl fun _ _ _ h => ?_
     refine gs h (o_lfv 1 rfl rfl sConn_Early rfl Per_sl t_y24) rfl fun v6 _ _ h => ?_
     refine gs h (o_move rfl) rfl fun _ _ _ h => ?_
     obtain ⟨x1, ex1, H⟩ := bindE H
     refine gs h (o_ix rfl rfl (rd_at 0 rfl) ex1 t_v24) rfl fun _ _ _ h => ?_
     refine gs h (o_fae (k' := s1.toNat * Kd.n KEarly + 1) rfl (rd_at 0 rfl) ex1 (by decide) t_f58_1 rfl rfl) rfl fun _ _ _ h => ?_
     refine gs h (o_lsv rfl (rd_at 0 rfl) ex1 sEarly_Data t_y23 (by decide)) rfl fun v7 _ _ h => ?_
     have g6 := (len_at 0 rfl h.mem)
     refine gs h (o_ln rfl (rd_at 0 rfl) t_v23) rfl fun _ _ _ h => ?_
     refine gs h (o_bin rfl rfl rfl) rfl fun _ _ _ h => ?_
     refine GoR.done ?_
     by_cases c5 : decide (5000 < (x1.Data.length : Int)) = true
     ·have H := ifT c5 H
      refine g_t h rfl c5 ?_
      refine Go.seq ?_
      refine Go.reg ?_
      refine gs h (o_assign rfl) rfl fun _ _ _ h => ?_
      refine GoR.done ?_
      have e_ := som H; subst e_
      rw [← nx_out i1] at G2
      have H := G2
      rw [← som H]
      exact g_ret (vs := [.bool false]) h Try.func9 ⟨rfl, trivial⟩ ⟨(), rfl, (h.mem.pick [] (by decide) rfl)⟩
     ·have H := ifF c5 H
      refine g_f h rfl c5 ?_
      refine Go.skip ?_
      refine Go.inBlock ?_
      refine Go.reg ?_
      refine gs h (o_move rfl) rfl fun _ _ _ h => ?_
      refine gs h (o_bin rfl rfl rfl) rfl fun _ _ _ h => ?_
      obtain ⟨y1, ey1, H⟩ := ltE H
      refine gs h (o_assign' rfl (congrArg (fun z => Value.int .i64 z) ey1)) rfl fun _ _ _ h => ?_
      refine GoR.done ?_
      have e_ := som H; subst e_
      exact Go.inLoop (nx_in i1 _ _ (ey1 ▸ (wrap_in _ _)) (h.wk (by rfl) [3] (by decide) (by rfl)))
    ·have H := ifF c4 H
     refine g_f h rfl c4 ?_
     refine Go.exit rfl ?_
     have e_ := som H; subst e_
     exact J2 () _ _ (nx_out i1).symm (h.wk (by rfl) [1] (by decide) (by rfl))
   ·exact I_ _ _ (show InR .i64 0 by decide) (h.wk (by rfl) [0] (by decide) (by rfl))
 refine Go.reg ?_
 refine gs h (o_fa rfl t_f26_14 rfl rfl) rfl fun _ _ _ h => ?_
 refine gs h (o_lfv 0 rfl rfl sConn_ToHost rfl Per_sl t_y23) rfl fun v2 _ _ h => ?_
 have g1 := (len_at 0 rfl h.mem)
 refine gs h (o_ln rfl (rd_at 0 rfl) t_v23) rfl fun _ _ _ h => ?_
 refine gs h (o_bin rfl rfl rfl) rfl fun _ _ _ h => ?_
 refine gs h (o_move rfl) rfl fun _ _ _ h => ?_
 by_cases c1 : decide (5000 < (a1.ToHost.length : Int)) = true
 ·have H := ifT c1 H
  iterate 4 (refine gk h rfl rfl (nb_t c1) rfl fun _ h => ?_)
  refine gs h (o_pickT rfl rfl c1) rfl fun _ _ _ h => ?_
  refine gs h (o_move rfl) rfl fun _ _ _ h => ?_
  iterate 4 (refine gk h rfl rfl (nb_t rfl) rfl fun _ h => ?_)
  refine gs h (o_pickT rfl rfl rfl) rfl fun _ _ _ h => ?_
  refine GoR.done ?_
  exact J1 true _ _ (som H).symm (h.wk (by rfl) [1] (by decide) (by rfl))
 ·have H := ifF c1 H
  refine gg h rfl rfl (nbF c1) (o_fa rfl t_f26_15 rfl rfl) rfl fun _ _ _ h => ?_
  refine gg h rfl rfl (nbF c1) (o_lfv 1 rfl rfl sConn_ToGuest rfl Per_sl t_y23) rfl fun v3 _ _ h => ?_
  have g2 := (len_at 0 rfl h.mem)
  refine gg h rfl rfl (nbF c1) (o_ln rfl (rd_at 0 rfl) t_v23) rfl fun _ _ _ h => ?_
  refine gg h rfl rfl (nbF c1) (o_bin rfl rfl rfl) rfl fun _ _ _ h => ?_
  refine gs h (o_pickF rfl rfl c1) rfl fun _ _ _ h => ?_
  refine gs h (o_move rfl) rfl fun _ _ _ h => ?_
  by_cases c2 : decide (5000 < (a1.ToGuest.length : Int)) = true
  ·have H := ifT c2 H
   iterate 4 (refine gk h rfl rfl (nb_t c2) rfl fun _ h => ?_)
   refine gs h (o_pickT rfl rfl c2) rfl fun _ _ _ h => ?_
   refine GoR.done ?_
   exact J1 true _ _ (som H).symm (h.wk (by rfl) [2] (by decide) (by rfl))
  ·have H := ifF c2 H
   refine gg h rfl rfl (nbF c2) (o_fa rfl t_f26_16 rfl rfl) rfl fun _ _ _ h => ?_
   refine gg h rfl rfl (nbF c2) (o_lfv 2 rfl rfl sConn_Early rfl Per_sl t_y24) rfl fun v4 _ _ h => ?_
   have g3 := (len_at 0 rfl h.mem)
   refine gg h rfl rfl (nbF c2) (o_ln rfl (rd_at 0 rfl) t_v24) rfl fun _ _ _ h => ?_
   refine gg h rfl rfl (nbF c2) (o_bin rfl rfl rfl) rfl fun _ _ _ h => ?_
   refine gs h (o_pickF rfl rfl c2) rfl fun _ _ _ h => ?_
   refine GoR.done ?_
   exact J1 (decide (20 < (a1.Early.length : Int))) _ _ (som H).symm (h.wk (by rfl) [3] (by decide) (by rfl))
def law28_small.g (k_ : Nat) (a1 : TConn) : Option (Bool) :=
  ((if decide (5000 < (a1.ToHost.length : Int)) = true then some (true) else (if decide (5000 < (a1.ToGuest.length : Int)) = true then some (true) else some (decide (20 < (a1.Early.length : Int)))))).bind (fun j1 => (if j1 = true then some (false) else (loopK k_ (fun s1 => (if decide (s1 < (a1.Early.length : Int)) = true then (idx a1.Early s1).bind fun x1 => (if decide (5000 < (x1.Data.length : Int)) = true then some (.inr (.inr (false))) else lt (IntKind.i64.wrap (s1 + 1)) fun y1 => some (.inl y1)) else some (.inr (.inl (()))))) 0).bind (Sum.elim (fun j2 => some (true)) (fun z_ => some (z_)))))
theorem law28_small.le (k_ : Nat) (a1 : TConn) : Le (law28_small.g k_ a1) (law28_small.f a1) := by
 unfold law28_small.g law28_small.f
 repeat' (first | with_reducible refine le_loop fun _ => ?_ | with_reducible refine le_bind ?_ fun _ => ?_ | with_reducible refine le_ite ?_ ?_ | with_reducible refine le_lt fun _ => ?_ | with_reducible refine le_elim (fun _ => ?_) (fun _ => ?_) _ | with_reducible exact le_refl _)
/-! drawbridge/splice.ranges$1 -/
noncomputable def splice_ranges_1.f (a1 : Int) (a2 : Int) (a3 : Int) : Option (Bool) :=
  ((if decide (a2 ≤ a1) = true then lt (decide (a1 ≤ a3)) fun y1 => some (y1) else some (false))).bind (fun j1 => some (j1))
set_option maxRecDepth 100000 in
set_option maxHeartbeats 4000000 in
theorem splice_ranges_1.spc (a1 : Int) (ha1 : InR .i64 a1) (a2 : Int) (ha2 : InR .i64 a2) (a3 : Int) (ha3 : InR .i64 a3) (r : Bool) (H : splice_ranges_1.f a1 a2 a3 = some r) : Spc Try.prog 30 [.int .i64 a1, .int .i64 a2, .int .i64 a3] [] [] (fun (s : Unit) => .bool r) (fun s => []) := by
 unfold splice_ranges_1.f at H
 refine Spc.go Try.func30 rfl (by kernel_rfl) rfl rfl all_nil fun F a w h => ?_
 refine Go.seq ?_
 refine Go.reg ?_
 refine gs h (o_assign rfl) rfl fun _ _ _ h => ?_
 refine GoR.done ?_
 refine Go.seq ?_
 obtain ⟨o1, H, G1⟩ := bindE H
 refine g_cut (fun G => ∀ j1 (a : Act) (w : World), o1 = j1 → St Try.f30.ntmps F [(6, .bool j1)] [] a w → G a w) 1 ?_ fun J1 => ?_
 ·intro j1 a w ho_ h
  rw [ho_] at G1
  have H := G1
  rw [← som H]
  exact g_ret (vs := [.bool j1]) h Try.func30 ⟨rfl, trivial⟩ ⟨(), rfl, (h.mem.pick [] (by decide) rfl)⟩
 refine Go.reg ?_
 refine gs h (o_move rfl) rfl fun _ _ _ h => ?_
 refine gs h (o_move rfl) rfl fun _ _ _ h => ?_
 refine gs h (o_bin rfl rfl rfl) rfl fun _ _ _ h => ?_
 refine gs h (o_move rfl) rfl fun _ _ _ h => ?_
 by_cases c1 : decide (a2 ≤ a1) = true
 ·have H := ifT c1 H
  refine gg h rfl rfl c1 (o_move rfl) rfl fun _ _ _ h => ?_
  refine gg h rfl rfl c1 (o_move rfl) rfl fun _ _ _ h => ?_
  refine gg h rfl rfl c1 (o_bin rfl rfl rfl) rfl fun _ _ _ h => ?_
  refine gs h (o_pickT rfl rfl c1) rfl fun _ _ _ h => ?_
  obtain ⟨y1, ey1, H⟩ := ltE H
  refine gs h (o_assign' rfl (congrArg Value.bool ey1)) rfl fun _ _ _ h => ?_
  refine GoR.done ?_
  exact J1 y1 _ _ (som H).symm (h.wk (by rfl) [] (by decide) (by rfl))
 ·have H := ifF c1 H
  iterate 3 (refine gk h rfl rfl (nb_f c1) rfl fun _ h => ?_)
  refine gs h (o_pickF rfl rfl c1) rfl fun _ _ _ h => ?_
  refine gs h (o_assign rfl) rfl fun _ _ _ h => ?_
  refine GoR.done ?_
  exact J1 false _ _ (som H).symm (h.wk (by rfl) [] (by decide) (by rfl))
def splice_ranges_1.g (k_ : Nat) (a1 : Int) (a2 : Int) (a3 : Int) : Option (Bool) :=
  ((if decide (a2 ≤ a1) = true then lt (decide (a1 ≤ a3)) fun y1 => some (y1) else some (false))).bind (fun j1 => some (j1))
theorem splice_ranges_1.le (k_ : Nat) (a1 : Int) (a2 : Int) (a3 : Int) : Le (splice_ranges_1.g k_ a1 a2 a3) (splice_ranges_1.f a1 a2 a3) := by
 unfold splice_ranges_1.g splice_ranges_1.f
 repeat' (first | with_reducible refine le_loop fun _ => ?_ | with_reducible refine le_bind ?_ fun _ => ?_ | with_reducible refine le_ite ?_ ?_ | with_reducible refine le_lt fun _ => ?_ | with_reducible refine le_elim (fun _ => ?_) (fun _ => ?_) _ | with_reducible exact le_refl _)
/-! drawbridge/splice.ranges -/
noncomputable def splice_ranges.f (a1 : TConn) : Option (Bool) :=
  ((if decide ((a1.ToHost.length : Int) ≤ 4096) = true then (if decide ((a1.ToGuest.length : Int) ≤ 4096) = true then lt (decide ((a1.Early.length : Int) ≤ 4)) fun y1 => some (y1) else some (false)) else some (false))).bind (fun j1 => ((if decide ((ishr .i64 a1.Gport 16) = 0) = true then (if decide ((ishr .i64 a1.Rport 16) = 0) = true then lt (decide ((ishr .i64 a1.Win 16) = 0)) fun y2 => some (y2) else some (false)) else some (false))).bind (fun j2 => ((if j1 = true then (if j2 = true then (splice_ranges_1.f a1.Id 1 8).bind fun r1 => (if r1 = true then (splice_ranges_1.f a1.Mss 64 1460).bind fun r2 => (if r2 = true then (splice_ranges_1.f a1.At 0 1099511627776).bind fun r3 => (if r3 = true then (splice_ranges_1.f a1.Wait 0 32).bind fun r4 => (if r4 = true then (splice_ranges_1.f a1.Tries 0 6).bind fun r5 => some (r5) else some (false)) else some (false)) else some (false)) else some (false)) else some (false)) else some (false))).bind (fun j3 => some (j3))))
set_option maxRecDepth 100000 in
set_option maxHeartbeats 4000000 in
theorem splice_ranges.spc (v1 : Value) (a1 : TConn) (r : Bool) (H : splice_ranges.f a1 = some r) : Spc Try.prog 19 [v1] [Val KConn v1 a1] [] (fun (s : Unit) => .bool r) (fun s => []) := by
 unfold splice_ranges.f at H
 refine Spc.go Try.func19 rfl (by kernel_rfl) rfl rfl (all_cons (Val.per PConn) all_nil) fun F a w h => ?_
 refine Go.seq ?_
 refine Go.reg ?_
 refine gs h (o_box (K := KConn) rfl (pv_at PConn 0 rfl)) rfl fun b1 _ _ h => ?_
 refine gs h (o_assign rfl) rfl fun _ _ _ h => ?_
 refine GoR.done ?_
 refine Go.seq ?_
 refine Go.reg ?_
 refine gs h (o_assign rfl) rfl fun _ _ _ h => ?_
 refine GoR.done ?_
 refine Go.seq ?_
 obtain ⟨o1, H, G1⟩ := bindE H
 refine g_cut (fun G => ∀ j1 (a : Act) (w : World), o1 = j1 → St Try.f19.ntmps F [(1, .pointer (some ⟨b1, 0, none⟩)), (3, .func (.func 30) #[] #[]), (4, .bool j1)] [Fld KConn b1 0 a1] a w → G a w) 1 ?_ fun J1 => ?_
 ·intro j1 a w ho_ h
  rw [ho_] at G1
  have H := G1
  refine Go.seq ?_
  obtain ⟨o2, H, G2⟩ := bindE H
  refine g_cut (fun G => ∀ j2 (a : Act) (w : World), o2 = j2 → St Try.f19.ntmps F [(1, .pointer (some ⟨b1, 0, none⟩)), (3, .func (.func 30) #[] #[]), (4, .bool j1), (5, .bool j2)] [Fld KConn b1 0 a1] a w → G a w) 1 ?_ fun J2 => ?_
  ·intro j2 a w ho_ h
   rw [ho_] at G2
   have H := G2
   refine Go.seq ?_
   obtain ⟨o3, H, G3⟩ := bindE H
   refine g_cut (fun G => ∀ j3 (a : Act) (w : World), o3 = j3 → St Try.f19.ntmps F [(2, .bool j3)] [Fld KConn b1 0 a1] a w → G a w) 1 ?_ fun J3 => ?_
   ·intro j3 a w ho_ h
    rw [ho_] at G3
    have H := G3
    rw [← som H]
    exact g_ret (vs := [.bool j3]) h Try.func19 ⟨rfl, trivial⟩ ⟨(), rfl, (h.mem.pick [] (by decide) rfl)⟩
   refine Go.reg ?_
   refine gs h (o_move rfl) rfl fun _ _ _ h => ?_
   refine gs h (o_move rfl) rfl fun _ _ _ h => ?_
   by_cases c5 : j1 = true
   ·have H := ifT c5 H
    refine gg h rfl rfl c5 (o_move rfl) rfl fun _ _ _ h => ?_
    refine gs h (o_pickT rfl rfl c5) rfl fun _ _ _ h => ?_
    refine gs h (o_move rfl) rfl fun _ _ _ h => ?_
    by_cases c6 : j2 = true
    ·have H := ifT c6 H
     refine gg h rfl rfl c6 (o_move rfl) rfl fun _ _ _ h => ?_
     refine gg h rfl rfl c6 (o_fa rfl t_f26_0 rfl rfl) rfl fun _ _ _ h => ?_
     have g7 := (in2 (fd_sub sConn_Id 0 rfl h.mem))
     refine gg h rfl rfl c6 (o_lfx 0 rfl rfl sConn_Id rfl X_int t_y3) rfl fun _ _ _ h => ?_
     obtain ⟨r1, er1, H⟩ := bindE H
     refine gg h rfl rfl c6 (o_callv (vs := [.int .i64 a1.Id, .int .i64 1, .int .i64 8]) (caps := []) rfl rfl (splice_ranges_1.spc a1.Id g7 1 (show InR .i64 1 by decide) 8 (show InR .i64 8 by decide) r1 er1) [] [] (by decide) rfl rfl) rfl fun _ _ _ h => ?_
     refine gs h (o_pickT rfl rfl c6) rfl fun _ _ _ h => ?_
     refine gs h (o_move rfl) rfl fun _ _ _ h => ?_
     by_cases c7 : r1 = true
     ·have H := ifT c7 H
      refine gg h rfl rfl c7 (o_move rfl) rfl fun _ _ _ h => ?_
      refine gg h rfl rfl c7 (o_fa rfl t_f26_13 rfl rfl) rfl fun _ _ _ h => ?_
      have g8 := (in2 (fd_sub sConn_Mss 0 rfl h.mem))
      refine gg h rfl rfl c7 (o_lfx 0 rfl rfl sConn_Mss rfl X_int t_y3) rfl fun _ _ _ h => ?_
      obtain ⟨r2, er2, H⟩ := bindE H
      refine gg h rfl rfl c7 (o_callv (vs := [.int .i64 a1.Mss, .int .i64 64, .int .i64 1460]) (caps := []) rfl rfl (splice_ranges_1.spc a1.Mss g8 64 (show InR .i64 64 by decide) 1460 (show InR .i64 1460 by decide) r2 er2) [] [] (by decide) rfl rfl) rfl fun _ _ _ h => ?_
      refine gs h (o_pickT rfl rfl c7) rfl fun _ _ _ h => ?_
      refine gs h (o_move rfl) rfl fun _ _ _ h => ?_
      by_cases c8 : r2 = true
      ·have H := ifT c8 H
       refine gg h rfl rfl c8 (o_move rfl) rfl fun _ _ _ h => ?_
       refine gg h rfl rfl c8 (o_fa rfl t_f26_20 rfl rfl) rfl fun _ _ _ h => ?_
       have g9 := (in2 (fd_sub sConn_At 0 rfl h.mem))
       refine gg h rfl rfl c8 (o_lfx 0 rfl rfl sConn_At rfl X_int t_y3) rfl fun _ _ _ h => ?_
       obtain ⟨r3, er3, H⟩ := bindE H
       refine gg h rfl rfl c8 (o_callv (vs := [.int .i64 a1.At, .int .i64 0, .int .i64 1099511627776]) (caps := []) rfl rfl (splice_ranges_1.spc a1.At g9 0 (show InR .i64 0 by decide) 1099511627776 (show InR .i64 1099511627776 by decide) r3 er3) [] [] (by decide) rfl rfl) rfl fun _ _ _ h => ?_
       refine gs h (o_pickT rfl rfl c8) rfl fun _ _ _ h => ?_
       refine gs h (o_move rfl) rfl fun _ _ _ h => ?_
       by_cases c9 : r3 = true
       ·have H := ifT c9 H
        refine gg h rfl rfl c9 (o_move rfl) rfl fun _ _ _ h => ?_
        refine gg h rfl rfl c9 (o_fa rfl t_f26_21 rfl rfl) rfl fun _ _ _ h => ?_
        have g10 := (in2 (fd_sub sConn_Wait 0 rfl h.mem))
        refine gg h rfl rfl c9 (o_lfx 0 rfl rfl sConn_Wait rfl X_int t_y3) rfl fun _ _ _ h => ?_
        obtain ⟨r4, er4, H⟩ := bindE H
        refine gg h rfl rfl c9 (o_callv (vs := [.int .i64 a1.Wait, .int .i64 0, .int .i64 32]) (caps := []) rfl rfl (splice_ranges_1.spc a1.Wait g10 0 (show InR .i64 0 by decide) 32 (show InR .i64 32 by decide) r4 er4) [] [] (by decide) rfl rfl) rfl fun _ _ _ h => ?_
        refine gs h (o_pickT rfl rfl c9) rfl fun _ _ _ h => ?_
        refine gs h (o_move rfl) rfl fun _ _ _ h => ?_
        by_cases c10 : r4 = true
        ·have H := ifT c10 H
         refine gg h rfl rfl c10 (o_move rfl) rfl fun _ _ _ h => ?_
         refine gg h rfl rfl c10 (o_fa rfl t_f26_22 rfl rfl) rfl fun _ _ _ h => ?_
         have g11 := (in2 (fd_sub sConn_Tries 0 rfl h.mem))
         refine gg h rfl rfl c10 (o_lfx 0 rfl rfl sConn_Tries rfl X_int t_y3) rfl fun _ _ _ h => ?_
         obtain ⟨r5, er5, H⟩ := bindE H
         refine gg h rfl rfl c10 (o_callv (vs := [.int .i64 a1.Tries, .int .i64 0, .int .i64 6]) (caps := []) rfl rfl (splice_ranges_1.spc a1.Tries g11 0 (show InR .i64 0 by decide) 6 (show InR .i64 6 by decide) r5 er5) [] [] (by decide) rfl rfl) rfl fun _ _ _ h => ?_
         refine gs h (o_pickT rfl rfl c10) rfl fun _ _ _ h => ?_
         refine gs h (o_assign rfl) rfl fun _ _ _ h => ?_
         refine GoR.done ?_
         exact J3 r5 _ _ (som H).symm (h.wk (by rfl) [0] (by decide) (by rfl))
        ·have H := ifF c10 H
         iterate 4 (refine gk h rfl rfl (nb_f c10) rfl fun _ h => ?_)
         refine gs h (o_pickF rfl rfl c10) rfl fun _ _ _ h => ?_
         refine gs h (o_assign rfl) rfl fun _ _ _ h => ?_
         refine GoR.done ?_
         exact J3 false _ _ (som H).symm (h.wk (by rfl) [0] (by decide) (by rfl))
       ·have H := ifF c9 H
        iterate 4 (refine gk h rfl rfl (nb_f c9) rfl fun _ h => ?_)
        refine gs h (o_pickF rfl rfl c9) rfl fun _ _ _ h => ?_
        refine gs h (o_move rfl) rfl fun _ _ _ h => ?_
        iterate 4 (refine gk h rfl rfl (nb_f Bool.false_ne_true) rfl fun _ h => ?_)
        refine gs h (o_pickF rfl rfl Bool.false_ne_true) rfl fun _ _ _ h => ?_
        refine gs h (o_assign rfl) rfl fun _ _ _ h => ?_
        refine GoR.done ?_
        exact J3 false _ _ (som H).symm (h.wk (by rfl) [0] (by decide) (by rfl))
      ·have H := ifF c8 H
       iterate 4 (refine gk h rfl rfl (nb_f c8) rfl fun _ h => ?_)
       refine gs h (o_pickF rfl rfl c8) rfl fun _ _ _ h => ?_
       refine gs h (o_move rfl) rfl fun _ _ _ h => ?_
       iterate 4 (refine gk h rfl rfl (nb_f Bool.false_ne_true) rfl fun _ h => ?_)
       refine gs h (o_pickF rfl rfl Bool.false_ne_true) rfl fun _ _ _ h => ?_
       refine gs h (o_move rfl) rfl fun _ _ _ h => ?_
       iterate 4 (refine gk h rfl rfl (nb_f Bool.false_ne_true) rfl fun _ h => ?_)
       refine gs h (o_pickF rfl rfl Bool.false_ne_true) rfl fun _ _ _ h => ?_
       refine gs h (o_assign rfl) rfl fun _ _ _ h => ?_
       refine GoR.done ?_
       exact J3 false _ _ (som H).symm (h.wk (by rfl) [0] (by decide) (by rfl))
     ·have H := ifF c7 H
      iterate 4 (refine gk h rfl rfl (nb_f c7) rfl fun _ h => ?_)
      refine gs h (o_pickF rfl rfl c7) rfl fun _ _ _ h => ?_
      refine gs h (o_move rfl) rfl fun _ _ _ h => ?_
      iterate 4 (refine gk h rfl rfl (nb_f Bool.false_ne_true) rfl fun _ h => ?_)
      refine gs h (o_pickF rfl rfl Bool.false_ne_true) rfl fun _ _ _ h => ?_
      refine gs h (o_move rfl) rfl fun _ _ _ h => ?_
      iterate 4 (refine gk h rfl rfl (nb_f Bool.false_ne_true) rfl fun _ h => ?_)
      refine gs h (o_pickF rfl rfl Bool.false_ne_true) rfl fun _ _ _ h => ?_
      refine gs h (o_move rfl) rfl fun _ _ _ h => ?_
      iterate 4 (refine gk h rfl rfl (nb_f Bool.false_ne_true) rfl fun _ h => ?_)
      refine gs h (o_pickF rfl rfl Bool.false_ne_true) rfl fun _ _ _ h => ?_
      refine gs h (o_assign rfl) rfl fun _ _ _ h => ?_
      refine GoR.done ?_
      exact J3 false _ _ (som H).symm (h.wk (by rfl) [0] (by decide) (by rfl))
    ·have H := ifF c6 H
     iterate 4 (refine gk h rfl rfl (nb_f c6) rfl fun _ h => ?_)
     refine gs h (o_pickF rfl rfl c6) rfl fun _ _ _ h => ?_
     refine gs h (o_move rfl) rfl fun _ _ _ h => ?_
     iterate 4 (refine gk h rfl rfl (nb_f Bool.false_ne_true) rfl fun _ h => ?_)
     refine gs h (o_pickF rfl rfl Bool.false_ne_true) rfl fun _ _ _ h => ?_
     refine gs h (o_move rfl) rfl fun _ _ _ h => ?_
     iterate 4 (refine gk h rfl rfl (nb_f Bool.false_ne_true) rfl fun _ h => ?_)
     refine gs h (o_pickF rfl rfl Bool.false_ne_true) rfl fun _ _ _ h => ?_
     refine gs h (o_move rfl) rfl fun _ _ _ h => ?_
     iterate 4 (refine gk h rfl rfl (nb_f Bool.false_ne_true) rfl fun _ h => ?_)
     refine gs h (o_pickF rfl rfl Bool.false_ne_true) rfl fun _ _ _ h => ?_
     refine gs h (o_move rfl) rfl fun _ _ _ h => ?_
     iterate 4 (refine gk h rfl rfl (nb_f Bool.false_ne_true) rfl fun _ h => ?_)
     refine gs h (o_pickF rfl rfl Bool.false_ne_true) rfl fun _ _ _ h => ?_
     refine gs h (o_assign rfl) rfl fun _ _ _ h => ?_
     refine GoR.done ?_
     exact J3 false _ _ (som H).symm (h.wk (by rfl) [0] (by decide) (by rfl))
   ·have H := ifF c5 H
    refine gk h rfl rfl (nb_f c5) rfl fun _ h => ?_
    refine gs h (o_pickF rfl rfl c5) rfl fun _ _ _ h => ?_
    refine gs h (o_move rfl) rfl fun _ _ _ h => ?_
    iterate 4 (refine gk h rfl rfl (nb_f Bool.false_ne_true) rfl fun _ h => ?_)
    refine gs h (o_pickF rfl rfl Bool.false_ne_true) rfl fun _ _ _ h => ?_
    refine gs h (o_move rfl) rfl fun _ _ _ h => ?_
    iterate 4 (refine gk h rfl rfl (nb_f Bool.false_ne_true) rfl fun _ h => ?_)
    refine gs h (o_pickF rfl rfl Bool.false_ne_true) rfl fun _ _ _ h => ?_
    refine gs h (o_move rfl) rfl fun _ _ _ h => ?_
    iterate 4 (refine gk h rfl rfl (nb_f Bool.false_ne_true) rfl fun _ h => ?_)
    refine gs h (o_pickF rfl rfl Bool.false_ne_true) rfl fun _ _ _ h => ?_
    refine gs h (o_move rfl) rfl fun _ _ _ h => ?_
    iterate 4 (refine gk h rfl rfl (nb_f Bool.false_ne_true) rfl fun _ h => ?_)
    refine gs h (o_pickF rfl rfl Bool.false_ne_true) rfl fun _ _ _ h => ?_
    refine gs h (o_move rfl) rfl fun _ _ _ h => ?_
    iterate 4 (refine gk h rfl rfl (nb_f Bool.false_ne_true) rfl fun _ h => ?_)
    refine gs h (o_pickF rfl rfl Bool.false_ne_true) rfl fun _ _ _ h => ?_
    refine gs h (o_assign rfl) rfl fun _ _ _ h => ?_
    refine GoR.done ?_
    exact J3 false _ _ (som H).symm (h.wk (by rfl) [0] (by decide) (by rfl))
  refine Go.reg ?_
  refine gs h (o_fa rfl t_f26_2 rfl rfl) rfl fun _ _ _ h => ?_
  have g4 := (in2 (fd_sub sConn_Gport 0 rfl h.mem))
  refine gs h (o_lfx 0 rfl rfl sConn_Gport rfl X_int t_y3) rfl fun _ _ _ h => ?_
  refine gs h (o_shr rfl rfl (show (0 : Int) ≤ 16 by decide)) rfl fun _ _ _ h => ?_
  refine gs h (o_bin rfl rfl rfl) rfl fun _ _ _ h => ?_
  refine gs h (o_move rfl) rfl fun _ _ _ h => ?_
  by_cases c3 : decide ((ishr .i64 a1.Gport 16) = 0) = true
  ·have H := ifT c3 H
   refine gg h rfl rfl c3 (o_fa rfl t_f26_4 rfl rfl) rfl fun _ _ _ h => ?_
   have g5 := (in2 (fd_sub sConn_Rport 0 rfl h.mem))
   refine gg h rfl rfl c3 (o_lfx 0 rfl rfl sConn_Rport rfl X_int t_y3) rfl fun _ _ _ h => ?_
   refine gg h rfl rfl c3 (o_shr rfl rfl (show (0 : Int) ≤ 16 by decide)) rfl fun _ _ _ h => ?_
   refine gg h rfl rfl c3 (o_bin rfl rfl rfl) rfl fun _ _ _ h => ?_
   refine gs h (o_pickT rfl rfl c3) rfl fun _ _ _ h => ?_
   refine gs h (o_move rfl) rfl fun _ _ _ h => ?_
   by_cases c4 : decide ((ishr .i64 a1.Rport 16) = 0) = true
   ·have H := ifT c4 H
    refine gg h rfl rfl c4 (o_fa rfl t_f26_12 rfl rfl) rfl fun _ _ _ h => ?_
    have g6 := (in2 (fd_sub sConn_Win 0 rfl h.mem))
    refine gg h rfl rfl c4 (o_lfx 0 rfl rfl sConn_Win rfl X_int t_y3) rfl fun _ _ _ h => ?_
    refine gg h rfl rfl c4 (o_shr rfl rfl (show (0 : Int) ≤ 16 by decide)) rfl fun _ _ _ h => ?_
    refine gg h rfl rfl c4 (o_bin rfl rfl rfl) rfl fun _ _ _ h => ?_
    refine gs h (o_pickT rfl rfl c4) rfl fun _ _ _ h => ?_
    obtain ⟨y2, ey2, H⟩ := ltE H
    refine gs h (o_assign' rfl (congrArg Value.bool ey2)) rfl fun _ _ _ h => ?_
    refine GoR.done ?_
    exact J2 y2 _ _ (som H).symm (h.wk (by rfl) [0] (by decide) (by rfl))
   ·have H := ifF c4 H
    iterate 4 (refine gk h rfl rfl (nb_f c4) rfl fun _ h => ?_)
    refine gs h (o_pickF rfl rfl c4) rfl fun _ _ _ h => ?_
    refine gs h (o_assign rfl) rfl fun _ _ _ h => ?_
    refine GoR.done ?_
    exact J2 false _ _ (som H).symm (h.wk (by rfl) [0] (by decide) (by rfl))
  ·have H := ifF c3 H
   iterate 4 (refine gk h rfl rfl (nb_f c3) rfl fun _ h => ?_)
   refine gs h (o_pickF rfl rfl c3) rfl fun _ _ _ h => ?_
   refine gs h (o_move rfl) rfl fun _ _ _ h => ?_
   iterate 4 (refine gk h rfl rfl (nb_f Bool.false_ne_true) rfl fun _ h => ?_)
   refine gs h (o_pickF rfl rfl Bool.false_ne_true) rfl fun _ _ _ h => ?_
   refine gs h (o_assign rfl) rfl fun _ _ _ h => ?_
   refine GoR.done ?_
   exact J2 false _ _ (som H).symm (h.wk (by rfl) [0] (by decide) (by rfl))
 refine Go.reg ?_
 refine gs h (o_fa rfl t_f26_14 rfl rfl) rfl fun _ _ _ h => ?_
 refine gs h (o_lfv 0 rfl rfl sConn_ToHost rfl Per_sl t_y23) rfl fun v2 _ _ h => ?_
 have g1 := (len_at 0 rfl h.mem)
 refine gs h (o_ln rfl (rd_at 0 rfl) t_v23) rfl fun _ _ _ h => ?_
 refine gs h (o_bin rfl rfl rfl) rfl fun _ _ _ h => ?_
 refine gs h (o_move rfl) rfl fun _ _ _ h => ?_
 by_cases c1 : decide ((a1.ToHost.length : Int) ≤ 4096) = true
 ·have H := ifT c1 H
  refine gg h rfl rfl c1 (o_fa rfl t_f26_15 rfl rfl) rfl fun _ _ _ h => ?_
  refine gg h rfl rfl c1 (o_lfv 1 rfl rfl sConn_ToGuest rfl Per_sl t_y23) rfl fun v3 _ _ h => ?_
  have g2 := (len_at 0 rfl h.mem)
  refine gg h rfl rfl c1 (o_ln rfl (rd_at 0 rfl) t_v23) rfl fun _ _ _ h => ?_
  refine gg h rfl rfl c1 (o_bin rfl rfl rfl) rfl fun _ _ _ h => ?_
  refine gs h (o_pickT rfl rfl c1) rfl fun _ _ _ h => ?_
  refine gs h (o_move rfl) rfl fun _ _ _ h => ?_
  by_cases c2 : decide ((a1.ToGuest.length : Int) ≤ 4096) = true
  ·have H := ifT c2 H
   refine gg h rfl rfl c2 (o_fa rfl t_f26_16 rfl rfl) rfl fun _ _ _ h => ?_
   refine gg h rfl rfl c2 (o_lfv 2 rfl rfl sConn_Early rfl Per_sl t_y24) rfl fun v4 _ _ h => ?_
   have g3 := (len_at 0 rfl h.mem)
   refine gg h rfl rfl c2 (o_ln rfl (rd_at 0 rfl) t_v24) rfl fun _ _ _ h => ?_
   refine gg h rfl rfl c2 (o_bin rfl rfl rfl) rfl fun _ _ _ h => ?_
   refine gs h (o_pickT rfl rfl c2) rfl fun _ _ _ h => ?_
   obtain ⟨y1, ey1, H⟩ := ltE H
   refine gs h (o_assign' rfl (congrArg Value.bool ey1)) rfl fun _ _ _ h => ?_
   refine GoR.done ?_
   exact J1 y1 _ _ (som H).symm (h.wk (by rfl) [3] (by decide) (by rfl))
  ·have H := ifF c2 H
   iterate 4 (refine gk h rfl rfl (nb_f c2) rfl fun _ h => ?_)
   refine gs h (o_pickF rfl rfl c2) rfl fun _ _ _ h => ?_
   refine gs h (o_assign rfl) rfl fun _ _ _ h => ?_
   refine GoR.done ?_
   exact J1 false _ _ (som H).symm (h.wk (by rfl) [2] (by decide) (by rfl))
 ·have H := ifF c1 H
  iterate 4 (refine gk h rfl rfl (nb_f c1) rfl fun _ h => ?_)
  refine gs h (o_pickF rfl rfl c1) rfl fun _ _ _ h => ?_
  refine gs h (o_move rfl) rfl fun _ _ _ h => ?_
  iterate 4 (refine gk h rfl rfl (nb_f Bool.false_ne_true) rfl fun _ h => ?_)
  refine gs h (o_pickF rfl rfl Bool.false_ne_true) rfl fun _ _ _ h => ?_
  refine gs h (o_assign rfl) rfl fun _ _ _ h => ?_
  refine GoR.done ?_
  exact J1 false _ _ (som H).symm (h.wk (by rfl) [1] (by decide) (by rfl))
def splice_ranges.g (k_ : Nat) (a1 : TConn) : Option (Bool) :=
  ((if decide ((a1.ToHost.length : Int) ≤ 4096) = true then (if decide ((a1.ToGuest.length : Int) ≤ 4096) = true then lt (decide ((a1.Early.length : Int) ≤ 4)) fun y1 => some (y1) else some (false)) else some (false))).bind (fun j1 => ((if decide ((ishr .i64 a1.Gport 16) = 0) = true then (if decide ((ishr .i64 a1.Rport 16) = 0) = true then lt (decide ((ishr .i64 a1.Win 16) = 0)) fun y2 => some (y2) else some (false)) else some (false))).bind (fun j2 => ((if j1 = true then (if j2 = true then (splice_ranges_1.g k_ a1.Id 1 8).bind fun r1 => (if r1 = true then (splice_ranges_1.g k_ a1.Mss 64 1460).bind fun r2 => (if r2 = true then (splice_ranges_1.g k_ a1.At 0 1099511627776).bind fun r3 => (if r3 = true then (splice_ranges_1.g k_ a1.Wait 0 32).bind fun r4 => (if r4 = true then (splice_ranges_1.g k_ a1.Tries 0 6).bind fun r5 => some (r5) else some (false)) else some (false)) else some (false)) else some (false)) else some (false)) else some (false))).bind (fun j3 => some (j3))))
theorem splice_ranges.le (k_ : Nat) (a1 : TConn) : Le (splice_ranges.g k_ a1) (splice_ranges.f a1) := by
 unfold splice_ranges.g splice_ranges.f
 repeat' (first | with_reducible refine le_loop fun _ => ?_ | with_reducible refine le_bind ?_ fun _ => ?_ | with_reducible refine le_ite ?_ ?_ | with_reducible refine le_lt fun _ => ?_ | with_reducible refine le_elim (fun _ => ?_) (fun _ => ?_) _ | with_reducible apply splice_ranges_1.le | with_reducible exact le_refl _)
/-! drawbridge/splice.room -/
noncomputable def splice_room.f (a1 : TConn) : Option (Int) :=
  lt (max 0 (IntKind.i64.wrap (4096 - (a1.ToHost.length : Int)))) fun y1 => some (y1)
set_option maxRecDepth 100000 in
set_option maxHeartbeats 4000000 in
theorem splice_room.spc (v1 : Value) (a1 : TConn) (r : Int) (H : splice_room.f a1 = some r) : Spc Try.prog 21 [v1] [Val KConn v1 a1] [] (fun (s : Unit) => .int .i64 r) (fun s => [Ent.pur (InR .i64 r)]) := by
 unfold splice_room.f at H
 refine Spc.go Try.func21 rfl (by kernel_rfl) rfl rfl (all_cons (Val.per PConn) all_nil) fun F a w h => ?_
 refine Go.seq ?_
 refine Go.reg ?_
 refine gs h (o_box (K := KConn) rfl (pv_at PConn 0 rfl)) rfl fun b1 _ _ h => ?_
 refine gs h (o_assign rfl) rfl fun _ _ _ h => ?_
 refine GoR.done ?_
 refine Go.seq ?_
 refine Go.reg ?_
 refine gs h (o_fa rfl t_f26_14 rfl rfl) rfl fun _ _ _ h => ?_
 refine gs h (o_lfv 0 rfl rfl sConn_ToHost rfl Per_sl t_y23) rfl fun v2 _ _ h => ?_
 have g1 := (len_at 0 rfl h.mem)
 refine gs h (o_ln rfl (rd_at 0 rfl) t_v23) rfl fun _ _ _ h => ?_
 refine gs h (o_bin rfl rfl rfl) rfl fun _ _ _ h => ?_
 refine gs h (o_max rfl rfl) rfl fun _ _ _ h => ?_
 obtain ⟨y1, ey1, H⟩ := ltE H
 refine gs h (o_assign' rfl (congrArg (fun z => Value.int .i64 z) ey1)) rfl fun _ _ _ h => ?_
 refine GoR.done ?_
 rw [← som H]
 exact g_ret (vs := [.int .i64 y1]) h Try.func21 ⟨rfl, trivial⟩ ⟨(), rfl, ((h.mem.pick [] (by decide) rfl).addpur (ey1 ▸ (inr_max (show InR .i64 0 by decide) (wrap_in _ _))))⟩
def splice_room.g (k_ : Nat) (a1 : TConn) : Option (Int) :=
  lt (max 0 (IntKind.i64.wrap (4096 - (a1.ToHost.length : Int)))) fun y1 => some (y1)
theorem splice_room.le (k_ : Nat) (a1 : TConn) : Le (splice_room.g k_ a1) (splice_room.f a1) := by
 unfold splice_room.g splice_room.f
 repeat' (first | with_reducible refine le_loop fun _ => ?_ | with_reducible refine le_bind ?_ fun _ => ?_ | with_reducible refine le_ite ?_ ?_ | with_reducible refine le_lt fun _ => ?_ | with_reducible refine le_elim (fun _ => ?_) (fun _ => ?_) _ | with_reducible exact le_refl _)
/-! drawbridge/splice.Check$1 -/
noncomputable def splice_Check_1.f (a1 : TEarly) (a2 : TConn) : Option (Bool) :=
  lt (IntKind.u32.wrap (a1.Seq - a2.Want)) fun y1 => ((if decide ((a1.Data.length : Int) = 0) = true then some (true) else (if decide (y1 < 1) = true then some (true) else (splice_room.f a2).bind fun r1 => lt (decide ((IntKind.i64.wrap (r1 - (a1.Data.length : Int))) < y1)) fun y2 => some (y2)))).bind (fun j1 => some (j1))
set_option maxRecDepth 100000 in
set_option maxHeartbeats 4000000 in
theorem splice_Check_1.spc (v1 : Value) (a1 : TEarly) (b1 : Nat) (a2 : TConn) (r : Bool) (H : splice_Check_1.f a1 a2 = some r) : Spc Try.prog 20 [v1, .pointer (some ⟨b1, 0, none⟩)] [Val KEarly v1 a1, Pfl KConn b1 0 a2] [] (fun (s : Unit) => .bool r) (fun s => []) := by
 unfold splice_Check_1.f at H
 refine Spc.go Try.func20 rfl (by kernel_rfl) rfl rfl (all_cons (Val.per PEarly) (all_cons Per_pfl all_nil)) fun F a w h => ?_
 refine Go.seq ?_
 refine Go.reg ?_
 refine gs h (o_box (K := KEarly) rfl (pv_at PEarly 0 rfl)) rfl fun b2 _ _ h => ?_
 refine gs h (o_assign rfl) rfl fun _ _ _ h => ?_
 refine GoR.done ?_
 refine Go.seq ?_
 refine Go.reg ?_
 refine gs h (o_fa rfl t_f58_0 rfl rfl) rfl fun _ _ _ h => ?_
 have g1 := (in2 (fd_sub sEarly_Seq 0 rfl h.mem))
 refine gs h (o_lfx 0 rfl rfl sEarly_Seq rfl X_int t_y22) rfl fun _ _ _ h => ?_
 refine gs h (o_fa rfl t_f26_11 rfl rfl) rfl fun _ _ _ h => ?_
 have g2 := (in2 (pf_sub sConn_Want 2 rfl h.mem))
 refine gs h (p_lfx 2 rfl rfl sConn_Want rfl X_int t_y22) rfl fun _ _ _ h => ?_
 refine gs h (o_bin rfl rfl rfl) rfl fun _ _ _ h => ?_
 refine gs h (o_convw rfl t_q22 t_u3 (wrap_in _ _) rfl) rfl fun _ _ _ h => ?_
 obtain ⟨y1, ey1, H⟩ := ltE H
 refine gs h (o_assign' rfl (congrArg (fun z => Value.int .i64 z) ey1)) rfl fun _ _ _ h => ?_
 refine GoR.done ?_
 refine Go.seq ?_
 replace h := h.wk (E' := [(1, .pointer (some ⟨b1, 0, none⟩)), (2, .pointer (some ⟨b2, 0, none⟩)), (3, .bool false), (4, .int .i64 y1)]) (L' := [Fld KEarly b2 0 a1, Val KEarly v1 a1, Pfl KConn b1 0 a2]) (by rfl) [0, 1, 2] (by decide) (by rfl)
 obtain ⟨o1, H, G1⟩ := bindE H
 refine g_cut (fun G => ∀ j1 (a : Act) (w : World), o1 = j1 → St Try.f20.ntmps F [(3, .bool j1)] [Fld KEarly b2 0 a1, Pfl KConn b1 0 a2] a w → G a w) 1 ?_ fun J1 => ?_
 ·intro j1 a w ho_ h
  rw [ho_] at G1
  have H := G1
  rw [← som H]
  exact g_ret (vs := [.bool j1]) h Try.func20 ⟨rfl, trivial⟩ ⟨(), rfl, (h.mem.pick [] (by decide) rfl)⟩
 by_cases c1 : decide ((a1.Data.length : Int) = 0) = true
 ·have H := ifT c1 H
  refine Go.draw (E := [(1, .pointer (some ⟨b1, 0, none⟩)), (2, .pointer (some ⟨b2, 0, none⟩)), (3, .bool false), (4, .int .i64 y1)]) [] (L := [Fld KEarly b2 0 a1, Val KEarly v1 a1, Pfl KConn b1 0 a2]) h rfl rfl 16 [⟨[], [], [], false, .con (.pointer (some ⟨b2, 1, none⟩)), none, fun u => [], []⟩, ⟨[0], [], [], false, .own, none, fun u => [Val (Kd.sl (Kd.int .u8)) u a1.Data], []⟩, ⟨[0, 1], [1], [], false, .con (.int .i64 (a1.Data.length : Int)), none, fun u => [], []⟩, ⟨[0, 1, 2], [], [], false, .con (.bool (decide ((a1.Data.length : Int) = 0))), none, fun u => [], []⟩, ⟨[0, 1, 2, 3], [], [], false, .con (.bool (decide ((a1.Data.length : Int) = 0))), none, fun u => [], []⟩, ⟨[4], [], [], true, .con undef, none, fun u => [], []⟩, ⟨[4], [], [], true, .con undef, none, fun u => [], []⟩, ⟨[0, 1, 2, 3, 4, 5, 6], [], [], false, .con (.bool true), none, fun u => [], []⟩, ⟨[0, 1, 2, 3, 4, 5, 6, 7], [], [], false, .con (.bool true), none, fun u => [], []⟩, ⟨[8], [], [], true, .con undef, none, fun u => [], []⟩, ⟨[8], [], [], true, .con undef, none, fun u => [], []⟩, ⟨[8], [], [], true, .con undef, none, fun u => [], []⟩, ⟨[8], [], [], true, .con undef, none, fun u => [], []⟩, ⟨[8], [], [], true, .con undef, none, fun u => [], []⟩, ⟨[8], [], [], true, .con undef, none, fun u => [], []⟩, ⟨[8], [], [], true, .con undef, none, fun u => [], []⟩] rfl t_mxo (by kernel_rfl) (by rfl) ?_ fun f1 _ _ h => ?_
  ·exact obs_cons (ob_con rfl (gok_none rfl) rfl fun f1 => (o_fa rfl t_f58_1 rfl rfl)) (obs_cons (ob_own rfl (gok_none rfl) rfl fun f1 => (o_lfv 0 rfl rfl sEarly_Data rfl Per_sl t_y23)) (obs_cons (ob_con rfl (gok_none rfl) rfl fun f1 => (o_ln rfl (rd_at 0 rfl) t_v23)) (obs_cons (ob_con rfl (gok_none rfl) rfl fun f1 => (o_bin rfl rfl rfl)) (obs_cons (ob_con rfl (gok_none rfl) rfl fun f1 => (o_move rfl)) (obs_cons (ob_skip rfl rfl rfl rfl (fun _ => rfl) (nb_t c1) rfl rfl rfl rfl) (obs_cons (ob_skip rfl rfl rfl rfl (fun _ => rfl) (nb_t c1) rfl rfl rfl rfl) (obs_cons (ob_con rfl (gok_none rfl) rfl fun f1 => (o_pickT rfl rfl c1)) (obs_cons (ob_con rfl (gok_none rfl) rfl fun f1 => (o_move rfl)) (obs_cons (ob_skip rfl rfl rfl rfl (fun _ => rfl) (nb_t rfl) rfl rfl rfl rfl) (obs_cons (ob_skip rfl rfl rfl rfl (fun _ => rfl) (nb_t rfl) rfl rfl rfl rfl) (obs_cons (ob_skip rfl rfl rfl rfl (fun _ => rfl) (nb_t rfl) rfl rfl rfl rfl) (obs_cons (ob_skip rfl rfl rfl rfl (fun _ => rfl) (nb_t rfl) rfl rfl rfl rfl) (obs_cons (ob_skip rfl rfl rfl rfl (fun _ => rfl) (nb_t rfl) rfl rfl rfl rfl) (obs_cons (ob_skip rfl rfl rfl rfl (fun _ => rfl) (nb_t rfl) rfl rfl rfl rfl) (obs_cons (ob_skip rfl rfl rfl rfl (fun _ => rfl) (nb_t rfl) rfl rfl rfl rfl) (obs_nil))))))))))))))))
  replace h := h.wk (E' := [(3, .bool false), (19, .bool true)]) (L' := [Val (Kd.sl (Kd.int .u8)) (f1 1) a1.Data, Fld KEarly b2 0 a1, Val KEarly v1 a1, Pfl KConn b1 0 a2]) (by kernel_rfl) [0, 1, 2, 3] (by decide) (by kernel_rfl)
  refine gk h rfl rfl (nb_t rfl) rfl fun _ h => ?_
  refine gs h (o_pickT rfl rfl rfl) rfl fun _ _ _ h => ?_
  refine gs h (o_assign rfl) rfl fun _ _ _ h => ?_
  refine GoR.done ?_
  exact J1 true _ _ (som H).symm (h.wk (by rfl) [1, 3] (by decide) (by rfl))
 ·have H := ifF c1 H
  by_cases c2 : decide (y1 < 1) = true
  ·have H := ifT c2 H
   refine Go.draw (E := [(1, .pointer (some ⟨b1, 0, none⟩)), (2, .pointer (some ⟨b2, 0, none⟩)), (3, .bool false), (4, .int .i64 y1)]) [] (L := [Fld KEarly b2 0 a1, Val KEarly v1 a1, Pfl KConn b1 0 a2]) h rfl rfl 16 [⟨[], [], [], false, .con (.pointer (some ⟨b2, 1, none⟩)), none, fun u => [], []⟩, ⟨[0], [], [], false, .own, none, fun u => [Val (Kd.sl (Kd.int .u8)) u a1.Data], []⟩, ⟨[0, 1], [1], [], false, .con (.int .i64 (a1.Data.length : Int)), none, fun u => [], []⟩, ⟨[0, 1, 2], [], [], false, .con (.bool (decide ((a1.Data.length : Int) = 0))), none, fun u => [], []⟩, ⟨[0, 1, 2, 3], [], [], false, .con (.bool (decide ((a1.Data.length : Int) = 0))), none, fun u => [], []⟩, ⟨[0, 1, 2, 3, 4], [], [], false, .con (.int .i64 y1), none, fun u => [], []⟩, ⟨[0, 1, 2, 3, 4, 5], [], [], false, .con (.bool (decide (y1 < 1))), none, fun u => [], []⟩, ⟨[0, 1, 2, 3, 4, 5, 6], [], [], false, .con (.bool (decide (y1 < 1))), none, fun u => [], []⟩, ⟨[0, 1, 2, 3, 4, 5, 6, 7], [], [], false, .con (.bool (decide (y1 < 1))), none, fun u => [], []⟩, ⟨[8], [], [], true, .con undef, none, fun u => [], []⟩, ⟨[8], [], [], true, .con undef, none, fun u => [], []⟩, ⟨[8], [], [], true, .con undef, none, fun u => [], []⟩, ⟨[8], [], [], true, .con undef, none, fun u => [], []⟩, ⟨[8], [], [], true, .con undef, none, fun u => [], []⟩, ⟨[8], [], [], true, .con undef, none, fun u => [], []⟩, ⟨[8], [], [], true, .con undef, none, fun u => [], []⟩] rfl t_mxo (by kernel_rfl) (by rfl) ?_ fun f1 _ _ h => ?_
   ·exact obs_cons (ob_con rfl (gok_none rfl) rfl fun f1 => (o_fa rfl t_f58_1 rfl rfl)) (obs_cons (ob_own rfl (gok_none rfl) rfl fun f1 => (o_lfv 0 rfl rfl sEarly_Data rfl Per_sl t_y23)) (obs_cons (ob_con rfl (gok_none rfl) rfl fun f1 => (o_ln rfl (rd_at 0 rfl) t_v23)) (obs_cons (ob_con rfl (gok_none rfl) rfl fun f1 => (o_bin rfl rfl rfl)) (obs_cons (ob_con rfl (gok_none rfl) rfl fun f1 => (o_move rfl)) (obs_cons (ob_con rfl (gok_some rfl rfl rfl (fun _ => rfl) (nbF c1)) rfl fun f1 => (o_move rfl)) (obs_cons (ob_con rfl (gok_some rfl rfl rfl (fun _ => rfl) (nbF c1)) rfl fun f1 => (o_bin rfl rfl rfl)) (obs_cons (ob_con rfl (gok_none rfl) rfl fun f1 => (o_pickF rfl rfl c1)) (obs_cons (ob_con rfl (gok_none rfl) rfl fun f1 => (o_move rfl)) (obs_cons (ob_skip rfl rfl rfl rfl (fun _ => rfl) (nb_t c2) rfl rfl rfl rfl) (obs_cons (ob_skip rfl rfl rfl rfl (fun _ => rfl) (nb_t c2) rfl rfl rfl rfl) (obs_cons (ob_skip rfl rfl rfl rfl (fun _ => rfl) (nb_t c2) rfl rfl rfl rfl) (obs_cons (ob_skip rfl rfl rfl rfl (fun _ => rfl) (nb_t c2) rfl rfl rfl rfl) (obs_cons (ob_skip rfl rfl rfl rfl (fun _ => rfl) (nb_t c2) rfl rfl rfl rfl) (obs_cons (ob_skip rfl rfl rfl rfl (fun _ => rfl) (nb_t c2) rfl rfl rfl rfl) (obs_cons (ob_skip rfl rfl rfl rfl (fun _ => rfl) (nb_t c2) rfl rfl rfl rfl) (obs_nil))))))))))))))))
   replace h := h.wk (E' := [(3, .bool false), (19, .bool (decide (y1 < 1)))]) (L' := [Val (Kd.sl (Kd.int .u8)) (f1 1) a1.Data, Fld KEarly b2 0 a1, Val KEarly v1 a1, Pfl KConn b1 0 a2]) (by kernel_rfl) [0, 1, 2, 3] (by decide) (by kernel_rfl)
   refine gk h rfl rfl (nb_t c2) rfl fun _ h => ?_
   refine gs h (o_pickT rfl rfl c2) rfl fun _ _ _ h => ?_
   refine gs h (o_assign rfl) rfl fun _ _ _ h => ?_
   refine GoR.done ?_
   exact J1 true _ _ (som H).symm (h.wk (by rfl) [1, 3] (by decide) (by rfl))
  ·have H := ifF c2 H
   obtain ⟨r1, er1, H⟩ := bindE H
   refine Go.draw (E := [(1, .pointer (some ⟨b1, 0, none⟩)), (2, .pointer (some ⟨b2, 0, none⟩)), (3, .bool false), (4, .int .i64 y1)]) [] (L := [Fld KEarly b2 0 a1, Val KEarly v1 a1, Pfl KConn b1 0 a2]) h rfl rfl 16 [⟨[], [], [], false, .con (.pointer (some ⟨b2, 1, none⟩)), none, fun u => [], []⟩, ⟨[0], [], [], false, .own, none, fun u => [Val (Kd.sl (Kd.int .u8)) u a1.Data], []⟩, ⟨[0, 1], [1], [], false, .con (.int .i64 (a1.Data.length : Int)), none, fun u => [], []⟩, ⟨[0, 1, 2], [], [], false, .con (.bool (decide ((a1.Data.length : Int) = 0))), none, fun u => [], []⟩, ⟨[0, 1, 2, 3], [], [], false, .con (.bool (decide ((a1.Data.length : Int) = 0))), none, fun u => [], []⟩, ⟨[0, 1, 2, 3, 4], [], [], false, .con (.int .i64 y1), none, fun u => [], []⟩, ⟨[0, 1, 2, 3, 4, 5], [], [], false, .con (.bool (decide (y1 < 1))), none, fun u => [], []⟩, ⟨[0, 1, 2, 3, 4, 5, 6], [], [], false, .con (.bool (decide (y1 < 1))), none, fun u => [], []⟩, ⟨[0, 1, 2, 3, 4, 5, 6, 7], [], [], false, .con (.bool (decide (y1 < 1))), none, fun u => [], []⟩, ⟨[0, 1, 2, 3, 4, 5, 6, 7, 8], [], [], false, .con (.int .i64 y1), none, fun u => [], []⟩, ⟨[0, 1, 2, 3, 4, 5, 6, 7, 8], [], [], false, .own, none, fun u => [Val KConn u a2], []⟩, ⟨[0, 1, 2, 3, 4, 5, 6, 7, 8, 10], [10], [], false, .con (.int .i64 r1), none, fun u => [Ent.pur (InR .i64 r1)], []⟩, ⟨[0, 1, 2, 3, 4, 5, 6, 7, 8], [], [], false, .con (.pointer (some ⟨b2, 1, none⟩)), none, fun u => [], []⟩, ⟨[0, 1, 2, 3, 4, 5, 6, 7, 8, 12], [], [], false, .own, none, fun u => [Val (Kd.sl (Kd.int .u8)) u a1.Data], []⟩, ⟨[0, 1, 2, 3, 4, 5, 6, 7, 8, 12, 13], [13], [], false, .con (.int .i64 (a1.Data.length : Int)), none, fun u => [], []⟩, ⟨[0, 1, 2, 3, 4, 5, 6, 7, 8, 10, 11, 12, 13, 14], [], [], false, .con (.int .i64 (IntKind.i64.wrap (r1 - (a1.Data.length : Int)))), none, fun u => [], []⟩] rfl t_mxo (by kernel_rfl) (by rfl) ?_ fun f1 _ _ h => ?_
   ·exact obs_cons (ob_con rfl (gok_none rfl) rfl fun f1 => (o_fa rfl t_f58_1 rfl rfl)) (obs_cons (ob_own rfl (gok_none rfl) rfl fun f1 => (o_lfv 0 rfl rfl sEarly_Data rfl Per_sl t_y23)) (obs_cons (ob_con rfl (gok_none rfl) rfl fun f1 => (o_ln rfl (rd_at 0 rfl) t_v23)) (obs_cons (ob_con rfl (gok_none rfl) rfl fun f1 => (o_bin rfl rfl rfl)) (obs_cons (ob_con rfl (gok_none rfl) rfl fun f1 => (o_move rfl)) (obs_cons (ob_con rfl (gok_some rfl rfl rfl (fun _ => rfl) (nbF c1)) rfl fun f1 => (o_move rfl)) (obs_cons (ob_con rfl (gok_some rfl rfl rfl (fun _ => rfl) (nbF c1)) rfl fun f1 => (o_bin rfl rfl rfl)) (obs_cons (ob_con rfl (gok_none rfl) rfl fun f1 => (o_pickF rfl rfl c1)) (obs_cons (ob_con rfl (gok_none rfl) rfl fun f1 => (o_move rfl)) (obs_cons (ob_con rfl (gok_some rfl rfl rfl (fun _ => rfl) (nbF c2)) rfl fun f1 => (o_move rfl)) (obs_cons (ob_own rfl (gok_some rfl rfl rfl (fun _ => rfl) (nbF c2)) rfl fun f1 => (p_lfv 2 rfl rfl sub_self rfl t_y26)) (obs_cons (ob_con rfl (gok_some rfl rfl rfl (fun _ => rfl) (nbF c2)) rfl fun f1 => (o_call (splice_room.spc (f1 10) a2 r1 er1) rfl [0] [] (by decide) rfl rfl)) (obs_cons (ob_con rfl (gok_some rfl rfl rfl (fun _ => rfl) (nbF c2)) rfl fun f1 => (o_fa rfl t_f58_1 rfl rfl)) (obs_cons (ob_own rfl (gok_some rfl rfl rfl (fun _ => rfl) (nbF c2)) rfl fun f1 => (o_lfv 0 rfl rfl sEarly_Data rfl Per_sl t_y23)) (obs_cons (ob_con rfl (gok_some rfl rfl rfl (fun _ => rfl) (nbF c2)) rfl fun f1 => (o_ln rfl (rd_at 0 rfl) t_v23)) (obs_cons (ob_con rfl (gok_some rfl rfl rfl (fun _ => rfl) (nbF c2)) rfl fun f1 => (o_bin rfl rfl rfl)) (obs_nil))))))))))))))))
   replace h := h.wk (E' := [(3, .bool false), (19, .bool (decide (y1 < 1))), (20, .int .i64 y1), (26, .int .i64 (IntKind.i64.wrap (r1 - (a1.Data.length : Int))))]) (L' := [Val (Kd.sl (Kd.int .u8)) (f1 1) a1.Data, Val KConn (f1 10) a2, Ent.pur (InR .i64 r1), Val (Kd.sl (Kd.int .u8)) (f1 13) a1.Data, Fld KEarly b2 0 a1, Val KEarly v1 a1, Pfl KConn b1 0 a2]) (by kernel_rfl) [0, 1, 2, 3, 4, 5, 6] (by decide) (by kernel_rfl)
   refine gg h rfl rfl (nbF c2) (o_bin rfl rfl rfl) rfl fun _ _ _ h => ?_
   refine gs h (o_pickF rfl rfl c2) rfl fun _ _ _ h => ?_
   obtain ⟨y2, ey2, H⟩ := ltE H
   refine gs h (o_assign' rfl (congrArg Value.bool ey2)) rfl fun _ _ _ h => ?_
   refine GoR.done ?_
   exact J1 y2 _ _ (som H).symm (h.wk (by rfl) [4, 6] (by decide) (by rfl))
def splice_Check_1.g (k_ : Nat) (a1 : TEarly) (a2 : TConn) : Option (Bool) :=
  lt (IntKind.u32.wrap (a1.Seq - a2.Want)) fun y1 => ((if decide ((a1.Data.length : Int) = 0) = true then some (true) else (if decide (y1 < 1) = true then some (true) else (splice_room.g k_ a2).bind fun r1 => lt (decide ((IntKind.i64.wrap (r1 - (a1.Data.length : Int))) < y1)) fun y2 => some (y2)))).bind (fun j1 => some (j1))
theorem splice_Check_1.le (k_ : Nat) (a1 : TEarly) (a2 : TConn) : Le (splice_Check_1.g k_ a1 a2) (splice_Check_1.f a1 a2) := by
 unfold splice_Check_1.g splice_Check_1.f
 repeat' (first | with_reducible refine le_loop fun _ => ?_ | with_reducible refine le_bind ?_ fun _ => ?_ | with_reducible refine le_ite ?_ ?_ | with_reducible refine le_lt fun _ => ?_ | with_reducible refine le_elim (fun _ => ?_) (fun _ => ?_) _ | with_reducible apply splice_room.le | with_reducible exact le_refl _)
end Go.Proofs.Ytpcbhkigmnpimaa.S
