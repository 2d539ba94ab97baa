/- Contracts, printed by a program of this session. -/
import Derived.Test.YtlpjgmbbcibkjaaT3
import Derived.Test.YtlpjgmbbcibkjaaT4
namespace Go.Proofs.Ytlpjgmbbcibkjaa.S
open Go Go.SL Go.RowKit
set_option linter.unusedVariables false
set_option linter.unusedSimpArgs false
/-! slices.IndexFunc[[]drawbridge/api.Piece,drawbridge/api.Piece] -/
noncomputable def slices_IndexFunc_s_api_Piece_api_Piece_at_reasm_Expire_1.f (a1 : List TPiece) (a2 : Int) : Option (Int) :=
  (loop (fun s1 => (if decide (s1 < (a1.length : Int)) = true then (idx a1 s1).bind fun x1 => (reasm_Expire_1.f x1 a2).bind fun r1 => (if r1 = true then some (.inr (.inr (s1))) else some (.inl (IntKind.i64.wrap (s1 + 1)))) else some (.inr (.inl (()))))) 0).bind (Sum.elim (fun j1 => some ((-1))) (fun z_ => some (z_)))
set_option maxRecDepth 100000 in
set_option maxHeartbeats 4000000 in
theorem slices_IndexFunc_s_api_Piece_api_Piece_at_reasm_Expire_1.spc (v1 : Value) (a1 : List TPiece) (b1 : Nat) (a2 : Int) (r : Int) (H : slices_IndexFunc_s_api_Piece_api_Piece_at_reasm_Expire_1.f a1 a2 = some r) : Spc Try.prog 35 [v1, .func (.func 27) #[] #[.pointer (some ⟨b1, 0, none⟩)]] [Val (Kd.sl KPiece) v1 a1, Pfl (Kd.int .i64) b1 0 a2] [] (fun (s : Unit) => .int .i64 r) (fun s => [Ent.pur (InR .i64 r)]) := by
 unfold slices_IndexFunc_s_api_Piece_api_Piece_at_reasm_Expire_1.f at H
 refine Spc.go Try.func35 rfl (by kernel_rfl) rfl rfl (all_cons (Val.per Per_sl) (all_cons Per_pfl all_nil)) fun F a w h => ?_
 refine Go.seq ?_
 refine Go.reg ?_
 refine gs h (o_assign rfl) rfl fun _ _ _ h => ?_
 refine GoR.done ?_
 refine Go.seq ?_
 refine Go.seq ?_
 refine Go.reg ?_
 refine gs h (o_move rfl) rfl fun _ _ _ h => ?_
 have g1 := (len_at 0 rfl h.mem)
 refine gs h (o_ln rfl (rd_at 0 rfl) t_v23) rfl fun _ _ _ h => ?_
 refine gs h (o_move rfl) rfl fun _ _ _ h => ?_
 refine GoR.done ?_
 refine Go.block ?_
 obtain ⟨o1, hl, G1⟩ := bindE H
 refine g_cut (fun G => ∀ j1 (a : Act) (w : World), o1 = .inl (j1) → St Try.f35.ntmps F [] [Pfl (Kd.int .i64) b1 0 a2] a w → G a w) 2 ?_ fun J1 => ?_
 ·intro j1 a w ho_ h
  rw [ho_] at G1
  have H := G1
  refine Go.seq ?_
  refine Go.reg ?_
  refine gs h (o_assign rfl) rfl fun _ _ _ h => ?_
  refine GoR.done ?_
  rw [← som H]
  exact g_ret (vs := [.int .i64 (-1)]) h Try.func35 ⟨rfl, trivial⟩ ⟨(), rfl, ((h.mem.pick [] (by decide) rfl).addpur (show InR .i64 (-1) by decide))⟩
 refine g_loop (fun s1 G => ∀  (a : Act) (w : World), InR .i64 s1 → St Try.f35.ntmps F [(0, v1), (1, .func (.func 27) #[] #[.pointer (some ⟨b1, 0, none⟩)]), (7, .int .i64 (a1.length : Int)), (8, .int .i64 s1)] [Val (Kd.sl KPiece) v1 a1, Pfl (Kd.int .i64) b1 0 a2] a w → G a w) hl (fun s1 p1 H i1 => ?_) fun I_ => ?_
 ·intro  a w g2 h
  refine Go.seq ?_
  refine Go.reg ?_
  refine gs h (o_bin rfl rfl rfl) rfl fun _ _ _ h => ?_
  refine GoR.done ?_
  refine Go.seq ?_
  by_cases c1 : decide (s1 < (a1.length : Int)) = true
  ·have H := ifT c1 H
   refine g_t h rfl c1 ?_
   refine Go.skip ?_
   refine Go.seq ?_
   refine Go.block ?_
   refine Go.seq ?_
   refine Go.reg ?_
   refine gs h (o_move rfl) rfl fun _ _ _ h => ?_
   refine gs h (o_assign rfl) rfl fun _ _ _ h => ?_
   refine GoR.done ?_
   refine Go.seq ?_
   refine Go.reg ?_
   refine gs h (o_move rfl) rfl fun _ _ _ h => ?_
   refine gs h (o_move rfl) rfl fun _ _ _ h => ?_
   refine gs h (o_move rfl) rfl fun _ _ _ h => ?_
   obtain ⟨x1, ex1, H⟩ := bindE H
   refine gs h (o_ix rfl rfl (rd_at 0 rfl) ex1 t_v23) rfl fun _ _ _ h => ?_
   refine gs h (o_lev rfl (rd_at 0 rfl) ex1 t_y50 (by decide)) rfl fun v2 _ _ h => ?_
   obtain ⟨r1, er1, H⟩ := bindE H
   refine gs h (o_callv (vs := [v2]) (caps := [.pointer (some ⟨b1, 0, none⟩)]) rfl rfl (reasm_Expire_1.spc v2 x1 b1 a2 r1 er1) [0, 2] [] (by decide) rfl rfl) rfl fun _ _ _ h => ?_
   refine GoR.done ?_
   by_cases c2 : r1 = true
   ·have H := ifT c2 H
    refine g_t h rfl c2 ?_
    refine Go.seq ?_
    refine Go.reg ?_
    refine gs h (o_move rfl) rfl fun _ _ _ h => ?_
    refine gs h (o_assign rfl) rfl fun _ _ _ h => ?_
    refine GoR.done ?_
    have e_ := som H; subst e_
    rw [← nx_out i1] at G1
    have H := G1
    rw [← som H]
    exact g_ret (vs := [.int .i64 s1]) h Try.func35 ⟨rfl, trivial⟩ ⟨(), rfl, ((h.mem.pick [] (by decide) rfl).addpur g2)⟩
   ·have H := ifF c2 H
    refine g_f h rfl c2 ?_
    refine Go.skip ?_
    refine Go.inBlock ?_
    refine Go.reg ?_
    refine gs h (o_bin rfl rfl rfl) rfl fun _ _ _ h => ?_
    refine gs h (o_move rfl) rfl fun _ _ _ h => ?_
    refine GoR.done ?_
    have e_ := som H; subst e_
    exact Go.inLoop (nx_in i1 _ _ (wrap_in _ _) (h.wk (by rfl) [1, 2] (by decide) (by rfl)))
  ·have H := ifF c1 H
   refine g_f h rfl c1 ?_
   refine Go.exit rfl ?_
   have e_ := som H; subst e_
   exact J1 () _ _ (nx_out i1).symm (h.wk (by rfl) [1] (by decide) (by rfl))
 ·exact I_ _ _ (show InR .i64 0 by decide) (h.wk (by rfl) [0, 1] (by decide) (by rfl))
def slices_IndexFunc_s_api_Piece_api_Piece_at_reasm_Expire_1.g (k_ : Nat) (a1 : List TPiece) (a2 : Int) : Option (Int) :=
  (loopK k_ (fun s1 => (if decide (s1 < (a1.length : Int)) = true then (idx a1 s1).bind fun x1 => (reasm_Expire_1.g k_ x1 a2).bind fun r1 => (if r1 = true then some (.inr (.inr (s1))) else some (.inl (IntKind.i64.wrap (s1 + 1)))) else some (.inr (.inl (()))))) 0).bind (Sum.elim (fun j1 => some ((-1))) (fun z_ => some (z_)))
theorem slices_IndexFunc_s_api_Piece_api_Piece_at_reasm_Expire_1.le (k_ : Nat) (a1 : List TPiece) (a2 : Int) : Le (slices_IndexFunc_s_api_Piece_api_Piece_at_reasm_Expire_1.g k_ a1 a2) (slices_IndexFunc_s_api_Piece_api_Piece_at_reasm_Expire_1.f a1 a2) := by
 unfold slices_IndexFunc_s_api_Piece_api_Piece_at_reasm_Expire_1.g slices_IndexFunc_s_api_Piece_api_Piece_at_reasm_Expire_1.f
 repeat' (first | with_reducible refine le_loop fun _ => ?_ | with_reducible refine le_bind ?_ fun _ => ?_ | with_reducible refine le_ite ?_ ?_ | with_reducible refine le_lt fun _ => ?_ | with_reducible refine le_elim (fun _ => ?_) (fun _ => ?_) _ | with_reducible apply reasm_Expire_1.le | with_reducible exact le_refl _)
/-! slices.DeleteFunc[[]drawbridge/api.Piece,drawbridge/api.Piece] -/
noncomputable def slices_DeleteFunc_s_api_Piece_api_Piece_at_reasm_Expire_1.f (a1 : List TPiece) (a2 : Int) : Option ((List TPiece)) :=
  (slices_IndexFunc_s_api_Piece_api_Piece_at_reasm_Expire_1.f a1 a2).bind fun r1 => (if decide (r1 = (-1)) = true then some (a1) else lt (IntKind.i64.wrap (r1 + 1)) fun y1 => (loop (fun s1 => (if decide (s1.2.2 < (s1.1.length : Int)) = true then (((idx s1.1 s1.2.2).bind fun x1 => (reasm_Expire_1.f x1 a2).bind fun r2 => (if (!r2) = true then (idx s1.1 s1.2.1).bind fun x2 => lt (s1.1.set s1.2.1.toNat x1) fun y2 => lt (IntKind.i64.wrap (s1.2.1 + 1)) fun y3 => some ((y2, y3, x1)) else some ((s1.1, s1.2.1, x1)))).bind (fun j1 => some ((j1.1, j1.2.1, j1.2.2)))).bind (fun j2 => lt (IntKind.i64.wrap (s1.2.2 + 1)) fun y4 => some (.inl (j2.1, j2.2.1, y4))) else some (.inr ((s1.1, s1.2.1))))) (a1, r1, y1)).bind (fun j3 => if inB j3.1 j3.2 (j3.1.length : Int) then (lt (Go.splice j3.1 j3.2.toNat (List.replicate ((j3.1.length : Int).toNat - j3.2.toNat) zPiece)) fun y5 => (cut y5 0 j3.2).bind fun x3 => some (x3)) else none))
set_option maxRecDepth 100000 in
set_option maxHeartbeats 4000000 in
theorem slices_DeleteFunc_s_api_Piece_api_Piece_at_reasm_Expire_1.spc (v1 : Value) (a1 : List TPiece) (b1 : Nat) (a2 : Int) (r : (List TPiece)) (H : slices_DeleteFunc_s_api_Piece_api_Piece_at_reasm_Expire_1.f a1 a2 = some r) : Spc Try.prog 26 [v1, .func (.func 27) #[] #[.pointer (some ⟨b1, 0, none⟩)]] [Pfl (Kd.int .i64) b1 0 a2] [Val (Kd.osl KPiece) v1 a1] (fun (s : Value) => s) (fun s => [Val (Kd.osl KPiece) s r]) := by
 unfold slices_DeleteFunc_s_api_Piece_api_Piece_at_reasm_Expire_1.f at H
 refine Spc.go Try.func26 rfl (by kernel_rfl) rfl rfl (all_cons Per_pfl all_nil) fun F a w h => ?_
 refine Go.seq ?_
 refine Go.reg ?_
 refine gs h (o_assign rfl) rfl fun _ _ _ h => ?_
 refine GoR.done ?_
 refine Go.seq ?_
 refine Go.reg ?_
 refine gs h (o_move rfl) rfl fun _ _ _ h => ?_
 refine gs h (o_move rfl) rfl fun _ _ _ h => ?_
 obtain ⟨r1, er1, H⟩ := bindE H
 refine gs h (OpS.lend (Lp := [Val (Kd.sl KPiece) v1 a1, Pfl (Kd.int .i64) b1 0 a2]) (lent_cons (lent_own 1 rfl) (lent_cons (lent_per Per_pfl 0 rfl) lent_nil)) (o_call (slices_IndexFunc_s_api_Piece_api_Piece_at_reasm_Expire_1.spc v1 a1 b1 a2 r1 er1) rfl [0, 1] [] (by decide) rfl rfl) (fun _ => (clo_cons cl_pur clo_nil))) rfl fun _ _ _ h => ?_
 have g1 := h.mem.pur 0 rfl
 refine gs h (o_assign rfl) rfl fun _ _ _ h => ?_
 refine GoR.done ?_
 refine Go.seq ?_
 refine Go.seq ?_
 refine Go.reg ?_
 refine gs h (o_move rfl) rfl fun _ _ _ h => ?_
 refine gs h (o_bin rfl rfl rfl) rfl fun _ _ _ h => ?_
 refine GoR.done ?_
 by_cases c1 : decide (r1 = (-1)) = true
 ·have H := ifT c1 H
  refine g_t h rfl c1 ?_
  refine Go.seq ?_
  refine Go.reg ?_
  refine gs h (o_move rfl) rfl fun _ _ _ h => ?_
  refine gs h (o_assign rfl) rfl fun _ _ _ h => ?_
  refine GoR.done ?_
  rw [← som H]
  exact g_ret (vs := [v1]) h Try.func26 ⟨rfl, trivial⟩ ⟨v1, rfl, (h.mem.pick [2] (by decide) rfl)⟩
 ·have H := ifF c1 H
  refine g_f h rfl c1 ?_
  refine Go.skip ?_
  refine Go.seq ?_
  refine Go.seq ?_
  refine Go.reg ?_
  refine gs h (o_move rfl) rfl fun _ _ _ h => ?_
  refine gs h (o_bin rfl rfl rfl) rfl fun _ _ _ h => ?_
  obtain ⟨y1, ey1, H⟩ := ltE H
  refine gs h (o_assign' rfl (congrArg (fun z => Value.int .i64 z) ey1)) rfl fun _ _ _ h => ?_
  refine GoR.done ?_
  refine Go.block ?_
  obtain ⟨o1, hl, G1⟩ := bindE H
  refine g_cut (fun G => ∀ j3 (v5 : Value) (a : Act) (w : World), o1 = j3 → InR .i64 j3.2 → St Try.f26.ntmps F [(0, v5), (5, .int .i64 j3.2)] [Val (Kd.osl KPiece) v5 j3.1, Pfl (Kd.int .i64) b1 0 a2] a w → G a w) 2 ?_ fun J3 => ?_
  ·intro j3 v5 a w ho_ g7 h
   rw [ho_] at G1
   have H := G1
   refine Go.seq ?_
   refine Go.reg ?_
   refine gs h (o_move rfl) rfl fun _ _ _ h => ?_
   refine gs h (o_move rfl) rfl fun _ _ _ h => ?_
   obtain ⟨q1, H⟩ := ifS H
   refine gs h (o_ownl 0 rfl rfl rfl q1 t_v23) rfl fun _ _ _ h => ?_
   obtain ⟨y5, ey5, H⟩ := ltE H
   refine gs0 h (o_clr (z := zPiece) 0 rfl rfl q1 t_a23 (by decide) (fun e he => ⟨[.int .u32 0, .int .u32 0, .int .i64 0, .int .i64 0, .int .i64 0, .slice none 0 0, .slice none 0 0, .int .i64 0], by cases he; exact t_zc50, ZPiece⟩)) fun _ _ _ h => ?_
   rw [ey5] at h
   refine GoR.done ?_
   refine Go.seq ?_
   refine Go.reg ?_
   refine gs h (o_move rfl) rfl fun _ _ _ h => ?_
   refine gs h (o_move rfl) rfl fun _ _ _ h => ?_
   obtain ⟨x3, ex3, H⟩ := bindE H
   refine gs h (o_subh 0 rfl rfl rfl ex3 t_v23) rfl fun _ _ _ h => ?_
   refine gs h (o_assign rfl) rfl fun _ _ _ h => ?_
   refine GoR.done ?_
   rw [← som H]
   exact g_ret (vs := [subV v5 (0 : Int).toNat j3.2.toNat (Kd.n KPiece)]) h Try.func26 ⟨rfl, trivial⟩ ⟨subV v5 (0 : Int).toNat j3.2.toNat (Kd.n KPiece), rfl, (h.mem.pick [0] (by decide) rfl)⟩
  refine g_loop (fun s1 G => ∀  (a : Act) (w : World), InR .i64 s1.2.1 → InR .i64 s1.2.2 → St Try.f26.ntmps F [(0, v1), (1, .func (.func 27) #[] #[.pointer (some ⟨b1, 0, none⟩)]), (5, .int .i64 s1.2.1), (6, .int .i64 s1.2.2)] [Val (Kd.osl KPiece) v1 s1.1, Pfl (Kd.int .i64) b1 0 a2] a w → G a w) hl (fun s1 p1 H i1 => ?_) fun I_ => ?_
  ·intro  a w g2 g3 h
   refine Go.seq ?_
   refine Go.seq ?_
   refine Go.reg ?_
   refine gs h (o_move rfl) rfl fun _ _ _ h => ?_
   refine gs h (o_move rfl) rfl fun _ _ _ h => ?_
   have g4 := (len_own 0 rfl h.mem)
   refine gs h (o_ln rfl (rd_own 0 rfl) t_v23) rfl fun _ _ _ h => ?_
   refine gs h (o_bin rfl rfl rfl) rfl fun _ _ _ h => ?_
   refine GoR.done ?_
   by_cases c2 : decide (s1.2.2 < (s1.1.length : Int)) = true
   ·have H := ifT c2 H
    refine g_t h rfl c2 ?_
    refine Go.skip ?_
    refine Go.seq ?_
    obtain ⟨o2, H, G2⟩ := bindE H
    refine g_cut (fun G => ∀ j2 (b2 : Nat) (a : Act) (w : World), o2 = j2 → InR .i64 j2.2.1 → St Try.f26.ntmps F [(0, v1), (1, .func (.func 27) #[] #[.pointer (some ⟨b1, 0, none⟩)]), (5, .int .i64 j2.2.1), (6, .int .i64 s1.2.2)] [Val (Kd.osl KPiece) v1 j2.1, Fld KPiece b2 0 j2.2.2, Pfl (Kd.int .i64) b1 0 a2] a w → G a w) 1 ?_ fun J2 => ?_
    ·intro j2 b2 a w ho_ g6 h
     rw [ho_] at G2
     have H := G2
     refine Go.reg ?_
     refine gs h (o_move rfl) rfl fun _ _ _ h => ?_
     refine gs h (o_bin rfl rfl rfl) rfl fun _ _ _ h => ?_
     obtain ⟨y4, ey4, H⟩ := ltE H
     refine gs h (o_assign' rfl (congrArg (fun z => Value.int .i64 z) ey4)) rfl fun _ _ _ h => ?_
     refine GoR.done ?_
     have e_ := som H; subst e_
     exact Go.inLoop (nx_in i1 _ _ g6 (ey4 ▸ (wrap_in _ _)) (h.wk (by rfl) [0, 2] (by decide) (by rfl)))
    refine Go.block ?_
    obtain ⟨o3, H, G3⟩ := bindE H
    refine g_cut (fun G => ∀ j1 (b2 : Nat) (a : Act) (w : World), o3 = j1 → InR .i64 j1.2.1 → St Try.f26.ntmps F [(0, v1), (1, .func (.func 27) #[] #[.pointer (some ⟨b1, 0, none⟩)]), (5, .int .i64 j1.2.1), (6, .int .i64 s1.2.2)] [Val (Kd.osl KPiece) v1 j1.1, Fld KPiece b2 0 j1.2.2, Pfl (Kd.int .i64) b1 0 a2] a w → G a w) 2 ?_ fun J1 => ?_
    ·intro j1 b2 a w ho_ g5 h
     rw [ho_] at G3
     have H := G3
     exact J2 (j1.1, j1.2.1, j1.2.2) b2 _ _ (som H).symm g5 (h.wk (by rfl) [0, 1, 2] (by decide) (by rfl))
    refine Go.seq ?_
    refine Go.reg ?_
    refine gs h (o_move rfl) rfl fun _ _ _ h => ?_
    refine gs h (o_move rfl) rfl fun _ _ _ h => ?_
    obtain ⟨x1, ex1, H⟩ := bindE H
    refine gs h (o_ix rfl rfl (rd_own 0 rfl) ex1 t_v23) rfl fun _ _ _ h => ?_
    refine gs h (o_lev rfl (rd_own 0 rfl) ex1 t_y50 (by decide)) rfl fun v2 _ _ h => ?_
    refine gs h (o_alloc (K := KPiece) (z := (.agg #[.int .u32 0, .int .u32 0, .int .i64 0, .int .i64 0, .int .i64 0, .slice none 0 0, .slice none 0 0, .int .i64 0])) rfl ZPiece) rfl fun b2 _ _ h => ?_
    refine gs0 h (o_st 0 rfl rfl rfl (pv_at PPiece 1 rfl) rfl t_w50) fun _ _ _ h => ?_
    refine GoR.done ?_
    refine Go.seq ?_
    refine Go.reg ?_
    refine gs h (o_move rfl) rfl fun _ _ _ h => ?_
    refine gs h (o_ldv 0 rfl rfl PPiece t_y50) rfl fun v3 _ _ h => ?_
    obtain ⟨r2, er2, H⟩ := bindE H
    refine gs h (o_callv (vs := [v3]) (caps := [.pointer (some ⟨b1, 0, none⟩)]) rfl rfl (reasm_Expire_1.spc v3 x1 b1 a2 r2 er2) [0, 4] [] (by decide) rfl rfl) rfl fun _ _ _ h => ?_
    refine gs h (o_not rfl) rfl fun _ _ _ h => ?_
    refine GoR.done ?_
    by_cases c3 : (!r2) = true
    ·have H := ifT c3 H
     refine g_t h rfl c3 ?_
     refine Go.seq ?_
     refine Go.reg ?_
     refine gs h (o_move rfl) rfl fun _ _ _ h => ?_
     refine gs h (o_move rfl) rfl fun _ _ _ h => ?_
     refine gs h (o_ldv 1 rfl rfl PPiece t_y50) rfl fun v4 _ _ h => ?_
     obtain ⟨x2, ex2, H⟩ := bindE H
     refine gs h (o_ix rfl rfl (rd_own 4 rfl) ex2 t_v23) rfl fun _ _ _ h => ?_
     obtain ⟨y2, ey2, H⟩ := ltE H
     refine gs0 h (o_ste 4 rfl rfl rfl (pv_at PPiece 0 rfl) ex2 t_w50 (by decide)) fun _ _ _ h => ?_
     rw [ey2] at h
     refine GoR.done ?_
     refine Go.reg ?_
     refine gs h (o_move rfl) rfl fun _ _ _ h => ?_
     refine gs h (o_bin rfl rfl rfl) rfl fun _ _ _ h => ?_
     obtain ⟨y3, ey3, H⟩ := ltE H
     refine gs h (o_assign' rfl (congrArg (fun z => Value.int .i64 z) ey3)) rfl fun _ _ _ h => ?_
     refine GoR.done ?_
     refine Go.inBlock ?_
     exact J1 (y2, y3, x1) b2 _ _ (som H).symm (ey3 ▸ (wrap_in _ _)) (h.wk (by rfl) [4, 2, 5] (by decide) (by rfl))
    ·have H := ifF c3 H
     refine g_f h rfl c3 ?_
     refine Go.skip ?_
     refine Go.inBlock ?_
     exact J1 (s1.1, s1.2.1, x1) b2 _ _ (som H).symm g2 (h.wk (by rfl) [3, 1, 4] (by decide) (by rfl))
   ·have H := ifF c2 H
    refine g_f h rfl c2 ?_
    refine Go.exit rfl ?_
    have e_ := som H; subst e_
    exact J3 (s1.1, s1.2.1) v1 _ _ (nx_out i1).symm g2 (h.wk (by rfl) [0, 1] (by decide) (by rfl))
  ·exact I_ _ _ g1 (ey1 ▸ (wrap_in _ _)) (h.wk (by rfl) [2, 1] (by decide) (by rfl))
def slices_DeleteFunc_s_api_Piece_api_Piece_at_reasm_Expire_1.g (k_ : Nat) (a1 : List TPiece) (a2 : Int) : Option ((List TPiece)) :=
  (slices_IndexFunc_s_api_Piece_api_Piece_at_reasm_Expire_1.g k_ a1 a2).bind fun r1 => (if decide (r1 = (-1)) = true then some (a1) else lt (IntKind.i64.wrap (r1 + 1)) fun y1 => (loopK k_ (fun s1 => (if decide (s1.2.2 < (s1.1.length : Int)) = true then (((idx s1.1 s1.2.2).bind fun x1 => (reasm_Expire_1.g k_ x1 a2).bind fun r2 => (if (!r2) = true then (idx s1.1 s1.2.1).bind fun x2 => lt (s1.1.set s1.2.1.toNat x1) fun y2 => lt (IntKind.i64.wrap (s1.2.1 + 1)) fun y3 => some ((y2, y3, x1)) else some ((s1.1, s1.2.1, x1)))).bind (fun j1 => some ((j1.1, j1.2.1, j1.2.2)))).bind (fun j2 => lt (IntKind.i64.wrap (s1.2.2 + 1)) fun y4 => some (.inl (j2.1, j2.2.1, y4))) else some (.inr ((s1.1, s1.2.1))))) (a1, r1, y1)).bind (fun j3 => if inB j3.1 j3.2 (j3.1.length : Int) then (lt (Go.splice j3.1 j3.2.toNat (List.replicate ((j3.1.length : Int).toNat - j3.2.toNat) zPiece)) fun y5 => (cut y5 0 j3.2).bind fun x3 => some (x3)) else none))
theorem slices_DeleteFunc_s_api_Piece_api_Piece_at_reasm_Expire_1.le (k_ : Nat) (a1 : List TPiece) (a2 : Int) : Le (slices_DeleteFunc_s_api_Piece_api_Piece_at_reasm_Expire_1.g k_ a1 a2) (slices_DeleteFunc_s_api_Piece_api_Piece_at_reasm_Expire_1.f a1 a2) := by
 unfold slices_DeleteFunc_s_api_Piece_api_Piece_at_reasm_Expire_1.g slices_DeleteFunc_s_api_Piece_api_Piece_at_reasm_Expire_1.f
 repeat' (first | with_reducible refine le_loop fun _ => ?_ | with_reducible refine le_bind ?_ fun _ => ?_ | with_reducible refine le_ite ?_ ?_ | with_reducible refine le_lt fun _ => ?_ | with_reducible refine le_elim (fun _ => ?_) (fun _ => ?_) _ | with_reducible apply reasm_Expire_1.le | with_reducible apply slices_IndexFunc_s_api_Piece_api_Piece_at_reasm_Expire_1.le | with_reducible exact le_refl _)
/-! drawbridge/reasm.Expire -/
noncomputable def reasm_Expire.f (a1 : List TPiece) (a2 : Int) : Option ((List TPiece)) :=
  ((reasm_Check.f a1).bind fun r1 => (if (!r1) = true then some (true) else (reasm_tick.f a2).bind fun r2 => some ((!r2)))).bind (fun j1 => (if j1 = true then some (a1) else (slices_Clone_s_api_Piece_api_Piece.f a1).bind fun r3 => (slices_DeleteFunc_s_api_Piece_api_Piece_at_reasm_Expire_1.f r3 a2).bind fun r4 => some (r4)))
set_option maxRecDepth 100000 in
set_option maxHeartbeats 4000000 in
theorem reasm_Expire.spc (v1 : Value) (a1 : List TPiece) (a2 : Int) (ha2 : InR .i64 a2) (r : (List TPiece)) (H : reasm_Expire.f a1 a2 = some r) : Spc Try.prog 13 [v1, .int .i64 a2] [Val (Kd.sl KPiece) v1 a1] [] (fun (s : Value) => s) (fun s => [Val (Kd.sl KPiece) s r]) := by
 unfold reasm_Expire.f at H
 refine Spc.go Try.func13 rfl (by kernel_rfl) rfl rfl (all_cons (Val.per Per_sl) all_nil) fun F a w h => ?_
 refine Go.seq ?_
 refine Go.reg ?_
 refine gs h (o_box (K := (Kd.int .i64)) rfl (pv_int ha2)) rfl fun b1 _ _ h => ?_
 refine gs h (o_assign rfl) rfl fun _ _ _ h => ?_
 refine GoR.done ?_
 refine Go.seq ?_
 refine Go.seq ?_
 obtain ⟨o1, H, G1⟩ := bindE H
 refine g_cut (fun G => ∀ j1 (a : Act) (w : World), o1 = j1 → St Try.f13.ntmps F [(0, v1), (3, .pointer (some ⟨b1, 0, none⟩)), (12, .bool j1)] [Val (Kd.sl KPiece) v1 a1, Fld (Kd.int .i64) b1 0 a2] a w → G a w) 1 ?_ fun J1 => ?_
 ·intro j1 a w ho_ h
  rw [ho_] at G1
  have H := G1
  by_cases c2 : j1 = true
  ·have H := ifT c2 H
   refine g_t h rfl c2 ?_
   refine Go.seq ?_
   refine Go.reg ?_
   refine gs h (o_move rfl) rfl fun _ _ _ h => ?_
   refine gs h (o_assign rfl) rfl fun _ _ _ h => ?_
   refine GoR.done ?_
   rw [← som H]
   exact g_ret (vs := [v1]) h Try.func13 ⟨rfl, trivial⟩ ⟨v1, rfl, (h.mem.pick [0] (by decide) rfl)⟩
  ·have H := ifF c2 H
   refine g_f h rfl c2 ?_
   refine Go.skip ?_
   refine Go.seq ?_
   refine Go.reg ?_
   refine gs h (o_move rfl) rfl fun _ _ _ h => ?_
   obtain ⟨r3, er3, H⟩ := bindE H
   refine gs h (o_call (slices_Clone_s_api_Piece_api_Piece.spc v1 a1 r3 er3) rfl [0] [] (by decide) rfl rfl) rfl fun v2 _ _ h => ?_
   refine gs h (o_makeFunc (vs := [.pointer (some ⟨b1, 0, none⟩)]) rfl) rfl fun _ _ _ h => ?_
   replace h := h.mm fun m => m.frz Per_int 2 rfl
   obtain ⟨r4, er4, H⟩ := bindE H
   refine gs h (o_call (slices_DeleteFunc_s_api_Piece_api_Piece_at_reasm_Expire_1.spc v2 r3 b1 a2 r4 er4) rfl [2] [0] (by decide) rfl rfl) rfl fun v3 _ _ h => ?_
   refine gs h (o_assign rfl) rfl fun _ _ _ h => ?_
   refine GoR.done ?_
   replace h := h.mm fun m => m.freeze 0 rfl
   rw [← som H]
   exact g_ret (vs := [v3]) h Try.func13 ⟨rfl, trivial⟩ ⟨v3, rfl, (h.mem.pick [0] (by decide) rfl)⟩
 refine Go.reg ?_
 refine gs h (o_move rfl) rfl fun _ _ _ h => ?_
 obtain ⟨r1, er1, H⟩ := bindE H
 refine gs h (o_call (reasm_Check.spc v1 a1 r1 er1) rfl [1] [] (by decide) rfl rfl) rfl fun _ _ _ h => ?_
 refine gs h (o_not rfl) rfl fun _ _ _ h => ?_
 refine gs h (o_move rfl) rfl fun _ _ _ h => ?_
 by_cases c1 : (!r1) = true
 ·have H := ifT c1 H
  refine gk h rfl rfl (nb_t c1) rfl fun _ h => ?_
  refine gk h rfl rfl (nb_t c1) rfl fun _ h => ?_
  refine gk h rfl rfl (nb_t c1) rfl fun _ h => ?_
  refine gs h (o_pickT rfl rfl c1) rfl fun _ _ _ h => ?_
  refine GoR.done ?_
  exact J1 true _ _ (som H).symm (h.wk (by rfl) [1, 0] (by decide) (by rfl))
 ·have H := ifF c1 H
  have g1 := (fd_in 0 rfl h.mem)
  refine gg h rfl rfl (nbF c1) (o_ldx 0 rfl rfl X_int t_y3) rfl fun _ _ _ h => ?_
  obtain ⟨r2, er2, H⟩ := bindE H
  refine gg h rfl rfl (nbF c1) (o_call (reasm_tick.spc a2 g1 r2 er2) rfl [] [] (by decide) rfl rfl) rfl fun _ _ _ h => ?_
  refine gg h rfl rfl (nbF c1) (o_not rfl) rfl fun _ _ _ h => ?_
  refine gs h (o_pickF rfl rfl c1) rfl fun _ _ _ h => ?_
  refine GoR.done ?_
  exact J1 (!r2) _ _ (som H).symm (h.wk (by rfl) [1, 0] (by decide) (by rfl))
def reasm_Expire.g (k_ : Nat) (a1 : List TPiece) (a2 : Int) : Option ((List TPiece)) :=
  ((reasm_Check.g k_ a1).bind fun r1 => (if (!r1) = true then some (true) else (reasm_tick.g k_ a2).bind fun r2 => some ((!r2)))).bind (fun j1 => (if j1 = true then some (a1) else (slices_Clone_s_api_Piece_api_Piece.g k_ a1).bind fun r3 => (slices_DeleteFunc_s_api_Piece_api_Piece_at_reasm_Expire_1.g k_ r3 a2).bind fun r4 => some (r4)))
theorem reasm_Expire.le (k_ : Nat) (a1 : List TPiece) (a2 : Int) : Le (reasm_Expire.g k_ a1 a2) (reasm_Expire.f a1 a2) := by
 unfold reasm_Expire.g reasm_Expire.f
 repeat' (first | with_reducible refine le_loop fun _ => ?_ | with_reducible refine le_bind ?_ fun _ => ?_ | with_reducible refine le_ite ?_ ?_ | with_reducible refine le_lt fun _ => ?_ | with_reducible refine le_elim (fun _ => ?_) (fun _ => ?_) _ | with_reducible apply reasm_Check.le | with_reducible apply reasm_tick.le | with_reducible apply slices_Clone_s_api_Piece_api_Piece.le | with_reducible apply slices_DeleteFunc_s_api_Piece_api_Piece_at_reasm_Expire_1.le | with_reducible exact le_refl _)
end Go.Proofs.Ytlpjgmbbcibkjaa.S
