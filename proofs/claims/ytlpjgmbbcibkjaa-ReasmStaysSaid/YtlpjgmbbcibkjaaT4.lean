/- Contracts, printed by a program of this session. -/
import Derived.Test.YtlpjgmbbcibkjaaT0
namespace Go.Proofs.Ytlpjgmbbcibkjaa.S
open Go Go.SL Go.RowKit
set_option linter.unusedVariables false
set_option linter.unusedSimpArgs false
/-! drawbridge/reasm.put -/
noncomputable def reasm_put.f (a1 : TPiece) (a2 : Int) (a3 : List Int) : Option (TPiece) :=
  lt (max (a1.Data.length : Int) (IntKind.i64.wrap (a2 + (a3.length : Int)))) fun y1 => (mk y1 0).bind fun x1 => (mk y1 false).bind fun x2 => lt (ovr x1 0 (x1.length : Int) a1.Data) fun y2 => lt (ovr x2 0 (x2.length : Int) a1.Have) fun y3 => (loop (fun s1 => (if decide (s1.2.2 < (a3.length : Int)) = true then (((idx a3 s1.2.2).bind fun x3 => (idx s1.2.1 (IntKind.i64.wrap (a2 + s1.2.2))).bind fun x4 => (if (!x4) = true then (idx s1.1 (IntKind.i64.wrap (a2 + s1.2.2))).bind fun x5 => lt (s1.1.set (IntKind.i64.wrap (a2 + s1.2.2)).toNat x3) fun y4 => (idx s1.2.1 (IntKind.i64.wrap (a2 + s1.2.2))).bind fun x6 => lt (s1.2.1.set (IntKind.i64.wrap (a2 + s1.2.2)).toNat true) fun y5 => some ((y4, y5)) else some ((s1.1, s1.2.1)))).bind (fun j1 => some ((j1.1, j1.2)))).bind (fun j2 => some (.inl (j2.1, j2.2, IntKind.i64.wrap (s1.2.2 + 1)))) else some (.inr ((s1.1, s1.2.1))))) (y2, y3, 0)).bind (fun j3 => some ((⟨a1.Src, a1.Dst, a1.Id, a1.Proto, a1.Until, j3.1, j3.2, a1.Total⟩ : TPiece)))
set_option maxRecDepth 100000 in
set_option maxHeartbeats 4000000 in
theorem reasm_put.spc (v1 : Value) (a1 : TPiece) (a2 : Int) (ha2 : InR .i64 a2) (v2 : Value) (a3 : List Int) (r : TPiece) (H : reasm_put.f a1 a2 a3 = some r) : Spc Try.prog 20 [v1, .int .i64 a2, v2] [Val KPiece v1 a1, Val (Kd.sl (Kd.int .u8)) v2 a3] [] (fun (s : Value) => s) (fun s => [Val KPiece s r]) := by
 unfold reasm_put.f at H
 refine Spc.go Try.func20 rfl (by kernel_rfl) rfl rfl (all_cons (Val.per PPiece) (all_cons (Val.per Per_sl) all_nil)) fun F a w h => ?_
 refine Go.seq ?_
 refine Go.reg ?_
 refine gs h (o_box (K := KPiece) rfl (pv_at PPiece 0 rfl)) rfl fun b1 _ _ h => ?_
 refine gs h (o_alloc (K := KPiece) (z := (.agg #[.int .u32 0, .int .u32 0, .int .i64 0, .int .i64 0, .int .i64 0, .slice none 0 0, .slice none 0 0, .int .i64 0])) rfl ZPiece) rfl fun b2 _ _ h => ?_
 refine GoR.done ?_
 refine Go.seq ?_
 refine Go.reg ?_
 refine gs h (o_fa rfl t_f50_5 rfl rfl) rfl fun _ _ _ h => ?_
 refine gs h (o_lfv 1 rfl rfl sPiece_Data rfl Per_sl t_y25) rfl fun v3 _ _ h => ?_
 have g1 := (len_at 0 rfl h.mem)
 refine gs h (o_ln rfl (rd_at 0 rfl) t_v25) rfl fun _ _ _ h => ?_
 refine gs h (o_move rfl) rfl fun _ _ _ h => ?_
 refine gs h (o_move rfl) rfl fun _ _ _ h => ?_
 have g2 := (len_at 4 rfl h.mem)
 refine gs h (o_ln rfl (rd_at 4 rfl) t_v25) rfl fun _ _ _ h => ?_
 refine gs h (o_bin rfl rfl rfl) rfl fun _ _ _ h => ?_
 refine gs h (o_max rfl rfl) rfl fun _ _ _ h => ?_
 obtain ⟨y1, ey1, H⟩ := ltE H
 refine gs h (o_assign' rfl (congrArg (fun z => Value.int .i64 z) ey1)) rfl fun _ _ _ h => ?_
 refine GoR.done ?_
 refine Go.seq ?_
 replace h := h.wk (E' := [(1, .int .i64 a2), (2, v2), (3, .pointer (some ⟨b1, 0, none⟩)), (6, .pointer (some ⟨b2, 0, none⟩)), (7, .int .i64 y1)]) (L' := [Val (Kd.sl (Kd.int .u8)) v3 a1.Data, Fld KPiece b2 0 zPiece, Fld KPiece b1 0 a1, Val KPiece v1 a1, Val (Kd.sl (Kd.int .u8)) v2 a3]) (by rfl) [0, 1, 2, 3, 4] (by decide) (by rfl)
 obtain ⟨x1, ex1, H⟩ := bindE H
 obtain ⟨x2, ex2, H⟩ := bindE H
 refine Go.draw (L := [Val (Kd.sl (Kd.int .u8)) v3 a1.Data, Fld KPiece b2 0 zPiece, Fld KPiece b1 0 a1, Val KPiece v1 a1, Val (Kd.sl (Kd.int .u8)) v2 a3]) h 5 [⟨[], [], [], false, .con (.int .i64 y1), none, fun u => []⟩, ⟨[0], [], [], false, .own, none, fun u => [Val (Kd.osl (Kd.int .u8)) u x1]⟩, ⟨[], [], [], false, .con (.int .i64 y1), none, fun u => []⟩, ⟨[2], [], [], false, .own, none, fun u => [Val (Kd.osl Kd.bool) u x2]⟩, ⟨[0, 1], [], [], false, .fn (fun u => u) 1, none, fun u => []⟩] rfl t_mxo (by kernel_rfl) (by rfl) ?_ fun f1 _ _ h => ?_
 ·exact obs_cons (ob_con rfl (gok_none rfl) rfl fun f1 => (o_move rfl)) (obs_cons (ob_own rfl (gok_none rfl) rfl fun f1 => (o_mk (K := (Kd.int .u8)) rfl rfl ex1 t_a25 (by decide) (fun e he => ⟨[.int .u8 0], by cases he; exact t_zc5, z_int⟩))) (obs_cons (ob_con rfl (gok_none rfl) rfl fun f1 => (o_move rfl)) (obs_cons (ob_own rfl (gok_none rfl) rfl fun f1 => (o_mk (K := Kd.bool) rfl rfl ex2 t_a38 (by decide) (fun e he => ⟨[.bool false], by cases he; exact t_zc4, z_bool⟩))) (obs_cons (ob_fn rfl (gok_none rfl) rfl fun f1 => (o_assign rfl)) (obs_nil)))))
 replace h := h.wk (E' := [(1, .int .i64 a2), (2, v2), (3, .pointer (some ⟨b1, 0, none⟩)), (6, .pointer (some ⟨b2, 0, none⟩)), (23, (f1 3)), (8, (f1 1))]) (L' := [Val (Kd.osl (Kd.int .u8)) (f1 1) x1, Val (Kd.osl Kd.bool) (f1 3) x2, Val (Kd.sl (Kd.int .u8)) v3 a1.Data, Fld KPiece b2 0 zPiece, Fld KPiece b1 0 a1, Val KPiece v1 a1, Val (Kd.sl (Kd.int .u8)) v2 a3]) (by kernel_rfl) [0, 1, 2, 3, 4, 5, 6] (by decide) (by kernel_rfl)
 refine gs h (o_assign rfl) rfl fun _ _ _ h => ?_
 refine GoR.done ?_
 refine Go.seq ?_
 refine Go.reg ?_
 refine gs h (o_move rfl) rfl fun _ _ _ h => ?_
 refine gs h (o_fa rfl t_f50_5 rfl rfl) rfl fun _ _ _ h => ?_
 refine gs h (o_lfv 4 rfl rfl sPiece_Data rfl Per_sl t_y25) rfl fun v6 _ _ h => ?_
 obtain ⟨y2, ey2, H⟩ := ltE H
 refine gs h (o_cpf 1 rfl rfl rfl (rd_at 0 rfl) t_a25) rfl fun _ _ _ h => ?_
 rw [ey2] at h
 refine GoR.done ?_
 refine Go.seq ?_
 refine Go.reg ?_
 refine gs h (o_move rfl) rfl fun _ _ _ h => ?_
 refine gs h (o_fa rfl t_f50_6 rfl rfl) rfl fun _ _ _ h => ?_
 refine gs h (o_lfv 5 rfl rfl sPiece_Have rfl Per_sl t_y38) rfl fun v7 _ _ h => ?_
 obtain ⟨y3, ey3, H⟩ := ltE H
 refine gs h (o_cpf 3 rfl rfl rfl (rd_at 0 rfl) t_a38) rfl fun _ _ _ h => ?_
 rw [ey3] at h
 refine GoR.done ?_
 refine Go.seq ?_
 refine Go.seq ?_
 refine Go.reg ?_
 refine gs h (o_move rfl) rfl fun _ _ _ h => ?_
 have g3 := (len_at 8 rfl h.mem)
 refine gs h (o_ln rfl (rd_at 8 rfl) t_v25) rfl fun _ _ _ h => ?_
 refine gs h (o_move rfl) rfl fun _ _ _ h => ?_
 refine GoR.done ?_
 refine Go.block ?_
 obtain ⟨o1, hl, G1⟩ := bindE H
 refine g_cut (fun G => ∀ j3 (v8 : Value) (v9 : Value) (a : Act) (w : World), o1 = j3 → St Try.f20.ntmps F [(3, .pointer (some ⟨b1, 0, none⟩)), (6, .pointer (some ⟨b2, 0, none⟩)), (8, v8), (9, v9)] [Val (Kd.osl (Kd.int .u8)) v8 j3.1, Val (Kd.osl Kd.bool) v9 j3.2, Fld KPiece b2 0 zPiece, Fld KPiece b1 0 a1] a w → G a w) 2 ?_ fun J3 => ?_
 ·intro j3 v8 v9 a w ho_ h
  rw [ho_] at G1
  have H := G1
  refine Go.seq ?_
  refine Go.reg ?_
  refine gs h (o_move rfl) rfl fun _ _ _ h => ?_
  refine gs h (o_move rfl) rfl fun _ _ _ h => ?_
  refine gs h (o_fa rfl t_f50_5 rfl rfl) rfl fun _ _ _ h => ?_
  replace h := h.mm fun m => (m.take (i := 3) rfl).opn (cPiece _ _)
  replace h := h.mm fun m => m.freeze 8 rfl
  refine gs0 h (o_st 5 rfl rfl rfl (pv_at Per_sl 8 rfl) rfl t_w25) fun _ _ _ h => ?_
  refine gs h (o_fa rfl t_f50_6 rfl rfl) rfl fun _ _ _ h => ?_
  replace h := h.mm fun m => m.freeze 9 rfl
  refine gs0 h (o_st 6 rfl rfl rfl (pv_at Per_sl 9 rfl) rfl t_w38) fun _ _ _ h => ?_
  refine GoR.done ?_
  refine Go.seq ?_
  refine Go.reg ?_
  replace h := h.mm fun m => (m.pull (Lo := [Fld (Kd.int .u32) b1 0 a1.Src, Fld (Kd.int .u32) b1 1 a1.Dst, Fld (Kd.int .i64) b1 2 a1.Id, Fld (Kd.int .i64) b1 3 a1.Proto, Fld (Kd.int .i64) b1 4 a1.Until, Fld (Kd.sl (Kd.int .u8)) b1 5 j3.1, Fld (Kd.sl Kd.bool) b1 6 j3.2, Fld (Kd.int .i64) b1 7 a1.Total]) [0, 1, 2, 3, 4, 5, 6, 7] (by decide) rfl).cls (cPiece _ (⟨a1.Src, a1.Dst, a1.Id, a1.Proto, a1.Until, j3.1, j3.2, a1.Total⟩ : TPiece))
  refine gs h (o_ldv 0 rfl rfl PPiece t_y50) rfl fun v10 _ _ h => ?_
  refine gs0 h (o_st 12 rfl rfl rfl (pv_at PPiece 0 rfl) rfl t_w50) fun _ _ _ h => ?_
  refine GoR.done ?_
  obtain ⟨v11, h, u1⟩ := h.peek 12 rfl PPiece t_y50
  rw [← som H]
  exact g_ret (vs := [v11]) h Try.func20 ⟨⟨_, rfl, u1⟩, trivial⟩ ⟨v11, rfl, (h.mem.pick [0] (by decide) rfl)⟩
 refine g_loop (fun s1 G => ∀  (a : Act) (w : World), InR .i64 s1.2.2 → St Try.f20.ntmps F [(1, .int .i64 a2), (3, .pointer (some ⟨b1, 0, none⟩)), (6, .pointer (some ⟨b2, 0, none⟩)), (8, (f1 1)), (9, (f1 3)), (32, v2), (33, .int .i64 (a3.length : Int)), (34, .int .i64 s1.2.2)] [Val (Kd.osl (Kd.int .u8)) (f1 1) s1.1, Val (Kd.osl Kd.bool) (f1 3) s1.2.1, Val (Kd.sl (Kd.int .u8)) v2 a3, Fld KPiece b2 0 zPiece, Fld KPiece b1 0 a1] a w → G a w) hl (fun s1 p1 H i1 => ?_) fun I_ => ?_
 ·intro  a w g4 h
  refine Go.seq ?_
  refine Go.reg ?_
  refine gs h (o_bin rfl rfl rfl) rfl fun _ _ _ h => ?_
  refine GoR.done ?_
  refine Go.seq ?_
  by_cases c1 : decide (s1.2.2 < (a3.length : Int)) = true
  ·have H := ifT c1 H
   refine g_t h rfl c1 ?_
   refine Go.skip ?_
   refine Go.seq ?_
   obtain ⟨o2, H, G2⟩ := bindE H
   refine g_cut (fun G => ∀ j2 (a : Act) (w : World), o2 = j2 → St Try.f20.ntmps F [(1, .int .i64 a2), (3, .pointer (some ⟨b1, 0, none⟩)), (6, .pointer (some ⟨b2, 0, none⟩)), (8, (f1 1)), (9, (f1 3)), (32, v2), (33, .int .i64 (a3.length : Int)), (34, .int .i64 s1.2.2)] [Val (Kd.osl (Kd.int .u8)) (f1 1) j2.1, Val (Kd.osl Kd.bool) (f1 3) j2.2, Val (Kd.sl (Kd.int .u8)) v2 a3, Fld KPiece b2 0 zPiece, Fld KPiece b1 0 a1] a w → G a w) 1 ?_ fun J2 => ?_
   ·intro j2 a w ho_ h
    rw [ho_] at G2
    have H := G2
    refine Go.reg ?_
    refine gs h (o_bin rfl rfl rfl) rfl fun _ _ _ h => ?_
    refine gs h (o_move rfl) rfl fun _ _ _ h => ?_
    refine GoR.done ?_
    have e_ := som H; subst e_
    exact Go.inLoop (nx_in i1 _ _ (wrap_in _ _) (h.wk (by rfl) [0, 1, 2, 3, 4] (by decide) (by rfl)))
   refine Go.block ?_
   obtain ⟨o3, H, G3⟩ := bindE H
   refine g_cut (fun G => ∀ j1 (a : Act) (w : World), o3 = j1 → St Try.f20.ntmps F [(1, .int .i64 a2), (3, .pointer (some ⟨b1, 0, none⟩)), (6, .pointer (some ⟨b2, 0, none⟩)), (8, (f1 1)), (9, (f1 3)), (32, v2), (33, .int .i64 (a3.length : Int)), (34, .int .i64 s1.2.2)] [Val (Kd.osl (Kd.int .u8)) (f1 1) j1.1, Val (Kd.osl Kd.bool) (f1 3) j1.2, Val (Kd.sl (Kd.int .u8)) v2 a3, Fld KPiece b2 0 zPiece, Fld KPiece b1 0 a1] a w → G a w) 2 ?_ fun J1 => ?_
   ·intro j1 a w ho_ h
    rw [ho_] at G3
    have H := G3
    exact J2 (j1.1, j1.2) _ _ (som H).symm (h.wk (by rfl) [0, 1, 2, 3, 4] (by decide) (by rfl))
   refine Go.seq ?_
   refine Go.reg ?_
   refine gs h (o_move rfl) rfl fun _ _ _ h => ?_
   obtain ⟨x3, ex3, H⟩ := bindE H
   refine gs h (o_ix rfl rfl (rd_at 2 rfl) ex3 t_v25) rfl fun _ _ _ h => ?_
   have g5 := (rd_inr (rd_at 2 rfl) ex3 h.mem)
   refine gs h (o_lex rfl (rd_at 2 rfl) ex3 X_int t_y5 (by decide)) rfl fun _ _ _ h => ?_
   refine gs h (o_assign rfl) rfl fun _ _ _ h => ?_
   refine gs h (o_assign rfl) rfl fun _ _ _ h => ?_
   refine GoR.done ?_
   refine Go.seq ?_
   refine Go.reg ?_
   refine gs h (o_move rfl) rfl fun _ _ _ h => ?_
   refine gs h (o_move rfl) rfl fun _ _ _ h => ?_
   refine gs h (o_move rfl) rfl fun _ _ _ h => ?_
   refine gs h (o_bin rfl rfl rfl) rfl fun _ _ _ h => ?_
   obtain ⟨x4, ex4, H⟩ := bindE H
   refine gs h (o_ix rfl rfl (rd_own 1 rfl) ex4 t_v38) rfl fun _ _ _ h => ?_
   refine gs h (o_lex rfl (rd_own 1 rfl) ex4 X_bool t_y4 (by decide)) rfl fun _ _ _ h => ?_
   refine gs h (o_not rfl) rfl fun _ _ _ h => ?_
   refine GoR.done ?_
   by_cases c2 : (!x4) = true
   ·have H := ifT c2 H
    refine g_t h rfl c2 ?_
    refine Go.reg ?_
    refine gs h (o_move rfl) rfl fun _ _ _ h => ?_
    refine gs h (o_move rfl) rfl fun _ _ _ h => ?_
    refine gs h (o_move rfl) rfl fun _ _ _ h => ?_
    refine gs h (o_bin rfl rfl rfl) rfl fun _ _ _ h => ?_
    refine gs h (o_move rfl) rfl fun _ _ _ h => ?_
    refine gs h (o_move rfl) rfl fun _ _ _ h => ?_
    refine gs h (o_move rfl) rfl fun _ _ _ h => ?_
    refine gs h (o_bin rfl rfl rfl) rfl fun _ _ _ h => ?_
    refine gs h (o_move rfl) rfl fun _ _ _ h => ?_
    obtain ⟨x5, ex5, H⟩ := bindE H
    refine gs h (o_ix rfl rfl (rd_own 0 rfl) ex5 t_v25) rfl fun _ _ _ h => ?_
    obtain ⟨y4, ey4, H⟩ := ltE H
    refine gs0 h (o_ste 0 rfl rfl rfl (pv_int g5) ex5 t_w5 (by decide)) fun _ _ _ h => ?_
    rw [ey4] at h
    obtain ⟨x6, ex6, H⟩ := bindE H
    refine gs h (o_ix rfl rfl (rd_own 1 rfl) ex6 t_v38) rfl fun _ _ _ h => ?_
    obtain ⟨y5, ey5, H⟩ := ltE H
    refine gs0 h (o_ste 1 rfl rfl rfl pv_bool ex6 t_w4 (by decide)) fun _ _ _ h => ?_
    rw [ey5] at h
    refine GoR.done ?_
    refine Go.inBlock ?_
    exact J1 (y4, y5) _ _ (som H).symm (h.wk (by rfl) [0, 1, 2, 3, 4] (by decide) (by rfl))
   ·have H := ifF c2 H
    refine g_f h rfl c2 ?_
    refine Go.skip ?_
    refine Go.inBlock ?_
    exact J1 (s1.1, s1.2.1) _ _ (som H).symm (h.wk (by rfl) [0, 1, 2, 3, 4] (by decide) (by rfl))
  ·have H := ifF c1 H
   refine g_f h rfl c1 ?_
   refine Go.exit rfl ?_
   have e_ := som H; subst e_
   exact J3 (s1.1, s1.2.1) (f1 1) (f1 3) _ _ (nx_out i1).symm (h.wk (by rfl) [0, 1, 3, 4] (by decide) (by rfl))
 ·exact I_ _ _ (show InR .i64 0 by decide) (h.wk (by rfl) [2, 3, 8, 5, 6] (by decide) (by rfl))
def reasm_put.g (k_ : Nat) (a1 : TPiece) (a2 : Int) (a3 : List Int) : Option (TPiece) :=
  lt (max (a1.Data.length : Int) (IntKind.i64.wrap (a2 + (a3.length : Int)))) fun y1 => (mk y1 0).bind fun x1 => (mk y1 false).bind fun x2 => lt (ovr x1 0 (x1.length : Int) a1.Data) fun y2 => lt (ovr x2 0 (x2.length : Int) a1.Have) fun y3 => (loopK k_ (fun s1 => (if decide (s1.2.2 < (a3.length : Int)) = true then (((idx a3 s1.2.2).bind fun x3 => (idx s1.2.1 (IntKind.i64.wrap (a2 + s1.2.2))).bind fun x4 => (if (!x4) = true then (idx s1.1 (IntKind.i64.wrap (a2 + s1.2.2))).bind fun x5 => lt (s1.1.set (IntKind.i64.wrap (a2 + s1.2.2)).toNat x3) fun y4 => (idx s1.2.1 (IntKind.i64.wrap (a2 + s1.2.2))).bind fun x6 => lt (s1.2.1.set (IntKind.i64.wrap (a2 + s1.2.2)).toNat true) fun y5 => some ((y4, y5)) else some ((s1.1, s1.2.1)))).bind (fun j1 => some ((j1.1, j1.2)))).bind (fun j2 => some (.inl (j2.1, j2.2, IntKind.i64.wrap (s1.2.2 + 1)))) else some (.inr ((s1.1, s1.2.1))))) (y2, y3, 0)).bind (fun j3 => some ((⟨a1.Src, a1.Dst, a1.Id, a1.Proto, a1.Until, j3.1, j3.2, a1.Total⟩ : TPiece)))
theorem reasm_put.le (k_ : Nat) (a1 : TPiece) (a2 : Int) (a3 : List Int) : Le (reasm_put.g k_ a1 a2 a3) (reasm_put.f a1 a2 a3) := by
 unfold reasm_put.g reasm_put.f
 repeat' (first | with_reducible refine le_loop fun _ => ?_ | with_reducible refine le_bind ?_ fun _ => ?_ | with_reducible refine le_ite ?_ ?_ | with_reducible refine le_lt fun _ => ?_ | with_reducible refine le_elim (fun _ => ?_) (fun _ => ?_) _ | with_reducible exact le_refl _)
/-! slices.Index[[]bool,bool] -/
noncomputable def slices_Index_s_bool_bool.f (a1 : List Bool) (a2 : Bool) : Option (Int) :=
  (loop (fun s1 => (if decide (s1 < (a1.length : Int)) = true then (idx a1 s1).bind fun x1 => (if (a2 == x1) = true then some (.inr (.inr (s1))) else some (.inl (IntKind.i64.wrap (s1 + 1)))) else some (.inr (.inl (()))))) 0).bind (Sum.elim (fun j1 => some ((-1))) (fun z_ => some (z_)))
set_option maxRecDepth 100000 in
set_option maxHeartbeats 4000000 in
theorem slices_Index_s_bool_bool.spc (v1 : Value) (a1 : List Bool) (a2 : Bool) (r : Int) (H : slices_Index_s_bool_bool.f a1 a2 = some r) : Spc Try.prog 33 [v1, .bool a2] [Val (Kd.sl Kd.bool) v1 a1] [] (fun (s : Unit) => .int .i64 r) (fun s => [Ent.pur (InR .i64 r)]) := by
 unfold slices_Index_s_bool_bool.f at H
 refine Spc.go Try.func33 rfl (by kernel_rfl) rfl rfl (all_cons (Val.per Per_sl) all_nil) fun F a w h => ?_
 refine Go.seq ?_
 refine Go.reg ?_
 refine gs h (o_assign rfl) rfl fun _ _ _ h => ?_
 refine GoR.done ?_
 refine Go.seq ?_
 refine Go.seq ?_
 refine Go.reg ?_
 refine gs h (o_move rfl) rfl fun _ _ _ h => ?_
 have g1 := (len_at 0 rfl h.mem)
 refine gs h (o_ln rfl (rd_at 0 rfl) t_v38) rfl fun _ _ _ h => ?_
 refine gs h (o_move rfl) rfl fun _ _ _ h => ?_
 refine GoR.done ?_
 refine Go.block ?_
 obtain ⟨o1, hl, G1⟩ := bindE H
 refine g_cut (fun G => ∀ j1 (a : Act) (w : World), o1 = .inl (j1) → St Try.f33.ntmps F [] [] a w → G a w) 2 ?_ fun J1 => ?_
 ·intro j1 a w ho_ h
  rw [ho_] at G1
  have H := G1
  refine Go.seq ?_
  refine Go.reg ?_
  refine gs h (o_assign rfl) rfl fun _ _ _ h => ?_
  refine GoR.done ?_
  rw [← som H]
  exact g_ret (vs := [.int .i64 (-1)]) h Try.func33 ⟨rfl, trivial⟩ ⟨(), rfl, ((h.mem.pick [] (by decide) rfl).addpur (show InR .i64 (-1) by decide))⟩
 refine g_loop (fun s1 G => ∀  (a : Act) (w : World), InR .i64 s1 → St Try.f33.ntmps F [(0, v1), (1, .bool a2), (7, .int .i64 (a1.length : Int)), (8, .int .i64 s1)] [Val (Kd.sl Kd.bool) v1 a1] a w → G a w) hl (fun s1 p1 H i1 => ?_) fun I_ => ?_
 ·intro  a w g2 h
  refine Go.seq ?_
  refine Go.reg ?_
  refine gs h (o_bin rfl rfl rfl) rfl fun _ _ _ h => ?_
  refine GoR.done ?_
  refine Go.seq ?_
  by_cases c1 : decide (s1 < (a1.length : Int)) = true
  ·have H := ifT c1 H
   refine g_t h rfl c1 ?_
   refine Go.skip ?_
   refine Go.seq ?_
   refine Go.block ?_
   refine Go.seq ?_
   refine Go.reg ?_
   refine gs h (o_move rfl) rfl fun _ _ _ h => ?_
   refine gs h (o_assign rfl) rfl fun _ _ _ h => ?_
   refine GoR.done ?_
   refine Go.seq ?_
   refine Go.reg ?_
   refine gs h (o_move rfl) rfl fun _ _ _ h => ?_
   refine gs h (o_move rfl) rfl fun _ _ _ h => ?_
   refine gs h (o_move rfl) rfl fun _ _ _ h => ?_
   obtain ⟨x1, ex1, H⟩ := bindE H
   refine gs h (o_ix rfl rfl (rd_at 0 rfl) ex1 t_v38) rfl fun _ _ _ h => ?_
   refine gs h (o_lex rfl (rd_at 0 rfl) ex1 X_bool t_y4 (by decide)) rfl fun _ _ _ h => ?_
   refine gs h (o_eqb rfl rfl t_u4) rfl fun _ _ _ h => ?_
   refine GoR.done ?_
   by_cases c2 : (a2 == x1) = true
   ·have H := ifT c2 H
    refine g_t h rfl c2 ?_
    refine Go.seq ?_
    refine Go.reg ?_
    refine gs h (o_move rfl) rfl fun _ _ _ h => ?_
    refine gs h (o_assign rfl) rfl fun _ _ _ h => ?_
    refine GoR.done ?_
    have e_ := som H; subst e_
    rw [← nx_out i1] at G1
    have H := G1
    rw [← som H]
    exact g_ret (vs := [.int .i64 s1]) h Try.func33 ⟨rfl, trivial⟩ ⟨(), rfl, ((h.mem.pick [] (by decide) rfl).addpur g2)⟩
   ·have H := ifF c2 H
    refine g_f h rfl c2 ?_
    refine Go.skip ?_
    refine Go.inBlock ?_
    refine Go.reg ?_
    refine gs h (o_bin rfl rfl rfl) rfl fun _ _ _ h => ?_
    refine gs h (o_move rfl) rfl fun _ _ _ h => ?_
    refine GoR.done ?_
    have e_ := som H; subst e_
    exact Go.inLoop (nx_in i1 _ _ (wrap_in _ _) (h.wk (by rfl) [0] (by decide) (by rfl)))
  ·have H := ifF c1 H
   refine g_f h rfl c1 ?_
   refine Go.exit rfl ?_
   have e_ := som H; subst e_
   exact J1 () _ _ (nx_out i1).symm (h.wk (by rfl) [] (by decide) (by rfl))
 ·exact I_ _ _ (show InR .i64 0 by decide) (h.wk (by rfl) [0] (by decide) (by rfl))
def slices_Index_s_bool_bool.g (k_ : Nat) (a1 : List Bool) (a2 : Bool) : Option (Int) :=
  (loopK k_ (fun s1 => (if decide (s1 < (a1.length : Int)) = true then (idx a1 s1).bind fun x1 => (if (a2 == x1) = true then some (.inr (.inr (s1))) else some (.inl (IntKind.i64.wrap (s1 + 1)))) else some (.inr (.inl (()))))) 0).bind (Sum.elim (fun j1 => some ((-1))) (fun z_ => some (z_)))
theorem slices_Index_s_bool_bool.le (k_ : Nat) (a1 : List Bool) (a2 : Bool) : Le (slices_Index_s_bool_bool.g k_ a1 a2) (slices_Index_s_bool_bool.f a1 a2) := by
 unfold slices_Index_s_bool_bool.g slices_Index_s_bool_bool.f
 repeat' (first | with_reducible refine le_loop fun _ => ?_ | with_reducible refine le_bind ?_ fun _ => ?_ | with_reducible refine le_ite ?_ ?_ | with_reducible refine le_lt fun _ => ?_ | with_reducible refine le_elim (fun _ => ?_) (fun _ => ?_) _ | with_reducible exact le_refl _)
/-! slices.Contains[[]bool,bool] -/
noncomputable def slices_Contains_s_bool_bool.f (a1 : List Bool) (a2 : Bool) : Option (Bool) :=
  (slices_Index_s_bool_bool.f a1 a2).bind fun r1 => lt (decide (0 ≤ r1)) fun y1 => some (y1)
set_option maxRecDepth 100000 in
set_option maxHeartbeats 4000000 in
theorem slices_Contains_s_bool_bool.spc (v1 : Value) (a1 : List Bool) (a2 : Bool) (r : Bool) (H : slices_Contains_s_bool_bool.f a1 a2 = some r) : Spc Try.prog 21 [v1, .bool a2] [Val (Kd.sl Kd.bool) v1 a1] [] (fun (s : Unit) => .bool r) (fun s => []) := by
 unfold slices_Contains_s_bool_bool.f at H
 refine Spc.go Try.func21 rfl (by kernel_rfl) rfl rfl (all_cons (Val.per Per_sl) all_nil) fun F a w h => ?_
 refine Go.seq ?_
 refine Go.reg ?_
 refine gs h (o_assign rfl) rfl fun _ _ _ h => ?_
 refine GoR.done ?_
 refine Go.seq ?_
 refine Go.reg ?_
 refine gs h (o_move rfl) rfl fun _ _ _ h => ?_
 refine gs h (o_move rfl) rfl fun _ _ _ h => ?_
 obtain ⟨r1, er1, H⟩ := bindE H
 refine gs h (o_call (slices_Index_s_bool_bool.spc v1 a1 a2 r1 er1) rfl [0] [] (by decide) rfl rfl) rfl fun _ _ _ h => ?_
 have g1 := h.mem.pur 0 rfl
 refine gs h (o_bin rfl rfl rfl) rfl fun _ _ _ h => ?_
 obtain ⟨y1, ey1, H⟩ := ltE H
 refine gs h (o_assign' rfl (congrArg Value.bool ey1)) rfl fun _ _ _ h => ?_
 refine GoR.done ?_
 rw [← som H]
 exact g_ret (vs := [.bool y1]) h Try.func21 ⟨rfl, trivial⟩ ⟨(), rfl, (h.mem.pick [] (by decide) rfl)⟩
def slices_Contains_s_bool_bool.g (k_ : Nat) (a1 : List Bool) (a2 : Bool) : Option (Bool) :=
  (slices_Index_s_bool_bool.g k_ a1 a2).bind fun r1 => lt (decide (0 ≤ r1)) fun y1 => some (y1)
theorem slices_Contains_s_bool_bool.le (k_ : Nat) (a1 : List Bool) (a2 : Bool) : Le (slices_Contains_s_bool_bool.g k_ a1 a2) (slices_Contains_s_bool_bool.f a1 a2) := by
 unfold slices_Contains_s_bool_bool.g slices_Contains_s_bool_bool.f
 repeat' (first | with_reducible refine le_loop fun _ => ?_ | with_reducible refine le_bind ?_ fun _ => ?_ | with_reducible refine le_ite ?_ ?_ | with_reducible refine le_lt fun _ => ?_ | with_reducible refine le_elim (fun _ => ?_) (fun _ => ?_) _ | with_reducible apply slices_Index_s_bool_bool.le | with_reducible exact le_refl _)
/-! slices.Delete[[]drawbridge/api.Piece,drawbridge/api.Piece] -/
noncomputable def slices_Delete_s_api_Piece_api_Piece.f (a1 : List TPiece) (a2 : Int) (a3 : Int) : Option ((List TPiece)) :=
  if (0 ≤ a2 ∧ a2 ≤ a3) ∧ a3 ≤ (a1.length : Int) ∧ (a1.length : Int) ≤ (a1.length : Int) then ((if decide (a2 = a3) = true then some (a1) else lt (a1.length : Int) fun y1 => if 0 ≤ a2 ∧ a2 ≤ (a1.length : Int) then (if inB a1 a3 (a1.length : Int) then (if inB a1 a2 a3 then (if 0 ≤ (a2 + ((a1.length : Int) - a3)) then (if 0 ≤ (a2 + ((a1.length : Int) - a3)) ∧ (a2 + ((a1.length : Int) - a3)) ≤ y1 ∧ y1 ≤ (a1.length : Int) then (if inB (Go.splice a1 a2.toNat (a1.drop a3.toNat)) (a2 + ((a1.length : Int) - a3)) y1 then (lt (Go.splice (Go.splice a1 a2.toNat (a1.drop a3.toNat)) (a2 + ((a1.length : Int) - a3)).toNat (List.replicate (y1.toNat - (a2 + ((a1.length : Int) - a3)).toNat) zPiece)) fun y2 => (cut y2 0 (a2 + ((a1.length : Int) - a3))).bind fun x1 => some (x1)) else none) else none) else none) else none) else none) else none)) else none
set_option maxRecDepth 100000 in
set_option maxHeartbeats 4000000 in
theorem slices_Delete_s_api_Piece_api_Piece.spc (v1 : Value) (a1 : List TPiece) (a2 : Int) (ha2 : InR .i64 a2) (a3 : Int) (ha3 : InR .i64 a3) (r : (List TPiece)) (H : slices_Delete_s_api_Piece_api_Piece.f a1 a2 a3 = some r) : Spc Try.prog 22 [v1, .int .i64 a2, .int .i64 a3] [] [Val (Kd.osl KPiece) v1 a1] (fun (s : Value) => s) (fun s => [Val (Kd.osl KPiece) s r]) := by
 unfold slices_Delete_s_api_Piece_api_Piece.f at H
 refine Spc.go Try.func22 rfl (by kernel_rfl) rfl rfl all_nil fun F a w h => ?_
 refine Go.seq ?_
 refine Go.reg ?_
 refine gs h (o_assign rfl) rfl fun _ _ _ h => ?_
 refine GoR.done ?_
 refine Go.seq ?_
 refine Go.reg ?_
 refine gs h (o_move rfl) rfl fun _ _ _ h => ?_
 refine gs h (o_move rfl) rfl fun _ _ _ h => ?_
 refine gs h (o_move rfl) rfl fun _ _ _ h => ?_
 refine gs h (o_move rfl) rfl fun _ _ _ h => ?_
 have g1 := (len_own 0 rfl h.mem)
 refine gs h (o_ln rfl (rd_own 0 rfl) t_v23) rfl fun _ _ _ h => ?_
 obtain ⟨q1, H⟩ := ifS H
 refine gs h (o_own3 0 rfl rfl rfl rfl rfl q1 t_v23) rfl fun v2 _ _ h => ?_
 refine GoR.done ?_
 refine Go.seq ?_
 refine Go.seq ?_
 refine Go.reg ?_
 refine gs h (o_move rfl) rfl fun _ _ _ h => ?_
 refine gs h (o_move rfl) rfl fun _ _ _ h => ?_
 refine gs h (o_bin rfl rfl rfl) rfl fun _ _ _ h => ?_
 refine GoR.done ?_
 by_cases c1 : decide (a2 = a3) = true
 ·have H := ifT c1 H
  refine g_t h rfl c1 ?_
  refine Go.seq ?_
  refine Go.reg ?_
  refine gs h (o_move rfl) rfl fun _ _ _ h => ?_
  refine gs h (o_assign rfl) rfl fun _ _ _ h => ?_
  refine GoR.done ?_
  rw [← som H]
  exact g_ret (vs := [v1]) h Try.func22 ⟨rfl, trivial⟩ ⟨v1, rfl, (h.mem.pick [0] (by decide) rfl)⟩
 ·have H := ifF c1 H
  refine g_f h rfl c1 ?_
  refine Go.skip ?_
  refine Go.seq ?_
  refine Go.reg ?_
  refine gs h (o_move rfl) rfl fun _ _ _ h => ?_
  have g2 := (len_own 0 rfl h.mem)
  refine gs h (o_ln rfl (rd_own 0 rfl) t_v23) rfl fun _ _ _ h => ?_
  obtain ⟨y1, ey1, H⟩ := ltE H
  refine gs h (o_assign' rfl (congrArg (fun z => Value.int .i64 z) ey1)) rfl fun _ _ _ h => ?_
  refine GoR.done ?_
  refine Go.seq ?_
  replace h := h.mm fun m => m.isl 0 rfl
  replace h := h.wk (E' := [(0, v1), (1, .int .i64 a2), (2, .int .i64 a3), (6, .slice none 0 0), (7, .int .i64 y1)]) (L' := [Ent.pur (IsSl v1 a1.length), Val (Kd.osl KPiece) v1 a1]) (by rfl) [0, 1] (by decide) (by rfl)
  obtain ⟨q2, H⟩ := ifS H
  obtain ⟨q3, H⟩ := ifS H
  refine Go.draw (L := [Ent.pur (IsSl v1 a1.length), Val (Kd.osl KPiece) v1 a1]) h 6 [⟨[], [], [], false, .con (v1), none, fun u => []⟩, ⟨[], [], [], false, .con (.int .i64 a2), none, fun u => []⟩, ⟨[0, 1], [], [], false, .con (subV v1 (0 : Int).toNat a2.toNat (Kd.n KPiece)), none, fun u => []⟩, ⟨[], [], [], false, .con (v1), none, fun u => []⟩, ⟨[], [], [], false, .con (.int .i64 a3), none, fun u => []⟩, ⟨[3, 4], [], [], false, .con (subV v1 a3.toNat (a1.length : Int).toNat (Kd.n KPiece)), none, fun u => []⟩] rfl t_mxo (by kernel_rfl) (by rfl) ?_ fun f2 _ _ h => ?_
  ·exact obs_cons (ob_con rfl (gok_none rfl) rfl fun f2 => (o_move rfl)) (obs_cons (ob_con rfl (gok_none rfl) rfl fun f2 => (o_move rfl)) (obs_cons (ob_con rfl (gok_none rfl) rfl fun f2 => (OpS.fact (fun F w m_ => (Mem.pur 0 rfl m_)) fun g3 => (o_ownhp (n := 8) g3 rfl rfl q2 t_v23))) (obs_cons (ob_con rfl (gok_none rfl) rfl fun f2 => (o_move rfl)) (obs_cons (ob_con rfl (gok_none rfl) rfl fun f2 => (o_move rfl)) (obs_cons (ob_con rfl (gok_none rfl) rfl fun f2 => (OpS.fact (fun F w m_ => (Mem.pur 0 rfl m_)) fun g4 => (o_ownlp (n := 8) g4 rfl rfl q3 t_v23))) (obs_nil))))))
  replace h := h.wk (E' := [(0, v1), (6, .slice none 0 0), (7, .int .i64 y1), (22, subV v1 (0 : Int).toNat a2.toNat (Kd.n KPiece)), (25, subV v1 a3.toNat (a1.length : Int).toNat (Kd.n KPiece))]) (L' := [Ent.pur (IsSl v1 a1.length), Val (Kd.osl KPiece) v1 a1]) (by kernel_rfl) [0, 1] (by decide) (by kernel_rfl)
  obtain ⟨q4, H⟩ := ifS H
  refine gs h (o_appd 1 rfl rfl rfl q4 t_a23 t_n23) rfl fun _ _ _ h => ?_
  refine gs h (o_assign rfl) rfl fun _ _ _ h => ?_
  refine GoR.done ?_
  refine Go.seq ?_
  refine Go.reg ?_
  refine gs h (o_move rfl) rfl fun _ _ _ h => ?_
  refine gs h (o_move rfl) rfl fun _ _ _ h => ?_
  have g5 := Mem.pur 0 rfl h.mem
  obtain ⟨q5, H⟩ := ifS H
  refine gs h (o_lenp (n := 8) g5 rfl q5 t_v23) rfl fun _ _ _ h => ?_
  refine gs h (o_move rfl) rfl fun _ _ _ h => ?_
  have g6 := Mem.pur 0 rfl h.mem
  obtain ⟨q6, H⟩ := ifS H
  obtain ⟨q7, H⟩ := ifS H
  refine gs h (o_slb (n := 8) g6 rfl rfl rfl q6 t_v23) rfl fun _ _ _ h => ?_
  obtain ⟨y2, ey2, H⟩ := ltE H
  refine gs0 h (o_clr (z := zPiece) 1 rfl rfl q7 t_a23 (by decide) (fun e he => ⟨[.int .u32 0, .int .u32 0, .int .i64 0, .int .i64 0, .int .i64 0, .slice none 0 0, .slice none 0 0, .int .i64 0], by cases he; exact t_zc50, ZPiece⟩)) fun _ _ _ h => ?_
  rw [ey2] at h
  refine GoR.done ?_
  refine Go.seq ?_
  refine Go.reg ?_
  refine gs h (o_move rfl) rfl fun _ _ _ h => ?_
  obtain ⟨x1, ex1, H⟩ := bindE H
  replace h := h.mm fun m => m.shr 1 rfl ex1
  refine gs h (o_assign rfl) rfl fun _ _ _ h => ?_
  refine GoR.done ?_
  rw [← som H]
  exact g_ret (vs := [subV v1 (0 : Int).toNat (a2 + ((a1.length : Int) - a3)).toNat (Kd.n KPiece)]) h Try.func22 ⟨rfl, trivial⟩ ⟨subV v1 (0 : Int).toNat (a2 + ((a1.length : Int) - a3)).toNat (Kd.n KPiece), rfl, (h.mem.pick [1] (by decide) rfl)⟩
def slices_Delete_s_api_Piece_api_Piece.g (k_ : Nat) (a1 : List TPiece) (a2 : Int) (a3 : Int) : Option ((List TPiece)) :=
  if (0 ≤ a2 ∧ a2 ≤ a3) ∧ a3 ≤ (a1.length : Int) ∧ (a1.length : Int) ≤ (a1.length : Int) then ((if decide (a2 = a3) = true then some (a1) else lt (a1.length : Int) fun y1 => if 0 ≤ a2 ∧ a2 ≤ (a1.length : Int) then (if inB a1 a3 (a1.length : Int) then (if inB a1 a2 a3 then (if 0 ≤ (a2 + ((a1.length : Int) - a3)) then (if 0 ≤ (a2 + ((a1.length : Int) - a3)) ∧ (a2 + ((a1.length : Int) - a3)) ≤ y1 ∧ y1 ≤ (a1.length : Int) then (if inB (Go.splice a1 a2.toNat (a1.drop a3.toNat)) (a2 + ((a1.length : Int) - a3)) y1 then (lt (Go.splice (Go.splice a1 a2.toNat (a1.drop a3.toNat)) (a2 + ((a1.length : Int) - a3)).toNat (List.replicate (y1.toNat - (a2 + ((a1.length : Int) - a3)).toNat) zPiece)) fun y2 => (cut y2 0 (a2 + ((a1.length : Int) - a3))).bind fun x1 => some (x1)) else none) else none) else none) else none) else none) else none)) else none
theorem slices_Delete_s_api_Piece_api_Piece.le (k_ : Nat) (a1 : List TPiece) (a2 : Int) (a3 : Int) : Le (slices_Delete_s_api_Piece_api_Piece.g k_ a1 a2 a3) (slices_Delete_s_api_Piece_api_Piece.f a1 a2 a3) := by
 unfold slices_Delete_s_api_Piece_api_Piece.g slices_Delete_s_api_Piece_api_Piece.f
 repeat' (first | with_reducible refine le_loop fun _ => ?_ | with_reducible refine le_bind ?_ fun _ => ?_ | with_reducible refine le_ite ?_ ?_ | with_reducible refine le_lt fun _ => ?_ | with_reducible refine le_elim (fun _ => ?_) (fun _ => ?_) _ | with_reducible exact le_refl _)
end Go.Proofs.Ytlpjgmbbcibkjaa.S
