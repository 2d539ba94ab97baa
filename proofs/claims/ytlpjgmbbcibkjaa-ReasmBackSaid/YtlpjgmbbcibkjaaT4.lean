/- Contracts, printed by a program of this session. -/
import Derived.Test.YtlpjgmbbcibkjaaT2
import Derived.Test.YtlpjgmbbcibkjaaT3
namespace Go.Proofs.Ytlpjgmbbcibkjaa.S
open Go Go.SL Go.RowKit
set_option linter.unusedVariables false
set_option linter.unusedSimpArgs false
/-! slices.Delete[[]drawbridge/api.Piece,drawbridge/api.Piece] -/
noncomputable def slices_Delete_s_api_Piece_api_Piece.f (a1 : List TPiece) (a2 : Int) (a3 : Int) : Option ((List TPiece)) :=
  if (0 ≤ a2 ∧ a2 ≤ a3) ∧ a3 ≤ (a1.length : Int) ∧ (a1.length : Int) ≤ (a1.length : Int) then ((if decide (a2 = a3) = true then some (a1) else lt (a1.length : Int) fun y1 => if 0 ≤ a2 ∧ a2 ≤ (a1.length : Int) then (if inB a1 a3 (a1.length : Int) then (if inB a1 a2 a3 then (if 0 ≤ (a2 + ((a1.length : Int) - a3)) then (if 0 ≤ (a2 + ((a1.length : Int) - a3)) ∧ (a2 + ((a1.length : Int) - a3)) ≤ y1 ∧ y1 ≤ (a1.length : Int) then (if inB (Go.splice a1 a2.toNat (a1.drop a3.toNat)) (a2 + ((a1.length : Int) - a3)) y1 then (lt (Go.splice (Go.splice a1 a2.toNat (a1.drop a3.toNat)) (a2 + ((a1.length : Int) - a3)).toNat (List.replicate (y1.toNat - (a2 + ((a1.length : Int) - a3)).toNat) zPiece)) fun y2 => (cut y2 0 (a2 + ((a1.length : Int) - a3))).bind fun x1 => some (x1)) else none) else none) else none) else none) else none) else none)) else none
set_option maxRecDepth 100000 in
set_option maxHeartbeats 4000000 in
theorem slices_Delete_s_api_Piece_api_Piece.spc (v1 : Value) (a1 : List TPiece) (a2 : Int) (ha2 : InR .i64 a2) (a3 : Int) (ha3 : InR .i64 a3) (r : (List TPiece)) (H : slices_Delete_s_api_Piece_api_Piece.f a1 a2 a3 = some r) : Spc Try.prog 22 [v1, .int .i64 a2, .int .i64 a3] [] [Val (Kd.osl KPiece) v1 a1] (fun (s : Value) => s) (fun s => [Val (Kd.osl KPiece) s r]) := by
 unfold slices_Delete_s_api_Piece_api_Piece.f at H
 refine Spc.go Try.func22 rfl (by kernel_rfl) rfl rfl all_nil fun F a w h => ?_
 refine Go.seq ?_
 refine Go.reg ?_
 refine gs h (o_assign rfl) rfl fun _ _ _ h => ?_
 refine GoR.done ?_
 refine Go.seq ?_
 refine Go.reg ?_
 refine gs h (o_move rfl) rfl fun _ _ _ h => ?_
 refine gs h (o_move rfl) rfl fun _ _ _ h => ?_
 refine gs h (o_move rfl) rfl fun _ _ _ h => ?_
 refine gs h (o_move rfl) rfl fun _ _ _ h => ?_
 have g1 := (len_own 0 rfl h.mem)
 refine gs h (o_ln rfl (rd_own 0 rfl) t_v23) rfl fun _ _ _ h => ?_
 obtain ⟨q1, H⟩ := ifS H
 refine gs h (o_own3 0 rfl rfl rfl rfl rfl q1 t_v23) rfl fun v2 _ _ h => ?_
 refine GoR.done ?_
 refine Go.seq ?_
 refine Go.seq ?_
 refine Go.reg ?_
 refine gs h (o_move rfl) rfl fun _ _ _ h => ?_
 refine gs h (o_move rfl) rfl fun _ _ _ h => ?_
 refine gs h (o_bin rfl rfl rfl) rfl fun _ _ _ h => ?_
 refine GoR.done ?_
 by_cases c1 : decide (a2 = a3) = true
 ·have H := ifT c1 H
  refine g_t h rfl c1 ?_
  refine Go.seq ?_
  refine Go.reg ?_
  refine gs h (o_move rfl) rfl fun _ _ _ h => ?_
  refine gs h (o_assign rfl) rfl fun _ _ _ h => ?_
  refine GoR.done ?_
  rw [← som H]
  exact g_ret (vs := [v1]) h Try.func22 ⟨rfl, trivial⟩ ⟨v1, rfl, (h.mem.pick [0] (by decide) rfl)⟩
 ·have H := ifF c1 H
  refine g_f h rfl c1 ?_
  refine Go.skip ?_
  refine Go.seq ?_
  refine Go.reg ?_
  refine gs h (o_move rfl) rfl fun _ _ _ h => ?_
  have g2 := (len_own 0 rfl h.mem)
  refine gs h (o_ln rfl (rd_own 0 rfl) t_v23) rfl fun _ _ _ h => ?_
  obtain ⟨y1, ey1, H⟩ := ltE H
  refine gs h (o_assign' rfl (congrArg (fun z => Value.int .i64 z) ey1)) rfl fun _ _ _ h => ?_
  refine GoR.done ?_
  refine Go.seq ?_
  replace h := h.mm fun m => m.isl 0 rfl
  replace h := h.wk (E' := [(0, v1), (1, .int .i64 a2), (2, .int .i64 a3), (6, .slice none 0 0), (7, .int .i64 y1)]) (L' := [Ent.pur (IsSl v1 a1.length), Val (Kd.osl KPiece) v1 a1]) (by rfl) [0, 1] (by decide) (by rfl)
  obtain ⟨q2, H⟩ := ifS H
  obtain ⟨q3, H⟩ := ifS H
  refine Go.draw (L := [Ent.pur (IsSl v1 a1.length), Val (Kd.osl KPiece) v1 a1]) h 6 [⟨[], [], [], false, .con (v1), none, fun u => []⟩, ⟨[], [], [], false, .con (.int .i64 a2), none, fun u => []⟩, ⟨[0, 1], [], [], false, .con (subV v1 (0 : Int).toNat a2.toNat (Kd.n KPiece)), none, fun u => []⟩, ⟨[], [], [], false, .con (v1), none, fun u => []⟩, ⟨[], [], [], false, .con (.int .i64 a3), none, fun u => []⟩, ⟨[3, 4], [], [], false, .con (subV v1 a3.toNat (a1.length : Int).toNat (Kd.n KPiece)), none, fun u => []⟩] rfl t_mxo (by kernel_rfl) (by rfl) ?_ fun f2 _ _ h => ?_
  ·exact obs_cons (ob_con rfl (gok_none rfl) rfl fun f2 => (o_move rfl)) (obs_cons (ob_con rfl (gok_none rfl) rfl fun f2 => (o_move rfl)) (obs_cons (ob_con rfl (gok_none rfl) rfl fun f2 => (OpS.fact (fun F w m_ => (Mem.pur 0 rfl m_)) fun g3 => (o_ownhp (n := 8) g3 rfl rfl q2 t_v23))) (obs_cons (ob_con rfl (gok_none rfl) rfl fun f2 => (o_move rfl)) (obs_cons (ob_con rfl (gok_none rfl) rfl fun f2 => (o_move rfl)) (obs_cons (ob_con rfl (gok_none rfl) rfl fun f2 => (OpS.fact (fun F w m_ => (Mem.pur 0 rfl m_)) fun g4 => (o_ownlp (n := 8) g4 rfl rfl q3 t_v23))) (obs_nil))))))
  replace h := h.wk (E' := [(0, v1), (6, .slice none 0 0), (7, .int .i64 y1), (22, subV v1 (0 : Int).toNat a2.toNat (Kd.n KPiece)), (25, subV v1 a3.toNat (a1.length : Int).toNat (Kd.n KPiece))]) (L' := [Ent.pur (IsSl v1 a1.length), Val (Kd.osl KPiece) v1 a1]) (by kernel_rfl) [0, 1] (by decide) (by kernel_rfl)
  obtain ⟨q4, H⟩ := ifS H
  refine gs h (o_appd 1 rfl rfl rfl q4 t_a23 t_n23) rfl fun _ _ _ h => ?_
  refine gs h (o_assign rfl) rfl fun _ _ _ h => ?_
  refine GoR.done ?_
  refine Go.seq ?_
  refine Go.reg ?_
  refine gs h (o_move rfl) rfl fun _ _ _ h => ?_
  refine gs h (o_move rfl) rfl fun _ _ _ h => ?_
  have g5 := Mem.pur 0 rfl h.mem
  obtain ⟨q5, H⟩ := ifS H
  refine gs h (o_lenp (n := 8) g5 rfl q5 t_v23) rfl fun _ _ _ h => ?_
  refine gs h (o_move rfl) rfl fun _ _ _ h => ?_
  have g6 := Mem.pur 0 rfl h.mem
  obtain ⟨q6, H⟩ := ifS H
  obtain ⟨q7, H⟩ := ifS H
  refine gs h (o_slb (n := 8) g6 rfl rfl rfl q6 t_v23) rfl fun _ _ _ h => ?_
  obtain ⟨y2, ey2, H⟩ := ltE H
  refine gs0 h (o_clr (z := zPiece) 1 rfl rfl q7 t_a23 (by decide) (fun e he => ⟨[.int .u32 0, .int .u32 0, .int .i64 0, .int .i64 0, .int .i64 0, .slice none 0 0, .slice none 0 0, .int .i64 0], by cases he; exact t_zc50, ZPiece⟩)) fun _ _ _ h => ?_
  rw [ey2] at h
  refine GoR.done ?_
  refine Go.seq ?_
  refine Go.reg ?_
  refine gs h (o_move rfl) rfl fun _ _ _ h => ?_
  obtain ⟨x1, ex1, H⟩ := bindE H
  replace h := h.mm fun m => m.shr 1 rfl ex1
  refine gs h (o_assign rfl) rfl fun _ _ _ h => ?_
  refine GoR.done ?_
  rw [← som H]
  exact g_ret (vs := [subV v1 (0 : Int).toNat (a2 + ((a1.length : Int) - a3)).toNat (Kd.n KPiece)]) h Try.func22 ⟨rfl, trivial⟩ ⟨subV v1 (0 : Int).toNat (a2 + ((a1.length : Int) - a3)).toNat (Kd.n KPiece), rfl, (h.mem.pick [1] (by decide) rfl)⟩
def slices_Delete_s_api_Piece_api_Piece.g (k_ : Nat) (a1 : List TPiece) (a2 : Int) (a3 : Int) : Option ((List TPiece)) :=
  if (0 ≤ a2 ∧ a2 ≤ a3) ∧ a3 ≤ (a1.length : Int) ∧ (a1.length : Int) ≤ (a1.length : Int) then ((if decide (a2 = a3) = true then some (a1) else lt (a1.length : Int) fun y1 => if 0 ≤ a2 ∧ a2 ≤ (a1.length : Int) then (if inB a1 a3 (a1.length : Int) then (if inB a1 a2 a3 then (if 0 ≤ (a2 + ((a1.length : Int) - a3)) then (if 0 ≤ (a2 + ((a1.length : Int) - a3)) ∧ (a2 + ((a1.length : Int) - a3)) ≤ y1 ∧ y1 ≤ (a1.length : Int) then (if inB (Go.splice a1 a2.toNat (a1.drop a3.toNat)) (a2 + ((a1.length : Int) - a3)) y1 then (lt (Go.splice (Go.splice a1 a2.toNat (a1.drop a3.toNat)) (a2 + ((a1.length : Int) - a3)).toNat (List.replicate (y1.toNat - (a2 + ((a1.length : Int) - a3)).toNat) zPiece)) fun y2 => (cut y2 0 (a2 + ((a1.length : Int) - a3))).bind fun x1 => some (x1)) else none) else none) else none) else none) else none) else none)) else none
theorem slices_Delete_s_api_Piece_api_Piece.le (k_ : Nat) (a1 : List TPiece) (a2 : Int) (a3 : Int) : Le (slices_Delete_s_api_Piece_api_Piece.g k_ a1 a2 a3) (slices_Delete_s_api_Piece_api_Piece.f a1 a2 a3) := by
 unfold slices_Delete_s_api_Piece_api_Piece.g slices_Delete_s_api_Piece_api_Piece.f
 repeat' (first | with_reducible refine le_loop fun _ => ?_ | with_reducible refine le_bind ?_ fun _ => ?_ | with_reducible refine le_ite ?_ ?_ | with_reducible refine le_lt fun _ => ?_ | with_reducible refine le_elim (fun _ => ?_) (fun _ => ?_) _ | with_reducible exact le_refl _)
/-! drawbridge/reasm.Add -/
noncomputable def reasm_Add.f (a1 : List TPiece) (a2 : Int) (a3 : TIp) : Option ((List TPiece) × TIp × Bool) :=
  (ip_Put.f a3).bind fun r1 => ((if (!decide (r1.2 = 0)) = true then some (true) else (reasm_Check.f a1).bind fun r2 => (if (!r2) = true then some (true) else (reasm_tick.f a2).bind fun r3 => some ((!r3))))).bind (fun j1 => (if j1 = true then some ((a1, (⟨0, 0, 0, 0, 0, 0, 0, 0, [], []⟩ : TIp), false)) else lt (decide ((bits .and .i64 a3.Flags 1) = 0)) fun y1 => ((if y1 = true then some (decide (a3.Off = 0)) else some (false))).bind (fun j2 => (if j2 = true then some ((a1, a3, true)) else lt (IntKind.i64.wrap (8 * a3.Off)) fun y2 => lt (IntKind.i64.wrap (y2 + (a3.Data.length : Int))) fun y3 => ((if decide (8192 < y3) = true then some (true) else (if (!y1) = true then (if decide ((a3.Data.length : Int) = 0) = true then some (true) else some (decide (0 < (Int.tmod (a3.Data.length : Int) 8)))) else some (false)))).bind (fun j3 => (if j3 = true then some ((a1, (⟨0, 0, 0, 0, 0, 0, 0, 0, [], []⟩ : TIp), false)) else (reasm_whose.f (⟨a3.Src, a3.Dst, a3.Id, a3.Proto, IntKind.i64.wrap (a2 + 30), [], [], (-1)⟩ : TPiece)).bind fun r4 => (reasm_seek.f a1 r4).bind fun r5 => (slices_Clone_s_api_Piece_api_Piece.f a1).bind fun r6 => ((lt (decide (r5 < (a1.length : Int))) fun y4 => (if y4 = true then (idx a1 r5).bind fun x1 => some (.inl ((r6, x1))) else lt (decide (r5 = 4)) fun y5 => (if y5 = true then some (.inr ((a1, (⟨0, 0, 0, 0, 0, 0, 0, 0, [], []⟩ : TIp), false))) else (app r6 ([(⟨a3.Src, a3.Dst, a3.Id, a3.Proto, IntKind.i64.wrap (a2 + 30), [], [], (-1)⟩ : TPiece)] : List TPiece)).bind fun x2 => some (.inl ((x2, (⟨a3.Src, a3.Dst, a3.Id, a3.Proto, IntKind.i64.wrap (a2 + 30), [], [], (-1)⟩ : TPiece))))))).bind (Sum.elim (fun j4 => some (.inl ((j4.1, j4.2)))) (fun z_ => some (.inr (z_))))).bind (Sum.elim (fun j5 => (reasm_drops.f j5.2 y1 y3).bind fun r7 => (if r7 = true then some ((a1, (⟨0, 0, 0, 0, 0, 0, 0, 0, [], []⟩ : TIp), false)) else (reasm_put.f j5.2 y2 a3.Data).bind fun r8 => ((if y1 = true then some ((⟨r8.Src, r8.Dst, r8.Id, r8.Proto, r8.Until, r8.Data, r8.Have, y3⟩ : TPiece)) else some (r8))).bind (fun j6 => ((if (!decide ((j6.Data.length : Int) = j6.Total)) = true then some (true) else (slices_Contains_s_bool_bool.f j6.Have false).bind fun r9 => some (r9))).bind (fun j7 => (if j7 = true then (idx j5.1 r5).bind fun x3 => lt (j5.1.set r5.toNat j6) fun y6 => some ((y6, (⟨0, 0, 0, 0, 0, 0, 0, 0, [], []⟩ : TIp), false)) else (slices_Delete_s_api_Piece_api_Piece.f j5.1 r5 (IntKind.i64.wrap (r5 + 1))).bind fun r10 => some ((r10, (⟨a3.Tos, a3.Id, 0, 0, a3.Ttl, a3.Proto, a3.Src, a3.Dst, a3.Options, j6.Data⟩ : TIp), true))))))) (fun z_ => some (z_)))))))))
set_option maxRecDepth 100000 in
set_option maxHeartbeats 4000000 in
theorem reasm_Add.spc (v1 : Value) (a1 : List TPiece) (a2 : Int) (ha2 : InR .i64 a2) (v2 : Value) (a3 : TIp) (r : (List TPiece) × TIp × Bool) (H : reasm_Add.f a1 a2 a3 = some r) : Spc Try.prog 6 [v1, .int .i64 a2, v2] [Val (Kd.sl KPiece) v1 a1, Val KIp v2 a3] [] (fun (s : Value × Value) => .tuple #[s.1, s.2, .bool r.2.2]) (fun s => [Val (Kd.sl KPiece) s.1 r.1, Val KIp s.2 r.2.1]) := by
 unfold reasm_Add.f at H
 refine Spc.go Try.func6 rfl (by kernel_rfl) rfl rfl (all_cons (Val.per Per_sl) (all_cons (Val.per PIp) all_nil)) fun F a w h => ?_
 refine Go.seq ?_
 refine Go.reg ?_
 refine gs h (o_box (K := KIp) rfl (pv_at PIp 1 rfl)) rfl fun b1 _ _ h => ?_
 refine gs h (o_assign rfl) rfl fun _ _ _ h => ?_
 refine gs h (o_alloc (K := KIp) (z := (.agg #[.int .i64 0, .int .i64 0, .int .i64 0, .int .i64 0, .int .i64 0, .int .i64 0, .int .u32 0, .int .u32 0, .slice none 0 0, .slice none 0 0])) rfl ZIp) rfl fun b2 _ _ h => ?_
 refine gs h (o_assign rfl) rfl fun _ _ _ h => ?_
 refine GoR.done ?_
 refine Go.seq ?_
 refine Go.seq ?_
 refine Go.reg ?_
 refine gs h (o_ldv 1 rfl rfl PIp t_y27) rfl fun v3 _ _ h => ?_
 obtain ⟨r1, er1, H⟩ := bindE H
 refine gs h (o_call (ip_Put.spc v3 a3 r1 er1) rfl [0] [] (by decide) rfl rfl) rfl fun v4 _ _ h => ?_
 have g1 := h.mem.pur 0 rfl
 refine gs h (o_move rfl) rfl fun _ _ _ h => ?_
 refine gs h (o_extract rfl rfl) rfl fun _ _ _ h => ?_
 refine gs h (o_extract rfl rfl) rfl fun _ _ _ h => ?_
 refine gs h (o_assign rfl) rfl fun _ _ _ h => ?_
 refine gs h (o_assign rfl) rfl fun _ _ _ h => ?_
 refine GoR.done ?_
 refine Go.seq ?_
 obtain ⟨o1, H, G1⟩ := bindE H
 refine g_cut (fun G => ∀ j1 (a : Act) (w : World), o1 = j1 → St Try.f6.ntmps F [(0, v1), (1, .int .i64 a2), (5, .pointer (some ⟨b1, 0, none⟩)), (7, .pointer (some ⟨b2, 0, none⟩)), (33, .bool j1)] [Val (Kd.sl KPiece) v1 a1, Fld KIp b2 0 zIp, Fld KIp b1 0 a3] a w → G a w) 1 ?_ fun J1 => ?_
 ·intro j1 a w ho_ h
  rw [ho_] at G1
  have H := G1
  by_cases c3 : j1 = true
  ·have H := ifT c3 H
   refine g_t h rfl c3 ?_
   refine Go.seq ?_
   refine Go.reg ?_
   refine gs h (o_move rfl) rfl fun _ _ _ h => ?_
   refine gs h (o_build (K := KIp) (x := (⟨0, 0, 0, 0, 0, 0, 0, 0, [], []⟩ : TIp)) (ps := []) rfl (zs := zsIp) rfl t_b27 rfl (show PB (Kd.pair (Kd.int .i64) (Kd.pair (Kd.int .i64) (Kd.pair (Kd.int .i64) (Kd.pair (Kd.int .i64) (Kd.pair (Kd.int .i64) (Kd.pair (Kd.int .i64) (Kd.pair (Kd.int .u32) (Kd.pair (Kd.int .u32) (Kd.pair (Kd.sl (Kd.int .u8)) (Kd.last (Kd.sl (Kd.int .u8)))))))))))) (0, 0, 0, 0, 0, 0, 0, 0, [], []) 0 zsIp _ _ from (pb_zero z_int (pb_zero z_int (pb_zero z_int (pb_zero z_int (pb_zero z_int (pb_zero z_int (pb_zero z_int (pb_zero z_int (pb_zero z_sl (pb_lastz z_sl)))))))))))) rfl fun v5 _ _ h => ?_
   refine gs h (o_assign rfl) rfl fun _ _ _ h => ?_
   refine gs0 h (o_st 2 rfl rfl rfl (pv_at PIp 0 rfl) rfl t_w27) fun _ _ _ h => ?_
   refine gs h (o_assign rfl) rfl fun _ _ _ h => ?_
   refine GoR.done ?_
   obtain ⟨v6, h, u1⟩ := h.peek 2 rfl PIp t_y27
   rw [← som H]
   exact g_ret (vs := [v1, v6, .bool false]) h Try.func6 ⟨rfl, ⟨⟨_, rfl, u1⟩, ⟨rfl, trivial⟩⟩⟩ ⟨(v1, v6), rfl, (h.mem.pick [2, 0] (by decide) rfl)⟩
  ·have H := ifF c3 H
   refine g_f h rfl c3 ?_
   refine Go.skip ?_
   refine Go.seq ?_
   refine Go.reg ?_
   refine gs h (o_fa rfl t_f27_2 rfl rfl) rfl fun _ _ _ h => ?_
   have g2 := (in2 (fd_sub sIp_Flags 2 rfl h.mem))
   refine gs h (o_lfx 2 rfl rfl sIp_Flags rfl X_int t_y3) rfl fun _ _ _ h => ?_
   refine gs h (o_bin rfl rfl rfl) rfl fun _ _ _ h => ?_
   refine gs h (o_bin rfl rfl rfl) rfl fun _ _ _ h => ?_
   obtain ⟨y1, ey1, H⟩ := ltE H
   refine gs h (o_assign' rfl (congrArg Value.bool ey1)) rfl fun _ _ _ h => ?_
   refine GoR.done ?_
   refine Go.seq ?_
   refine Go.seq ?_
   obtain ⟨o2, H, G2⟩ := bindE H
   refine g_cut (fun G => ∀ j2 (a : Act) (w : World), o2 = j2 → St Try.f6.ntmps F [(0, v1), (1, .int .i64 a2), (5, .pointer (some ⟨b1, 0, none⟩)), (7, .pointer (some ⟨b2, 0, none⟩)), (11, .bool y1), (45, .bool j2)] [Val (Kd.sl KPiece) v1 a1, Fld KIp b2 0 zIp, Fld KIp b1 0 a3] a w → G a w) 1 ?_ fun J2 => ?_
   ·intro j2 a w ho_ h
    rw [ho_] at G2
    have H := G2
    by_cases c5 : j2 = true
    ·have H := ifT c5 H
     refine g_t h rfl c5 ?_
     refine Go.seq ?_
     replace h := h.wk (E' := [(0, v1), (5, .pointer (some ⟨b1, 0, none⟩)), (7, .pointer (some ⟨b2, 0, none⟩))]) (L' := [Val (Kd.sl KPiece) v1 a1, Fld KIp b2 0 zIp, Fld KIp b1 0 a3]) (by rfl) [0, 1, 2] (by decide) (by rfl)
     refine Go.draw (L := [Val (Kd.sl KPiece) v1 a1, Fld KIp b2 0 zIp, Fld KIp b1 0 a3]) h 3 [⟨[], [], [], false, .con (v1), none, fun u => []⟩, ⟨[], [], [], false, .own, none, fun u => [Val KIp u a3]⟩, ⟨[0], [], [], false, .con (v1), none, fun u => []⟩] rfl t_mxo (by kernel_rfl) (by rfl) ?_ fun f1 _ _ h => ?_
     ·exact obs_cons (ob_con rfl (gok_none rfl) rfl fun f1 => (o_move rfl)) (obs_cons (ob_own rfl (gok_none rfl) rfl fun f1 => (o_ldv 2 rfl rfl PIp t_y27)) (obs_cons (ob_con rfl (gok_none rfl) rfl fun f1 => (o_assign rfl)) (obs_nil)))
     replace h := h.wk (E' := [(7, .pointer (some ⟨b2, 0, none⟩)), (47, (f1 1)), (6, v1)]) (L' := [Val KIp (f1 1) a3, Val (Kd.sl KPiece) v1 a1, Fld KIp b2 0 zIp, Fld KIp b1 0 a3]) (by kernel_rfl) [0, 1, 2, 3] (by decide) (by kernel_rfl)
     refine gs0 h (o_st 2 rfl rfl rfl (pv_at PIp 0 rfl) rfl t_w27) fun _ _ _ h => ?_
     refine gs h (o_assign rfl) rfl fun _ _ _ h => ?_
     refine GoR.done ?_
     obtain ⟨v8, h, u2⟩ := h.peek 2 rfl PIp t_y27
     rw [← som H]
     exact g_ret (vs := [v1, v8, .bool true]) h Try.func6 ⟨rfl, ⟨⟨_, rfl, u2⟩, ⟨rfl, trivial⟩⟩⟩ ⟨(v1, v8), rfl, (h.mem.pick [2, 0] (by decide) rfl)⟩
    ·have H := ifF c5 H
     refine g_f h rfl c5 ?_
     refine Go.skip ?_
     refine Go.seq ?_
     refine Go.reg ?_
     refine gs h (o_fa rfl t_f27_3 rfl rfl) rfl fun _ _ _ h => ?_
     have g4 := (in2 (fd_sub sIp_Off 2 rfl h.mem))
     refine gs h (o_lfx 2 rfl rfl sIp_Off rfl X_int t_y3) rfl fun _ _ _ h => ?_
     refine gs h (o_bin rfl rfl rfl) rfl fun _ _ _ h => ?_
     obtain ⟨y2, ey2, H⟩ := ltE H
     refine gs h (o_assign' rfl (congrArg (fun z => Value.int .i64 z) ey2)) rfl fun _ _ _ h => ?_
     refine GoR.done ?_
     refine Go.seq ?_
     refine Go.reg ?_
     refine gs h (o_move rfl) rfl fun _ _ _ h => ?_
     refine gs h (o_fa rfl t_f27_9 rfl rfl) rfl fun _ _ _ h => ?_
     refine gs h (o_lfv 2 rfl rfl sIp_Data rfl Per_sl t_y25) rfl fun v9 _ _ h => ?_
     have g5 := (len_at 0 rfl h.mem)
     refine gs h (o_ln rfl (rd_at 0 rfl) t_v25) rfl fun _ _ _ h => ?_
     refine gs h (o_bin rfl rfl rfl) rfl fun _ _ _ h => ?_
     obtain ⟨y3, ey3, H⟩ := ltE H
     refine gs h (o_assign' rfl (congrArg (fun z => Value.int .i64 z) ey3)) rfl fun _ _ _ h => ?_
     refine GoR.done ?_
     refine Go.seq ?_
     refine Go.seq ?_
     obtain ⟨o3, H, G3⟩ := bindE H
     refine g_cut (fun G => ∀ j3 (a : Act) (w : World), o3 = j3 → St Try.f6.ntmps F [(0, v1), (1, .int .i64 a2), (5, .pointer (some ⟨b1, 0, none⟩)), (7, .pointer (some ⟨b2, 0, none⟩)), (11, .bool y1), (12, .int .i64 y2), (13, .int .i64 y3), (74, .bool j3)] [Val (Kd.sl KPiece) v1 a1, Fld KIp b2 0 zIp, Fld KIp b1 0 a3] a w → G a w) 1 ?_ fun J3 => ?_
     ·intro j3 a w ho_ h
      rw [ho_] at G3
      have H := G3
      by_cases c9 : j3 = true
      ·have H := ifT c9 H
       refine g_t h rfl c9 ?_
       refine Go.seq ?_
       refine Go.reg ?_
       refine gs h (o_move rfl) rfl fun _ _ _ h => ?_
       refine gs h (o_build (K := KIp) (x := (⟨0, 0, 0, 0, 0, 0, 0, 0, [], []⟩ : TIp)) (ps := []) rfl (zs := zsIp) rfl t_b27 rfl (show PB (Kd.pair (Kd.int .i64) (Kd.pair (Kd.int .i64) (Kd.pair (Kd.int .i64) (Kd.pair (Kd.int .i64) (Kd.pair (Kd.int .i64) (Kd.pair (Kd.int .i64) (Kd.pair (Kd.int .u32) (Kd.pair (Kd.int .u32) (Kd.pair (Kd.sl (Kd.int .u8)) (Kd.last (Kd.sl (Kd.int .u8)))))))))))) (0, 0, 0, 0, 0, 0, 0, 0, [], []) 0 zsIp _ _ from (pb_zero z_int (pb_zero z_int (pb_zero z_int (pb_zero z_int (pb_zero z_int (pb_zero z_int (pb_zero z_int (pb_zero z_int (pb_zero z_sl (pb_lastz z_sl)))))))))))) rfl fun v12 _ _ h => ?_
       refine gs h (o_assign rfl) rfl fun _ _ _ h => ?_
       refine gs0 h (o_st 2 rfl rfl rfl (pv_at PIp 0 rfl) rfl t_w27) fun _ _ _ h => ?_
       refine gs h (o_assign rfl) rfl fun _ _ _ h => ?_
       refine GoR.done ?_
       obtain ⟨v13, h, u3⟩ := h.peek 2 rfl PIp t_y27
       rw [← som H]
       exact g_ret (vs := [v1, v13, .bool false]) h Try.func6 ⟨rfl, ⟨⟨_, rfl, u3⟩, ⟨rfl, trivial⟩⟩⟩ ⟨(v1, v13), rfl, (h.mem.pick [2, 0] (by decide) rfl)⟩
      ·have H := ifF c9 H
       refine g_f h rfl c9 ?_
       refine Go.skip ?_
       refine Go.seq ?_
       refine Go.reg ?_
       refine gs h (o_fa rfl t_f27_6 rfl rfl) rfl fun _ _ _ h => ?_
       have g8 := (in2 (fd_sub sIp_Src 2 rfl h.mem))
       refine gs h (o_lfx 2 rfl rfl sIp_Src rfl X_int t_y24) rfl fun _ _ _ h => ?_
       refine gs h (o_fa rfl t_f27_7 rfl rfl) rfl fun _ _ _ h => ?_
       have g9 := (in2 (fd_sub sIp_Dst 2 rfl h.mem))
       refine gs h (o_lfx 2 rfl rfl sIp_Dst rfl X_int t_y24) rfl fun _ _ _ h => ?_
       refine gs h (o_fa rfl t_f27_1 rfl rfl) rfl fun _ _ _ h => ?_
       have g10 := (in2 (fd_sub sIp_Id 2 rfl h.mem))
       refine gs h (o_lfx 2 rfl rfl sIp_Id rfl X_int t_y3) rfl fun _ _ _ h => ?_
       refine gs h (o_fa rfl t_f27_5 rfl rfl) rfl fun _ _ _ h => ?_
       have g11 := (in2 (fd_sub sIp_Proto 2 rfl h.mem))
       refine gs h (o_lfx 2 rfl rfl sIp_Proto rfl X_int t_y3) rfl fun _ _ _ h => ?_
       refine gs h (o_move rfl) rfl fun _ _ _ h => ?_
       refine gs h (o_bin rfl rfl rfl) rfl fun _ _ _ h => ?_
       refine gs h (o_build (K := KPiece) (x := (⟨a3.Src, a3.Dst, a3.Id, a3.Proto, IntKind.i64.wrap (a2 + 30), [], [], (-1)⟩ : TPiece)) (ps := [(0, .int .u32 a3.Src), (1, .int .u32 a3.Dst), (2, .int .i64 a3.Id), (3, .int .i64 a3.Proto), (4, .int .i64 (IntKind.i64.wrap (a2 + 30))), (7, .int .i64 (-1))]) rfl (zs := zsPiece) rfl t_b50 rfl (show PB (Kd.pair (Kd.int .u32) (Kd.pair (Kd.int .u32) (Kd.pair (Kd.int .i64) (Kd.pair (Kd.int .i64) (Kd.pair (Kd.int .i64) (Kd.pair (Kd.sl (Kd.int .u8)) (Kd.pair (Kd.sl Kd.bool) (Kd.last (Kd.int .i64))))))))) (a3.Src, a3.Dst, a3.Id, a3.Proto, IntKind.i64.wrap (a2 + 30), [], [], (-1)) 0 zsPiece _ _ from (pb_part (pv_int g8) rfl (pb_part (pv_int g9) rfl (pb_part (pv_int g10) rfl (pb_part (pv_int g11) rfl (pb_part (pv_int (wrap_in _ _)) rfl (pb_zero z_sl (pb_zero z_sl (pb_lastp (pv_int (show InR .i64 (-1) by decide)) rfl)))))))))) rfl fun v14 _ _ h => ?_
       refine gs h (o_alloc (K := KPiece) (z := (.agg #[.int .u32 0, .int .u32 0, .int .i64 0, .int .i64 0, .int .i64 0, .slice none 0 0, .slice none 0 0, .int .i64 0])) rfl ZPiece) rfl fun b3 _ _ h => ?_
       refine gs0 h (o_st 0 rfl rfl rfl (pv_at PPiece 1 rfl) rfl t_w50) fun _ _ _ h => ?_
       refine GoR.done ?_
       refine Go.seq ?_
       refine Go.reg ?_
       refine gs h (o_move rfl) rfl fun _ _ _ h => ?_
       refine gs h (o_ldv 0 rfl rfl PPiece t_y50) rfl fun v15 _ _ h => ?_
       obtain ⟨r4, er4, H⟩ := bindE H
       refine gs h (o_call (reasm_whose.spc v15 (⟨a3.Src, a3.Dst, a3.Id, a3.Proto, IntKind.i64.wrap (a2 + 30), [], [], (-1)⟩ : TPiece) r4 er4) rfl [0] [] (by decide) rfl rfl) rfl fun v16 _ _ h => ?_
       obtain ⟨r5, er5, H⟩ := bindE H
       refine gs h (o_call (reasm_seek.spc v1 a1 v16 r4 r5 er5) rfl [4, 0] [] (by decide) rfl rfl) rfl fun _ _ _ h => ?_
       have g12 := h.mem.pur 0 rfl
       refine gs h (o_assign rfl) rfl fun _ _ _ h => ?_
       refine GoR.done ?_
       refine Go.seq ?_
       refine Go.reg ?_
       refine gs h (o_move rfl) rfl fun _ _ _ h => ?_
       obtain ⟨r6, er6, H⟩ := bindE H
       refine gs h (o_call (slices_Clone_s_api_Piece_api_Piece.spc v1 a1 r6 er6) rfl [5] [] (by decide) rfl rfl) rfl fun v17 _ _ h => ?_
       refine gs h (o_assign rfl) rfl fun _ _ _ h => ?_
       refine GoR.done ?_
       refine Go.seq ?_
       obtain ⟨o4, H, G4⟩ := bindE H
       refine g_cut (fun G => ∀ j5 (v25 : Value) (a : Act) (w : World), o4 = .inl (j5) → St Try.f6.ntmps F [(0, v1), (5, .pointer (some ⟨b1, 0, none⟩)), (7, .pointer (some ⟨b2, 0, none⟩)), (11, .bool y1), (12, .int .i64 y2), (13, .int .i64 y3), (14, .pointer (some ⟨b3, 0, none⟩)), (15, .int .i64 r5), (16, v25)] [Val (Kd.sl KPiece) v1 a1, Val (Kd.osl KPiece) v25 j5.1, Fld KPiece b3 0 j5.2, Fld KIp b2 0 zIp, Fld KIp b1 0 a3] a w → G a w) 1 ?_ fun J5 => ?_
       ·intro j5 v25 a w ho_ h
        rw [ho_] at G4
        have H := G4
        refine Go.seq ?_
        refine Go.seq ?_
        refine Go.reg ?_
        refine gs h (o_ldv 2 rfl rfl PPiece t_y50) rfl fun v26 _ _ h => ?_
        refine gs h (o_move rfl) rfl fun _ _ _ h => ?_
        refine gs h (o_move rfl) rfl fun _ _ _ h => ?_
        obtain ⟨r7, er7, H⟩ := bindE H
        refine gs h (o_call (reasm_drops.spc v26 j5.2 y1 y3 (ey3 ▸ (wrap_in _ _)) r7 er7) rfl [0] [] (by decide) rfl rfl) rfl fun _ _ _ h => ?_
        refine GoR.done ?_
        by_cases c12 : r7 = true
        ·have H := ifT c12 H
         refine g_t h rfl c12 ?_
         refine Go.seq ?_
         refine Go.reg ?_
         refine gs h (o_move rfl) rfl fun _ _ _ h => ?_
         refine gs h (o_build (K := KIp) (x := (⟨0, 0, 0, 0, 0, 0, 0, 0, [], []⟩ : TIp)) (ps := []) rfl (zs := zsIp) rfl t_b27 rfl (show PB (Kd.pair (Kd.int .i64) (Kd.pair (Kd.int .i64) (Kd.pair (Kd.int .i64) (Kd.pair (Kd.int .i64) (Kd.pair (Kd.int .i64) (Kd.pair (Kd.int .i64) (Kd.pair (Kd.int .u32) (Kd.pair (Kd.int .u32) (Kd.pair (Kd.sl (Kd.int .u8)) (Kd.last (Kd.sl (Kd.int .u8)))))))))))) (0, 0, 0, 0, 0, 0, 0, 0, [], []) 0 zsIp _ _ from (pb_zero z_int (pb_zero z_int (pb_zero z_int (pb_zero z_int (pb_zero z_int (pb_zero z_int (pb_zero z_int (pb_zero z_int (pb_zero z_sl (pb_lastz z_sl)))))))))))) rfl fun v27 _ _ h => ?_
         refine gs h (o_assign rfl) rfl fun _ _ _ h => ?_
         refine gs0 h (o_st 5 rfl rfl rfl (pv_at PIp 0 rfl) rfl t_w27) fun _ _ _ h => ?_
         refine gs h (o_assign rfl) rfl fun _ _ _ h => ?_
         refine GoR.done ?_
         obtain ⟨v28, h, u5⟩ := h.peek 5 rfl PIp t_y27
         rw [← som H]
         exact g_ret (vs := [v1, v28, .bool false]) h Try.func6 ⟨rfl, ⟨⟨_, rfl, u5⟩, ⟨rfl, trivial⟩⟩⟩ ⟨(v1, v28), rfl, (h.mem.pick [3, 0] (by decide) rfl)⟩
        ·have H := ifF c12 H
         refine g_f h rfl c12 ?_
         refine Go.skip ?_
         refine Go.seq ?_
         refine Go.reg ?_
         refine gs h (o_ldv 3 rfl rfl PPiece t_y50) rfl fun v29 _ _ h => ?_
         refine gs h (o_move rfl) rfl fun _ _ _ h => ?_
         refine gs h (o_fa rfl t_f27_9 rfl rfl) rfl fun _ _ _ h => ?_
         refine gs h (o_lfv 6 rfl rfl sIp_Data rfl Per_sl t_y25) rfl fun v30 _ _ h => ?_
         obtain ⟨r8, er8, H⟩ := bindE H
         refine gs h (o_call (reasm_put.spc v29 j5.2 y2 (ey2 ▸ (wrap_in _ _)) v30 a3.Data r8 er8) rfl [1, 0] [] (by decide) rfl rfl) rfl fun v31 _ _ h => ?_
         refine gs0 h (o_st 6 rfl rfl rfl (pv_at PPiece 0 rfl) rfl t_w50) fun _ _ _ h => ?_
         refine GoR.done ?_
         refine Go.seq ?_
         obtain ⟨o6, H, G6⟩ := bindE H
         refine g_cut (fun G => ∀ j6 (a : Act) (w : World), o6 = j6 → St Try.f6.ntmps F [(5, .pointer (some ⟨b1, 0, none⟩)), (7, .pointer (some ⟨b2, 0, none⟩)), (14, .pointer (some ⟨b3, 0, none⟩)), (15, .int .i64 r5), (16, v25)] [Val (Kd.osl KPiece) v25 j5.1, Fld KPiece b3 0 j6, Fld KIp b2 0 zIp, Fld KIp b1 0 a3] a w → G a w) 1 ?_ fun J6 => ?_
         ·intro j6 a w ho_ h
          rw [ho_] at G6
          have H := G6
          refine Go.seq ?_
          refine Go.seq ?_
          obtain ⟨o7, H, G7⟩ := bindE H
          refine g_cut (fun G => ∀ j7 (a : Act) (w : World), o7 = j7 → St Try.f6.ntmps F [(5, .pointer (some ⟨b1, 0, none⟩)), (7, .pointer (some ⟨b2, 0, none⟩)), (14, .pointer (some ⟨b3, 0, none⟩)), (15, .int .i64 r5), (16, v25), (136, .bool j7)] [Val (Kd.osl KPiece) v25 j5.1, Fld KPiece b3 0 j6, Fld KIp b2 0 zIp, Fld KIp b1 0 a3] a w → G a w) 1 ?_ fun J7 => ?_
          ·intro j7 a w ho_ h
           rw [ho_] at G7
           have H := G7
           by_cases c15 : j7 = true
           ·have H := ifT c15 H
            refine g_t h rfl c15 ?_
            refine Go.seq ?_
            refine Go.reg ?_
            refine gs h (o_move rfl) rfl fun _ _ _ h => ?_
            refine gs h (o_move rfl) rfl fun _ _ _ h => ?_
            refine gs h (o_ldv 1 rfl rfl PPiece t_y50) rfl fun v34 _ _ h => ?_
            obtain ⟨x3, ex3, H⟩ := bindE H
            refine gs h (o_ix rfl rfl (rd_own 1 rfl) ex3 t_v23) rfl fun _ _ _ h => ?_
            obtain ⟨y6, ey6, H⟩ := ltE H
            refine gs0 h (o_ste 1 rfl rfl rfl (pv_at PPiece 0 rfl) ex3 t_w50 (by decide)) fun _ _ _ h => ?_
            rw [ey6] at h
            refine GoR.done ?_
            refine Go.seq ?_
            refine Go.reg ?_
            refine gs h (o_move rfl) rfl fun _ _ _ h => ?_
            refine gs h (o_build (K := KIp) (x := (⟨0, 0, 0, 0, 0, 0, 0, 0, [], []⟩ : TIp)) (ps := []) rfl (zs := zsIp) rfl t_b27 rfl (show PB (Kd.pair (Kd.int .i64) (Kd.pair (Kd.int .i64) (Kd.pair (Kd.int .i64) (Kd.pair (Kd.int .i64) (Kd.pair (Kd.int .i64) (Kd.pair (Kd.int .i64) (Kd.pair (Kd.int .u32) (Kd.pair (Kd.int .u32) (Kd.pair (Kd.sl (Kd.int .u8)) (Kd.last (Kd.sl (Kd.int .u8)))))))))))) (0, 0, 0, 0, 0, 0, 0, 0, [], []) 0 zsIp _ _ from (pb_zero z_int (pb_zero z_int (pb_zero z_int (pb_zero z_int (pb_zero z_int (pb_zero z_int (pb_zero z_int (pb_zero z_int (pb_zero z_sl (pb_lastz z_sl)))))))))))) rfl fun v35 _ _ h => ?_
            refine gs h (o_assign rfl) rfl fun _ _ _ h => ?_
            refine gs0 h (o_st 4 rfl rfl rfl (pv_at PIp 0 rfl) rfl t_w27) fun _ _ _ h => ?_
            refine gs h (o_assign rfl) rfl fun _ _ _ h => ?_
            refine GoR.done ?_
            obtain ⟨v36, h, u6⟩ := h.peek 4 rfl PIp t_y27
            replace h := h.mm fun m => m.freeze 3 rfl
            rw [← som H]
            exact g_ret (vs := [v25, v36, .bool false]) h Try.func6 ⟨rfl, ⟨⟨_, rfl, u6⟩, ⟨rfl, trivial⟩⟩⟩ ⟨(v25, v36), rfl, (h.mem.pick [3, 0] (by decide) rfl)⟩
           ·have H := ifF c15 H
            refine g_f h rfl c15 ?_
            refine Go.skip ?_
            refine Go.seq ?_
            replace h := h.mm fun m => (m.take (i := 3) rfl).opn (cIp _ _)
            replace h := h.wk (E' := [(5, .pointer (some ⟨b1, 0, none⟩)), (7, .pointer (some ⟨b2, 0, none⟩)), (14, .pointer (some ⟨b3, 0, none⟩)), (15, .int .i64 r5), (16, v25)]) (L' := [Fld (Kd.int .i64) b1 2 a3.Flags, Fld (Kd.int .i64) b1 3 a3.Off, Fld (Kd.int .i64) b1 0 a3.Tos, Fld (Kd.int .i64) b1 1 a3.Id, Fld (Kd.int .i64) b1 4 a3.Ttl, Fld (Kd.int .i64) b1 5 a3.Proto, Fld (Kd.int .u32) b1 6 a3.Src, Fld (Kd.int .u32) b1 7 a3.Dst, Fld (Kd.sl (Kd.int .u8)) b1 8 a3.Options, Fld (Kd.sl (Kd.int .u8)) b1 9 a3.Data, Val (Kd.osl KPiece) v25 j5.1, Fld KPiece b3 0 j6, Fld KIp b2 0 zIp]) (by rfl) [2, 3, 0, 1, 4, 5, 6, 7, 8, 9, 10, 11, 12] (by decide) (by rfl)
            refine Go.draw (L := [Fld (Kd.int .i64) b1 0 a3.Tos, Fld (Kd.int .i64) b1 1 a3.Id, Fld (Kd.int .i64) b1 4 a3.Ttl, Fld (Kd.int .i64) b1 5 a3.Proto, Fld (Kd.int .u32) b1 6 a3.Src, Fld (Kd.int .u32) b1 7 a3.Dst, Fld (Kd.sl (Kd.int .u8)) b1 8 a3.Options, Fld (Kd.sl (Kd.int .u8)) b1 9 a3.Data, Val (Kd.osl KPiece) v25 j5.1, Fld KPiece b3 0 j6, Fld KIp b2 0 zIp]) h 6 [⟨[], [], [], false, .con (.pointer (some ⟨b3, 5, none⟩)), none, fun u => []⟩, ⟨[0], [], [], false, .own, none, fun u => [Val (Kd.sl (Kd.int .u8)) u j6.Data]⟩, ⟨[], [], [], false, .con (.pointer (some ⟨b1, 2, none⟩)), none, fun u => []⟩, ⟨[2], [6], [6], false, .con (undef), none, fun u => [Fld (Kd.int .i64) b1 2 0]⟩, ⟨[2, 3], [], [], false, .con (.pointer (some ⟨b1, 3, none⟩)), none, fun u => []⟩, ⟨[2, 3, 4], [7], [7], false, .con (undef), none, fun u => [Fld (Kd.int .i64) b1 3 0]⟩, ⟨[], [], [], false, .con undef, none, fun u => [Fld (Kd.int .i64) b1 2 a3.Flags]⟩, ⟨[], [], [], false, .con undef, none, fun u => [Fld (Kd.int .i64) b1 3 a3.Off]⟩] rfl t_mxo (by kernel_rfl) (by rfl) ?_ fun f3 _ _ h => ?_
            ·exact obs_cons (ob_con rfl (gok_none rfl) rfl fun f3 => (o_fa rfl t_f50_5 rfl rfl)) (obs_cons (ob_own rfl (gok_none rfl) rfl fun f3 => (o_lfv 9 rfl rfl sPiece_Data rfl Per_sl t_y25)) (obs_cons (ob_con rfl (gok_none rfl) rfl fun f3 => (o_fa rfl t_f27_2 rfl rfl)) (obs_cons (ob_con rfl (gok_none rfl) rfl fun f3 => (o_st 0 rfl rfl rfl (pv_int (show InR .i64 0 by decide)) rfl t_w3)) (obs_cons (ob_con rfl (gok_none rfl) rfl fun f3 => (o_fa rfl t_f27_3 rfl rfl)) (obs_cons (ob_con rfl (gok_none rfl) rfl fun f3 => (o_st 0 rfl rfl rfl (pv_int (show InR .i64 0 by decide)) rfl t_w3)) (obs_nil))))))
            replace h := h.wk (E' := [(5, .pointer (some ⟨b1, 0, none⟩)), (7, .pointer (some ⟨b2, 0, none⟩)), (15, .int .i64 r5), (16, v25), (144, (f3 1))]) (L' := [Val (Kd.sl (Kd.int .u8)) (f3 1) j6.Data, Fld (Kd.int .i64) b1 2 0, Fld (Kd.int .i64) b1 3 0, Fld (Kd.int .i64) b1 0 a3.Tos, Fld (Kd.int .i64) b1 1 a3.Id, Fld (Kd.int .i64) b1 4 a3.Ttl, Fld (Kd.int .i64) b1 5 a3.Proto, Fld (Kd.int .u32) b1 6 a3.Src, Fld (Kd.int .u32) b1 7 a3.Dst, Fld (Kd.sl (Kd.int .u8)) b1 8 a3.Options, Fld (Kd.sl (Kd.int .u8)) b1 9 a3.Data, Val (Kd.osl KPiece) v25 j5.1, Fld KPiece b3 0 j6, Fld KIp b2 0 zIp]) (by kernel_rfl) [0, 1, 2, 3, 4, 5, 6, 7, 8, 9, 10, 11, 12, 13] (by decide) (by kernel_rfl)
            refine gs h (o_fa rfl t_f27_9 rfl rfl) rfl fun _ _ _ h => ?_
            refine gs0 h (o_st 10 rfl rfl rfl (pv_at Per_sl 0 rfl) rfl t_w25) fun _ _ _ h => ?_
            refine GoR.done ?_
            refine Go.seq ?_
            replace h := h.mm fun m => (m.pull (Lo := [Fld (Kd.int .i64) b1 0 a3.Tos, Fld (Kd.int .i64) b1 1 a3.Id, Fld (Kd.int .i64) b1 2 0, Fld (Kd.int .i64) b1 3 0, Fld (Kd.int .i64) b1 4 a3.Ttl, Fld (Kd.int .i64) b1 5 a3.Proto, Fld (Kd.int .u32) b1 6 a3.Src, Fld (Kd.int .u32) b1 7 a3.Dst, Fld (Kd.sl (Kd.int .u8)) b1 8 a3.Options, Fld (Kd.sl (Kd.int .u8)) b1 9 j6.Data]) [3, 4, 1, 2, 5, 6, 7, 8, 9, 10] (by decide) rfl).cls (cIp _ (⟨a3.Tos, a3.Id, 0, 0, a3.Ttl, a3.Proto, a3.Src, a3.Dst, a3.Options, j6.Data⟩ : TIp))
            replace h := h.wk (E' := [(5, .pointer (some ⟨b1, 0, none⟩)), (7, .pointer (some ⟨b2, 0, none⟩)), (15, .int .i64 r5), (16, v25)]) (L' := [Val (Kd.osl KPiece) v25 j5.1, Fld KIp b1 0 (⟨a3.Tos, a3.Id, 0, 0, a3.Ttl, a3.Proto, a3.Src, a3.Dst, a3.Options, j6.Data⟩ : TIp), Val (Kd.sl (Kd.int .u8)) (f3 1) j6.Data, Fld KPiece b3 0 j6, Fld KIp b2 0 zIp]) (by rfl) [12, 0, 1, 13, 14] (by decide) (by rfl)
            obtain ⟨r10, er10, H⟩ := bindE H
            refine Go.draw (L := [Fld KIp b1 0 (⟨a3.Tos, a3.Id, 0, 0, a3.Ttl, a3.Proto, a3.Src, a3.Dst, a3.Options, j6.Data⟩ : TIp), Val (Kd.sl (Kd.int .u8)) (f3 1) j6.Data, Fld KPiece b3 0 j6, Fld KIp b2 0 zIp]) h 7 [⟨[], [], [], false, .con (v25), none, fun u => []⟩, ⟨[], [], [], false, .con (.int .i64 r5), none, fun u => []⟩, ⟨[], [], [], false, .con (.int .i64 r5), none, fun u => []⟩, ⟨[2], [], [], false, .con (.int .i64 (IntKind.i64.wrap (r5 + 1))), none, fun u => []⟩, ⟨[0, 1, 2, 3], [7], [7], false, .own, none, fun u => [Val (Kd.osl KPiece) u r10, Ent.nul]⟩, ⟨[], [], [], false, .own, none, fun u => [Val KIp u (⟨a3.Tos, a3.Id, 0, 0, a3.Ttl, a3.Proto, a3.Src, a3.Dst, a3.Options, j6.Data⟩ : TIp)]⟩, ⟨[0, 1, 2, 3, 4], [], [], false, .fn (fun u => u) 4, none, fun u => []⟩, ⟨[], [], [], false, .con undef, none, fun u => [Val (Kd.osl KPiece) v25 j5.1]⟩] rfl t_mxo (by kernel_rfl) (by rfl) ?_ fun f4 _ _ h => ?_
            ·exact obs_cons (ob_con rfl (gok_none rfl) rfl fun f4 => (o_move rfl)) (obs_cons (ob_con rfl (gok_none rfl) rfl fun f4 => (o_move rfl)) (obs_cons (ob_con rfl (gok_none rfl) rfl fun f4 => (o_move rfl)) (obs_cons (ob_con rfl (gok_none rfl) rfl fun f4 => (o_bin rfl rfl rfl)) (obs_cons (ob_own rfl (gok_none rfl) rfl fun f4 => (o_call (slices_Delete_s_api_Piece_api_Piece.spc v25 j5.1 r5 g12 (IntKind.i64.wrap (r5 + 1)) (wrap_in _ _) r10 er10) rfl [] [0] (by decide) rfl rfl)) (obs_cons (ob_own rfl (gok_none rfl) rfl fun f4 => (o_ldv 0 rfl rfl PIp t_y27)) (obs_cons (ob_fn rfl (gok_none rfl) rfl fun f4 => (o_assign rfl)) (obs_nil)))))))
            replace h := h.wk (E' := [(7, .pointer (some ⟨b2, 0, none⟩)), (153, (f4 5)), (6, (f4 4))]) (L' := [Val (Kd.osl KPiece) (f4 4) r10, Ent.nul, Val KIp (f4 5) (⟨a3.Tos, a3.Id, 0, 0, a3.Ttl, a3.Proto, a3.Src, a3.Dst, a3.Options, j6.Data⟩ : TIp), Fld KIp b1 0 (⟨a3.Tos, a3.Id, 0, 0, a3.Ttl, a3.Proto, a3.Src, a3.Dst, a3.Options, j6.Data⟩ : TIp), Val (Kd.sl (Kd.int .u8)) (f3 1) j6.Data, Fld KPiece b3 0 j6, Fld KIp b2 0 zIp]) (by kernel_rfl) [0, 1, 2, 3, 4, 5, 6] (by decide) (by kernel_rfl)
            refine gs0 h (o_st 6 rfl rfl rfl (pv_at PIp 2 rfl) rfl t_w27) fun _ _ _ h => ?_
            refine gs h (o_assign rfl) rfl fun _ _ _ h => ?_
            refine GoR.done ?_
            obtain ⟨v41, h, u7⟩ := h.peek 6 rfl PIp t_y27
            replace h := h.mm fun m => m.freeze 1 rfl
            rw [← som H]
            exact g_ret (vs := [(f4 4), v41, .bool true]) h Try.func6 ⟨rfl, ⟨⟨_, rfl, u7⟩, ⟨rfl, trivial⟩⟩⟩ ⟨((f4 4), v41), rfl, (h.mem.pick [1, 0] (by decide) rfl)⟩
          refine Go.reg ?_
          refine gs h (o_fa rfl t_f50_5 rfl rfl) rfl fun _ _ _ h => ?_
          refine gs h (o_lfv 1 rfl rfl sPiece_Data rfl Per_sl t_y25) rfl fun v32 _ _ h => ?_
          have g14 := (len_at 0 rfl h.mem)
          refine gs h (o_ln rfl (rd_at 0 rfl) t_v25) rfl fun _ _ _ h => ?_
          refine gs h (o_fa rfl t_f50_7 rfl rfl) rfl fun _ _ _ h => ?_
          have g15 := (in2 (fd_sub sPiece_Total 2 rfl h.mem))
          refine gs h (o_lfx 2 rfl rfl sPiece_Total rfl X_int t_y3) rfl fun _ _ _ h => ?_
          refine gs h (o_bin rfl rfl rfl) rfl fun _ _ _ h => ?_
          refine gs h (o_move rfl) rfl fun _ _ _ h => ?_
          by_cases c14 : (!decide ((j6.Data.length : Int) = j6.Total)) = true
          ·have H := ifT c14 H
           refine gk h rfl rfl (nb_t c14) rfl fun _ h => ?_
           refine gk h rfl rfl (nb_t c14) rfl fun _ h => ?_
           refine gk h rfl rfl (nb_t c14) rfl fun _ h => ?_
           refine gs h (o_pickT rfl rfl c14) rfl fun _ _ _ h => ?_
           refine GoR.done ?_
           exact J7 true _ _ (som H).symm (h.wk (by rfl) [1, 2, 3, 4] (by decide) (by rfl))
          ·have H := ifF c14 H
           refine gg h rfl rfl (nbF c14) (o_fa rfl t_f50_6 rfl rfl) rfl fun _ _ _ h => ?_
           refine gg h rfl rfl (nbF c14) (o_lfv 2 rfl rfl sPiece_Have rfl Per_sl t_y38) rfl fun v33 _ _ h => ?_
           obtain ⟨r9, er9, H⟩ := bindE H
           refine gg h rfl rfl (nbF c14) (o_call (slices_Contains_s_bool_bool.spc v33 j6.Have false r9 er9) rfl [0] [] (by decide) rfl rfl) rfl fun _ _ _ h => ?_
           refine gs h (o_pickF rfl rfl c14) rfl fun _ _ _ h => ?_
           refine GoR.done ?_
           exact J7 r9 _ _ (som H).symm (h.wk (by rfl) [2, 3, 4, 5] (by decide) (by rfl))
         refine Go.seq ?_
         refine Go.reg ?_
         refine gs h (o_move rfl) rfl fun _ _ _ h => ?_
         refine GoR.done ?_
         by_cases c13 : y1 = true
         ·have H := ifT c13 H
          refine g_t h rfl c13 ?_
          refine Go.reg ?_
          refine gs h (o_move rfl) rfl fun _ _ _ h => ?_
          refine gs h (o_fa rfl t_f50_7 rfl rfl) rfl fun _ _ _ h => ?_
          replace h := h.mm fun m => (m.take (i := 6) rfl).opn (cPiece _ _)
          refine gs0 h (o_st 7 rfl rfl rfl (pv_int (ey3 ▸ (wrap_in _ _))) rfl t_w3) fun _ _ _ h => ?_
          refine GoR.done ?_
          replace h := h.mm fun m => (m.pull (Lo := [Fld (Kd.int .u32) b3 0 r8.Src, Fld (Kd.int .u32) b3 1 r8.Dst, Fld (Kd.int .i64) b3 2 r8.Id, Fld (Kd.int .i64) b3 3 r8.Proto, Fld (Kd.int .i64) b3 4 r8.Until, Fld (Kd.sl (Kd.int .u8)) b3 5 r8.Data, Fld (Kd.sl Kd.bool) b3 6 r8.Have, Fld (Kd.int .i64) b3 7 y3]) [0, 1, 2, 3, 4, 5, 6, 7] (by decide) rfl).cls (cPiece _ (⟨r8.Src, r8.Dst, r8.Id, r8.Proto, r8.Until, r8.Data, r8.Have, y3⟩ : TPiece))
          exact J6 (⟨r8.Src, r8.Dst, r8.Id, r8.Proto, r8.Until, r8.Data, r8.Have, y3⟩ : TPiece) _ _ (som H).symm (h.wk (by rfl) [14, 0, 16, 17] (by decide) (by rfl))
         ·have H := ifF c13 H
          refine g_f h rfl c13 ?_
          refine Go.skip ?_
          exact J6 r8 _ _ (som H).symm (h.wk (by rfl) [5, 6, 7, 8] (by decide) (by rfl))
       refine Go.block ?_
       obtain ⟨o5, H, G5⟩ := bindE H
       refine g_cut (fun G => ∀ j4 (v24 : Value) (a : Act) (w : World), o5 = .inl (j4) → St Try.f6.ntmps F [(0, v1), (5, .pointer (some ⟨b1, 0, none⟩)), (7, .pointer (some ⟨b2, 0, none⟩)), (11, .bool y1), (12, .int .i64 y2), (13, .int .i64 y3), (14, .pointer (some ⟨b3, 0, none⟩)), (15, .int .i64 r5), (16, v24)] [Val (Kd.sl KPiece) v1 a1, Val (Kd.osl KPiece) v24 j4.1, Fld KPiece b3 0 j4.2, Fld KIp b2 0 zIp, Fld KIp b1 0 a3] a w → G a w) 2 ?_ fun J4 => ?_
       ·intro j4 v24 a w ho_ h
        rw [ho_] at G5
        have H := G5
        exact J5 (j4.1, j4.2) v24 _ _ (som H).symm (h.wk (by rfl) [0, 1, 2, 3, 4] (by decide) (by rfl))
       refine Go.seq ?_
       refine Go.reg ?_
       refine gs h (o_move rfl) rfl fun _ _ _ h => ?_
       refine gs h (o_move rfl) rfl fun _ _ _ h => ?_
       have g13 := (len_at 6 rfl h.mem)
       refine gs h (o_ln rfl (rd_at 6 rfl) t_v23) rfl fun _ _ _ h => ?_
       refine gs h (o_bin rfl rfl rfl) rfl fun _ _ _ h => ?_
       obtain ⟨y4, ey4, H⟩ := ltE H
       refine gs h (o_assign' rfl (congrArg Value.bool ey4)) rfl fun _ _ _ h => ?_
       refine GoR.done ?_
       by_cases c10 : y4 = true
       ·have H := ifT c10 H
        refine g_t h rfl c10 ?_
        refine Go.reg ?_
        refine gs h (o_move rfl) rfl fun _ _ _ h => ?_
        refine gs h (o_move rfl) rfl fun _ _ _ h => ?_
        obtain ⟨x1, ex1, H⟩ := bindE H
        refine gs h (o_ix rfl rfl (rd_at 6 rfl) ex1 t_v23) rfl fun _ _ _ h => ?_
        refine gs h (o_lev rfl (rd_at 6 rfl) ex1 t_y50 (by decide)) rfl fun v18 _ _ h => ?_
        refine gs0 h (o_st 5 rfl rfl rfl (pv_at PPiece 0 rfl) rfl t_w50) fun _ _ _ h => ?_
        refine GoR.done ?_
        refine Go.inBlock ?_
        exact J4 (r6, x1) v17 _ _ (som H).symm (h.wk (by rfl) [7, 1, 5, 8, 9] (by decide) (by rfl))
       ·have H := ifF c10 H
        refine g_f h rfl c10 ?_
        refine Go.seq ?_
        refine Go.reg ?_
        refine gs h (o_move rfl) rfl fun _ _ _ h => ?_
        refine gs h (o_bin rfl rfl rfl) rfl fun _ _ _ h => ?_
        obtain ⟨y5, ey5, H⟩ := ltE H
        refine gs h (o_assign' rfl (congrArg Value.bool ey5)) rfl fun _ _ _ h => ?_
        refine GoR.done ?_
        by_cases c11 : y5 = true
        ·have H := ifT c11 H
         refine g_t h rfl c11 ?_
         refine Go.seq ?_
         refine Go.reg ?_
         refine gs h (o_move rfl) rfl fun _ _ _ h => ?_
         refine gs h (o_build (K := KIp) (x := (⟨0, 0, 0, 0, 0, 0, 0, 0, [], []⟩ : TIp)) (ps := []) rfl (zs := zsIp) rfl t_b27 rfl (show PB (Kd.pair (Kd.int .i64) (Kd.pair (Kd.int .i64) (Kd.pair (Kd.int .i64) (Kd.pair (Kd.int .i64) (Kd.pair (Kd.int .i64) (Kd.pair (Kd.int .i64) (Kd.pair (Kd.int .u32) (Kd.pair (Kd.int .u32) (Kd.pair (Kd.sl (Kd.int .u8)) (Kd.last (Kd.sl (Kd.int .u8)))))))))))) (0, 0, 0, 0, 0, 0, 0, 0, [], []) 0 zsIp _ _ from (pb_zero z_int (pb_zero z_int (pb_zero z_int (pb_zero z_int (pb_zero z_int (pb_zero z_int (pb_zero z_int (pb_zero z_int (pb_zero z_sl (pb_lastz z_sl)))))))))))) rfl fun v19 _ _ h => ?_
         refine gs h (o_assign rfl) rfl fun _ _ _ h => ?_
         refine gs0 h (o_st 8 rfl rfl rfl (pv_at PIp 0 rfl) rfl t_w27) fun _ _ _ h => ?_
         refine gs h (o_assign rfl) rfl fun _ _ _ h => ?_
         refine GoR.done ?_
         obtain ⟨v20, h, u4⟩ := h.peek 8 rfl PIp t_y27
         rw [← som H] at G5
         have H := G5
         rw [← som H] at G4
         have H := G4
         rw [← som H]
         exact g_ret (vs := [v1, v20, .bool false]) h Try.func6 ⟨rfl, ⟨⟨_, rfl, u4⟩, ⟨rfl, trivial⟩⟩⟩ ⟨(v1, v20), rfl, (h.mem.pick [8, 0] (by decide) rfl)⟩
        ·have H := ifF c11 H
         refine g_f h rfl c11 ?_
         refine Go.reg ?_
         refine gs h (o_move rfl) rfl fun _ _ _ h => ?_
         refine gs h (o_ldv 4 rfl rfl PPiece t_y50) rfl fun v21 _ _ h => ?_
         refine gs h (o_bs (K := KPiece) (vs := [v21]) (xs := ([(⟨a3.Src, a3.Dst, a3.Id, a3.Proto, IntKind.i64.wrap (a2 + 30), [], [], (-1)⟩ : TPiece)] : List TPiece)) rfl rfl (pvs_cons (pv_at PPiece 0 rfl) pvs_nil) t_a23 (by decide) (by decide)) rfl fun v22 _ _ h => ?_
         obtain ⟨x2, ex2, H⟩ := bindE H
         refine gs h (o_app (K := KPiece) 2 rfl rfl rfl (rd_own 0 rfl) ex2 t_a23 t_n23) rfl fun v23 _ _ h => ?_
         refine gs h (o_assign rfl) rfl fun _ _ _ h => ?_
         refine GoR.done ?_
         refine Go.inBlock ?_
         exact J4 (x2, (⟨a3.Src, a3.Dst, a3.Id, a3.Proto, IntKind.i64.wrap (a2 + 30), [], [], (-1)⟩ : TPiece)) v23 _ _ (som H).symm (h.wk (by rfl) [8, 2, 6, 9, 10] (by decide) (by rfl))
     refine Go.reg ?_
     refine gs h (o_move rfl) rfl fun _ _ _ h => ?_
     refine gs h (o_bin rfl rfl rfl) rfl fun _ _ _ h => ?_
     refine gs h (o_move rfl) rfl fun _ _ _ h => ?_
     by_cases c6 : decide (8192 < y3) = true
     ·have H := ifT c6 H
      refine gk h rfl rfl (nb_t c6) rfl fun _ h => ?_
      refine gk h rfl rfl (nb_t c6) rfl fun _ h => ?_
      refine gk h rfl rfl (nb_t c6) rfl fun _ h => ?_
      refine gk h rfl rfl rfl rfl fun _ h => ?_
      refine gk h rfl rfl rfl rfl fun _ h => ?_
      refine gk h rfl rfl rfl rfl fun _ h => ?_
      refine gk h rfl rfl rfl rfl fun _ h => ?_
      refine gk h rfl rfl rfl rfl fun _ h => ?_
      refine gk h rfl rfl rfl rfl fun _ h => ?_
      refine gk h rfl rfl rfl rfl fun _ h => ?_
      refine gk h rfl rfl rfl rfl fun _ h => ?_
      refine gk h rfl rfl rfl rfl fun _ h => ?_
      refine gk h rfl rfl rfl rfl fun _ h => ?_
      refine gk h rfl rfl rfl rfl fun _ h => ?_
      refine gk h rfl rfl (nb_t c6) rfl fun _ h => ?_
      refine gs h (o_pickT rfl rfl c6) rfl fun _ _ _ h => ?_
      refine GoR.done ?_
      exact J3 true _ _ (som H).symm (h.wk (by rfl) [1, 2, 3] (by decide) (by rfl))
     ·have H := ifF c6 H
      refine gg h rfl rfl (nbF c6) (o_move rfl) rfl fun _ _ _ h => ?_
      refine gg h rfl rfl (nbF c6) (o_not rfl) rfl fun _ _ _ h => ?_
      refine gg h rfl rfl (nbF c6) (o_move rfl) rfl fun _ _ _ h => ?_
      by_cases c7 : (!y1) = true
      ·have H := ifT c7 H
       refine gg h rfl rfl c7 (o_fa rfl t_f27_9 rfl rfl) rfl fun _ _ _ h => ?_
       refine gg h rfl rfl c7 (o_lfv 3 rfl rfl sIp_Data rfl Per_sl t_y25) rfl fun v10 _ _ h => ?_
       have g6 := (len_at 0 rfl h.mem)
       refine gg h rfl rfl c7 (o_ln rfl (rd_at 0 rfl) t_v25) rfl fun _ _ _ h => ?_
       refine gg h rfl rfl c7 (o_bin rfl rfl rfl) rfl fun _ _ _ h => ?_
       refine gg h rfl rfl c7 (o_move rfl) rfl fun _ _ _ h => ?_
       by_cases c8 : decide ((a3.Data.length : Int) = 0) = true
       ·have H := ifT c8 H
        refine gk h rfl rfl (nb_t c8) rfl fun _ h => ?_
        refine gk h rfl rfl (nb_t c8) rfl fun _ h => ?_
        refine gk h rfl rfl (nb_t c8) rfl fun _ h => ?_
        refine gk h rfl rfl (nb_t c8) rfl fun _ h => ?_
        refine gk h rfl rfl (nb_t c8) rfl fun _ h => ?_
        refine gg h rfl rfl c7 (o_pickT rfl rfl c8) rfl fun _ _ _ h => ?_
        refine gg h rfl rfl (nbF c6) (o_pickT rfl rfl c7) rfl fun _ _ _ h => ?_
        refine gs h (o_pickF rfl rfl c6) rfl fun _ _ _ h => ?_
        refine GoR.done ?_
        exact J3 true _ _ (som H).symm (h.wk (by rfl) [2, 3, 4] (by decide) (by rfl))
       ·have H := ifF c8 H
        refine gg h rfl rfl (nbF c8) (o_fa rfl t_f27_9 rfl rfl) rfl fun _ _ _ h => ?_
        refine gg h rfl rfl (nbF c8) (o_lfv 4 rfl rfl sIp_Data rfl Per_sl t_y25) rfl fun v11 _ _ h => ?_
        have g7 := (len_at 0 rfl h.mem)
        refine gg h rfl rfl (nbF c8) (o_ln rfl (rd_at 0 rfl) t_v25) rfl fun _ _ _ h => ?_
        refine gg h rfl rfl (nbF c8) (o_rem rfl rfl (show (8 : Int) ≠ 0 by decide)) rfl fun _ _ _ h => ?_
        refine gg h rfl rfl (nbF c8) (o_bin rfl rfl rfl) rfl fun _ _ _ h => ?_
        refine gg h rfl rfl c7 (o_pickF rfl rfl c8) rfl fun _ _ _ h => ?_
        refine gg h rfl rfl (nbF c6) (o_pickT rfl rfl c7) rfl fun _ _ _ h => ?_
        refine gs h (o_pickF rfl rfl c6) rfl fun _ _ _ h => ?_
        refine GoR.done ?_
        exact J3 (decide (0 < (Int.tmod (a3.Data.length : Int) 8))) _ _ (som H).symm (h.wk (by rfl) [3, 4, 5] (by decide) (by rfl))
      ·have H := ifF c7 H
       refine gk h rfl rfl (nb_f c7) rfl fun _ h => ?_
       refine gk h rfl rfl (nb_f c7) rfl fun _ h => ?_
       refine gk h rfl rfl (nb_f c7) rfl fun _ h => ?_
       refine gk h rfl rfl (nb_f c7) rfl fun _ h => ?_
       refine gk h rfl rfl (nb_f c7) rfl fun _ h => ?_
       refine gk h rfl rfl rfl rfl fun _ h => ?_
       refine gk h rfl rfl rfl rfl fun _ h => ?_
       refine gk h rfl rfl rfl rfl fun _ h => ?_
       refine gk h rfl rfl rfl rfl fun _ h => ?_
       refine gk h rfl rfl rfl rfl fun _ h => ?_
       refine gk h rfl rfl (nb_f c7) rfl fun _ h => ?_
       refine gg h rfl rfl (nbF c6) (o_pickF rfl rfl c7) rfl fun _ _ _ h => ?_
       refine gs h (o_pickF rfl rfl c6) rfl fun _ _ _ h => ?_
       refine GoR.done ?_
       exact J3 false _ _ (som H).symm (h.wk (by rfl) [1, 2, 3] (by decide) (by rfl))
   refine Go.reg ?_
   refine gs h (o_move rfl) rfl fun _ _ _ h => ?_
   refine gs h (o_move rfl) rfl fun _ _ _ h => ?_
   by_cases c4 : y1 = true
   ·have H := ifT c4 H
    refine gg h rfl rfl c4 (o_fa rfl t_f27_3 rfl rfl) rfl fun _ _ _ h => ?_
    have g3 := (in2 (fd_sub sIp_Off 2 rfl h.mem))
    refine gg h rfl rfl c4 (o_lfx 2 rfl rfl sIp_Off rfl X_int t_y3) rfl fun _ _ _ h => ?_
    refine gg h rfl rfl c4 (o_bin rfl rfl rfl) rfl fun _ _ _ h => ?_
    refine gs h (o_pickT rfl rfl c4) rfl fun _ _ _ h => ?_
    refine GoR.done ?_
    exact J2 (decide (a3.Off = 0)) _ _ (som H).symm (h.wk (by rfl) [0, 1, 2] (by decide) (by rfl))
   ·have H := ifF c4 H
    refine gk h rfl rfl (nb_f c4) rfl fun _ h => ?_
    refine gk h rfl rfl (nb_f c4) rfl fun _ h => ?_
    refine gk h rfl rfl (nb_f c4) rfl fun _ h => ?_
    refine gs h (o_pickF rfl rfl c4) rfl fun _ _ _ h => ?_
    refine GoR.done ?_
    exact J2 false _ _ (som H).symm (h.wk (by rfl) [0, 1, 2] (by decide) (by rfl))
 refine Go.reg ?_
 refine gs h (o_move rfl) rfl fun _ _ _ h => ?_
 refine gs h (o_bin rfl rfl rfl) rfl fun _ _ _ h => ?_
 refine gs h (o_move rfl) rfl fun _ _ _ h => ?_
 by_cases c1 : (!decide (r1.2 = 0)) = true
 ·have H := ifT c1 H
  refine gk h rfl rfl (nb_t c1) rfl fun _ h => ?_
  refine gk h rfl rfl (nb_t c1) rfl fun _ h => ?_
  refine gk h rfl rfl (nb_t c1) rfl fun _ h => ?_
  refine gs h (o_pickT rfl rfl c1) rfl fun _ _ _ h => ?_
  refine gs h (o_move rfl) rfl fun _ _ _ h => ?_
  refine gk h rfl rfl (nb_t rfl) rfl fun _ h => ?_
  refine gk h rfl rfl (nb_t rfl) rfl fun _ h => ?_
  refine gk h rfl rfl (nb_t rfl) rfl fun _ h => ?_
  refine gs h (o_pickT rfl rfl rfl) rfl fun _ _ _ h => ?_
  refine GoR.done ?_
  exact J1 true _ _ (som H).symm (h.wk (by rfl) [5, 3, 4] (by decide) (by rfl))
 ·have H := ifF c1 H
  refine gg h rfl rfl (nbF c1) (o_move rfl) rfl fun _ _ _ h => ?_
  obtain ⟨r2, er2, H⟩ := bindE H
  refine gg h rfl rfl (nbF c1) (o_call (reasm_Check.spc v1 a1 r2 er2) rfl [5] [] (by decide) rfl rfl) rfl fun _ _ _ h => ?_
  refine gg h rfl rfl (nbF c1) (o_not rfl) rfl fun _ _ _ h => ?_
  refine gs h (o_pickF rfl rfl c1) rfl fun _ _ _ h => ?_
  refine gs h (o_move rfl) rfl fun _ _ _ h => ?_
  by_cases c2 : (!r2) = true
  ·have H := ifT c2 H
   refine gk h rfl rfl (nb_t c2) rfl fun _ h => ?_
   refine gk h rfl rfl (nb_t c2) rfl fun _ h => ?_
   refine gk h rfl rfl (nb_t c2) rfl fun _ h => ?_
   refine gs h (o_pickT rfl rfl c2) rfl fun _ _ _ h => ?_
   refine GoR.done ?_
   exact J1 true _ _ (som H).symm (h.wk (by rfl) [5, 3, 4] (by decide) (by rfl))
  ·have H := ifF c2 H
   refine gg h rfl rfl (nbF c2) (o_move rfl) rfl fun _ _ _ h => ?_
   obtain ⟨r3, er3, H⟩ := bindE H
   refine gg h rfl rfl (nbF c2) (o_call (reasm_tick.spc a2 ha2 r3 er3) rfl [] [] (by decide) rfl rfl) rfl fun _ _ _ h => ?_
   refine gg h rfl rfl (nbF c2) (o_not rfl) rfl fun _ _ _ h => ?_
   refine gs h (o_pickF rfl rfl c2) rfl fun _ _ _ h => ?_
   refine GoR.done ?_
   exact J1 (!r3) _ _ (som H).symm (h.wk (by rfl) [5, 3, 4] (by decide) (by rfl))
def reasm_Add.g (k_ : Nat) (a1 : List TPiece) (a2 : Int) (a3 : TIp) : Option ((List TPiece) × TIp × Bool) :=
  (ip_Put.g k_ a3).bind fun r1 => ((if (!decide (r1.2 = 0)) = true then some (true) else (reasm_Check.g k_ a1).bind fun r2 => (if (!r2) = true then some (true) else (reasm_tick.g k_ a2).bind fun r3 => some ((!r3))))).bind (fun j1 => (if j1 = true then some ((a1, (⟨0, 0, 0, 0, 0, 0, 0, 0, [], []⟩ : TIp), false)) else lt (decide ((bits .and .i64 a3.Flags 1) = 0)) fun y1 => ((if y1 = true then some (decide (a3.Off = 0)) else some (false))).bind (fun j2 => (if j2 = true then some ((a1, a3, true)) else lt (IntKind.i64.wrap (8 * a3.Off)) fun y2 => lt (IntKind.i64.wrap (y2 + (a3.Data.length : Int))) fun y3 => ((if decide (8192 < y3) = true then some (true) else (if (!y1) = true then (if decide ((a3.Data.length : Int) = 0) = true then some (true) else some (decide (0 < (Int.tmod (a3.Data.length : Int) 8)))) else some (false)))).bind (fun j3 => (if j3 = true then some ((a1, (⟨0, 0, 0, 0, 0, 0, 0, 0, [], []⟩ : TIp), false)) else (reasm_whose.g k_ (⟨a3.Src, a3.Dst, a3.Id, a3.Proto, IntKind.i64.wrap (a2 + 30), [], [], (-1)⟩ : TPiece)).bind fun r4 => (reasm_seek.g k_ a1 r4).bind fun r5 => (slices_Clone_s_api_Piece_api_Piece.g k_ a1).bind fun r6 => ((lt (decide (r5 < (a1.length : Int))) fun y4 => (if y4 = true then (idx a1 r5).bind fun x1 => some (.inl ((r6, x1))) else lt (decide (r5 = 4)) fun y5 => (if y5 = true then some (.inr ((a1, (⟨0, 0, 0, 0, 0, 0, 0, 0, [], []⟩ : TIp), false))) else (app r6 ([(⟨a3.Src, a3.Dst, a3.Id, a3.Proto, IntKind.i64.wrap (a2 + 30), [], [], (-1)⟩ : TPiece)] : List TPiece)).bind fun x2 => some (.inl ((x2, (⟨a3.Src, a3.Dst, a3.Id, a3.Proto, IntKind.i64.wrap (a2 + 30), [], [], (-1)⟩ : TPiece))))))).bind (Sum.elim (fun j4 => some (.inl ((j4.1, j4.2)))) (fun z_ => some (.inr (z_))))).bind (Sum.elim (fun j5 => (reasm_drops.g k_ j5.2 y1 y3).bind fun r7 => (if r7 = true then some ((a1, (⟨0, 0, 0, 0, 0, 0, 0, 0, [], []⟩ : TIp), false)) else (reasm_put.g k_ j5.2 y2 a3.Data).bind fun r8 => ((if y1 = true then some ((⟨r8.Src, r8.Dst, r8.Id, r8.Proto, r8.Until, r8.Data, r8.Have, y3⟩ : TPiece)) else some (r8))).bind (fun j6 => ((if (!decide ((j6.Data.length : Int) = j6.Total)) = true then some (true) else (slices_Contains_s_bool_bool.g k_ j6.Have false).bind fun r9 => some (r9))).bind (fun j7 => (if j7 = true then (idx j5.1 r5).bind fun x3 => lt (j5.1.set r5.toNat j6) fun y6 => some ((y6, (⟨0, 0, 0, 0, 0, 0, 0, 0, [], []⟩ : TIp), false)) else (slices_Delete_s_api_Piece_api_Piece.g k_ j5.1 r5 (IntKind.i64.wrap (r5 + 1))).bind fun r10 => some ((r10, (⟨a3.Tos, a3.Id, 0, 0, a3.Ttl, a3.Proto, a3.Src, a3.Dst, a3.Options, j6.Data⟩ : TIp), true))))))) (fun z_ => some (z_)))))))))
theorem reasm_Add.le (k_ : Nat) (a1 : List TPiece) (a2 : Int) (a3 : TIp) : Le (reasm_Add.g k_ a1 a2 a3) (reasm_Add.f a1 a2 a3) := by
 unfold reasm_Add.g reasm_Add.f
 repeat' (first | with_reducible refine le_loop fun _ => ?_ | with_reducible refine le_bind ?_ fun _ => ?_ | with_reducible refine le_ite ?_ ?_ | with_reducible refine le_lt fun _ => ?_ | with_reducible refine le_elim (fun _ => ?_) (fun _ => ?_) _ | with_reducible apply ip_Put.le | with_reducible apply reasm_Check.le | with_reducible apply reasm_drops.le | with_reducible apply reasm_put.le | with_reducible apply reasm_seek.le | with_reducible apply reasm_tick.le | with_reducible apply reasm_whose.le | with_reducible apply slices_Clone_s_api_Piece_api_Piece.le | with_reducible apply slices_Contains_s_bool_bool.le | with_reducible apply slices_Delete_s_api_Piece_api_Piece.le | with_reducible exact le_refl _)
/-! drawbridge/reasm.Expire$1 -/
noncomputable def reasm_Expire_1.f (a1 : TPiece) (a2 : Int) : Option (Bool) :=
  lt (decide (a1.Until ≤ a2)) fun y1 => some (y1)
set_option maxRecDepth 100000 in
set_option maxHeartbeats 4000000 in
theorem reasm_Expire_1.spc (v1 : Value) (a1 : TPiece) (b1 : Nat) (a2 : Int) (r : Bool) (H : reasm_Expire_1.f a1 a2 = some r) : Spc Try.prog 27 [v1, .pointer (some ⟨b1, 0, none⟩)] [Val KPiece v1 a1, Pfl (Kd.int .i64) b1 0 a2] [] (fun (s : Unit) => .bool r) (fun s => []) := by
 unfold reasm_Expire_1.f at H
 refine Spc.go Try.func27 rfl (by kernel_rfl) rfl rfl (all_cons (Val.per PPiece) (all_cons Per_pfl all_nil)) fun F a w h => ?_
 refine Go.seq ?_
 refine Go.reg ?_
 refine gs h (o_box (K := KPiece) rfl (pv_at PPiece 0 rfl)) rfl fun b2 _ _ h => ?_
 refine gs h (o_assign rfl) rfl fun _ _ _ h => ?_
 refine GoR.done ?_
 refine Go.seq ?_
 refine Go.reg ?_
 refine gs h (o_fa rfl t_f50_4 rfl rfl) rfl fun _ _ _ h => ?_
 have g1 := (in2 (fd_sub sPiece_Until 0 rfl h.mem))
 refine gs h (o_lfx 0 rfl rfl sPiece_Until rfl X_int t_y3) rfl fun _ _ _ h => ?_
 have g2 := (in2 (pf_sub sub_self 2 rfl h.mem))
 refine gs h (p_lfx 2 rfl rfl sub_self rfl X_int t_y3) rfl fun _ _ _ h => ?_
 refine gs h (o_bin rfl rfl rfl) rfl fun _ _ _ h => ?_
 obtain ⟨y1, ey1, H⟩ := ltE H
 refine gs h (o_assign' rfl (congrArg Value.bool ey1)) rfl fun _ _ _ h => ?_
 refine GoR.done ?_
 rw [← som H]
 exact g_ret (vs := [.bool y1]) h Try.func27 ⟨rfl, trivial⟩ ⟨(), rfl, (h.mem.pick [] (by decide) rfl)⟩
def reasm_Expire_1.g (k_ : Nat) (a1 : TPiece) (a2 : Int) : Option (Bool) :=
  lt (decide (a1.Until ≤ a2)) fun y1 => some (y1)
theorem reasm_Expire_1.le (k_ : Nat) (a1 : TPiece) (a2 : Int) : Le (reasm_Expire_1.g k_ a1 a2) (reasm_Expire_1.f a1 a2) := by
 unfold reasm_Expire_1.g reasm_Expire_1.f
 repeat' (first | with_reducible refine le_loop fun _ => ?_ | with_reducible refine le_bind ?_ fun _ => ?_ | with_reducible refine le_ite ?_ ?_ | with_reducible refine le_lt fun _ => ?_ | with_reducible refine le_elim (fun _ => ?_) (fun _ => ?_) _ | with_reducible exact le_refl _)
end Go.Proofs.Ytlpjgmbbcibkjaa.S
