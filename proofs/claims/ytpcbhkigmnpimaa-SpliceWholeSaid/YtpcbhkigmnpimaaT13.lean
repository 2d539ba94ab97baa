/- Contracts, printed by a program of this session. -/
import Derived.Test.YtpcbhkigmnpimaaT1
import Derived.Test.YtpcbhkigmnpimaaT5
import Derived.Test.YtpcbhkigmnpimaaT10
import Derived.Test.YtpcbhkigmnpimaaT11
namespace Go.Proofs.Ytpcbhkigmnpimaa.S
open Go Go.SL Go.RowKit
set_option linter.unusedVariables false
set_option linter.unusedSimpArgs false
/-! (*drawbridge/drawbridgelaw28.play).do -/
noncomputable def law28_play_do.f (a1 : Tplay) (a2 : TEv) : Option (Tplay) :=
  (if a1.gone = true then some (a1) else ((lt (decide (a2.Kind = 0)) fun y1 => (if y1 = true then (splice_Take.f a1.c a1.now a2.Seg).bind fun r1 => lt (⟨r1.1, a1.now, a1.given, a1.gave, a1.segs, r1.2.2.2, a1.calls⟩ : Tplay) fun y2 => some ((r1.2.1, r1.2.2.1, y2)) else lt (decide (a2.Kind = 1)) fun y3 => (if y3 = true then (splice_Hear.f a1.c a1.now a2.Tell).bind fun r2 => lt (⟨r2.1, a1.now, a1.given, a1.gave, a1.segs, r2.2.2.2.2, a1.calls⟩ : Tplay) fun y4 => ((if decide (a2.Tell.Kind = 3) = true then (if decide (0 ≤ r2.2.2.2.1) = true then some (decide (r2.2.2.2.1 ≤ (a2.Tell.Data.length : Int))) else some (false)) else some (false))).bind (fun j1 => (if j1 = true then (cut a2.Tell.Data 0 r2.2.2.2.1).bind fun x1 => (app y4.gave x1).bind fun x2 => some ((r2.2.1, r2.2.2.1, (⟨y4.c, y4.now, y4.given, x2, y4.segs, y4.gone, y4.calls⟩ : Tplay))) else some ((r2.2.1, r2.2.2.1, y4)))) else (loop (fun s1 => ((if decide (s1.2.2.1 < a2.N) = true then some ((!s1.2.2.2.gone)) else some (false))).bind (fun j2 => (if j2 = true then lt (⟨s1.2.2.2.c, IntKind.i64.wrap (s1.2.2.2.now + 1), s1.2.2.2.given, s1.2.2.2.gave, s1.2.2.2.segs, s1.2.2.2.gone, s1.2.2.2.calls⟩ : Tplay) fun y5 => (splice_Tick.f y5.c y5.now).bind fun r3 => lt (⟨r3.1, y5.now, y5.given, y5.gave, y5.segs, r3.2.2.2, y5.calls⟩ : Tplay) fun y6 => (app s1.1 r3.2.1).bind fun x3 => (app s1.2.1 r3.2.2.1).bind fun x4 => lt (IntKind.i64.wrap (s1.2.2.1 + 1)) fun y7 => some (.inl (x3, x4, y7, y6)) else some (.inr ((s1.1, s1.2.1, s1.2.2.2)))))) (([] : List TSeg), ([] : List TCall), 0, a1)).bind (fun j3 => some ((j3.1, j3.2.1, j3.2.2)))))).bind (fun j4 => some ((j4.1, j4.2.1, j4.2.2)))).bind (fun j5 => (app j5.2.2.segs j5.1).bind fun x5 => (loop (fun s2 => (if decide (s2.1 < (j5.2.1.length : Int)) = true then ((idx j5.2.1 s2.1).bind fun x6 => (if decide (x6.Kind = 2) = true then (idx j5.2.1 s2.1).bind fun x7 => (app s2.2.given x7.Data).bind fun x8 => some ((⟨s2.2.c, s2.2.now, x8, s2.2.gave, s2.2.segs, s2.2.gone, s2.2.calls⟩ : Tplay)) else some (s2.2))).bind (fun j6 => lt (⟨j6.c, j6.now, j6.given, j6.gave, j6.segs, j6.gone, IntKind.i64.wrap (j6.calls + 1)⟩ : Tplay) fun y8 => lt (IntKind.i64.wrap (s2.1 + 1)) fun y9 => some (.inl (y9, y8))) else some (.inr (s2.2)))) (0, (⟨j5.2.2.c, j5.2.2.now, j5.2.2.given, j5.2.2.gave, x5, j5.2.2.gone, j5.2.2.calls⟩ : Tplay))).bind (fun z_ => some (z_))))
set_option maxRecDepth 100000 in
set_option maxHeartbeats 4000000 in
theorem law28_play_do.spc (b1 : Nat) (a1 : Tplay) (v1 : Value) (a2 : TEv) (r : Tplay) (H : law28_play_do.f a1 a2 = some r) : Spc Try.prog 15 [pt b1, v1] [Val KEv v1 a2] [Fld Kplay b1 0 a1] (fun (s : Unit) => .tuple #[]) (fun s => [Fld Kplay b1 0 r]) := by
 unfold law28_play_do.f at H
 refine Spc.go Try.func15 rfl (by kernel_rfl) rfl rfl (all_cons (Val.per PEv) all_nil) fun F a w h => ?_
 refine Go.seq ?_
 refine Go.reg ?_
 refine gs h (o_box (K := KEv) rfl (pv_at PEv 0 rfl)) rfl fun b2 _ _ h => ?_
 refine GoR.done ?_
 refine Go.seq ?_
 refine Go.seq ?_
 refine Go.reg ?_
 refine mv h rfl rfl fun h => ?_
 refine ga h (o_nilc rfl) rfl fun h => ?_
 refine ga h (o_fa rfl t_f48_5 rfl rfl) rfl fun h => ?_
 refine ga h (o_lfx 2 rfl rfl splay_gone rfl X_bool t_y4) rfl fun h => ?_
 refine GoR.done ?_
 by_cases c1 : a1.gone = true
 ·have H := ifT c1 H
  refine g_t h rfl c1 ?_
  rw [← som H]
  exact g_ret (vs := []) h Try.func15 trivial ⟨(), rfl, (h.mem.pick [2] (by decide) rfl)⟩
 ·have H := ifF c1 H
  refine g_f h rfl c1 ?_
  refine Go.skip ?_
  refine Go.seq ?_
  refine Go.reg ?_
  refine ga h (o_assign rfl) rfl fun h => ?_
  refine GoR.done ?_
  refine Go.seq ?_
  refine Go.reg ?_
  refine ga h (o_assign rfl) rfl fun h => ?_
  refine GoR.done ?_
  refine Go.seq ?_
  obtain ⟨o1, H, G1⟩ := bindE H
  refine g_cut (fun G => ∀ j5 (v31 : Value) (v32 : Value) (a : Act) (w : World), o1 = j5 → St Try.f15.ntmps F [(0, pt b1), (4, v31), (5, v32)] [Val (Kd.osl KSeg) v31 j5.1, Val (Kd.osl KCall) v32 j5.2.1, Fld Kplay b1 0 j5.2.2, Fld KEv b2 0 a2] a w → G a w) 1 ?_ fun J5 => ?_
  ·intro j5 v31 v32 a w ho_ h
   rw [ho_] at G1
   have H := G1
   refine Go.seq ?_
   refine Go.reg ?_
   refine mv h rfl rfl fun h => ?_
   refine mv h rfl rfl fun h => ?_
   refine ga h (o_nilc rfl) rfl fun h => ?_
   refine ga h (o_fa rfl t_f48_4 rfl rfl) rfl fun h => ?_
   replace h := h.mm fun m => (m.take (i := 2) rfl).opn (cplay _ _)
   obtain ⟨v33, h⟩ := h.unp 2 rfl
   obtain ⟨v34, h⟩ := h.unp 4 rfl
   obtain ⟨v35, h⟩ := h.unp 6 rfl
   refine ga h (o_ldx 0 rfl rfl X_eq t_y31) rfl fun h => ?_
   refine mv h rfl rfl fun h => ?_
   obtain ⟨x5, ex5, H⟩ := bindE H
   refine gs h (o_app (K := KSeg) 7 rfl rfl rfl (rd_own 10 rfl) ex5 t_a31 t_n31) rfl fun v36 _ _ h => ?_
   refine ga h (o_nilc rfl) rfl fun h => ?_
   refine ga h (o_fa rfl t_f48_4 rfl rfl) rfl fun h => ?_
   refine gs0 h (o_st 0 rfl rfl rfl (pv_eqo 7 rfl) rfl t_w31) fun _ _ _ h => ?_
   refine GoR.done ?_
   refine Go.seq ?_
   refine Go.reg ?_
   refine ga h (o_assign rfl) rfl fun h => ?_
   refine GoR.done ?_
   refine Go.block ?_
   replace h := h.mm fun m => (m.pull (Lo := [Fld (Kd.eq v33) b1 24 (), Val (Kd.osl (Kd.int .u8)) v33 j5.2.2.given]) [2, 5] (by decide) rfl).pck
   replace h := h.mm fun m => (m.pull (Lo := [Fld (Kd.eq v34) b1 25 (), Val (Kd.osl (Kd.int .u8)) v34 j5.2.2.gave]) [2, 7] (by decide) rfl).pck
   replace h := h.mm fun m => (m.pull (Lo := [Fld (Kd.eq v36) b1 26 (), Val (Kd.osl KSeg) v36 x5]) [2, 9] (by decide) rfl).pck
   replace h := h.mm fun m => (m.pull (Lo := [Fld KConn b1 0 j5.2.2.c, Fld (Kd.int .i64) b1 23 j5.2.2.now, Fld (Kd.osl (Kd.int .u8)) b1 24 j5.2.2.given, Fld (Kd.osl (Kd.int .u8)) b1 25 j5.2.2.gave, Fld (Kd.osl KSeg) b1 26 x5, Fld Kd.bool b1 27 j5.2.2.gone, Fld (Kd.int .i64) b1 28 j5.2.2.calls]) [6, 7, 2, 1, 0, 11, 12] (by decide) rfl).cls (cplay _ (⟨j5.2.2.c, j5.2.2.now, j5.2.2.given, j5.2.2.gave, x5, j5.2.2.gone, j5.2.2.calls⟩ : Tplay))
   obtain ⟨o6, hl, G6⟩ := bindE H
   refine g_loop (fun s2 G => ∀  (a : Act) (w : World), InR .i64 s2.1 → St Try.f15.ntmps F [(0, pt b1), (5, v32), (10, .int .i64 s2.1)] [Val (Kd.osl KCall) v32 j5.2.1, Fld Kplay b1 0 s2.2, Fld KEv b2 0 a2] a w → G a w) hl (fun s2 p2 H i2 => ?_) fun I_ => ?_
   ·intro  a w g24 h
    refine Go.seq ?_
    refine Go.seq ?_
    refine Go.reg ?_
    refine mv h rfl rfl fun h => ?_
    refine mv h rfl rfl fun h => ?_
    have g25 := (len_own 0 rfl h.mem)
    refine ga h (o_ln rfl (rd_own 0 rfl) t_v32) rfl fun h => ?_
    refine ga h (o_bin rfl rfl rfl) rfl fun h => ?_
    refine GoR.done ?_
    by_cases c9 : decide (s2.1 < (j5.2.1.length : Int)) = true
    ·have H := ifT c9 H
     refine g_t h rfl c9 ?_
     refine Go.skip ?_
     refine Go.seq ?_
     refine Go.block ?_
     refine Go.seq ?_
     obtain ⟨o7, H, G7⟩ := bindE H
     refine g_cut (fun G => ∀ j6 (a : Act) (w : World), o7 = j6 → St Try.f15.ntmps F [(0, pt b1), (5, v32), (10, .int .i64 s2.1)] [Val (Kd.osl KCall) v32 j5.2.1, Fld Kplay b1 0 j6, Fld KEv b2 0 a2] a w → G a w) 1 ?_ fun J6 => ?_
     ·intro j6 a w ho_ h
      rw [ho_] at G7
      have H := G7
      refine Go.reg ?_
      refine mv h rfl rfl fun h => ?_
      refine ga h (o_nilc rfl) rfl fun h => ?_
      refine ga h (o_fa rfl t_f48_6 rfl rfl) rfl fun h => ?_
      have g27 := (in2 (fd_sub splay_calls 1 rfl h.mem))
      refine ga h (o_lfx 1 rfl rfl splay_calls rfl X_int t_y3) rfl fun h => ?_
      refine ga h (o_bin rfl rfl rfl) rfl fun h => ?_
      refine ga h (o_nilc rfl) rfl fun h => ?_
      refine ga h (o_fa rfl t_f48_6 rfl rfl) rfl fun h => ?_
      obtain ⟨y8, ey8, H⟩ := ltE H
      refine gs0 h (o_stp (x0 := j6) (y := IntKind.i64.wrap (j6.calls + 1)) 1 t_uplay_28_1 rfl rfl rfl rfl (pv_int (wrap_in _ _)) t_w3) fun _ _ _ h => ?_
      rw [ey8] at h
      refine GoR.done ?_
      refine Go.inBlock ?_
      refine Go.reg ?_
      refine mv h rfl rfl fun h => ?_
      refine ga h (o_bin rfl rfl rfl) rfl fun h => ?_
      obtain ⟨y9, ey9, H⟩ := ltE H
      refine ga h (o_assign' rfl (congrArg (fun z => Value.int .i64 z) ey9)) rfl fun h => ?_
      refine GoR.done ?_
      have e_ := som H; subst e_
      exact Go.inLoop (nx_in i2 _ _ (ey9 ▸ (wrap_in _ _)) (h.wr [0, 1, 2]))
     refine Go.seq ?_
     refine Go.reg ?_
     refine mv h rfl rfl fun h => ?_
     refine mv h rfl rfl fun h => ?_
     obtain ⟨x6, ex6, H⟩ := bindE H
     refine ga h (o_ix rfl rfl (rd_own 0 rfl) ex6 t_v32) rfl fun h => ?_
     refine ga h (o_fae (k' := s2.1.toNat * Kd.n KCall + 0) rfl (rd_own 0 rfl) ex6 (by decide) t_f37_0 rfl rfl) rfl fun h => ?_
     have g26 := (in1 (rd_sub sCall_Kind (rd_own 0 rfl) ex6 h.mem))
     refine ga h (o_lsx rfl (rd_own 0 rfl) ex6 sCall_Kind X_int t_y3 (by decide)) rfl fun h => ?_
     refine ga h (o_bin rfl rfl rfl) rfl fun h => ?_
     refine GoR.done ?_
     by_cases c10 : decide (x6.Kind = 2) = true
     ·have H := ifT c10 H
      refine g_t h rfl c10 ?_
      replace h := h.mm fun m => (m.take (i := 1) rfl).opn (cplay _ _)
      obtain ⟨v37, h⟩ := h.unp 2 rfl
      obtain ⟨v38, h⟩ := h.unp 4 rfl
      obtain ⟨v39, h⟩ := h.unp 6 rfl
      replace h := h.wq [(0, pt b1), (5, v32), (10, .int .i64 s2.1)] [Val (Kd.osl (Kd.int .u8)) v37 s2.2.given, Fld (Kd.eq v39) b1 26 (), Fld (Kd.eq v38) b1 25 (), Fld (Kd.eq v37) b1 24 (), Fld KConn b1 0 s2.2.c, Fld (Kd.int .i64) b1 23 s2.2.now, Val (Kd.osl (Kd.int .u8)) v38 s2.2.gave, Val (Kd.osl KSeg) v39 s2.2.segs, Fld Kd.bool b1 27 s2.2.gone, Fld (Kd.int .i64) b1 28 s2.2.calls, Val (Kd.osl KCall) v32 j5.2.1, Fld KEv b2 0 a2] [5, 0, 1, 2, 3, 4, 6, 7, 8, 9, 10, 12]
      obtain ⟨x7, ex7, H⟩ := bindE H
      obtain ⟨x8, ex8, H⟩ := bindE H
      refine Go.draw (E := [(0, pt b1), (5, v32), (10, .int .i64 s2.1)]) [] (L := [Fld (Kd.eq v39) b1 26 (), Fld (Kd.eq v38) b1 25 (), Fld (Kd.eq v37) b1 24 (), Fld KConn b1 0 s2.2.c, Fld (Kd.int .i64) b1 23 s2.2.now, Val (Kd.osl (Kd.int .u8)) v38 s2.2.gave, Val (Kd.osl KSeg) v39 s2.2.segs, Fld Kd.bool b1 27 s2.2.gone, Fld (Kd.int .i64) b1 28 s2.2.calls, Val (Kd.osl KCall) v32 j5.2.1, Fld KEv b2 0 a2]) h rfl rfl 11 [cn (pt b1), cn (pt b1), ce [1] (pt b1), ce [1, 2] (.pointer (some ⟨b1, 24, none⟩)), ce [1, 2, 3] (v37), cn (v32), cn (.int .i64 s2.1), ce [5, 6] (elemP v32 (s2.1.toNat * Kd.n KCall)), ce [5, 6, 7] (elemP v32 (s2.1.toNat * Kd.n KCall + 4)), cw [5, 6, 7, 8] [] [] fun u => [Val (Kd.sl (Kd.int .u8)) u x7.Data], cw [1, 2, 3, 4, 5, 6, 7, 8, 9] [11, 9] [11] fun u => [Val (Kd.osl (Kd.int .u8)) u x8], cm [] [] [] undef fun u => [Val (Kd.osl (Kd.int .u8)) v37 s2.2.given]] rfl t_mxo (by kernel_rfl) (by rfl) ?_ fun f7 _ _ h => ?_
      ·exact ox rfl (o_move rfl) (ox rfl (o_move rfl) (ox rfl (o_nilc rfl) (ox rfl (o_fa rfl t_f48_2 rfl rfl) (ox rfl (o_ldx 2 rfl rfl X_eq t_y23) (ox rfl (o_move rfl) (ox rfl (o_move rfl) (ox rfl (o_ix rfl rfl (rd_own 9 rfl) ex7 t_v32) (ox rfl (o_fae (k' := s2.1.toNat * Kd.n KCall + 4) rfl (rd_own 9 rfl) ex7 (by decide) t_f37_4 rfl rfl) (oy rfl (o_lsv rfl (rd_own 9 rfl) ex7 sCall_Data t_y23 (by decide)) (oy rfl (o_app (K := (Kd.int .u8)) 0 rfl rfl rfl (rd_at 1 rfl) ex8 t_a23 t_n23) (obs_nil)))))))))))
      replace h := h.wk (E' := [(0, pt b1), (5, v32), (10, .int .i64 s2.1), (162, pt b1), (172, (f7 10))]) (L' := [Val (Kd.sl (Kd.int .u8)) (f7 9) x7.Data, Val (Kd.osl (Kd.int .u8)) (f7 10) x8, Fld (Kd.eq v39) b1 26 (), Fld (Kd.eq v38) b1 25 (), Fld (Kd.eq v37) b1 24 (), Fld KConn b1 0 s2.2.c, Fld (Kd.int .i64) b1 23 s2.2.now, Val (Kd.osl (Kd.int .u8)) v38 s2.2.gave, Val (Kd.osl KSeg) v39 s2.2.segs, Fld Kd.bool b1 27 s2.2.gone, Fld (Kd.int .i64) b1 28 s2.2.calls, Val (Kd.osl KCall) v32 j5.2.1, Fld KEv b2 0 a2]) (by kernel_rfl) [0, 1, 2, 3, 4, 5, 6, 7, 8, 9, 10, 11, 12] (by decide) (by kernel_rfl)
      refine ga h (o_nilc rfl) rfl fun h => ?_
      refine ga h (o_fa rfl t_f48_2 rfl rfl) rfl fun h => ?_
      refine gs0 h (o_st 4 rfl rfl rfl (pv_eqo 1 rfl) rfl t_w23) fun _ _ _ h => ?_
      refine GoR.done ?_
      replace h := h.mm fun m => (m.pull (Lo := [Fld (Kd.eq (f7 10)) b1 24 (), Val (Kd.osl (Kd.int .u8)) (f7 10) x8]) [4, 1] (by decide) rfl).pck
      replace h := h.mm fun m => (m.pull (Lo := [Fld (Kd.eq v38) b1 25 (), Val (Kd.osl (Kd.int .u8)) v38 s2.2.gave]) [4, 8] (by decide) rfl).pck
      replace h := h.mm fun m => (m.pull (Lo := [Fld (Kd.eq v39) b1 26 (), Val (Kd.osl KSeg) v39 s2.2.segs]) [4, 10] (by decide) rfl).pck
      replace h := h.mm fun m => (m.pull (Lo := [Fld KConn b1 0 s2.2.c, Fld (Kd.int .i64) b1 23 s2.2.now, Fld (Kd.osl (Kd.int .u8)) b1 24 x8, Fld (Kd.osl (Kd.int .u8)) b1 25 s2.2.gave, Fld (Kd.osl KSeg) b1 26 s2.2.segs, Fld Kd.bool b1 27 s2.2.gone, Fld (Kd.int .i64) b1 28 s2.2.calls]) [8, 9, 2, 1, 0, 12, 13] (by decide) rfl).cls (cplay _ (⟨s2.2.c, s2.2.now, x8, s2.2.gave, s2.2.segs, s2.2.gone, s2.2.calls⟩ : Tplay))
      exact J6 (⟨s2.2.c, s2.2.now, x8, s2.2.gave, s2.2.segs, s2.2.gone, s2.2.calls⟩ : Tplay) _ _ (som H).symm (h.wr [15, 0, 16])
     ·have H := ifF c10 H
      refine g_f h rfl c10 ?_
      refine Go.skip ?_
      exact J6 s2.2 _ _ (som H).symm (h.wr [0, 1, 2])
    ·have H := ifF c9 H
     refine g_f h rfl c9 ?_
     refine Go.exit rfl ?_
     have e_ := som H; subst e_
     rw [← nx_out i2] at G6
     have H := G6
     rw [← som H]
     exact g_fin (vs := []) h Try.func15 trivial ⟨(), rfl, (h.mem.pick [1] (by decide) rfl)⟩
   ·exact I_ _ _ (show InR .i64 0 by decide) (h.wr [15, 0, 17])
  refine Go.seq ?_
  refine Go.reg ?_
  refine ga h (o_fa rfl t_f46_0 rfl rfl) rfl fun h => ?_
  have g1 := (in2 (fd_sub sEv_Kind 0 rfl h.mem))
  refine ga h (o_lfx 0 rfl rfl sEv_Kind rfl X_int t_y3) rfl fun h => ?_
  refine GoR.done ?_
  refine Go.block ?_
  obtain ⟨o2, H, G2⟩ := bindE H
  refine g_cut (fun G => ∀ j4 (v29 : Value) (v30 : Value) (a : Act) (w : World), o2 = j4 → St Try.f15.ntmps F [(0, pt b1), (4, v29), (5, v30)] [Val (Kd.osl KSeg) v29 j4.1, Val (Kd.osl KCall) v30 j4.2.1, Fld Kplay b1 0 j4.2.2, Fld KEv b2 0 a2] a w → G a w) 2 ?_ fun J4 => ?_
  ·intro j4 v29 v30 a w ho_ h
   rw [ho_] at G2
   have H := G2
   exact J5 (j4.1, j4.2.1, j4.2.2) v29 v30 _ _ (som H).symm (h.wr [0, 1, 2, 3])
  refine Go.seq ?_
  refine Go.reg ?_
  refine ga h (o_bin rfl rfl rfl) rfl fun h => ?_
  obtain ⟨y1, ey1, H⟩ := ltE H
  refine ga h (o_assign' rfl (congrArg Value.bool ey1)) rfl fun h => ?_
  refine GoR.done ?_
  by_cases c2 : y1 = true
  ·have H := ifT c2 H
   refine g_t h rfl c2 ?_
   replace h := h.wq [(0, pt b1), (3, pt b2)] [Fld Kplay b1 0 a1, Fld KEv b2 0 a2, Val KEv v1 a2] [2, 0, 1]
   obtain ⟨r1, er1, H⟩ := bindE H
   refine Go.draw (E := [(0, pt b1), (3, pt b2)]) [] (L := [Fld KEv b2 0 a2, Val KEv v1 a2]) h rfl rfl 23 [cn (pt b1), cn (pt b1), cn (pt b1), ce [2] (pt b1), ce [2, 3] (pt b1), cw [2, 3, 4] [23] [] fun u => [Val KConn u a1.c], cn (pt b1), ce [6] (pt b1), ce [6, 7] (.pointer (some ⟨b1, 23, none⟩)), cm [6, 7, 8] [23] [] (.int .i64 a1.now) fun u => [Ent.pur (InR .i64 a1.now)], cn (.pointer (some ⟨b2, 1, none⟩)), cw [10] [] [] fun u => [Val KSeg u a2.Seg], cw [2, 3, 4, 5, 6, 7, 8, 9, 10, 11] [5, 9, 11] [] fun u => [Ent.pur (u = .tuple #[(tpv u 0), (tpv u 1), (tpv u 2), .bool r1.2.2.2]), Val KConn (tpv u 0) r1.1, Val (Kd.osl KSeg) (tpv u 1) r1.2.1, Val (Kd.osl KCall) (tpv u 2) r1.2.2.1], ⟨[2, 3, 4, 5, 6, 7, 8, 9, 10, 11, 12], [], [], false, .fn (fun u => u) 12, none, fun u => [], []⟩, ⟨[2, 3, 4, 5, 6, 7, 8, 9, 10, 11, 12, 13], [12], [], false, .fn (fun u => (tpv u 0)) 12, none, fun u => [], []⟩, ⟨[2, 3, 4, 5, 6, 7, 8, 9, 10, 11, 12, 13], [12], [], false, .fn (fun u => (tpv u 1)) 12, none, fun u => [], []⟩, ⟨[2, 3, 4, 5, 6, 7, 8, 9, 10, 11, 12, 13], [12], [], false, .fn (fun u => (tpv u 2)) 12, none, fun u => [], []⟩, cm [2, 3, 4, 5, 6, 7, 8, 9, 10, 11, 12, 13] [12] [] (.bool r1.2.2.2) fun u => [], ce [0] (pt b1), ce [0, 18] (pt b1), cm [0, 2, 3, 4, 5, 6, 7, 8, 9, 10, 11, 12, 13, 14, 18, 19] [23, 12] [23] (undef) fun u => [Fld Kplay b1 0 (⟨r1.1, a1.now, a1.given, a1.gave, a1.segs, a1.gone, a1.calls⟩ : Tplay)], ⟨[0, 2, 3, 4, 5, 6, 7, 8, 9, 10, 11, 12, 13, 14, 15, 18, 19, 20], [], [], false, .fn (fun u => (tpv u 1)) 12, none, fun u => [], []⟩, ⟨[0, 2, 3, 4, 5, 6, 7, 8, 9, 10, 11, 12, 13, 14, 16, 18, 19, 20], [], [], false, .fn (fun u => (tpv u 2)) 12, none, fun u => [], []⟩, cm [] [] [] undef fun u => [Fld Kplay b1 0 a1]] rfl t_mxo (by kernel_rfl) (by rfl) ?_ fun f1 _ _ h => ?_
   ·exact ox rfl (o_move rfl) (ox rfl (o_move rfl) (ox rfl (o_move rfl) (ox rfl (o_nilc rfl) (ox rfl (o_fa rfl t_f48_0 rfl rfl) (oy rfl (o_lfv 0 rfl rfl splay_c rfl PConn t_y26) (ox rfl (o_move rfl) (ox rfl (o_nilc rfl) (ox rfl (o_fa rfl t_f48_1 rfl rfl) (ox rfl (OpS.pur (fun F w m_ => (in2 (fd_sub splay_now 0 rfl m_))) (o_lfx 0 rfl rfl splay_now rfl X_int t_y3)) (ox rfl (o_fa rfl t_f46_1 rfl rfl) (oy rfl (o_lfv 0 rfl rfl sEv_Seg rfl PSeg t_y30) (ow rfl rfl rfl (fun f1 => (OpS.fact (p := InR .i64 a1.now) (fun F w m_ => (Mem.pur 1 rfl m_)) fun g2 => (pur_d (o_call (splice_Take.spc (f1 5) a1.c a1.now g2 (f1 11) a2.Seg r1 er1) rfl [0, 2] [] (by decide) rfl rfl) (fun _ => rfl)))) (obs_cons (ob_fn rfl (gok_none rfl) rfl fun f1 => (o_move rfl)) (obs_cons (ob_fn rfl (gok_none rfl) rfl fun f1 => (OpS.fact (fun F w m_ => (Mem.pur 0 rfl m_)) fun g3 => (o_extract (congrArg some g3) rfl))) (obs_cons (ob_fn rfl (gok_none rfl) rfl fun f1 => (OpS.fact (fun F w m_ => (Mem.pur 0 rfl m_)) fun g4 => (o_extract (congrArg some g4) rfl))) (obs_cons (ob_fn rfl (gok_none rfl) rfl fun f1 => (OpS.fact (fun F w m_ => (Mem.pur 0 rfl m_)) fun g5 => (o_extract (congrArg some g5) rfl))) (ox rfl (OpS.fact (fun F w m_ => (Mem.pur 0 rfl m_)) fun g6 => (o_extract (congrArg some g6) rfl)) (ox rfl (o_nilc rfl) (ox rfl (o_fa rfl t_f48_0 rfl rfl) (ox rfl (o_stp (x0 := a1) (y := r1.1) 0 t_uplay_0_23 rfl rfl rfl rfl (pv_at PConn 2 rfl) t_w26) (obs_cons (ob_fn rfl (gok_none rfl) rfl fun f1 => (o_assign rfl)) (obs_cons (ob_fn rfl (gok_none rfl) rfl fun f1 => (o_assign rfl)) (obs_nil)))))))))))))))))))))))
   replace h := h.wk (E' := [(0, pt b1), (67, pt b1), (82, .bool r1.2.2.2), (4, (tpv (f1 12) 1)), (5, (tpv (f1 12) 2))]) (L' := [Val KConn (f1 5) a1.c, Ent.pur (InR .i64 a1.now), Val KSeg (f1 11) a2.Seg, Ent.pur ((f1 12) = .tuple #[(tpv (f1 12) 0), (tpv (f1 12) 1), (tpv (f1 12) 2), .bool r1.2.2.2]), Val KConn (tpv (f1 12) 0) r1.1, Val (Kd.osl KSeg) (tpv (f1 12) 1) r1.2.1, Val (Kd.osl KCall) (tpv (f1 12) 2) r1.2.2.1, Fld Kplay b1 0 (⟨r1.1, a1.now, a1.given, a1.gave, a1.segs, a1.gone, a1.calls⟩ : Tplay), Fld KEv b2 0 a2, Val KEv v1 a2]) (by kernel_rfl) [0, 1, 2, 3, 4, 5, 6, 7, 8, 9] (by decide) (by kernel_rfl)
   refine ga h (o_nilc rfl) rfl fun h => ?_
   refine ga h (o_fa rfl t_f48_5 rfl rfl) rfl fun h => ?_
   obtain ⟨y2, ey2, H⟩ := ltE H
   refine gs0 h (o_stp (x0 := (⟨r1.1, a1.now, a1.given, a1.gave, a1.segs, a1.gone, a1.calls⟩ : Tplay)) (y := r1.2.2.2) 7 t_uplay_27_1 rfl rfl rfl rfl pv_bool t_w4) fun _ _ _ h => ?_
   rw [ey2] at h
   refine GoR.done ?_
   refine Go.inBlock ?_
   exact J4 (r1.2.1, r1.2.2.1, y2) (tpv (f1 12) 1) (tpv (f1 12) 2) _ _ (som H).symm (h.wr [5, 6, 7, 8])
  ·have H := ifF c2 H
   refine g_f h rfl c2 ?_
   refine Go.seq ?_
   refine Go.reg ?_
   refine ga h (o_bin rfl rfl rfl) rfl fun h => ?_
   obtain ⟨y3, ey3, H⟩ := ltE H
   refine ga h (o_assign' rfl (congrArg Value.bool ey3)) rfl fun h => ?_
   refine GoR.done ?_
   by_cases c3 : y3 = true
   ·have H := ifT c3 H
    refine g_t h rfl c3 ?_
    refine Go.seq ?_
    refine Go.reg ?_
    refine ga h (o_assign rfl) rfl fun h => ?_
    refine GoR.done ?_
    refine Go.seq ?_
    replace h := h.wq [(0, pt b1), (3, pt b2)] [Fld Kplay b1 0 a1, Fld KEv b2 0 a2, Val KEv v1 a2] [2, 0, 1]
    obtain ⟨r2, er2, H⟩ := bindE H
    refine Go.draw (E := [(0, pt b1), (3, pt b2)]) [] (L := [Fld KEv b2 0 a2, Val KEv v1 a2]) h rfl rfl 25 [cn (pt b1), cn (pt b1), cn (pt b1), ce [2] (pt b1), ce [2, 3] (pt b1), cw [2, 3, 4] [25] [] fun u => [Val KConn u a1.c], cn (pt b1), ce [6] (pt b1), ce [6, 7] (.pointer (some ⟨b1, 23, none⟩)), cm [6, 7, 8] [25] [] (.int .i64 a1.now) fun u => [Ent.pur (InR .i64 a1.now)], cn (.pointer (some ⟨b2, 9, none⟩)), cw [10] [] [] fun u => [Val KTell u a2.Tell], cw [2, 3, 4, 5, 6, 7, 8, 9, 10, 11] [5, 9, 11] [] fun u => [Ent.pur (u = .tuple #[(tpv u 0), (tpv u 1), (tpv u 2), .int .i64 r2.2.2.2.1, .bool r2.2.2.2.2]), Ent.pur (InR .i64 r2.2.2.2.1), Val KConn (tpv u 0) r2.1, Val (Kd.osl KSeg) (tpv u 1) r2.2.1, Val (Kd.osl KCall) (tpv u 2) r2.2.2.1], ⟨[2, 3, 4, 5, 6, 7, 8, 9, 10, 11, 12], [], [], false, .fn (fun u => u) 12, none, fun u => [], []⟩, ⟨[2, 3, 4, 5, 6, 7, 8, 9, 10, 11, 12, 13], [12], [], false, .fn (fun u => (tpv u 0)) 12, none, fun u => [], []⟩, ⟨[2, 3, 4, 5, 6, 7, 8, 9, 10, 11, 12, 13], [12], [], false, .fn (fun u => (tpv u 1)) 12, none, fun u => [], []⟩, ⟨[2, 3, 4, 5, 6, 7, 8, 9, 10, 11, 12, 13], [12], [], false, .fn (fun u => (tpv u 2)) 12, none, fun u => [], []⟩, cm [2, 3, 4, 5, 6, 7, 8, 9, 10, 11, 12, 13] [12] [] (.int .i64 r2.2.2.2.1) fun u => [], cm [2, 3, 4, 5, 6, 7, 8, 9, 10, 11, 12, 13] [12] [] (.bool r2.2.2.2.2) fun u => [], ce [0] (pt b1), ce [0, 19] (pt b1), cm [0, 2, 3, 4, 5, 6, 7, 8, 9, 10, 11, 12, 13, 14, 19, 20] [25, 12] [25] (undef) fun u => [Fld Kplay b1 0 (⟨r2.1, a1.now, a1.given, a1.gave, a1.segs, a1.gone, a1.calls⟩ : Tplay)], ⟨[0, 2, 3, 4, 5, 6, 7, 8, 9, 10, 11, 12, 13, 14, 15, 19, 20, 21], [], [], false, .fn (fun u => (tpv u 1)) 12, none, fun u => [], []⟩, ⟨[0, 2, 3, 4, 5, 6, 7, 8, 9, 10, 11, 12, 13, 14, 16, 19, 20, 21], [], [], false, .fn (fun u => (tpv u 2)) 12, none, fun u => [], []⟩, ce [0, 2, 3, 4, 5, 6, 7, 8, 9, 10, 11, 12, 13, 14, 17, 19, 20, 21] (.int .i64 r2.2.2.2.1), cm [] [] [] undef fun u => [Fld Kplay b1 0 a1]] rfl t_mxo (by kernel_rfl) (by rfl) ?_ fun f2 _ _ h => ?_
    ·exact ox rfl (o_move rfl) (ox rfl (o_move rfl) (ox rfl (o_move rfl) (ox rfl (o_nilc rfl) (ox rfl (o_fa rfl t_f48_0 rfl rfl) (oy rfl (o_lfv 0 rfl rfl splay_c rfl PConn t_y26) (ox rfl (o_move rfl) (ox rfl (o_nilc rfl) (ox rfl (o_fa rfl t_f48_1 rfl rfl) (ox rfl (OpS.pur (fun F w m_ => (in2 (fd_sub splay_now 0 rfl m_))) (o_lfx 0 rfl rfl splay_now rfl X_int t_y3)) (ox rfl (o_fa rfl t_f46_2 rfl rfl) (oy rfl (o_lfv 0 rfl rfl sEv_Tell rfl PTell t_y44) (ow rfl rfl rfl (fun f2 => (OpS.fact (p := InR .i64 a1.now) (fun F w m_ => (Mem.pur 1 rfl m_)) fun g7 => (pur_d (o_call (splice_Hear.spc (f2 5) a1.c a1.now g7 (f2 11) a2.Tell r2 er2) rfl [0, 2] [] (by decide) rfl rfl) (fun _ => rfl)))) (obs_cons (ob_fn rfl (gok_none rfl) rfl fun f2 => (o_move rfl)) (obs_cons (ob_fn rfl (gok_none rfl) rfl fun f2 => (OpS.fact (fun F w m_ => (Mem.pur 0 rfl m_)) fun g8 => (o_extract (congrArg some g8) rfl))) (obs_cons (ob_fn rfl (gok_none rfl) rfl fun f2 => (OpS.fact (fun F w m_ => (Mem.pur 0 rfl m_)) fun g9 => (o_extract (congrArg some g9) rfl))) (obs_cons (ob_fn rfl (gok_none rfl) rfl fun f2 => (OpS.fact (fun F w m_ => (Mem.pur 0 rfl m_)) fun g10 => (o_extract (congrArg some g10) rfl))) (ox rfl (OpS.fact (fun F w m_ => (Mem.pur 0 rfl m_)) fun g11 => (o_extract (congrArg some g11) rfl)) (ox rfl (OpS.fact (fun F w m_ => (Mem.pur 0 rfl m_)) fun g12 => (o_extract (congrArg some g12) rfl)) (ox rfl (o_nilc rfl) (ox rfl (o_fa rfl t_f48_0 rfl rfl) (ox rfl (o_stp (x0 := a1) (y := r2.1) 0 t_uplay_0_23 rfl rfl rfl rfl (pv_at PConn 3 rfl) t_w26) (obs_cons (ob_fn rfl (gok_none rfl) rfl fun f2 => (o_assign rfl)) (obs_cons (ob_fn rfl (gok_none rfl) rfl fun f2 => (o_assign rfl)) (ox rfl (o_assign rfl) (obs_nil)))))))))))))))))))))))))
    replace h := h.wk (E' := [(0, pt b1), (3, pt b2), (91, pt b1), (107, .bool r2.2.2.2.2), (4, (tpv (f2 12) 1)), (5, (tpv (f2 12) 2)), (6, .int .i64 r2.2.2.2.1)]) (L' := [Val KConn (f2 5) a1.c, Ent.pur (InR .i64 a1.now), Val KTell (f2 11) a2.Tell, Ent.pur ((f2 12) = .tuple #[(tpv (f2 12) 0), (tpv (f2 12) 1), (tpv (f2 12) 2), .int .i64 r2.2.2.2.1, .bool r2.2.2.2.2]), Ent.pur (InR .i64 r2.2.2.2.1), Val KConn (tpv (f2 12) 0) r2.1, Val (Kd.osl KSeg) (tpv (f2 12) 1) r2.2.1, Val (Kd.osl KCall) (tpv (f2 12) 2) r2.2.2.1, Fld Kplay b1 0 (⟨r2.1, a1.now, a1.given, a1.gave, a1.segs, a1.gone, a1.calls⟩ : Tplay), Fld KEv b2 0 a2, Val KEv v1 a2]) (by kernel_rfl) [0, 1, 2, 3, 4, 5, 6, 7, 8, 9, 10] (by decide) (by kernel_rfl)
    have g13 := (Mem.pur 4 rfl h.mem)
    refine ga h (o_nilc rfl) rfl fun h => ?_
    refine ga h (o_fa rfl t_f48_5 rfl rfl) rfl fun h => ?_
    obtain ⟨y4, ey4, H⟩ := ltE H
    refine gs0 h (o_stp (x0 := (⟨r2.1, a1.now, a1.given, a1.gave, a1.segs, a1.gone, a1.calls⟩ : Tplay)) (y := r2.2.2.2.2) 8 t_uplay_27_1 rfl rfl rfl rfl pv_bool t_w4) fun _ _ _ h => ?_
    rw [ey4] at h
    refine GoR.done ?_
    refine Go.seq ?_
    obtain ⟨o3, H, G3⟩ := bindE H
    refine g_cut (fun G => ∀ j1 (a : Act) (w : World), o3 = j1 → St Try.f15.ntmps F [(0, pt b1), (3, pt b2), (4, (tpv (f2 12) 1)), (5, (tpv (f2 12) 2)), (6, .int .i64 r2.2.2.2.1), (127, .bool j1)] [Val (Kd.osl KSeg) (tpv (f2 12) 1) r2.2.1, Val (Kd.osl KCall) (tpv (f2 12) 2) r2.2.2.1, Fld Kplay b1 0 y4, Fld KEv b2 0 a2] a w → G a w) 1 ?_ fun J1 => ?_
    ·intro j1 a w ho_ h
     rw [ho_] at G3
     have H := G3
     by_cases c6 : j1 = true
     ·have H := ifT c6 H
      refine g_t h rfl c6 ?_
      replace h := h.mm fun m => (m.take (i := 2) rfl).opn (cplay _ _)
      obtain ⟨v13, h⟩ := h.unp 2 rfl
      obtain ⟨v14, h⟩ := h.unp 4 rfl
      obtain ⟨v15, h⟩ := h.unp 6 rfl
      replace h := h.wq [(0, pt b1), (3, pt b2), (4, (tpv (f2 12) 1)), (5, (tpv (f2 12) 2)), (6, .int .i64 r2.2.2.2.1)] [Val (Kd.osl (Kd.int .u8)) v14 y4.gave, Fld (Kd.eq v15) b1 26 (), Fld (Kd.eq v14) b1 25 (), Fld (Kd.eq v13) b1 24 (), Fld KConn b1 0 y4.c, Fld (Kd.int .i64) b1 23 y4.now, Val (Kd.osl (Kd.int .u8)) v13 y4.given, Val (Kd.osl KSeg) v15 y4.segs, Fld Kd.bool b1 27 y4.gone, Fld (Kd.int .i64) b1 28 y4.calls, Val (Kd.osl KSeg) (tpv (f2 12) 1) r2.2.1, Val (Kd.osl KCall) (tpv (f2 12) 2) r2.2.2.1, Fld KEv b2 0 a2] [6, 0, 1, 2, 3, 4, 5, 7, 8, 9, 10, 11, 13]
      obtain ⟨x1, ex1, H⟩ := bindE H
      obtain ⟨x2, ex2, H⟩ := bindE H
      refine Go.draw (E := [(0, pt b1), (3, pt b2), (4, (tpv (f2 12) 1)), (5, (tpv (f2 12) 2)), (6, .int .i64 r2.2.2.2.1)]) [] (L := [Fld (Kd.eq v15) b1 26 (), Fld (Kd.eq v14) b1 25 (), Fld (Kd.eq v13) b1 24 (), Fld KConn b1 0 y4.c, Fld (Kd.int .i64) b1 23 y4.now, Val (Kd.osl (Kd.int .u8)) v13 y4.given, Val (Kd.osl KSeg) v15 y4.segs, Fld Kd.bool b1 27 y4.gone, Fld (Kd.int .i64) b1 28 y4.calls, Val (Kd.osl KSeg) (tpv (f2 12) 1) r2.2.1, Val (Kd.osl KCall) (tpv (f2 12) 2) r2.2.2.1, Fld KEv b2 0 a2]) h rfl rfl 11 [cn (pt b1), cn (pt b1), ce [1] (pt b1), ce [1, 2] (.pointer (some ⟨b1, 25, none⟩)), ce [1, 2, 3] (v14), cn (.pointer (some ⟨b2, 9, none⟩)), ce [5] (.pointer (some ⟨b2, 11, none⟩)), cw [5, 6] [] [] fun u => [Val (Kd.sl (Kd.int .u8)) u a2.Tell.Data], cn (.int .i64 r2.2.2.2.1), cw [5, 6, 7, 8] [7] [] fun u => [Val (Kd.sl (Kd.int .u8)) u x1], cw [1, 2, 3, 4, 5, 6, 7, 8, 9] [11, 9] [11] fun u => [Val (Kd.osl (Kd.int .u8)) u x2], cm [] [] [] undef fun u => [Val (Kd.osl (Kd.int .u8)) v14 y4.gave]] rfl t_mxo (by kernel_rfl) (by rfl) ?_ fun f4 _ _ h => ?_
      ·exact ox rfl (o_move rfl) (ox rfl (o_move rfl) (ox rfl (o_nilc rfl) (ox rfl (o_fa rfl t_f48_3 rfl rfl) (ox rfl (o_ldx 1 rfl rfl X_eq t_y23) (ox rfl (o_fa rfl t_f46_2 rfl rfl) (ox rfl (o_fa rfl t_f44_2 rfl rfl) (oy rfl (o_lfv (K := KEv) (pr := fun x => x.Tell.Data) (y := a2) 11 rfl rfl t_sEv_Tell_Data rfl Per_sl t_y23) (ox rfl (o_move rfl) (oy rfl (o_cuth rfl (pv_at Per_sl 0 rfl) rfl ex1 t_v23) (oy rfl (o_app (K := (Kd.int .u8)) 0 rfl rfl rfl (rd_at 1 rfl) ex2 t_a23 t_n23) (obs_nil)))))))))))
      replace h := h.wk (E' := [(0, pt b1), (4, (tpv (f2 12) 1)), (5, (tpv (f2 12) 2)), (128, pt b1), (138, (f4 10))]) (L' := [Val (Kd.sl (Kd.int .u8)) (f4 7) a2.Tell.Data, Val (Kd.sl (Kd.int .u8)) (f4 9) x1, Val (Kd.osl (Kd.int .u8)) (f4 10) x2, Fld (Kd.eq v15) b1 26 (), Fld (Kd.eq v14) b1 25 (), Fld (Kd.eq v13) b1 24 (), Fld KConn b1 0 y4.c, Fld (Kd.int .i64) b1 23 y4.now, Val (Kd.osl (Kd.int .u8)) v13 y4.given, Val (Kd.osl KSeg) v15 y4.segs, Fld Kd.bool b1 27 y4.gone, Fld (Kd.int .i64) b1 28 y4.calls, Val (Kd.osl KSeg) (tpv (f2 12) 1) r2.2.1, Val (Kd.osl KCall) (tpv (f2 12) 2) r2.2.2.1, Fld KEv b2 0 a2]) (by kernel_rfl) [0, 1, 2, 3, 4, 5, 6, 7, 8, 9, 10, 11, 12, 13, 14] (by decide) (by kernel_rfl)
      refine ga h (o_nilc rfl) rfl fun h => ?_
      refine ga h (o_fa rfl t_f48_3 rfl rfl) rfl fun h => ?_
      refine gs0 h (o_st 4 rfl rfl rfl (pv_eqo 2 rfl) rfl t_w23) fun _ _ _ h => ?_
      refine GoR.done ?_
      refine Go.inBlock ?_
      replace h := h.mm fun m => (m.pull (Lo := [Fld (Kd.eq v13) b1 24 (), Val (Kd.osl (Kd.int .u8)) v13 y4.given]) [5, 8] (by decide) rfl).pck
      replace h := h.mm fun m => (m.pull (Lo := [Fld (Kd.eq (f4 10)) b1 25 (), Val (Kd.osl (Kd.int .u8)) (f4 10) x2]) [5, 3] (by decide) rfl).pck
      replace h := h.mm fun m => (m.pull (Lo := [Fld (Kd.eq v15) b1 26 (), Val (Kd.osl KSeg) v15 y4.segs]) [5, 11] (by decide) rfl).pck
      replace h := h.mm fun m => (m.pull (Lo := [Fld KConn b1 0 y4.c, Fld (Kd.int .i64) b1 23 y4.now, Fld (Kd.osl (Kd.int .u8)) b1 24 y4.given, Fld (Kd.osl (Kd.int .u8)) b1 25 x2, Fld (Kd.osl KSeg) b1 26 y4.segs, Fld Kd.bool b1 27 y4.gone, Fld (Kd.int .i64) b1 28 y4.calls]) [9, 10, 2, 1, 0, 13, 14] (by decide) rfl).cls (cplay _ (⟨y4.c, y4.now, y4.given, x2, y4.segs, y4.gone, y4.calls⟩ : Tplay))
      exact J4 (r2.2.1, r2.2.2.1, (⟨y4.c, y4.now, y4.given, x2, y4.segs, y4.gone, y4.calls⟩ : Tplay)) (tpv (f2 12) 1) (tpv (f2 12) 2) _ _ (som H).symm (h.wr [16, 17, 0, 18])
     ·have H := ifF c6 H
      refine g_f h rfl c6 ?_
      refine Go.skip ?_
      refine Go.inBlock ?_
      exact J4 (r2.2.1, r2.2.2.1, y4) (tpv (f2 12) 1) (tpv (f2 12) 2) _ _ (som H).symm (h.wr [0, 1, 2, 3])
    refine Go.reg ?_
    refine ga h (o_fa rfl t_f46_2 rfl rfl) rfl fun h => ?_
    refine ga h (o_fa rfl t_f44_0 rfl rfl) rfl fun h => ?_
    have g14 := (in2 (fd_sub t_sEv_Tell_Kind 9 rfl h.mem))
    refine ga h (o_lfx 9 rfl rfl t_sEv_Tell_Kind rfl X_int t_y3) rfl fun h => ?_
    refine ga h (o_bin rfl rfl rfl) rfl fun h => ?_
    refine mv h rfl rfl fun h => ?_
    by_cases c4 : decide (a2.Tell.Kind = 3) = true
    ·have H := ifT c4 H
     refine gg h rfl rfl c4 (o_move rfl) rfl fun _ _ _ h => ?_
     refine gg h rfl rfl c4 (o_bin rfl rfl rfl) rfl fun _ _ _ h => ?_
     refine ga h (o_pickT rfl rfl c4) rfl fun h => ?_
     refine mv h rfl rfl fun h => ?_
     by_cases c5 : decide (0 ≤ r2.2.2.2.1) = true
     ·have H := ifT c5 H
      refine gg h rfl rfl c5 (o_move rfl) rfl fun _ _ _ h => ?_
      refine gg h rfl rfl c5 (o_fa rfl t_f46_2 rfl rfl) rfl fun _ _ _ h => ?_
      refine gg h rfl rfl c5 (o_fa rfl t_f44_2 rfl rfl) rfl fun _ _ _ h => ?_
      refine gg h rfl rfl c5 (o_lfv 9 rfl rfl t_sEv_Tell_Data rfl Per_sl t_y23) rfl fun v12 _ _ h => ?_
      have g15 := (len_at 0 rfl h.mem)
      refine gg h rfl rfl c5 (o_ln rfl (rd_at 0 rfl) t_v23) rfl fun _ _ _ h => ?_
      refine gg h rfl rfl c5 (o_bin rfl rfl rfl) rfl fun _ _ _ h => ?_
      refine ga h (o_pickT rfl rfl c5) rfl fun h => ?_
      refine GoR.done ?_
      exact J1 (decide (r2.2.2.2.1 ≤ (a2.Tell.Data.length : Int))) _ _ (som H).symm (h.wr [7, 8, 9, 10])
     ·have H := ifF c5 H
      iterate 6 (refine gk h rfl rfl (nb_f c5) rfl fun _ h => ?_)
      refine ga h (o_pickF rfl rfl c5) rfl fun h => ?_
      refine GoR.done ?_
      exact J1 false _ _ (som H).symm (h.wr [6, 7, 8, 9])
    ·have H := ifF c4 H
     refine gk h rfl rfl (nb_f c4) rfl fun _ h => ?_
     refine gk h rfl rfl (nb_f c4) rfl fun _ h => ?_
     refine ga h (o_pickF rfl rfl c4) rfl fun h => ?_
     refine mv h rfl rfl fun h => ?_
     iterate 6 (refine gk h rfl rfl (nb_f Bool.false_ne_true) rfl fun _ h => ?_)
     refine ga h (o_pickF rfl rfl Bool.false_ne_true) rfl fun h => ?_
     refine GoR.done ?_
     exact J1 false _ _ (som H).symm (h.wr [6, 7, 8, 9])
   ·have H := ifF c3 H
    refine g_f h rfl c3 ?_
    refine Go.seq ?_
    refine Go.reg ?_
    refine ga h (o_assign rfl) rfl fun h => ?_
    refine GoR.done ?_
    refine Go.block ?_
    obtain ⟨o4, hl, G4⟩ := bindE H
    refine g_cut (fun G => ∀ j3 (v27 : Value) (v28 : Value) (a : Act) (w : World), o4 = j3 → St Try.f15.ntmps F [(0, pt b1), (4, v27), (5, v28)] [Val (Kd.osl KSeg) v27 j3.1, Val (Kd.osl KCall) v28 j3.2.1, Fld KEv b2 0 a2, Fld Kplay b1 0 j3.2.2] a w → G a w) 3 ?_ fun J3 => ?_
    ·intro j3 v27 v28 a w ho_ h
     rw [ho_] at G4
     have H := G4
     exact J4 (j3.1, j3.2.1, j3.2.2) v27 v28 _ _ (som H).symm (h.wr [0, 1, 3, 2])
    refine g_loop (fun s1 G => ∀ (v19 : Value) (v20 : Value) (a : Act) (w : World), InR .i64 s1.2.2.1 → St Try.f15.ntmps F [(0, pt b1), (3, pt b2), (4, v19), (5, v20), (7, .int .i64 s1.2.2.1)] [Val (Kd.osl KSeg) v19 s1.1, Val (Kd.osl KCall) v20 s1.2.1, Fld KEv b2 0 a2, Fld Kplay b1 0 s1.2.2.2] a w → G a w) hl (fun s1 p1 H i1 => ?_) fun I_ => ?_
    ·intro v19 v20 a w g16 h
     refine Go.seq ?_
     refine Go.seq ?_
     obtain ⟨o5, H, G5⟩ := bindE H
     refine g_cut (fun G => ∀ j2 (a : Act) (w : World), o5 = j2 → St Try.f15.ntmps F [(0, pt b1), (3, pt b2), (4, v19), (5, v20), (7, .int .i64 s1.2.2.1), (27, .bool j2)] [Val (Kd.osl KSeg) v19 s1.1, Val (Kd.osl KCall) v20 s1.2.1, Fld KEv b2 0 a2, Fld Kplay b1 0 s1.2.2.2] a w → G a w) 1 ?_ fun J2 => ?_
     ·intro j2 a w ho_ h
      rw [ho_] at G5
      have H := G5
      by_cases c8 : j2 = true
      ·have H := ifT c8 H
       refine g_t h rfl c8 ?_
       refine Go.skip ?_
       refine Go.seq ?_
       refine Go.block ?_
       refine Go.seq ?_
       refine Go.reg ?_
       refine mv h rfl rfl fun h => ?_
       refine ga h (o_nilc rfl) rfl fun h => ?_
       refine ga h (o_fa rfl t_f48_1 rfl rfl) rfl fun h => ?_
       have g18 := (in2 (fd_sub splay_now 3 rfl h.mem))
       refine ga h (o_lfx 3 rfl rfl splay_now rfl X_int t_y3) rfl fun h => ?_
       refine ga h (o_bin rfl rfl rfl) rfl fun h => ?_
       refine ga h (o_nilc rfl) rfl fun h => ?_
       refine ga h (o_fa rfl t_f48_1 rfl rfl) rfl fun h => ?_
       obtain ⟨y5, ey5, H⟩ := ltE H
       refine gs0 h (o_stp (x0 := s1.2.2.2) (y := IntKind.i64.wrap (s1.2.2.2.now + 1)) 3 t_uplay_23_1 rfl rfl rfl rfl (pv_int (wrap_in _ _)) t_w3) fun _ _ _ h => ?_
       rw [ey5] at h
       refine GoR.done ?_
       refine Go.seq ?_
       refine Go.reg ?_
       refine ga h (o_assign rfl) rfl fun h => ?_
       refine GoR.done ?_
       refine Go.seq ?_
       refine Go.reg ?_
       refine ga h (o_assign rfl) rfl fun h => ?_
       refine GoR.done ?_
       refine Go.seq ?_
       replace h := h.wq [(0, pt b1), (3, pt b2), (4, v19), (5, v20), (7, .int .i64 s1.2.2.1)] [Fld Kplay b1 0 y5, Val (Kd.osl KSeg) v19 s1.1, Val (Kd.osl KCall) v20 s1.2.1, Fld KEv b2 0 a2] [3, 0, 1, 2]
       obtain ⟨r3, er3, H⟩ := bindE H
       refine Go.draw (E := [(0, pt b1), (3, pt b2), (4, v19), (5, v20), (7, .int .i64 s1.2.2.1)]) [] (L := [Val (Kd.osl KSeg) v19 s1.1, Val (Kd.osl KCall) v20 s1.2.1, Fld KEv b2 0 a2]) h rfl rfl 21 [cn (pt b1), cn (pt b1), cn (pt b1), ce [2] (pt b1), ce [2, 3] (pt b1), cw [2, 3, 4] [21] [] fun u => [Val KConn u y5.c], cn (pt b1), ce [6] (pt b1), ce [6, 7] (.pointer (some ⟨b1, 23, none⟩)), cm [6, 7, 8] [21] [] (.int .i64 y5.now) fun u => [Ent.pur (InR .i64 y5.now)], cw [2, 3, 4, 5, 6, 7, 8, 9] [5, 9] [] fun u => [Ent.pur (u = .tuple #[(tpv u 0), (tpv u 1), (tpv u 2), .bool r3.2.2.2]), Val KConn (tpv u 0) r3.1, Val (Kd.osl KSeg) (tpv u 1) r3.2.1, Val (Kd.osl KCall) (tpv u 2) r3.2.2.1], ⟨[2, 3, 4, 5, 6, 7, 8, 9, 10], [], [], false, .fn (fun u => u) 10, none, fun u => [], []⟩, ⟨[2, 3, 4, 5, 6, 7, 8, 9, 10, 11], [10], [], false, .fn (fun u => (tpv u 0)) 10, none, fun u => [], []⟩, ⟨[2, 3, 4, 5, 6, 7, 8, 9, 10, 11], [10], [], false, .fn (fun u => (tpv u 1)) 10, none, fun u => [], []⟩, ⟨[2, 3, 4, 5, 6, 7, 8, 9, 10, 11], [10], [], false, .fn (fun u => (tpv u 2)) 10, none, fun u => [], []⟩, cm [2, 3, 4, 5, 6, 7, 8, 9, 10, 11] [10] [] (.bool r3.2.2.2) fun u => [], ce [0] (pt b1), ce [0, 16] (pt b1), cm [0, 2, 3, 4, 5, 6, 7, 8, 9, 10, 11, 12, 16, 17] [21, 10] [21] (undef) fun u => [Fld Kplay b1 0 (⟨r3.1, y5.now, y5.given, y5.gave, y5.segs, y5.gone, y5.calls⟩ : Tplay)], ⟨[0, 2, 3, 4, 5, 6, 7, 8, 9, 10, 11, 12, 13, 16, 17, 18], [], [], false, .fn (fun u => (tpv u 1)) 10, none, fun u => [], []⟩, ⟨[0, 2, 3, 4, 5, 6, 7, 8, 9, 10, 11, 12, 14, 16, 17, 18], [], [], false, .fn (fun u => (tpv u 2)) 10, none, fun u => [], []⟩, cm [] [] [] undef fun u => [Fld Kplay b1 0 y5]] rfl t_mxo (by kernel_rfl) (by rfl) ?_ fun f5 _ _ h => ?_
       ·exact ox rfl (o_move rfl) (ox rfl (o_move rfl) (ox rfl (o_move rfl) (ox rfl (o_nilc rfl) (ox rfl (o_fa rfl t_f48_0 rfl rfl) (oy rfl (o_lfv 0 rfl rfl splay_c rfl PConn t_y26) (ox rfl (o_move rfl) (ox rfl (o_nilc rfl) (ox rfl (o_fa rfl t_f48_1 rfl rfl) (ox rfl (OpS.pur (fun F w m_ => (in2 (fd_sub splay_now 0 rfl m_))) (o_lfx 0 rfl rfl splay_now rfl X_int t_y3)) (ow rfl rfl rfl (fun f5 => (OpS.fact (p := InR .i64 y5.now) (fun F w m_ => (Mem.pur 1 rfl m_)) fun g19 => (pur_d (o_call (splice_Tick.spc (f5 5) y5.c y5.now g19 r3 er3) rfl [0] [] (by decide) rfl rfl) (fun _ => rfl)))) (obs_cons (ob_fn rfl (gok_none rfl) rfl fun f5 => (o_move rfl)) (obs_cons (ob_fn rfl (gok_none rfl) rfl fun f5 => (OpS.fact (fun F w m_ => (Mem.pur 0 rfl m_)) fun g20 => (o_extract (congrArg some g20) rfl))) (obs_cons (ob_fn rfl (gok_none rfl) rfl fun f5 => (OpS.fact (fun F w m_ => (Mem.pur 0 rfl m_)) fun g21 => (o_extract (congrArg some g21) rfl))) (obs_cons (ob_fn rfl (gok_none rfl) rfl fun f5 => (OpS.fact (fun F w m_ => (Mem.pur 0 rfl m_)) fun g22 => (o_extract (congrArg some g22) rfl))) (ox rfl (OpS.fact (fun F w m_ => (Mem.pur 0 rfl m_)) fun g23 => (o_extract (congrArg some g23) rfl)) (ox rfl (o_nilc rfl) (ox rfl (o_fa rfl t_f48_0 rfl rfl) (ox rfl (o_stp (x0 := y5) (y := r3.1) 0 t_uplay_0_23 rfl rfl rfl rfl (pv_at PConn 2 rfl) t_w26) (obs_cons (ob_fn rfl (gok_none rfl) rfl fun f5 => (o_assign rfl)) (obs_cons (ob_fn rfl (gok_none rfl) rfl fun f5 => (o_assign rfl)) (obs_nil)))))))))))))))))))))
       replace h := h.wk (E' := [(0, pt b1), (3, pt b2), (4, v19), (5, v20), (7, .int .i64 s1.2.2.1), (39, pt b1), (52, .bool r3.2.2.2), (8, (tpv (f5 10) 1)), (9, (tpv (f5 10) 2))]) (L' := [Val KConn (f5 5) y5.c, Ent.pur (InR .i64 y5.now), Ent.pur ((f5 10) = .tuple #[(tpv (f5 10) 0), (tpv (f5 10) 1), (tpv (f5 10) 2), .bool r3.2.2.2]), Val KConn (tpv (f5 10) 0) r3.1, Val (Kd.osl KSeg) (tpv (f5 10) 1) r3.2.1, Val (Kd.osl KCall) (tpv (f5 10) 2) r3.2.2.1, Fld Kplay b1 0 (⟨r3.1, y5.now, y5.given, y5.gave, y5.segs, y5.gone, y5.calls⟩ : Tplay), Val (Kd.osl KSeg) v19 s1.1, Val (Kd.osl KCall) v20 s1.2.1, Fld KEv b2 0 a2]) (by kernel_rfl) [0, 1, 2, 3, 4, 5, 6, 7, 8, 9] (by decide) (by kernel_rfl)
       refine ga h (o_nilc rfl) rfl fun h => ?_
       refine ga h (o_fa rfl t_f48_5 rfl rfl) rfl fun h => ?_
       obtain ⟨y6, ey6, H⟩ := ltE H
       refine gs0 h (o_stp (x0 := (⟨r3.1, y5.now, y5.given, y5.gave, y5.segs, y5.gone, y5.calls⟩ : Tplay)) (y := r3.2.2.2) 6 t_uplay_27_1 rfl rfl rfl rfl pv_bool t_w4) fun _ _ _ h => ?_
       rw [ey6] at h
       refine GoR.done ?_
       refine Go.seq ?_
       refine Go.reg ?_
       refine mv h rfl rfl fun h => ?_
       refine mv h rfl rfl fun h => ?_
       obtain ⟨x3, ex3, H⟩ := bindE H
       refine gs h (o_app (K := KSeg) 7 rfl rfl rfl (rd_own 4 rfl) ex3 t_a31 t_n31) rfl fun v25 _ _ h => ?_
       refine ga h (o_assign rfl) rfl fun h => ?_
       refine GoR.done ?_
       refine Go.reg ?_
       refine mv h rfl rfl fun h => ?_
       refine mv h rfl rfl fun h => ?_
       obtain ⟨x4, ex4, H⟩ := bindE H
       refine gs h (o_app (K := KCall) 8 rfl rfl rfl (rd_own 5 rfl) ex4 t_a32 t_n32) rfl fun v26 _ _ h => ?_
       refine ga h (o_assign rfl) rfl fun h => ?_
       refine GoR.done ?_
       refine Go.inBlock ?_
       refine Go.reg ?_
       refine mv h rfl rfl fun h => ?_
       refine ga h (o_bin rfl rfl rfl) rfl fun h => ?_
       obtain ⟨y7, ey7, H⟩ := ltE H
       refine ga h (o_assign' rfl (congrArg (fun z => Value.int .i64 z) ey7)) rfl fun h => ?_
       refine GoR.done ?_
       have e_ := som H; subst e_
       exact Go.inLoop (nx_in i1 v25 v26 _ _ (ey7 ▸ (wrap_in _ _)) (h.wr [7, 8, 9, 6]))
      ·have H := ifF c8 H
       refine g_f h rfl c8 ?_
       refine Go.exit rfl ?_
       refine Go.inBlock ?_
       have e_ := som H; subst e_
       exact J3 (s1.1, s1.2.1, s1.2.2.2) v19 v20 _ _ (nx_out i1).symm (h.wr [0, 1, 2, 3])
     refine Go.reg ?_
     refine mv h rfl rfl fun h => ?_
     refine ga h (o_fa rfl t_f46_3 rfl rfl) rfl fun h => ?_
     have g17 := (in2 (fd_sub sEv_N 2 rfl h.mem))
     refine ga h (o_lfx 2 rfl rfl sEv_N rfl X_int t_y3) rfl fun h => ?_
     refine ga h (o_bin rfl rfl rfl) rfl fun h => ?_
     refine mv h rfl rfl fun h => ?_
     by_cases c7 : decide (s1.2.2.1 < a2.N) = true
     ·have H := ifT c7 H
      refine gg h rfl rfl c7 (o_move rfl) rfl fun _ _ _ h => ?_
      refine gg h rfl rfl c7 (o_nilc rfl) rfl fun _ _ _ h => ?_
      refine gg h rfl rfl c7 (o_fa rfl t_f48_5 rfl rfl) rfl fun _ _ _ h => ?_
      refine gg h rfl rfl c7 (o_lfx 3 rfl rfl splay_gone rfl X_bool t_y4) rfl fun _ _ _ h => ?_
      refine gg h rfl rfl c7 (o_not rfl) rfl fun _ _ _ h => ?_
      refine ga h (o_pickT rfl rfl c7) rfl fun h => ?_
      refine GoR.done ?_
      exact J2 (!s1.2.2.2.gone) _ _ (som H).symm (h.wr [0, 1, 2, 3])
     ·have H := ifF c7 H
      iterate 5 (refine gk h rfl rfl (nb_f c7) rfl fun _ h => ?_)
      refine ga h (o_pickF rfl rfl c7) rfl fun h => ?_
      refine GoR.done ?_
      exact J2 false _ _ (som H).symm (h.wr [0, 1, 2, 3])
    ·replace h := h.mm fun m => m.nilo KSeg
     replace h := h.mm fun m => m.nilo KCall
     exact I_ (.slice none 0 0) (.slice none 0 0) _ _ (show InR .i64 0 by decide) (h.wr [1, 0, 2, 4])
def law28_play_do.g (k_ : Nat) (a1 : Tplay) (a2 : TEv) : Option (Tplay) :=
  (if a1.gone = true then some (a1) else ((lt (decide (a2.Kind = 0)) fun y1 => (if y1 = true then (splice_Take.g k_ a1.c a1.now a2.Seg).bind fun r1 => lt (⟨r1.1, a1.now, a1.given, a1.gave, a1.segs, r1.2.2.2, a1.calls⟩ : Tplay) fun y2 => some ((r1.2.1, r1.2.2.1, y2)) else lt (decide (a2.Kind = 1)) fun y3 => (if y3 = true then (splice_Hear.g k_ a1.c a1.now a2.Tell).bind fun r2 => lt (⟨r2.1, a1.now, a1.given, a1.gave, a1.segs, r2.2.2.2.2, a1.calls⟩ : Tplay) fun y4 => ((if decide (a2.Tell.Kind = 3) = true then (if decide (0 ≤ r2.2.2.2.1) = true then some (decide (r2.2.2.2.1 ≤ (a2.Tell.Data.length : Int))) else some (false)) else some (false))).bind (fun j1 => (if j1 = true then (cut a2.Tell.Data 0 r2.2.2.2.1).bind fun x1 => (app y4.gave x1).bind fun x2 => some ((r2.2.1, r2.2.2.1, (⟨y4.c, y4.now, y4.given, x2, y4.segs, y4.gone, y4.calls⟩ : Tplay))) else some ((r2.2.1, r2.2.2.1, y4)))) else (loopK k_ (fun s1 => ((if decide (s1.2.2.1 < a2.N) = true then some ((!s1.2.2.2.gone)) else some (false))).bind (fun j2 => (if j2 = true then lt (⟨s1.2.2.2.c, IntKind.i64.wrap (s1.2.2.2.now + 1), s1.2.2.2.given, s1.2.2.2.gave, s1.2.2.2.segs, s1.2.2.2.gone, s1.2.2.2.calls⟩ : Tplay) fun y5 => (splice_Tick.g k_ y5.c y5.now).bind fun r3 => lt (⟨r3.1, y5.now, y5.given, y5.gave, y5.segs, r3.2.2.2, y5.calls⟩ : Tplay) fun y6 => (app s1.1 r3.2.1).bind fun x3 => (app s1.2.1 r3.2.2.1).bind fun x4 => lt (IntKind.i64.wrap (s1.2.2.1 + 1)) fun y7 => some (.inl (x3, x4, y7, y6)) else some (.inr ((s1.1, s1.2.1, s1.2.2.2)))))) (([] : List TSeg), ([] : List TCall), 0, a1)).bind (fun j3 => some ((j3.1, j3.2.1, j3.2.2)))))).bind (fun j4 => some ((j4.1, j4.2.1, j4.2.2)))).bind (fun j5 => (app j5.2.2.segs j5.1).bind fun x5 => (loopK k_ (fun s2 => (if decide (s2.1 < (j5.2.1.length : Int)) = true then ((idx j5.2.1 s2.1).bind fun x6 => (if decide (x6.Kind = 2) = true then (idx j5.2.1 s2.1).bind fun x7 => (app s2.2.given x7.Data).bind fun x8 => some ((⟨s2.2.c, s2.2.now, x8, s2.2.gave, s2.2.segs, s2.2.gone, s2.2.calls⟩ : Tplay)) else some (s2.2))).bind (fun j6 => lt (⟨j6.c, j6.now, j6.given, j6.gave, j6.segs, j6.gone, IntKind.i64.wrap (j6.calls + 1)⟩ : Tplay) fun y8 => lt (IntKind.i64.wrap (s2.1 + 1)) fun y9 => some (.inl (y9, y8))) else some (.inr (s2.2)))) (0, (⟨j5.2.2.c, j5.2.2.now, j5.2.2.given, j5.2.2.gave, x5, j5.2.2.gone, j5.2.2.calls⟩ : Tplay))).bind (fun z_ => some (z_))))
theorem law28_play_do.le (k_ : Nat) (a1 : Tplay) (a2 : TEv) : Le (law28_play_do.g k_ a1 a2) (law28_play_do.f a1 a2) := by
 unfold law28_play_do.g law28_play_do.f
 repeat' (first | with_reducible refine le_loop fun _ => ?_ | with_reducible refine le_bind ?_ fun _ => ?_ | with_reducible refine le_ite ?_ ?_ | with_reducible refine le_lt fun _ => ?_ | with_reducible refine le_elim (fun _ => ?_) (fun _ => ?_) _ | with_reducible apply splice_Hear.le | with_reducible apply splice_Take.le | with_reducible apply splice_Tick.le | with_reducible exact le_refl _)
/-! drawbridge/drawbridgelaw28.begin -/
noncomputable def law28_begin.f (a1 : TSeg) (a2 : Int) : Option ((Option Tplay) × Bool) :=
  (splice_Open.f a1 1 2 1 a2).bind fun r1 => (if (!r1.2) = true then some ((none, false)) else (law28_play_do.f (⟨r1.1, 0, [], [], [], false, 0⟩ : Tplay) (⟨1, zSeg, (⟨1, 1, [], 0⟩ : TTell), 0⟩ : TEv)).bind fun r2 => some (((some r2), true)))
set_option maxRecDepth 100000 in
set_option maxHeartbeats 4000000 in
theorem law28_begin.spc (v1 : Value) (a1 : TSeg) (a2 : Int) (ha2 : InR .u32 a2) (r : (Option Tplay) × Bool) (H : law28_begin.f a1 a2 = some r) : Spc Try.prog 14 [v1, .int .u32 a2] [Val KSeg v1 a1] [] (fun (s : Value) => .tuple #[s, .bool r.2]) (fun s => [Val (Kd.obx Kplay) s r.1]) := by
 unfold law28_begin.f at H
 refine Spc.go Try.func14 rfl (by kernel_rfl) rfl rfl (all_cons (Val.per PSeg) all_nil) fun F a w h => ?_
 refine Go.seq ?_
 refine Go.reg ?_
 refine gs h (o_box (K := KSeg) rfl (pv_at PSeg 0 rfl)) rfl fun b1 _ _ h => ?_
 refine ga h (o_assign rfl) rfl fun h => ?_
 refine ga h (o_assign rfl) rfl fun h => ?_
 refine GoR.done ?_
 refine Go.seq ?_
 refine Go.reg ?_
 refine gs h (o_ldv 0 rfl rfl PSeg t_y30) rfl fun v2 _ _ h => ?_
 refine mv h rfl rfl fun h => ?_
 obtain ⟨r1, er1, H⟩ := bindE H
 refine gs h (o_call (splice_Open.spc v2 a1 1 (show InR .u32 1 by decide) 2 (show InR .u32 2 by decide) 1 (show InR .i64 1 by decide) a2 ha2 r1 er1) rfl [0] [] (by decide) rfl rfl) rfl fun v3 _ _ h => ?_
 refine mv h rfl rfl fun h => ?_
 refine ga h (o_extract rfl rfl) rfl fun h => ?_
 refine ga h (o_extract rfl rfl) rfl fun h => ?_
 refine gs h (o_alloc (K := KConn) (z := (.agg #[.int .i64 0, .int .u32 0, .int .i64 0, .int .u32 0, .int .i64 0, .bool false, .bool false, .bool false, .int .u32 0, .int .u32 0, .int .u32 0, .int .u32 0, .int .i64 0, .int .i64 0, .slice none 0 0, .slice none 0 0, .slice none 0 0, .bool false, .bool false, .bool false, .int .i64 0, .int .i64 0, .int .i64 0])) rfl ZConn) rfl fun b2 _ _ h => ?_
 refine gs0 h (o_st 0 rfl rfl rfl (pv_at PConn 1 rfl) rfl t_w26) fun _ _ _ h => ?_
 refine ga h (o_assign rfl) rfl fun h => ?_
 refine GoR.done ?_
 refine Go.seq ?_
 refine Go.seq ?_
 refine Go.reg ?_
 refine mv h rfl rfl fun h => ?_
 refine ga h (o_not rfl) rfl fun h => ?_
 refine GoR.done ?_
 by_cases c1 : (!r1.2) = true
 ·have H := ifT c1 H
  refine g_t h rfl c1 ?_
  refine Go.seq ?_
  refine Go.reg ?_
  refine ga h (o_assign rfl) rfl fun h => ?_
  refine ga h (o_assign rfl) rfl fun h => ?_
  refine GoR.done ?_
  replace h := h.mm fun m => m.nilb Kplay
  rw [← som H]
  exact g_ret (vs := [.pointer none, .bool false]) h Try.func14 ⟨rfl, ⟨rfl, trivial⟩⟩ ⟨.pointer none, rfl, (h.mem.pick [0] (by decide) rfl)⟩
 ·have H := ifF c1 H
  refine g_f h rfl c1 ?_
  refine Go.skip ?_
  refine Go.seq ?_
  refine Go.reg ?_
  refine gs h (o_ldv 0 rfl rfl PConn t_y26) rfl fun v4 _ _ h => ?_
  refine gs h (o_build (K := Kplay) (x := (⟨r1.1, 0, [], [], [], false, 0⟩ : Tplay)) (ps := [(0, v4)]) rfl (zs := zsplay) rfl t_b48 rfl (show PB (Kd.pair KConn (Kd.pair (Kd.int .i64) (Kd.pair (Kd.osl (Kd.int .u8)) (Kd.pair (Kd.osl (Kd.int .u8)) (Kd.pair (Kd.osl KSeg) (Kd.pair Kd.bool (Kd.last (Kd.int .i64)))))))) (r1.1, 0, [], [], [], false, 0) 0 zsplay _ _ from (pb_part (pv_at PConn 0 rfl) rfl (pb_zero z_int (pb_zero z_osl (pb_zero z_osl (pb_zero z_osl (pb_zero z_bool (pb_lastz z_int))))))))) rfl fun v5 _ _ h => ?_
  refine gs h (o_boxo (K := Kplay) 0 rfl rfl) rfl fun b3 _ _ h => ?_
  refine ga h (o_assign rfl) rfl fun h => ?_
  refine GoR.done ?_
  refine Go.seq ?_
  refine Go.reg ?_
  refine mv h rfl rfl fun h => ?_
  refine gs h (o_build (K := KTell) (x := (⟨1, 1, [], 0⟩ : TTell)) (ps := [(0, .int .i64 1), (1, .int .i64 1)]) rfl (zs := zsTell) rfl t_b44 rfl (show PB (Kd.pair (Kd.int .i64) (Kd.pair (Kd.int .i64) (Kd.pair (Kd.sl (Kd.int .u8)) (Kd.last (Kd.int .i64))))) (1, 1, [], 0) 0 zsTell _ _ from (pb_part (pv_int (show InR .i64 1 by decide)) rfl (pb_part (pv_int (show InR .i64 1 by decide)) rfl (pb_zero z_sl (pb_lastz z_int)))))) rfl fun v6 _ _ h => ?_
  refine gs h (o_build (K := KEv) (x := (⟨1, zSeg, (⟨1, 1, [], 0⟩ : TTell), 0⟩ : TEv)) (ps := [(0, .int .i64 1), (2, v6)]) rfl (zs := zsEv) rfl t_b46 rfl (show PB (Kd.pair (Kd.int .i64) (Kd.pair KSeg (Kd.pair KTell (Kd.last (Kd.int .i64))))) (1, zSeg, (⟨1, 1, [], 0⟩ : TTell), 0) 0 zsEv _ _ from (pb_part (pv_int (show InR .i64 1 by decide)) rfl (pb_zero ZSeg (pb_part (pv_at PTell 0 rfl) rfl (pb_lastz z_int)))))) rfl fun v7 _ _ h => ?_
  obtain ⟨r2, er2, H⟩ := bindE H
  refine ga h (o_call (law28_play_do.spc b3 (⟨r1.1, 0, [], [], [], false, 0⟩ : Tplay) v7 (⟨1, zSeg, (⟨1, 1, [], 0⟩ : TTell), 0⟩ : TEv) r2 er2) rfl [0] [2] (by decide) rfl rfl) rfl fun h => ?_
  refine GoR.done ?_
  refine Go.seq ?_
  refine Go.reg ?_
  refine mv h rfl rfl fun h => ?_
  refine ga h (o_assign rfl) rfl fun h => ?_
  refine ga h (o_assign rfl) rfl fun h => ?_
  refine GoR.done ?_
  replace h := h.mm fun m => m.pkb 0 rfl
  rw [← som H]
  exact g_ret (vs := [pt b3, .bool true]) h Try.func14 ⟨rfl, ⟨rfl, trivial⟩⟩ ⟨pt b3, rfl, (h.mem.pick [0] (by decide) rfl)⟩
def law28_begin.g (k_ : Nat) (a1 : TSeg) (a2 : Int) : Option ((Option Tplay) × Bool) :=
  (splice_Open.g k_ a1 1 2 1 a2).bind fun r1 => (if (!r1.2) = true then some ((none, false)) else (law28_play_do.g k_ (⟨r1.1, 0, [], [], [], false, 0⟩ : Tplay) (⟨1, zSeg, (⟨1, 1, [], 0⟩ : TTell), 0⟩ : TEv)).bind fun r2 => some (((some r2), true)))
theorem law28_begin.le (k_ : Nat) (a1 : TSeg) (a2 : Int) : Le (law28_begin.g k_ a1 a2) (law28_begin.f a1 a2) := by
 unfold law28_begin.g law28_begin.f
 repeat' (first | with_reducible refine le_loop fun _ => ?_ | with_reducible refine le_bind ?_ fun _ => ?_ | with_reducible refine le_ite ?_ ?_ | with_reducible refine le_lt fun _ => ?_ | with_reducible refine le_elim (fun _ => ?_) (fun _ => ?_) _ | with_reducible apply law28_play_do.le | with_reducible apply splice_Open.le | with_reducible exact le_refl _)
/-! drawbridge/drawbridgeref01.Same -/
noncomputable def ref01_Same.f (a1 : List Int) (a2 : List Int) : Option (Bool) :=
  lt (decide (a1 = a2)) fun y1 => some (y1)
set_option maxRecDepth 100000 in
set_option maxHeartbeats 4000000 in
theorem ref01_Same.spc (v1 : Value) (a1 : List Int) (v2 : Value) (a2 : List Int) (r : Bool) (H : ref01_Same.f a1 a2 = some r) : Spc Try.prog 18 [v1, v2] [Val (Kd.sl (Kd.int .u8)) v1 a1, Val (Kd.sl (Kd.int .u8)) v2 a2] [] (fun (s : Unit) => .bool r) (fun s => []) := by
 unfold ref01_Same.f at H
 refine Spc.go Try.func18 rfl (by kernel_rfl) rfl rfl (all_cons (Val.per Per_sl) (all_cons (Val.per Per_sl) all_nil)) fun F a w h => ?_
 refine Go.seq ?_
 refine Go.reg ?_
 refine ga h (o_assign rfl) rfl fun h => ?_
 refine GoR.done ?_
 refine Go.seq ?_
 refine Go.reg ?_
 refine mv h rfl rfl fun h => ?_
 have g1 := (rd_bs (rd_at 0 rfl) h.mem)
 refine ga h (o_b2s rfl (rd_at 0 rfl) t_u23 t_u5 t_u9) rfl fun h => ?_
 refine mv h rfl rfl fun h => ?_
 have g2 := (rd_bs (rd_at 1 rfl) h.mem)
 refine ga h (o_b2s rfl (rd_at 1 rfl) t_u23 t_u5 t_u9) rfl fun h => ?_
 refine ga h (o_eqs rfl rfl g1 g2) rfl fun h => ?_
 obtain ⟨y1, ey1, H⟩ := ltE H
 refine ga h (o_assign' rfl (congrArg Value.bool ey1)) rfl fun h => ?_
 refine GoR.done ?_
 rw [← som H]
 exact g_ret (vs := [.bool y1]) h Try.func18 ⟨rfl, trivial⟩ ⟨(), rfl, (h.mem.pick [] (by decide) rfl)⟩
def ref01_Same.g (k_ : Nat) (a1 : List Int) (a2 : List Int) : Option (Bool) :=
  lt (decide (a1 = a2)) fun y1 => some (y1)
theorem ref01_Same.le (k_ : Nat) (a1 : List Int) (a2 : List Int) : Le (ref01_Same.g k_ a1 a2) (ref01_Same.f a1 a2) := by
 unfold ref01_Same.g ref01_Same.f
 repeat' (first | with_reducible refine le_loop fun _ => ?_ | with_reducible refine le_bind ?_ fun _ => ?_ | with_reducible refine le_ite ?_ ?_ | with_reducible refine le_lt fun _ => ?_ | with_reducible refine le_elim (fun _ => ?_) (fun _ => ?_) _ | with_reducible exact le_refl _)
end Go.Proofs.Ytpcbhkigmnpimaa.S
