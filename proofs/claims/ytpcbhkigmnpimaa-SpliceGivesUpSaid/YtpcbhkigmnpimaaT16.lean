/- Contracts, printed by a program of this session. -/
import Derived.Test.YtpcbhkigmnpimaaT1
import Derived.Test.YtpcbhkigmnpimaaT14
import Derived.Test.YtpcbhkigmnpimaaT15
namespace Go.Proofs.Ytpcbhkigmnpimaa.S
open Go Go.SL Go.RowKit
set_option linter.unusedVariables false
set_option linter.unusedSimpArgs false
/-! drawbridge/drawbridgelaw28.begin -/
noncomputable def law28_begin.f (a1 : TSeg) (a2 : Int) : Option ((Option Tplay) × Bool) :=
  (splice_Open.f a1 1 2 1 a2).bind fun r1 => (if (!r1.2) = true then some ((none, false)) else (law28_play_do.f (⟨r1.1, 0, [], [], [], false, 0⟩ : Tplay) (⟨1, zSeg, (⟨1, 1, [], 0⟩ : TTell), 0⟩ : TEv)).bind fun r2 => some (((some r2), true)))
set_option maxRecDepth 100000 in
set_option maxHeartbeats 4000000 in
theorem law28_begin.spc (v1 : Value) (a1 : TSeg) (a2 : Int) (ha2 : InR .u32 a2) (r : (Option Tplay) × Bool) (H : law28_begin.f a1 a2 = some r) : Spc Try.prog 14 [v1, .int .u32 a2] [Val KSeg v1 a1] [] (fun (s : Value) => .tuple #[s, .bool r.2]) (fun s => [Val (Kd.obx Kplay) s r.1]) := by
 unfold law28_begin.f at H
 refine Spc.go Try.func14 rfl (by kernel_rfl) rfl rfl (all_cons (Val.per PSeg) all_nil) fun F a w h => ?_
 refine Go.seq ?_
 refine Go.reg ?_
 refine gs h (o_box (K := KSeg) rfl (pv_at PSeg 0 rfl)) rfl fun b1 _ _ h => ?_
 refine gs h (o_assign rfl) rfl fun _ _ _ h => ?_
 refine gs h (o_assign rfl) rfl fun _ _ _ h => ?_
 refine GoR.done ?_
 refine Go.seq ?_
 refine Go.reg ?_
 refine gs h (o_ldv 0 rfl rfl PSeg t_y30) rfl fun v2 _ _ h => ?_
 refine gs h (o_move rfl) rfl fun _ _ _ h => ?_
 obtain ⟨r1, er1, H⟩ := bindE H
 refine gs h (o_call (splice_Open.spc v2 a1 1 (show InR .u32 1 by decide) 2 (show InR .u32 2 by decide) 1 (show InR .i64 1 by decide) a2 ha2 r1 er1) rfl [0] [] (by decide) rfl rfl) rfl fun v3 _ _ h => ?_
 refine gs h (o_move rfl) rfl fun _ _ _ h => ?_
 refine gs h (o_extract rfl rfl) rfl fun _ _ _ h => ?_
 refine gs h (o_extract rfl rfl) rfl fun _ _ _ h => ?_
 refine gs h (o_alloc (K := KConn) (z := (.agg #[.int .i64 0, .int .u32 0, .int .i64 0, .int .u32 0, .int .i64 0, .bool false, .bool false, .bool false, .int .u32 0, .int .u32 0, .int .u32 0, .int .u32 0, .int .i64 0, .int .i64 0, .slice none 0 0, .slice none 0 0, .slice none 0 0, .bool false, .bool false, .bool false, .int .i64 0, .int .i64 0, .int .i64 0])) rfl ZConn) rfl fun b2 _ _ h => ?_
 refine gs0 h (o_st 0 rfl rfl rfl (pv_at PConn 1 rfl) rfl t_w26) fun _ _ _ h => ?_
 refine gs h (o_assign rfl) rfl fun _ _ _ h => ?_
 refine GoR.done ?_
 refine Go.seq ?_
 refine Go.seq ?_
 refine Go.reg ?_
 refine gs h (o_move rfl) rfl fun _ _ _ h => ?_
 refine gs h (o_not rfl) rfl fun _ _ _ h => ?_
 refine GoR.done ?_
 by_cases c1 : (!r1.2) = true
 ·have H := ifT c1 H
  refine g_t h rfl c1 ?_
  refine Go.seq ?_
  refine Go.reg ?_
  refine gs h (o_assign rfl) rfl fun _ _ _ h => ?_
  refine gs h (o_assign rfl) rfl fun _ _ _ h => ?_
  refine GoR.done ?_
  replace h := h.mm fun m => m.nilb Kplay
  rw [← som H]
  exact g_ret (vs := [.pointer none, .bool false]) h Try.func14 ⟨rfl, ⟨rfl, trivial⟩⟩ ⟨.pointer none, rfl, (h.mem.pick [0] (by decide) rfl)⟩
 ·have H := ifF c1 H
  refine g_f h rfl c1 ?_
  refine Go.skip ?_
  refine Go.seq ?_
  refine Go.reg ?_
  refine gs h (o_ldv 0 rfl rfl PConn t_y26) rfl fun v4 _ _ h => ?_
  refine gs h (o_build (K := Kplay) (x := (⟨r1.1, 0, [], [], [], false, 0⟩ : Tplay)) (ps := [(0, v4)]) rfl (zs := zsplay) rfl t_b48 rfl (show PB (Kd.pair KConn (Kd.pair (Kd.int .i64) (Kd.pair (Kd.osl (Kd.int .u8)) (Kd.pair (Kd.osl (Kd.int .u8)) (Kd.pair (Kd.osl KSeg) (Kd.pair Kd.bool (Kd.last (Kd.int .i64)))))))) (r1.1, 0, [], [], [], false, 0) 0 zsplay _ _ from (pb_part (pv_at PConn 0 rfl) rfl (pb_zero z_int (pb_zero z_osl (pb_zero z_osl (pb_zero z_osl (pb_zero z_bool (pb_lastz z_int))))))))) rfl fun v5 _ _ h => ?_
  refine gs h (o_boxo (K := Kplay) 0 rfl rfl) rfl fun b3 _ _ h => ?_
  refine gs h (o_assign rfl) rfl fun _ _ _ h => ?_
  refine GoR.done ?_
  refine Go.seq ?_
  refine Go.reg ?_
  refine gs h (o_move rfl) rfl fun _ _ _ h => ?_
  refine gs h (o_build (K := KTell) (x := (⟨1, 1, [], 0⟩ : TTell)) (ps := [(0, .int .i64 1), (1, .int .i64 1)]) rfl (zs := zsTell) rfl t_b44 rfl (show PB (Kd.pair (Kd.int .i64) (Kd.pair (Kd.int .i64) (Kd.pair (Kd.sl (Kd.int .u8)) (Kd.last (Kd.int .i64))))) (1, 1, [], 0) 0 zsTell _ _ from (pb_part (pv_int (show InR .i64 1 by decide)) rfl (pb_part (pv_int (show InR .i64 1 by decide)) rfl (pb_zero z_sl (pb_lastz z_int)))))) rfl fun v6 _ _ h => ?_
  refine gs h (o_build (K := KEv) (x := (⟨1, zSeg, (⟨1, 1, [], 0⟩ : TTell), 0⟩ : TEv)) (ps := [(0, .int .i64 1), (2, v6)]) rfl (zs := zsEv) rfl t_b46 rfl (show PB (Kd.pair (Kd.int .i64) (Kd.pair KSeg (Kd.pair KTell (Kd.last (Kd.int .i64))))) (1, zSeg, (⟨1, 1, [], 0⟩ : TTell), 0) 0 zsEv _ _ from (pb_part (pv_int (show InR .i64 1 by decide)) rfl (pb_zero ZSeg (pb_part (pv_at PTell 0 rfl) rfl (pb_lastz z_int)))))) rfl fun v7 _ _ h => ?_
  obtain ⟨r2, er2, H⟩ := bindE H
  refine gs h (o_call (law28_play_do.spc b3 (⟨r1.1, 0, [], [], [], false, 0⟩ : Tplay) v7 (⟨1, zSeg, (⟨1, 1, [], 0⟩ : TTell), 0⟩ : TEv) r2 er2) rfl [0] [2] (by decide) rfl rfl) rfl fun _ _ _ h => ?_
  refine GoR.done ?_
  refine Go.seq ?_
  refine Go.reg ?_
  refine gs h (o_move rfl) rfl fun _ _ _ h => ?_
  refine gs h (o_assign rfl) rfl fun _ _ _ h => ?_
  refine gs h (o_assign rfl) rfl fun _ _ _ h => ?_
  refine GoR.done ?_
  replace h := h.mm fun m => m.pkb 0 rfl
  rw [← som H]
  exact g_ret (vs := [.pointer (some ⟨b3, 0, none⟩), .bool true]) h Try.func14 ⟨rfl, ⟨rfl, trivial⟩⟩ ⟨.pointer (some ⟨b3, 0, none⟩), rfl, (h.mem.pick [0] (by decide) rfl)⟩
def law28_begin.g (k_ : Nat) (a1 : TSeg) (a2 : Int) : Option ((Option Tplay) × Bool) :=
  (splice_Open.g k_ a1 1 2 1 a2).bind fun r1 => (if (!r1.2) = true then some ((none, false)) else (law28_play_do.g k_ (⟨r1.1, 0, [], [], [], false, 0⟩ : Tplay) (⟨1, zSeg, (⟨1, 1, [], 0⟩ : TTell), 0⟩ : TEv)).bind fun r2 => some (((some r2), true)))
theorem law28_begin.le (k_ : Nat) (a1 : TSeg) (a2 : Int) : Le (law28_begin.g k_ a1 a2) (law28_begin.f a1 a2) := by
 unfold law28_begin.g law28_begin.f
 repeat' (first | with_reducible refine le_loop fun _ => ?_ | with_reducible refine le_bind ?_ fun _ => ?_ | with_reducible refine le_ite ?_ ?_ | with_reducible refine le_lt fun _ => ?_ | with_reducible refine le_elim (fun _ => ?_) (fun _ => ?_) _ | with_reducible apply law28_play_do.le | with_reducible apply splice_Open.le | with_reducible exact le_refl _)
/-! drawbridge/drawbridgelaw28.SpliceGivesUp -/
noncomputable def law28_SpliceGivesUp.f (a1 : List Int) (a2 : Int) : Option (Bool) :=
  (if decide (3000 < (a1.length : Int)) = true then (law28_heads.f).bind fun r1 => some (r1) else (law28_begin.f (⟨9, 80, 0, 0, 2, 9000, 0, []⟩ : TSeg) a2).bind fun r2 => (if (!r2.2) = true then some (false) else (r2.1).bind fun y1 => (law28_play_do.f y1 (⟨0, (⟨9, 80, 1, IntKind.u32.wrap (a2 + 1), 16, 9000, 0, []⟩ : TSeg), zTell, 0⟩ : TEv)).bind fun r3 => (law28_play_do.f r3 (⟨1, zSeg, (⟨3, 1, a1, 0⟩ : TTell), 0⟩ : TEv)).bind fun r4 => lt (r4.segs.length : Int) fun y2 => (law28_play_do.f r4 (⟨2, zSeg, zTell, 300⟩ : TEv)).bind fun r5 => (if decide ((a1.length : Int) = 0) = true then ((if (!r5.gone) = true then (if decide ((r5.segs.length : Int) = y2) = true then (law28_heads.f).bind fun r6 => some (r6) else some (false)) else some (false))).bind (fun j1 => some (j1)) else ((if r5.gone = true then (if decide (r5.calls = 1) = true then (if decide ((r5.segs.length : Int) = (IntKind.i64.wrap ((IntKind.i64.wrap (y2 + 6)) + 1))) = true then (law28_heads.f).bind fun r7 => some (r7) else some (false)) else some (false)) else some (false))).bind (fun j2 => some (j2)))))
set_option maxRecDepth 100000 in
set_option maxHeartbeats 4000000 in
theorem law28_SpliceGivesUp.spc (v1 : Value) (a1 : List Int) (a2 : Int) (ha2 : InR .u32 a2) (r : Bool) (H : law28_SpliceGivesUp.f a1 a2 = some r) : Spc Try.prog 4 [v1, .int .u32 a2] [Val (Kd.sl (Kd.int .u8)) v1 a1] [] (fun (s : Unit) => .bool r) (fun s => []) := by
 unfold law28_SpliceGivesUp.f at H
 refine Spc.go Try.func4 rfl (by kernel_rfl) rfl rfl (all_cons (Val.per Per_sl) all_nil) fun F a w h => ?_
 refine Go.seq ?_
 refine Go.reg ?_
 refine gs h (o_assign rfl) rfl fun _ _ _ h => ?_
 refine GoR.done ?_
 refine Go.seq ?_
 refine Go.seq ?_
 refine Go.reg ?_
 refine gs h (o_move rfl) rfl fun _ _ _ h => ?_
 have g1 := (len_at 0 rfl h.mem)
 refine gs h (o_ln rfl (rd_at 0 rfl) t_v23) rfl fun _ _ _ h => ?_
 refine gs h (o_bin rfl rfl rfl) rfl fun _ _ _ h => ?_
 refine GoR.done ?_
 by_cases c1 : decide (3000 < (a1.length : Int)) = true
 ·have H := ifT c1 H
  refine g_t h rfl c1 ?_
  refine Go.seq ?_
  refine Go.reg ?_
  obtain ⟨r1, er1, H⟩ := bindE H
  refine gs h (o_call (law28_heads.spc  r1 er1) rfl [] [] (by decide) rfl rfl) rfl fun _ _ _ h => ?_
  refine gs h (o_assign rfl) rfl fun _ _ _ h => ?_
  refine GoR.done ?_
  rw [← som H]
  exact g_ret (vs := [.bool r1]) h Try.func4 ⟨rfl, trivial⟩ ⟨(), rfl, (h.mem.pick [] (by decide) rfl)⟩
 ·have H := ifF c1 H
  refine g_f h rfl c1 ?_
  refine Go.skip ?_
  refine Go.seq ?_
  refine Go.reg ?_
  refine gs h (o_build (K := KSeg) (x := (⟨9, 80, 0, 0, 2, 9000, 0, []⟩ : TSeg)) (ps := [(0, .int .i64 9), (1, .int .i64 80), (4, .int .i64 2), (5, .int .i64 9000)]) rfl (zs := zsSeg) rfl t_b30 rfl (show PB (Kd.pair (Kd.int .i64) (Kd.pair (Kd.int .i64) (Kd.pair (Kd.int .u32) (Kd.pair (Kd.int .u32) (Kd.pair (Kd.int .i64) (Kd.pair (Kd.int .i64) (Kd.pair (Kd.int .i64) (Kd.last (Kd.sl (Kd.int .u8)))))))))) (9, 80, 0, 0, 2, 9000, 0, []) 0 zsSeg _ _ from (pb_part (pv_int (show InR .i64 9 by decide)) rfl (pb_part (pv_int (show InR .i64 80 by decide)) rfl (pb_zero z_int (pb_zero z_int (pb_part (pv_int (show InR .i64 2 by decide)) rfl (pb_part (pv_int (show InR .i64 9000 by decide)) rfl (pb_zero z_int (pb_lastz z_sl)))))))))) rfl fun v2 _ _ h => ?_
  refine gs h (o_move rfl) rfl fun _ _ _ h => ?_
  obtain ⟨r2, er2, H⟩ := bindE H
  refine gs h (o_call (law28_begin.spc v2 (⟨9, 80, 0, 0, 2, 9000, 0, []⟩ : TSeg) a2 ha2 r2 er2) rfl [0] [] (by decide) rfl rfl) rfl fun v3 _ _ h => ?_
  refine gs h (o_move rfl) rfl fun _ _ _ h => ?_
  refine gs h (o_extract rfl rfl) rfl fun _ _ _ h => ?_
  refine gs h (o_extract rfl rfl) rfl fun _ _ _ h => ?_
  refine gs h (o_assign rfl) rfl fun _ _ _ h => ?_
  refine gs h (o_assign rfl) rfl fun _ _ _ h => ?_
  refine GoR.done ?_
  refine Go.seq ?_
  refine Go.seq ?_
  refine Go.reg ?_
  refine gs h (o_move rfl) rfl fun _ _ _ h => ?_
  refine gs h (o_not rfl) rfl fun _ _ _ h => ?_
  refine GoR.done ?_
  by_cases c2 : (!r2.2) = true
  ·have H := ifT c2 H
   refine g_t h rfl c2 ?_
   refine Go.seq ?_
   refine Go.reg ?_
   refine gs h (o_assign rfl) rfl fun _ _ _ h => ?_
   refine GoR.done ?_
   rw [← som H]
   exact g_ret (vs := [.bool false]) h Try.func4 ⟨rfl, trivial⟩ ⟨(), rfl, (h.mem.pick [] (by decide) rfl)⟩
  ·have H := ifF c2 H
   refine g_f h rfl c2 ?_
   refine Go.skip ?_
   refine Go.seq ?_
   obtain ⟨y1, ey1, H⟩ := bindE H
   obtain ⟨b1, eb1, h⟩ := h.unb 0 rfl ey1
   subst eb1
   refine Go.reg ?_
   refine gs h (o_move rfl) rfl fun _ _ _ h => ?_
   refine gs h (o_move rfl) rfl fun _ _ _ h => ?_
   refine gs h (o_bin rfl rfl rfl) rfl fun _ _ _ h => ?_
   refine gs h (o_build (K := KSeg) (x := (⟨9, 80, 1, IntKind.u32.wrap (a2 + 1), 16, 9000, 0, []⟩ : TSeg)) (ps := [(0, .int .i64 9), (1, .int .i64 80), (2, .int .u32 1), (3, .int .u32 (IntKind.u32.wrap (a2 + 1))), (4, .int .i64 16), (5, .int .i64 9000)]) rfl (zs := zsSeg) rfl t_b30 rfl (show PB (Kd.pair (Kd.int .i64) (Kd.pair (Kd.int .i64) (Kd.pair (Kd.int .u32) (Kd.pair (Kd.int .u32) (Kd.pair (Kd.int .i64) (Kd.pair (Kd.int .i64) (Kd.pair (Kd.int .i64) (Kd.last (Kd.sl (Kd.int .u8)))))))))) (9, 80, 1, IntKind.u32.wrap (a2 + 1), 16, 9000, 0, []) 0 zsSeg _ _ from (pb_part (pv_int (show InR .i64 9 by decide)) rfl (pb_part (pv_int (show InR .i64 80 by decide)) rfl (pb_part (pv_int (show InR .u32 1 by decide)) rfl (pb_part (pv_int (wrap_in _ _)) rfl (pb_part (pv_int (show InR .i64 16 by decide)) rfl (pb_part (pv_int (show InR .i64 9000 by decide)) rfl (pb_zero z_int (pb_lastz z_sl)))))))))) rfl fun v4 _ _ h => ?_
   refine gs h (o_build (K := KEv) (x := (⟨0, (⟨9, 80, 1, IntKind.u32.wrap (a2 + 1), 16, 9000, 0, []⟩ : TSeg), zTell, 0⟩ : TEv)) (ps := [(1, v4)]) rfl (zs := zsEv) rfl t_b46 rfl (show PB (Kd.pair (Kd.int .i64) (Kd.pair KSeg (Kd.pair KTell (Kd.last (Kd.int .i64))))) (0, (⟨9, 80, 1, IntKind.u32.wrap (a2 + 1), 16, 9000, 0, []⟩ : TSeg), zTell, 0) 0 zsEv _ _ from (pb_zero z_int (pb_part (pv_at PSeg 0 rfl) rfl (pb_zero ZTell (pb_lastz z_int)))))) rfl fun v5 _ _ h => ?_
   obtain ⟨r3, er3, H⟩ := bindE H
   refine gs h (o_call (law28_play_do.spc b1 y1 v5 (⟨0, (⟨9, 80, 1, IntKind.u32.wrap (a2 + 1), 16, 9000, 0, []⟩ : TSeg), zTell, 0⟩ : TEv) r3 er3) rfl [0] [2] (by decide) rfl rfl) rfl fun _ _ _ h => ?_
   refine GoR.done ?_
   refine Go.seq ?_
   refine Go.reg ?_
   refine gs h (o_move rfl) rfl fun _ _ _ h => ?_
   refine gs h (o_move rfl) rfl fun _ _ _ h => ?_
   refine gs h (o_build (K := KTell) (x := (⟨3, 1, a1, 0⟩ : TTell)) (ps := [(0, .int .i64 3), (1, .int .i64 1), (2, v1)]) rfl (zs := zsTell) rfl t_b44 rfl (show PB (Kd.pair (Kd.int .i64) (Kd.pair (Kd.int .i64) (Kd.pair (Kd.sl (Kd.int .u8)) (Kd.last (Kd.int .i64))))) (3, 1, a1, 0) 0 zsTell _ _ from (pb_part (pv_int (show InR .i64 3 by decide)) rfl (pb_part (pv_int (show InR .i64 1 by decide)) rfl (pb_part (pv_at Per_sl 5 rfl) rfl (pb_lastz z_int)))))) rfl fun v6 _ _ h => ?_
   refine gs h (o_build (K := KEv) (x := (⟨1, zSeg, (⟨3, 1, a1, 0⟩ : TTell), 0⟩ : TEv)) (ps := [(0, .int .i64 1), (2, v6)]) rfl (zs := zsEv) rfl t_b46 rfl (show PB (Kd.pair (Kd.int .i64) (Kd.pair KSeg (Kd.pair KTell (Kd.last (Kd.int .i64))))) (1, zSeg, (⟨3, 1, a1, 0⟩ : TTell), 0) 0 zsEv _ _ from (pb_part (pv_int (show InR .i64 1 by decide)) rfl (pb_zero ZSeg (pb_part (pv_at PTell 0 rfl) rfl (pb_lastz z_int)))))) rfl fun v7 _ _ h => ?_
   obtain ⟨r4, er4, H⟩ := bindE H
   refine gs h (o_call (law28_play_do.spc b1 r3 v7 (⟨1, zSeg, (⟨3, 1, a1, 0⟩ : TTell), 0⟩ : TEv) r4 er4) rfl [0] [2] (by decide) rfl rfl) rfl fun _ _ _ h => ?_
   refine GoR.done ?_
   refine Go.seq ?_
   refine Go.reg ?_
   refine gs h (o_move rfl) rfl fun _ _ _ h => ?_
   refine gs h (o_nilc rfl) rfl fun _ _ _ h => ?_
   refine gs h (o_fa rfl t_f48_4 rfl rfl) rfl fun _ _ _ h => ?_
   replace h := h.mm fun m => (m.take (i := 0) rfl).opn (cplay _ _)
   obtain ⟨v8, h⟩ := h.unp 2 rfl
   obtain ⟨v9, h⟩ := h.unp 4 rfl
   obtain ⟨v10, h⟩ := h.unp 6 rfl
   refine gs h (o_ldx 0 rfl rfl X_eq t_y31) rfl fun _ _ _ h => ?_
   have g2 := (len_own 7 rfl h.mem)
   refine gs h (o_ln rfl (rd_own 7 rfl) t_v31) rfl fun _ _ _ h => ?_
   obtain ⟨y2, ey2, H⟩ := ltE H
   refine gs h (o_assign' rfl (congrArg (fun z => Value.int .i64 z) ey2)) rfl fun _ _ _ h => ?_
   refine GoR.done ?_
   refine Go.seq ?_
   refine Go.reg ?_
   refine gs h (o_move rfl) rfl fun _ _ _ h => ?_
   refine gs h (o_build (K := KEv) (x := (⟨2, zSeg, zTell, 300⟩ : TEv)) (ps := [(0, .int .i64 2), (3, .int .i64 300)]) rfl (zs := zsEv) rfl t_b46 rfl (show PB (Kd.pair (Kd.int .i64) (Kd.pair KSeg (Kd.pair KTell (Kd.last (Kd.int .i64))))) (2, zSeg, zTell, 300) 0 zsEv _ _ from (pb_part (pv_int (show InR .i64 2 by decide)) rfl (pb_zero ZSeg (pb_zero ZTell (pb_lastp (pv_int (show InR .i64 300 by decide)) rfl)))))) rfl fun v11 _ _ h => ?_
   replace h := h.mm fun m => (m.pull (Lo := [Fld (Kd.eq v8) b1 24 (), Val (Kd.osl (Kd.int .u8)) v8 r4.given]) [3, 6] (by decide) rfl).pck
   replace h := h.mm fun m => (m.pull (Lo := [Fld (Kd.eq v9) b1 25 (), Val (Kd.osl (Kd.int .u8)) v9 r4.gave]) [3, 8] (by decide) rfl).pck
   replace h := h.mm fun m => (m.pull (Lo := [Fld (Kd.eq v10) b1 26 (), Val (Kd.osl KSeg) v10 r4.segs]) [3, 10] (by decide) rfl).pck
   replace h := h.mm fun m => (m.pull (Lo := [Fld KConn b1 0 r4.c, Fld (Kd.int .i64) b1 23 r4.now, Fld (Kd.osl (Kd.int .u8)) b1 24 r4.given, Fld (Kd.osl (Kd.int .u8)) b1 25 r4.gave, Fld (Kd.osl KSeg) b1 26 r4.segs, Fld Kd.bool b1 27 r4.gone, Fld (Kd.int .i64) b1 28 r4.calls]) [7, 8, 2, 1, 0, 12, 13] (by decide) rfl).cls (cplay _ r4)
   obtain ⟨r5, er5, H⟩ := bindE H
   refine gs h (o_call (law28_play_do.spc b1 r4 v11 (⟨2, zSeg, zTell, 300⟩ : TEv) r5 er5) rfl [4] [0] (by decide) rfl rfl) rfl fun _ _ _ h => ?_
   refine GoR.done ?_
   refine Go.seq ?_
   refine Go.seq ?_
   refine Go.reg ?_
   refine gs h (o_move rfl) rfl fun _ _ _ h => ?_
   have g3 := (len_at 24 rfl h.mem)
   refine gs h (o_ln rfl (rd_at 24 rfl) t_v23) rfl fun _ _ _ h => ?_
   refine gs h (o_bin rfl rfl rfl) rfl fun _ _ _ h => ?_
   refine GoR.done ?_
   by_cases c3 : decide ((a1.length : Int) = 0) = true
   ·have H := ifT c3 H
    refine g_t h rfl c3 ?_
    refine Go.seq ?_
    obtain ⟨o1, H, G1⟩ := bindE H
    refine g_cut (fun G => ∀ j1 (a : Act) (w : World), o1 = j1 → St Try.f4.ntmps F [(4, .bool j1)] [Fld Kplay b1 0 r5] a w → G a w) 1 ?_ fun J1 => ?_
    ·intro j1 a w ho_ h
     rw [ho_] at G1
     have H := G1
     rw [← som H]
     exact g_ret (vs := [.bool j1]) h Try.func4 ⟨rfl, trivial⟩ ⟨(), rfl, (h.mem.pick [] (by decide) rfl)⟩
    refine Go.reg ?_
    refine gs h (o_move rfl) rfl fun _ _ _ h => ?_
    refine gs h (o_nilc rfl) rfl fun _ _ _ h => ?_
    refine gs h (o_fa rfl t_f48_5 rfl rfl) rfl fun _ _ _ h => ?_
    refine gs h (o_lfx 0 rfl rfl splay_gone rfl X_bool t_y4) rfl fun _ _ _ h => ?_
    refine gs h (o_not rfl) rfl fun _ _ _ h => ?_
    refine gs h (o_move rfl) rfl fun _ _ _ h => ?_
    by_cases c4 : (!r5.gone) = true
    ·have H := ifT c4 H
     refine gg h rfl rfl c4 (o_move rfl) rfl fun _ _ _ h => ?_
     refine gg h rfl rfl c4 (o_nilc rfl) rfl fun _ _ _ h => ?_
     refine gg h rfl rfl c4 (o_fa rfl t_f48_4 rfl rfl) rfl fun _ _ _ h => ?_
     replace h := h.mm fun m => (m.take (i := 0) rfl).opn (cplay _ _)
     obtain ⟨v12, h⟩ := h.unp 2 rfl
     obtain ⟨v13, h⟩ := h.unp 4 rfl
     obtain ⟨v14, h⟩ := h.unp 6 rfl
     refine gg h rfl rfl c4 (o_ldx 0 rfl rfl X_eq t_y31) rfl fun _ _ _ h => ?_
     have g4 := (len_own 7 rfl h.mem)
     refine gg h rfl rfl c4 (o_ln rfl (rd_own 7 rfl) t_v31) rfl fun _ _ _ h => ?_
     refine gg h rfl rfl c4 (o_move rfl) rfl fun _ _ _ h => ?_
     refine gg h rfl rfl c4 (o_bin rfl rfl rfl) rfl fun _ _ _ h => ?_
     refine gs h (o_pickT rfl rfl c4) rfl fun _ _ _ h => ?_
     refine gs h (o_move rfl) rfl fun _ _ _ h => ?_
     by_cases c5 : decide ((r5.segs.length : Int) = y2) = true
     ·have H := ifT c5 H
      obtain ⟨r6, er6, H⟩ := bindE H
      refine gg h rfl rfl c5 (o_call (law28_heads.spc  r6 er6) rfl [] [] (by decide) rfl rfl) rfl fun _ _ _ h => ?_
      refine gs h (o_pickT rfl rfl c5) rfl fun _ _ _ h => ?_
      refine gs h (o_assign rfl) rfl fun _ _ _ h => ?_
      refine GoR.done ?_
      replace h := h.mm fun m => (m.pull (Lo := [Fld (Kd.eq v12) b1 24 (), Val (Kd.osl (Kd.int .u8)) v12 r5.given]) [2, 5] (by decide) rfl).pck
      replace h := h.mm fun m => (m.pull (Lo := [Fld (Kd.eq v13) b1 25 (), Val (Kd.osl (Kd.int .u8)) v13 r5.gave]) [2, 7] (by decide) rfl).pck
      replace h := h.mm fun m => (m.pull (Lo := [Fld (Kd.eq v14) b1 26 (), Val (Kd.osl KSeg) v14 r5.segs]) [2, 9] (by decide) rfl).pck
      replace h := h.mm fun m => (m.pull (Lo := [Fld KConn b1 0 r5.c, Fld (Kd.int .i64) b1 23 r5.now, Fld (Kd.osl (Kd.int .u8)) b1 24 r5.given, Fld (Kd.osl (Kd.int .u8)) b1 25 r5.gave, Fld (Kd.osl KSeg) b1 26 r5.segs, Fld Kd.bool b1 27 r5.gone, Fld (Kd.int .i64) b1 28 r5.calls]) [6, 7, 2, 1, 0, 11, 12] (by decide) rfl).cls (cplay _ r5)
      exact J1 r6 _ _ (som H).symm (h.wk (by rfl) [0] (by decide) (by rfl))
     ·have H := ifF c5 H
      refine gk h rfl rfl (nb_f c5) rfl fun _ h => ?_
      refine gs h (o_pickF rfl rfl c5) rfl fun _ _ _ h => ?_
      refine gs h (o_assign rfl) rfl fun _ _ _ h => ?_
      refine GoR.done ?_
      replace h := h.mm fun m => (m.pull (Lo := [Fld (Kd.eq v12) b1 24 (), Val (Kd.osl (Kd.int .u8)) v12 r5.given]) [2, 5] (by decide) rfl).pck
      replace h := h.mm fun m => (m.pull (Lo := [Fld (Kd.eq v13) b1 25 (), Val (Kd.osl (Kd.int .u8)) v13 r5.gave]) [2, 7] (by decide) rfl).pck
      replace h := h.mm fun m => (m.pull (Lo := [Fld (Kd.eq v14) b1 26 (), Val (Kd.osl KSeg) v14 r5.segs]) [2, 9] (by decide) rfl).pck
      replace h := h.mm fun m => (m.pull (Lo := [Fld KConn b1 0 r5.c, Fld (Kd.int .i64) b1 23 r5.now, Fld (Kd.osl (Kd.int .u8)) b1 24 r5.given, Fld (Kd.osl (Kd.int .u8)) b1 25 r5.gave, Fld (Kd.osl KSeg) b1 26 r5.segs, Fld Kd.bool b1 27 r5.gone, Fld (Kd.int .i64) b1 28 r5.calls]) [6, 7, 2, 1, 0, 11, 12] (by decide) rfl).cls (cplay _ r5)
      exact J1 false _ _ (som H).symm (h.wk (by rfl) [0] (by decide) (by rfl))
    ·have H := ifF c4 H
     iterate 7 (refine gk h rfl rfl (nb_f c4) rfl fun _ h => ?_)
     refine gs h (o_pickF rfl rfl c4) rfl fun _ _ _ h => ?_
     refine gs h (o_move rfl) rfl fun _ _ _ h => ?_
     refine gk h rfl rfl (nb_f Bool.false_ne_true) rfl fun _ h => ?_
     refine gs h (o_pickF rfl rfl Bool.false_ne_true) rfl fun _ _ _ h => ?_
     refine gs h (o_assign rfl) rfl fun _ _ _ h => ?_
     refine GoR.done ?_
     exact J1 false _ _ (som H).symm (h.wk (by rfl) [0] (by decide) (by rfl))
   ·have H := ifF c3 H
    refine g_f h rfl c3 ?_
    refine Go.skip ?_
    refine Go.seq ?_
    obtain ⟨o2, H, G2⟩ := bindE H
    refine g_cut (fun G => ∀ j2 (a : Act) (w : World), o2 = j2 → St Try.f4.ntmps F [(4, .bool j2)] [Fld Kplay b1 0 r5] a w → G a w) 1 ?_ fun J2 => ?_
    ·intro j2 a w ho_ h
     rw [ho_] at G2
     have H := G2
     rw [← som H]
     exact g_ret (vs := [.bool j2]) h Try.func4 ⟨rfl, trivial⟩ ⟨(), rfl, (h.mem.pick [] (by decide) rfl)⟩
    refine Go.reg ?_
    refine gs h (o_move rfl) rfl fun _ _ _ h => ?_
    refine gs h (o_nilc rfl) rfl fun _ _ _ h => ?_
    refine gs h (o_fa rfl t_f48_5 rfl rfl) rfl fun _ _ _ h => ?_
    refine gs h (o_lfx 0 rfl rfl splay_gone rfl X_bool t_y4) rfl fun _ _ _ h => ?_
    refine gs h (o_move rfl) rfl fun _ _ _ h => ?_
    by_cases c6 : r5.gone = true
    ·have H := ifT c6 H
     refine gg h rfl rfl c6 (o_move rfl) rfl fun _ _ _ h => ?_
     refine gg h rfl rfl c6 (o_nilc rfl) rfl fun _ _ _ h => ?_
     refine gg h rfl rfl c6 (o_fa rfl t_f48_6 rfl rfl) rfl fun _ _ _ h => ?_
     have g5 := (in2 (fd_sub splay_calls 0 rfl h.mem))
     refine gg h rfl rfl c6 (o_lfx 0 rfl rfl splay_calls rfl X_int t_y3) rfl fun _ _ _ h => ?_
     refine gg h rfl rfl c6 (o_bin rfl rfl rfl) rfl fun _ _ _ h => ?_
     refine gs h (o_pickT rfl rfl c6) rfl fun _ _ _ h => ?_
     refine gs h (o_move rfl) rfl fun _ _ _ h => ?_
     by_cases c7 : decide (r5.calls = 1) = true
     ·have H := ifT c7 H
      refine gg h rfl rfl c7 (o_move rfl) rfl fun _ _ _ h => ?_
      refine gg h rfl rfl c7 (o_nilc rfl) rfl fun _ _ _ h => ?_
      refine gg h rfl rfl c7 (o_fa rfl t_f48_4 rfl rfl) rfl fun _ _ _ h => ?_
      replace h := h.mm fun m => (m.take (i := 0) rfl).opn (cplay _ _)
      obtain ⟨v15, h⟩ := h.unp 2 rfl
      obtain ⟨v16, h⟩ := h.unp 4 rfl
      obtain ⟨v17, h⟩ := h.unp 6 rfl
      refine gg h rfl rfl c7 (o_ldx 0 rfl rfl X_eq t_y31) rfl fun _ _ _ h => ?_
      have g6 := (len_own 7 rfl h.mem)
      refine gg h rfl rfl c7 (o_ln rfl (rd_own 7 rfl) t_v31) rfl fun _ _ _ h => ?_
      refine gg h rfl rfl c7 (o_move rfl) rfl fun _ _ _ h => ?_
      iterate 3 (refine gg h rfl rfl c7 (o_bin rfl rfl rfl) rfl fun _ _ _ h => ?_)
      refine gs h (o_pickT rfl rfl c7) rfl fun _ _ _ h => ?_
      refine gs h (o_move rfl) rfl fun _ _ _ h => ?_
      by_cases c8 : decide ((r5.segs.length : Int) = (IntKind.i64.wrap ((IntKind.i64.wrap (y2 + 6)) + 1))) = true
      ·have H := ifT c8 H
       obtain ⟨r7, er7, H⟩ := bindE H
       refine gg h rfl rfl c8 (o_call (law28_heads.spc  r7 er7) rfl [] [] (by decide) rfl rfl) rfl fun _ _ _ h => ?_
       refine gs h (o_pickT rfl rfl c8) rfl fun _ _ _ h => ?_
       refine gs h (o_assign rfl) rfl fun _ _ _ h => ?_
       refine GoR.done ?_
       replace h := h.mm fun m => (m.pull (Lo := [Fld (Kd.eq v15) b1 24 (), Val (Kd.osl (Kd.int .u8)) v15 r5.given]) [2, 5] (by decide) rfl).pck
       replace h := h.mm fun m => (m.pull (Lo := [Fld (Kd.eq v16) b1 25 (), Val (Kd.osl (Kd.int .u8)) v16 r5.gave]) [2, 7] (by decide) rfl).pck
       replace h := h.mm fun m => (m.pull (Lo := [Fld (Kd.eq v17) b1 26 (), Val (Kd.osl KSeg) v17 r5.segs]) [2, 9] (by decide) rfl).pck
       replace h := h.mm fun m => (m.pull (Lo := [Fld KConn b1 0 r5.c, Fld (Kd.int .i64) b1 23 r5.now, Fld (Kd.osl (Kd.int .u8)) b1 24 r5.given, Fld (Kd.osl (Kd.int .u8)) b1 25 r5.gave, Fld (Kd.osl KSeg) b1 26 r5.segs, Fld Kd.bool b1 27 r5.gone, Fld (Kd.int .i64) b1 28 r5.calls]) [6, 7, 2, 1, 0, 11, 12] (by decide) rfl).cls (cplay _ r5)
       exact J2 r7 _ _ (som H).symm (h.wk (by rfl) [0] (by decide) (by rfl))
      ·have H := ifF c8 H
       refine gk h rfl rfl (nb_f c8) rfl fun _ h => ?_
       refine gs h (o_pickF rfl rfl c8) rfl fun _ _ _ h => ?_
       refine gs h (o_assign rfl) rfl fun _ _ _ h => ?_
       refine GoR.done ?_
       replace h := h.mm fun m => (m.pull (Lo := [Fld (Kd.eq v15) b1 24 (), Val (Kd.osl (Kd.int .u8)) v15 r5.given]) [2, 5] (by decide) rfl).pck
       replace h := h.mm fun m => (m.pull (Lo := [Fld (Kd.eq v16) b1 25 (), Val (Kd.osl (Kd.int .u8)) v16 r5.gave]) [2, 7] (by decide) rfl).pck
       replace h := h.mm fun m => (m.pull (Lo := [Fld (Kd.eq v17) b1 26 (), Val (Kd.osl KSeg) v17 r5.segs]) [2, 9] (by decide) rfl).pck
       replace h := h.mm fun m => (m.pull (Lo := [Fld KConn b1 0 r5.c, Fld (Kd.int .i64) b1 23 r5.now, Fld (Kd.osl (Kd.int .u8)) b1 24 r5.given, Fld (Kd.osl (Kd.int .u8)) b1 25 r5.gave, Fld (Kd.osl KSeg) b1 26 r5.segs, Fld Kd.bool b1 27 r5.gone, Fld (Kd.int .i64) b1 28 r5.calls]) [6, 7, 2, 1, 0, 11, 12] (by decide) rfl).cls (cplay _ r5)
       exact J2 false _ _ (som H).symm (h.wk (by rfl) [0] (by decide) (by rfl))
     ·have H := ifF c7 H
      iterate 9 (refine gk h rfl rfl (nb_f c7) rfl fun _ h => ?_)
      refine gs h (o_pickF rfl rfl c7) rfl fun _ _ _ h => ?_
      refine gs h (o_move rfl) rfl fun _ _ _ h => ?_
      refine gk h rfl rfl (nb_f Bool.false_ne_true) rfl fun _ h => ?_
      refine gs h (o_pickF rfl rfl Bool.false_ne_true) rfl fun _ _ _ h => ?_
      refine gs h (o_assign rfl) rfl fun _ _ _ h => ?_
      refine GoR.done ?_
      exact J2 false _ _ (som H).symm (h.wk (by rfl) [0] (by decide) (by rfl))
    ·have H := ifF c6 H
     iterate 5 (refine gk h rfl rfl (nb_f c6) rfl fun _ h => ?_)
     refine gs h (o_pickF rfl rfl c6) rfl fun _ _ _ h => ?_
     refine gs h (o_move rfl) rfl fun _ _ _ h => ?_
     iterate 9 (refine gk h rfl rfl (nb_f Bool.false_ne_true) rfl fun _ h => ?_)
     refine gs h (o_pickF rfl rfl Bool.false_ne_true) rfl fun _ _ _ h => ?_
     refine gs h (o_move rfl) rfl fun _ _ _ h => ?_
     refine gk h rfl rfl (nb_f Bool.false_ne_true) rfl fun _ h => ?_
     refine gs h (o_pickF rfl rfl Bool.false_ne_true) rfl fun _ _ _ h => ?_
     refine gs h (o_assign rfl) rfl fun _ _ _ h => ?_
     refine GoR.done ?_
     exact J2 false _ _ (som H).symm (h.wk (by rfl) [0] (by decide) (by rfl))
def law28_SpliceGivesUp.g (k_ : Nat) (a1 : List Int) (a2 : Int) : Option (Bool) :=
  (if decide (3000 < (a1.length : Int)) = true then (law28_heads.g k_).bind fun r1 => some (r1) else (law28_begin.g k_ (⟨9, 80, 0, 0, 2, 9000, 0, []⟩ : TSeg) a2).bind fun r2 => (if (!r2.2) = true then some (false) else (r2.1).bind fun y1 => (law28_play_do.g k_ y1 (⟨0, (⟨9, 80, 1, IntKind.u32.wrap (a2 + 1), 16, 9000, 0, []⟩ : TSeg), zTell, 0⟩ : TEv)).bind fun r3 => (law28_play_do.g k_ r3 (⟨1, zSeg, (⟨3, 1, a1, 0⟩ : TTell), 0⟩ : TEv)).bind fun r4 => lt (r4.segs.length : Int) fun y2 => (law28_play_do.g k_ r4 (⟨2, zSeg, zTell, 300⟩ : TEv)).bind fun r5 => (if decide ((a1.length : Int) = 0) = true then ((if (!r5.gone) = true then (if decide ((r5.segs.length : Int) = y2) = true then (law28_heads.g k_).bind fun r6 => some (r6) else some (false)) else some (false))).bind (fun j1 => some (j1)) else ((if r5.gone = true then (if decide (r5.calls = 1) = true then (if decide ((r5.segs.length : Int) = (IntKind.i64.wrap ((IntKind.i64.wrap (y2 + 6)) + 1))) = true then (law28_heads.g k_).bind fun r7 => some (r7) else some (false)) else some (false)) else some (false))).bind (fun j2 => some (j2)))))
theorem law28_SpliceGivesUp.le (k_ : Nat) (a1 : List Int) (a2 : Int) : Le (law28_SpliceGivesUp.g k_ a1 a2) (law28_SpliceGivesUp.f a1 a2) := by
 unfold law28_SpliceGivesUp.g law28_SpliceGivesUp.f
 repeat' (first | with_reducible refine le_loop fun _ => ?_ | with_reducible refine le_bind ?_ fun _ => ?_ | with_reducible refine le_ite ?_ ?_ | with_reducible refine le_lt fun _ => ?_ | with_reducible refine le_elim (fun _ => ?_) (fun _ => ?_) _ | with_reducible apply law28_begin.le | with_reducible apply law28_heads.le | with_reducible apply law28_play_do.le | with_reducible exact le_refl _)
end Go.Proofs.Ytpcbhkigmnpimaa.S
