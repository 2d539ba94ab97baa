/- Contracts, printed by a program of this session. -/
import Derived.Test.YtpcbhkigmnpimaaT1
import Derived.Test.YtpcbhkigmnpimaaT2
import Derived.Test.YtpcbhkigmnpimaaT14
import Derived.Test.YtpcbhkigmnpimaaT15
namespace Go.Proofs.Ytpcbhkigmnpimaa.S
open Go Go.SL Go.RowKit
set_option linter.unusedVariables false
set_option linter.unusedSimpArgs false
/-! drawbridge/drawbridgelaw28.begin -/
noncomputable def law28_begin.f (a1 : TSeg) (a2 : Int) : Option ((Option Tplay) × Bool) :=
  (splice_Open.f a1 1 2 1 a2).bind fun r1 => (if (!r1.2) = true then some ((none, false)) else (law28_play_do.f (⟨r1.1, 0, [], [], [], false, 0⟩ : Tplay) (⟨1, zSeg, (⟨1, 1, [], 0⟩ : TTell), 0⟩ : TEv)).bind fun r2 => some (((some r2), true)))
set_option maxRecDepth 100000 in
set_option maxHeartbeats 4000000 in
theorem law28_begin.spc (v1 : Value) (a1 : TSeg) (a2 : Int) (ha2 : InR .u32 a2) (r : (Option Tplay) × Bool) (H : law28_begin.f a1 a2 = some r) : Spc Try.prog 14 [v1, .int .u32 a2] [Val KSeg v1 a1] [] (fun (s : Value) => .tuple #[s, .bool r.2]) (fun s => [Val (Kd.obx Kplay) s r.1]) := by
 unfold law28_begin.f at H
 refine Spc.go Try.func14 rfl (by kernel_rfl) rfl rfl (all_cons (Val.per PSeg) all_nil) fun F a w h => ?_
 refine Go.seq ?_
 refine Go.reg ?_
 refine gs h (o_box (K := KSeg) rfl (pv_at PSeg 0 rfl)) rfl fun b1 _ _ h => ?_
 refine gs h (o_assign rfl) rfl fun _ _ _ h => ?_
 refine gs h (o_assign rfl) rfl fun _ _ _ h => ?_
 refine GoR.done ?_
 refine Go.seq ?_
 refine Go.reg ?_
 refine gs h (o_ldv 0 rfl rfl PSeg t_y30) rfl fun v2 _ _ h => ?_
 refine gs h (o_move rfl) rfl fun _ _ _ h => ?_
 obtain ⟨r1, er1, H⟩ := bindE H
 refine gs h (o_call (splice_Open.spc v2 a1 1 (show InR .u32 1 by decide) 2 (show InR .u32 2 by decide) 1 (show InR .i64 1 by decide) a2 ha2 r1 er1) rfl [0] [] (by decide) rfl rfl) rfl fun v3 _ _ h => ?_
 refine gs h (o_move rfl) rfl fun _ _ _ h => ?_
 refine gs h (o_extract rfl rfl) rfl fun _ _ _ h => ?_
 refine gs h (o_extract rfl rfl) rfl fun _ _ _ h => ?_
 refine gs h (o_alloc (K := KConn) (z := (.agg #[.int .i64 0, .int .u32 0, .int .i64 0, .int .u32 0, .int .i64 0, .bool false, .bool false, .bool false, .int .u32 0, .int .u32 0, .int .u32 0, .int .u32 0, .int .i64 0, .int .i64 0, .slice none 0 0, .slice none 0 0, .slice none 0 0, .bool false, .bool false, .bool false, .int .i64 0, .int .i64 0, .int .i64 0])) rfl ZConn) rfl fun b2 _ _ h => ?_
 refine gs0 h (o_st 0 rfl rfl rfl (pv_at PConn 1 rfl) rfl t_w26) fun _ _ _ h => ?_
 refine gs h (o_assign rfl) rfl fun _ _ _ h => ?_
 refine GoR.done ?_
 refine Go.seq ?_
 refine Go.seq ?_
 refine Go.reg ?_
 refine gs h (o_move rfl) rfl fun _ _ _ h => ?_
 refine gs h (o_not rfl) rfl fun _ _ _ h => ?_
 refine GoR.done ?_
 by_cases c1 : (!r1.2) = true
 ·have H := ifT c1 H
  refine g_t h rfl c1 ?_
  refine Go.seq ?_
  refine Go.reg ?_
  refine gs h (o_assign rfl) rfl fun _ _ _ h => ?_
  refine gs h (o_assign rfl) rfl fun _ _ _ h => ?_
  refine GoR.done ?_
  replace h := h.mm fun m => m.nilb Kplay
  rw [← som H]
  exact g_ret (vs := [.pointer none, .bool false]) h Try.func14 ⟨rfl, ⟨rfl, trivial⟩⟩ ⟨.pointer none, rfl, (h.mem.pick [0] (by decide) rfl)⟩
 ·have H := ifF c1 H
  refine g_f h rfl c1 ?_
  refine Go.skip ?_
  refine Go.seq ?_
  refine Go.reg ?_
  refine gs h (o_ldv 0 rfl rfl PConn t_y26) rfl fun v4 _ _ h => ?_
  refine gs h (o_build (K := Kplay) (x := (⟨r1.1, 0, [], [], [], false, 0⟩ : Tplay)) (ps := [(0, v4)]) rfl (zs := zsplay) rfl t_b48 rfl (show PB (Kd.pair KConn (Kd.pair (Kd.int .i64) (Kd.pair (Kd.osl (Kd.int .u8)) (Kd.pair (Kd.osl (Kd.int .u8)) (Kd.pair (Kd.osl KSeg) (Kd.pair Kd.bool (Kd.last (Kd.int .i64)))))))) (r1.1, 0, [], [], [], false, 0) 0 zsplay _ _ from (pb_part (pv_at PConn 0 rfl) rfl (pb_zero z_int (pb_zero z_osl (pb_zero z_osl (pb_zero z_osl (pb_zero z_bool (pb_lastz z_int))))))))) rfl fun v5 _ _ h => ?_
  refine gs h (o_boxo (K := Kplay) 0 rfl rfl) rfl fun b3 _ _ h => ?_
  refine gs h (o_assign rfl) rfl fun _ _ _ h => ?_
  refine GoR.done ?_
  refine Go.seq ?_
  refine Go.reg ?_
  refine gs h (o_move rfl) rfl fun _ _ _ h => ?_
  refine gs h (o_build (K := KTell) (x := (⟨1, 1, [], 0⟩ : TTell)) (ps := [(0, .int .i64 1), (1, .int .i64 1)]) rfl (zs := zsTell) rfl t_b44 rfl (show PB (Kd.pair (Kd.int .i64) (Kd.pair (Kd.int .i64) (Kd.pair (Kd.sl (Kd.int .u8)) (Kd.last (Kd.int .i64))))) (1, 1, [], 0) 0 zsTell _ _ from (pb_part (pv_int (show InR .i64 1 by decide)) rfl (pb_part (pv_int (show InR .i64 1 by decide)) rfl (pb_zero z_sl (pb_lastz z_int)))))) rfl fun v6 _ _ h => ?_
  refine gs h (o_build (K := KEv) (x := (⟨1, zSeg, (⟨1, 1, [], 0⟩ : TTell), 0⟩ : TEv)) (ps := [(0, .int .i64 1), (2, v6)]) rfl (zs := zsEv) rfl t_b46 rfl (show PB (Kd.pair (Kd.int .i64) (Kd.pair KSeg (Kd.pair KTell (Kd.last (Kd.int .i64))))) (1, zSeg, (⟨1, 1, [], 0⟩ : TTell), 0) 0 zsEv _ _ from (pb_part (pv_int (show InR .i64 1 by decide)) rfl (pb_zero ZSeg (pb_part (pv_at PTell 0 rfl) rfl (pb_lastz z_int)))))) rfl fun v7 _ _ h => ?_
  obtain ⟨r2, er2, H⟩ := bindE H
  refine gs h (o_call (law28_play_do.spc b3 (⟨r1.1, 0, [], [], [], false, 0⟩ : Tplay) v7 (⟨1, zSeg, (⟨1, 1, [], 0⟩ : TTell), 0⟩ : TEv) r2 er2) rfl [0] [2] (by decide) rfl rfl) rfl fun _ _ _ h => ?_
  refine GoR.done ?_
  refine Go.seq ?_
  refine Go.reg ?_
  refine gs h (o_move rfl) rfl fun _ _ _ h => ?_
  refine gs h (o_assign rfl) rfl fun _ _ _ h => ?_
  refine gs h (o_assign rfl) rfl fun _ _ _ h => ?_
  refine GoR.done ?_
  replace h := h.mm fun m => m.pkb 0 rfl
  rw [← som H]
  exact g_ret (vs := [.pointer (some ⟨b3, 0, none⟩), .bool true]) h Try.func14 ⟨rfl, ⟨rfl, trivial⟩⟩ ⟨.pointer (some ⟨b3, 0, none⟩), rfl, (h.mem.pick [0] (by decide) rfl)⟩
def law28_begin.g (k_ : Nat) (a1 : TSeg) (a2 : Int) : Option ((Option Tplay) × Bool) :=
  (splice_Open.g k_ a1 1 2 1 a2).bind fun r1 => (if (!r1.2) = true then some ((none, false)) else (law28_play_do.g k_ (⟨r1.1, 0, [], [], [], false, 0⟩ : Tplay) (⟨1, zSeg, (⟨1, 1, [], 0⟩ : TTell), 0⟩ : TEv)).bind fun r2 => some (((some r2), true)))
theorem law28_begin.le (k_ : Nat) (a1 : TSeg) (a2 : Int) : Le (law28_begin.g k_ a1 a2) (law28_begin.f a1 a2) := by
 unfold law28_begin.g law28_begin.f
 repeat' (first | with_reducible refine le_loop fun _ => ?_ | with_reducible refine le_bind ?_ fun _ => ?_ | with_reducible refine le_ite ?_ ?_ | with_reducible refine le_lt fun _ => ?_ | with_reducible refine le_elim (fun _ => ?_) (fun _ => ?_) _ | with_reducible apply law28_play_do.le | with_reducible apply splice_Open.le | with_reducible exact le_refl _)
/-! drawbridge/drawbridgelaw28.SpliceStays -/
noncomputable def law28_SpliceStays.f (a1 : TSeg) (a2 : Int) (a3 : List TEv) : Option (Bool) :=
  (law28_fits.f a3).bind fun r1 => (if (!r1) = true then (law28_heads.f).bind fun r2 => some (r2) else (law28_begin.f a1 a2).bind fun r3 => (if (!r3.2) = true then (law28_heads.f).bind fun r4 => some (r4) else (r3.1).bind fun y1 => (loop (fun s1 => ((if decide (s1.1 < (a3.length : Int)) = true then some ((!s1.2.gone)) else some (false))).bind (fun j1 => (if j1 = true then (idx a3 s1.1).bind fun x1 => (law28_play_do.f s1.2 x1).bind fun r5 => ((splice_Check.f r5.c).bind fun r6 => (if (!r6) = true then some (true) else (if decide (4096 < (r5.c.ToHost.length : Int)) = true then some (true) else (if decide (4096 < (r5.c.ToGuest.length : Int)) = true then some (true) else some (decide (4 < (r5.c.Early.length : Int))))))).bind (fun j2 => (if j2 = true then some (.inr (.inr (false))) else lt (IntKind.i64.wrap (s1.1 + 1)) fun y2 => some (.inl (y2, r5)))) else some (.inr (.inl (s1.2)))))) (0, y1)).bind (Sum.elim (fun j3 => (law28_heads.f).bind fun r7 => some (r7)) (fun z_ => some (z_)))))
set_option maxRecDepth 100000 in
set_option maxHeartbeats 4000000 in
theorem law28_SpliceStays.spc (v1 : Value) (a1 : TSeg) (a2 : Int) (ha2 : InR .u32 a2) (v2 : Value) (a3 : List TEv) (r : Bool) (H : law28_SpliceStays.f a1 a2 a3 = some r) : Spc Try.prog 5 [v1, .int .u32 a2, v2] [Val KSeg v1 a1, Val (Kd.sl KEv) v2 a3] [] (fun (s : Unit) => .bool r) (fun s => []) := by
 unfold law28_SpliceStays.f at H
 refine Spc.go Try.func5 rfl (by kernel_rfl) rfl rfl (all_cons (Val.per PSeg) (all_cons (Val.per Per_sl) all_nil)) fun F a w h => ?_
 refine Go.seq ?_
 refine Go.reg ?_
 refine gs h (o_box (K := KSeg) rfl (pv_at PSeg 0 rfl)) rfl fun b1 _ _ h => ?_
 refine gs h (o_assign rfl) rfl fun _ _ _ h => ?_
 refine GoR.done ?_
 refine Go.seq ?_
 refine Go.seq ?_
 refine Go.reg ?_
 refine gs h (o_move rfl) rfl fun _ _ _ h => ?_
 obtain ⟨r1, er1, H⟩ := bindE H
 refine gs h (o_call (law28_fits.spc v2 a3 r1 er1) rfl [2] [] (by decide) rfl rfl) rfl fun _ _ _ h => ?_
 refine gs h (o_not rfl) rfl fun _ _ _ h => ?_
 refine GoR.done ?_
 by_cases c1 : (!r1) = true
 ·have H := ifT c1 H
  refine g_t h rfl c1 ?_
  refine Go.seq ?_
  refine Go.reg ?_
  obtain ⟨r2, er2, H⟩ := bindE H
  refine gs h (o_call (law28_heads.spc  r2 er2) rfl [] [] (by decide) rfl rfl) rfl fun _ _ _ h => ?_
  refine gs h (o_assign rfl) rfl fun _ _ _ h => ?_
  refine GoR.done ?_
  rw [← som H]
  exact g_ret (vs := [.bool r2]) h Try.func5 ⟨rfl, trivial⟩ ⟨(), rfl, (h.mem.pick [] (by decide) rfl)⟩
 ·have H := ifF c1 H
  refine g_f h rfl c1 ?_
  refine Go.skip ?_
  refine Go.seq ?_
  refine Go.reg ?_
  refine gs h (o_ldv 0 rfl rfl PSeg t_y30) rfl fun v3 _ _ h => ?_
  refine gs h (o_move rfl) rfl fun _ _ _ h => ?_
  obtain ⟨r3, er3, H⟩ := bindE H
  refine gs h (o_call (law28_begin.spc v3 a1 a2 ha2 r3 er3) rfl [0] [] (by decide) rfl rfl) rfl fun v4 _ _ h => ?_
  refine gs h (o_move rfl) rfl fun _ _ _ h => ?_
  refine gs h (o_extract rfl rfl) rfl fun _ _ _ h => ?_
  refine gs h (o_extract rfl rfl) rfl fun _ _ _ h => ?_
  refine gs h (o_assign rfl) rfl fun _ _ _ h => ?_
  refine gs h (o_assign rfl) rfl fun _ _ _ h => ?_
  refine GoR.done ?_
  refine Go.seq ?_
  refine Go.seq ?_
  refine Go.reg ?_
  refine gs h (o_move rfl) rfl fun _ _ _ h => ?_
  refine gs h (o_not rfl) rfl fun _ _ _ h => ?_
  refine GoR.done ?_
  by_cases c2 : (!r3.2) = true
  ·have H := ifT c2 H
   refine g_t h rfl c2 ?_
   refine Go.seq ?_
   refine Go.reg ?_
   obtain ⟨r4, er4, H⟩ := bindE H
   refine gs h (o_call (law28_heads.spc  r4 er4) rfl [] [] (by decide) rfl rfl) rfl fun _ _ _ h => ?_
   refine gs h (o_assign rfl) rfl fun _ _ _ h => ?_
   refine GoR.done ?_
   rw [← som H]
   exact g_ret (vs := [.bool r4]) h Try.func5 ⟨rfl, trivial⟩ ⟨(), rfl, (h.mem.pick [] (by decide) rfl)⟩
  ·have H := ifF c2 H
   refine g_f h rfl c2 ?_
   refine Go.skip ?_
   refine Go.seq ?_
   refine Go.seq ?_
   refine Go.reg ?_
   refine gs h (o_assign rfl) rfl fun _ _ _ h => ?_
   refine GoR.done ?_
   refine Go.block ?_
   obtain ⟨y1, ey1, H⟩ := bindE H
   obtain ⟨b2, eb2, h⟩ := h.unb 0 rfl ey1
   subst eb2
   obtain ⟨o1, hl, G1⟩ := bindE H
   refine g_cut (fun G => ∀ j3 (a : Act) (w : World), o1 = .inl (j3) → St Try.f5.ntmps F [] [Fld Kplay b2 0 j3, Fld KSeg b1 0 a1] a w → G a w) 2 ?_ fun J3 => ?_
   ·intro j3 a w ho_ h
    rw [ho_] at G1
    have H := eInl G1
    refine Go.seq ?_
    refine Go.reg ?_
    obtain ⟨r7, er7, H⟩ := bindE H
    refine gs h (o_call (law28_heads.spc  r7 er7) rfl [] [] (by decide) rfl rfl) rfl fun _ _ _ h => ?_
    refine gs h (o_assign rfl) rfl fun _ _ _ h => ?_
    refine GoR.done ?_
    rw [← som H]
    exact g_ret (vs := [.bool r7]) h Try.func5 ⟨rfl, trivial⟩ ⟨(), rfl, (h.mem.pick [] (by decide) rfl)⟩
   refine g_loop (fun s1 G => ∀  (a : Act) (w : World), InR .i64 s1.1 → St Try.f5.ntmps F [(2, v2), (7, .pointer (some ⟨b2, 0, none⟩)), (9, .int .i64 s1.1)] [Val (Kd.sl KEv) v2 a3, Fld Kplay b2 0 s1.2, Fld KSeg b1 0 a1] a w → G a w) hl (fun s1 p1 H i1 => ?_) fun I_ => ?_
   ·intro  a w g1 h
    refine Go.seq ?_
    refine Go.seq ?_
    obtain ⟨o2, H, G2⟩ := bindE H
    refine g_cut (fun G => ∀ j1 (a : Act) (w : World), o2 = j1 → St Try.f5.ntmps F [(2, v2), (7, .pointer (some ⟨b2, 0, none⟩)), (9, .int .i64 s1.1), (33, .bool j1)] [Val (Kd.sl KEv) v2 a3, Fld Kplay b2 0 s1.2, Fld KSeg b1 0 a1] a w → G a w) 1 ?_ fun J1 => ?_
    ·intro j1 a w ho_ h
     rw [ho_] at G2
     have H := G2
     by_cases c4 : j1 = true
     ·have H := ifT c4 H
      refine g_t h rfl c4 ?_
      refine Go.skip ?_
      refine Go.seq ?_
      refine Go.block ?_
      refine Go.seq ?_
      refine Go.reg ?_
      iterate 3 (refine gs h (o_move rfl) rfl fun _ _ _ h => ?_)
      obtain ⟨x1, ex1, H⟩ := bindE H
      refine gs h (o_ix rfl rfl (rd_at 0 rfl) ex1 t_v50) rfl fun _ _ _ h => ?_
      refine gs h (o_lev rfl (rd_at 0 rfl) ex1 t_y46 (by decide)) rfl fun v5 _ _ h => ?_
      obtain ⟨r5, er5, H⟩ := bindE H
      refine gs h (o_call (law28_play_do.spc b2 s1.2 v5 x1 r5 er5) rfl [0] [2] (by decide) rfl rfl) rfl fun _ _ _ h => ?_
      refine GoR.done ?_
      refine Go.seq ?_
      obtain ⟨o3, H, G3⟩ := bindE H
      refine g_cut (fun G => ∀ j2 (a : Act) (w : World), o3 = j2 → St Try.f5.ntmps F [(2, v2), (7, .pointer (some ⟨b2, 0, none⟩)), (9, .int .i64 s1.1), (74, .bool j2)] [Val (Kd.sl KEv) v2 a3, Fld Kplay b2 0 r5, Fld KSeg b1 0 a1] a w → G a w) 1 ?_ fun J2 => ?_
      ·intro j2 a w ho_ h
       rw [ho_] at G3
       have H := G3
       by_cases c8 : j2 = true
       ·have H := ifT c8 H
        refine g_t h rfl c8 ?_
        refine Go.seq ?_
        refine Go.reg ?_
        refine gs h (o_assign rfl) rfl fun _ _ _ h => ?_
        refine GoR.done ?_
        have e_ := som H; subst e_
        rw [← nx_out i1] at G1
        have H := G1
        rw [← som H]
        exact g_ret (vs := [.bool false]) h Try.func5 ⟨rfl, trivial⟩ ⟨(), rfl, (h.mem.pick [] (by decide) rfl)⟩
       ·have H := ifF c8 H
        refine g_f h rfl c8 ?_
        refine Go.skip ?_
        refine Go.inBlock ?_
        refine Go.reg ?_
        refine gs h (o_move rfl) rfl fun _ _ _ h => ?_
        refine gs h (o_bin rfl rfl rfl) rfl fun _ _ _ h => ?_
        obtain ⟨y2, ey2, H⟩ := ltE H
        refine gs h (o_assign' rfl (congrArg (fun z => Value.int .i64 z) ey2)) rfl fun _ _ _ h => ?_
        refine GoR.done ?_
        have e_ := som H; subst e_
        exact Go.inLoop (nx_in i1 _ _ (ey2 ▸ (wrap_in _ _)) (h.wk (by rfl) [0, 1, 2] (by decide) (by rfl)))
      refine Go.reg ?_
      refine gs h (o_move rfl) rfl fun _ _ _ h => ?_
      refine gs h (o_nilc rfl) rfl fun _ _ _ h => ?_
      refine gs h (o_fa rfl t_f48_0 rfl rfl) rfl fun _ _ _ h => ?_
      refine gs h (o_lfv 0 rfl rfl splay_c rfl PConn t_y26) rfl fun v6 _ _ h => ?_
      obtain ⟨r6, er6, H⟩ := bindE H
      refine gs h (o_call (splice_Check.spc v6 r5.c r6 er6) rfl [0] [] (by decide) rfl rfl) rfl fun _ _ _ h => ?_
      refine gs h (o_not rfl) rfl fun _ _ _ h => ?_
      refine gs h (o_move rfl) rfl fun _ _ _ h => ?_
      by_cases c5 : (!r6) = true
      ·have H := ifT c5 H
       iterate 7 (refine gk h rfl rfl (nb_t c5) rfl fun _ h => ?_)
       refine gs h (o_pickT rfl rfl c5) rfl fun _ _ _ h => ?_
       refine gs h (o_move rfl) rfl fun _ _ _ h => ?_
       iterate 7 (refine gk h rfl rfl (nb_t rfl) rfl fun _ h => ?_)
       refine gs h (o_pickT rfl rfl rfl) rfl fun _ _ _ h => ?_
       refine gs h (o_move rfl) rfl fun _ _ _ h => ?_
       iterate 7 (refine gk h rfl rfl (nb_t rfl) rfl fun _ h => ?_)
       refine gs h (o_pickT rfl rfl rfl) rfl fun _ _ _ h => ?_
       refine GoR.done ?_
       exact J2 true _ _ (som H).symm (h.wk (by rfl) [3, 1, 5] (by decide) (by rfl))
      ·have H := ifF c5 H
       refine gg h rfl rfl (nbF c5) (o_move rfl) rfl fun _ _ _ h => ?_
       refine gg h rfl rfl (nbF c5) (o_nilc rfl) rfl fun _ _ _ h => ?_
       refine gg h rfl rfl (nbF c5) (o_fa rfl t_f48_0 rfl rfl) rfl fun _ _ _ h => ?_
       refine gg h rfl rfl (nbF c5) (o_fa rfl t_f26_14 rfl rfl) rfl fun _ _ _ h => ?_
       refine gg h rfl rfl (nbF c5) (o_lfv 1 rfl rfl t_splay_c_ToHost rfl Per_sl t_y23) rfl fun v7 _ _ h => ?_
       have g3 := (len_at 0 rfl h.mem)
       refine gg h rfl rfl (nbF c5) (o_ln rfl (rd_at 0 rfl) t_v23) rfl fun _ _ _ h => ?_
       refine gg h rfl rfl (nbF c5) (o_bin rfl rfl rfl) rfl fun _ _ _ h => ?_
       refine gs h (o_pickF rfl rfl c5) rfl fun _ _ _ h => ?_
       refine gs h (o_move rfl) rfl fun _ _ _ h => ?_
       by_cases c6 : decide (4096 < (r5.c.ToHost.length : Int)) = true
       ·have H := ifT c6 H
        iterate 7 (refine gk h rfl rfl (nb_t c6) rfl fun _ h => ?_)
        refine gs h (o_pickT rfl rfl c6) rfl fun _ _ _ h => ?_
        refine gs h (o_move rfl) rfl fun _ _ _ h => ?_
        iterate 7 (refine gk h rfl rfl (nb_t rfl) rfl fun _ h => ?_)
        refine gs h (o_pickT rfl rfl rfl) rfl fun _ _ _ h => ?_
        refine GoR.done ?_
        exact J2 true _ _ (som H).symm (h.wk (by rfl) [4, 2, 6] (by decide) (by rfl))
       ·have H := ifF c6 H
        refine gg h rfl rfl (nbF c6) (o_move rfl) rfl fun _ _ _ h => ?_
        refine gg h rfl rfl (nbF c6) (o_nilc rfl) rfl fun _ _ _ h => ?_
        refine gg h rfl rfl (nbF c6) (o_fa rfl t_f48_0 rfl rfl) rfl fun _ _ _ h => ?_
        refine gg h rfl rfl (nbF c6) (o_fa rfl t_f26_15 rfl rfl) rfl fun _ _ _ h => ?_
        refine gg h rfl rfl (nbF c6) (o_lfv 2 rfl rfl t_splay_c_ToGuest rfl Per_sl t_y23) rfl fun v8 _ _ h => ?_
        have g4 := (len_at 0 rfl h.mem)
        refine gg h rfl rfl (nbF c6) (o_ln rfl (rd_at 0 rfl) t_v23) rfl fun _ _ _ h => ?_
        refine gg h rfl rfl (nbF c6) (o_bin rfl rfl rfl) rfl fun _ _ _ h => ?_
        refine gs h (o_pickF rfl rfl c6) rfl fun _ _ _ h => ?_
        refine gs h (o_move rfl) rfl fun _ _ _ h => ?_
        by_cases c7 : decide (4096 < (r5.c.ToGuest.length : Int)) = true
        ·have H := ifT c7 H
         iterate 7 (refine gk h rfl rfl (nb_t c7) rfl fun _ h => ?_)
         refine gs h (o_pickT rfl rfl c7) rfl fun _ _ _ h => ?_
         refine GoR.done ?_
         exact J2 true _ _ (som H).symm (h.wk (by rfl) [5, 3, 7] (by decide) (by rfl))
        ·have H := ifF c7 H
         refine gg h rfl rfl (nbF c7) (o_move rfl) rfl fun _ _ _ h => ?_
         refine gg h rfl rfl (nbF c7) (o_nilc rfl) rfl fun _ _ _ h => ?_
         refine gg h rfl rfl (nbF c7) (o_fa rfl t_f48_0 rfl rfl) rfl fun _ _ _ h => ?_
         refine gg h rfl rfl (nbF c7) (o_fa rfl t_f26_16 rfl rfl) rfl fun _ _ _ h => ?_
         refine gg h rfl rfl (nbF c7) (o_lfv 3 rfl rfl t_splay_c_Early rfl Per_sl t_y24) rfl fun v9 _ _ h => ?_
         have g5 := (len_at 0 rfl h.mem)
         refine gg h rfl rfl (nbF c7) (o_ln rfl (rd_at 0 rfl) t_v24) rfl fun _ _ _ h => ?_
         refine gg h rfl rfl (nbF c7) (o_bin rfl rfl rfl) rfl fun _ _ _ h => ?_
         refine gs h (o_pickF rfl rfl c7) rfl fun _ _ _ h => ?_
         refine GoR.done ?_
         exact J2 (decide (4 < (r5.c.Early.length : Int))) _ _ (som H).symm (h.wk (by rfl) [6, 4, 8] (by decide) (by rfl))
     ·have H := ifF c4 H
      refine g_f h rfl c4 ?_
      refine Go.exit rfl ?_
      have e_ := som H; subst e_
      exact J3 s1.2 _ _ (nx_out i1).symm (h.wk (by rfl) [1, 2] (by decide) (by rfl))
    refine Go.reg ?_
    refine gs h (o_move rfl) rfl fun _ _ _ h => ?_
    refine gs h (o_move rfl) rfl fun _ _ _ h => ?_
    have g2 := (len_at 0 rfl h.mem)
    refine gs h (o_ln rfl (rd_at 0 rfl) t_v50) rfl fun _ _ _ h => ?_
    refine gs h (o_bin rfl rfl rfl) rfl fun _ _ _ h => ?_
    refine gs h (o_move rfl) rfl fun _ _ _ h => ?_
    by_cases c3 : decide (s1.1 < (a3.length : Int)) = true
    ·have H := ifT c3 H
     refine gg h rfl rfl c3 (o_move rfl) rfl fun _ _ _ h => ?_
     refine gg h rfl rfl c3 (o_nilc rfl) rfl fun _ _ _ h => ?_
     refine gg h rfl rfl c3 (o_fa rfl t_f48_5 rfl rfl) rfl fun _ _ _ h => ?_
     refine gg h rfl rfl c3 (o_lfx 1 rfl rfl splay_gone rfl X_bool t_y4) rfl fun _ _ _ h => ?_
     refine gg h rfl rfl c3 (o_not rfl) rfl fun _ _ _ h => ?_
     refine gs h (o_pickT rfl rfl c3) rfl fun _ _ _ h => ?_
     refine GoR.done ?_
     exact J1 (!s1.2.gone) _ _ (som H).symm (h.wk (by rfl) [0, 1, 2] (by decide) (by rfl))
    ·have H := ifF c3 H
     iterate 5 (refine gk h rfl rfl (nb_f c3) rfl fun _ h => ?_)
     refine gs h (o_pickF rfl rfl c3) rfl fun _ _ _ h => ?_
     refine GoR.done ?_
     exact J1 false _ _ (som H).symm (h.wk (by rfl) [0, 1, 2] (by decide) (by rfl))
   ·exact I_ _ _ (show InR .i64 0 by decide) (h.wk (by rfl) [4, 0, 2] (by decide) (by rfl))
def law28_SpliceStays.g (k_ : Nat) (a1 : TSeg) (a2 : Int) (a3 : List TEv) : Option (Bool) :=
  (law28_fits.g k_ a3).bind fun r1 => (if (!r1) = true then (law28_heads.g k_).bind fun r2 => some (r2) else (law28_begin.g k_ a1 a2).bind fun r3 => (if (!r3.2) = true then (law28_heads.g k_).bind fun r4 => some (r4) else (r3.1).bind fun y1 => (loopK k_ (fun s1 => ((if decide (s1.1 < (a3.length : Int)) = true then some ((!s1.2.gone)) else some (false))).bind (fun j1 => (if j1 = true then (idx a3 s1.1).bind fun x1 => (law28_play_do.g k_ s1.2 x1).bind fun r5 => ((splice_Check.g k_ r5.c).bind fun r6 => (if (!r6) = true then some (true) else (if decide (4096 < (r5.c.ToHost.length : Int)) = true then some (true) else (if decide (4096 < (r5.c.ToGuest.length : Int)) = true then some (true) else some (decide (4 < (r5.c.Early.length : Int))))))).bind (fun j2 => (if j2 = true then some (.inr (.inr (false))) else lt (IntKind.i64.wrap (s1.1 + 1)) fun y2 => some (.inl (y2, r5)))) else some (.inr (.inl (s1.2)))))) (0, y1)).bind (Sum.elim (fun j3 => (law28_heads.g k_).bind fun r7 => some (r7)) (fun z_ => some (z_)))))
theorem law28_SpliceStays.le (k_ : Nat) (a1 : TSeg) (a2 : Int) (a3 : List TEv) : Le (law28_SpliceStays.g k_ a1 a2 a3) (law28_SpliceStays.f a1 a2 a3) := by
 unfold law28_SpliceStays.g law28_SpliceStays.f
 repeat' (first | with_reducible refine le_loop fun _ => ?_ | with_reducible refine le_bind ?_ fun _ => ?_ | with_reducible refine le_ite ?_ ?_ | with_reducible refine le_lt fun _ => ?_ | with_reducible refine le_elim (fun _ => ?_) (fun _ => ?_) _ | with_reducible apply law28_begin.le | with_reducible apply law28_fits.le | with_reducible apply law28_heads.le | with_reducible apply law28_play_do.le | with_reducible apply splice_Check.le | with_reducible exact le_refl _)
end Go.Proofs.Ytpcbhkigmnpimaa.S
