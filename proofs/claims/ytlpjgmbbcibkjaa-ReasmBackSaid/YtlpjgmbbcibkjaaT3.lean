/- Contracts, printed by a program of this session. -/
import Derived.Test.YtlpjgmbbcibkjaaT2
namespace Go.Proofs.Ytlpjgmbbcibkjaa.S
open Go Go.SL Go.RowKit
set_option linter.unusedVariables false
set_option linter.unusedSimpArgs false
/-! drawbridge/reasm.whose -/
noncomputable def reasm_whose.f (a1 : TPiece) : Option (Twho) :=
  some ((⟨a1.Src, a1.Dst, a1.Id, a1.Proto⟩ : Twho))
set_option maxRecDepth 100000 in
set_option maxHeartbeats 4000000 in
theorem reasm_whose.spc (v1 : Value) (a1 : TPiece) (r : Twho) (H : reasm_whose.f a1 = some r) : Spc Try.prog 17 [v1] [Val KPiece v1 a1] [] (fun (s : Value) => s) (fun s => [Val Kwho s r]) := by
 unfold reasm_whose.f at H
 refine Spc.go Try.func17 rfl (by kernel_rfl) rfl rfl (all_cons (Val.per PPiece) all_nil) fun F a w h => ?_
 refine Go.seq ?_
 refine Go.reg ?_
 refine gs h (o_box (K := KPiece) rfl (pv_at PPiece 0 rfl)) rfl fun b1 _ _ h => ?_
 refine gs h (o_alloc (K := Kwho) (z := (.agg #[.int .u32 0, .int .u32 0, .int .i64 0, .int .i64 0])) rfl Zwho) rfl fun b2 _ _ h => ?_
 refine GoR.done ?_
 refine Go.seq ?_
 refine Go.reg ?_
 refine gs h (o_fa rfl t_f50_0 rfl rfl) rfl fun _ _ _ h => ?_
 have g1 := (in2 (fd_sub sPiece_Src 1 rfl h.mem))
 refine gs h (o_lfx 1 rfl rfl sPiece_Src rfl X_int t_y24) rfl fun _ _ _ h => ?_
 refine gs h (o_fa rfl t_f50_1 rfl rfl) rfl fun _ _ _ h => ?_
 have g2 := (in2 (fd_sub sPiece_Dst 1 rfl h.mem))
 refine gs h (o_lfx 1 rfl rfl sPiece_Dst rfl X_int t_y24) rfl fun _ _ _ h => ?_
 refine gs h (o_fa rfl t_f50_2 rfl rfl) rfl fun _ _ _ h => ?_
 have g3 := (in2 (fd_sub sPiece_Id 1 rfl h.mem))
 refine gs h (o_lfx 1 rfl rfl sPiece_Id rfl X_int t_y3) rfl fun _ _ _ h => ?_
 refine gs h (o_fa rfl t_f50_3 rfl rfl) rfl fun _ _ _ h => ?_
 have g4 := (in2 (fd_sub sPiece_Proto 1 rfl h.mem))
 refine gs h (o_lfx 1 rfl rfl sPiece_Proto rfl X_int t_y3) rfl fun _ _ _ h => ?_
 refine gs h (o_build (K := Kwho) (x := (⟨a1.Src, a1.Dst, a1.Id, a1.Proto⟩ : Twho)) (ps := [(0, .int .u32 a1.Src), (1, .int .u32 a1.Dst), (2, .int .i64 a1.Id), (3, .int .i64 a1.Proto)]) rfl (zs := zswho) rfl t_b53 rfl (show PB (Kd.pair (Kd.int .u32) (Kd.pair (Kd.int .u32) (Kd.pair (Kd.int .i64) (Kd.last (Kd.int .i64))))) (a1.Src, a1.Dst, a1.Id, a1.Proto) 0 zswho _ _ from (pb_part (pv_int g1) rfl (pb_part (pv_int g2) rfl (pb_part (pv_int g3) rfl (pb_lastp (pv_int g4) rfl)))))) rfl fun v2 _ _ h => ?_
 refine gs0 h (o_st 1 rfl rfl rfl (pv_at Pwho 0 rfl) rfl t_w53) fun _ _ _ h => ?_
 refine GoR.done ?_
 obtain ⟨v3, h, u1⟩ := h.peek 1 rfl Pwho t_y53
 rw [← som H]
 exact g_ret (vs := [v3]) h Try.func17 ⟨⟨_, rfl, u1⟩, trivial⟩ ⟨v3, rfl, (h.mem.pick [0] (by decide) rfl)⟩
def reasm_whose.g (k_ : Nat) (a1 : TPiece) : Option (Twho) :=
  some ((⟨a1.Src, a1.Dst, a1.Id, a1.Proto⟩ : Twho))
theorem reasm_whose.le (k_ : Nat) (a1 : TPiece) : Le (reasm_whose.g k_ a1) (reasm_whose.f a1) := by
 unfold reasm_whose.g reasm_whose.f
 repeat' (first | with_reducible refine le_loop fun _ => ?_ | with_reducible refine le_bind ?_ fun _ => ?_ | with_reducible refine le_ite ?_ ?_ | with_reducible refine le_lt fun _ => ?_ | with_reducible refine le_elim (fun _ => ?_) (fun _ => ?_) _ | with_reducible exact le_refl _)
/-! drawbridge/reasm.Check -/
noncomputable def reasm_Check.f (a1 : List TPiece) : Option (Bool) :=
  (if decide (4 < (a1.length : Int)) = true then some (false) else (loop (fun s1 => (if decide (s1.2 < (a1.length : Int)) = true then (idx a1 s1.2).bind fun x1 => ((reasm_right.f x1).bind fun r1 => (if (!r1) = true then some (true) else (reasm_whose.f x1).bind fun r2 => some ((mget s1.1 r2).getD false))).bind (fun j1 => (if j1 = true then some (.inr (.inr (false))) else (reasm_whose.f x1).bind fun r3 => lt (mput s1.1 r3 true) fun y1 => some (.inl (y1, IntKind.i64.wrap (s1.2 + 1))))) else some (.inr (.inl (()))))) (([] : List (Twho × Bool)), 0)).bind (Sum.elim (fun j2 => some (true)) (fun z_ => some (z_))))
set_option maxRecDepth 100000 in
set_option maxHeartbeats 4000000 in
theorem reasm_Check.spc (v1 : Value) (a1 : List TPiece) (r : Bool) (H : reasm_Check.f a1 = some r) : Spc Try.prog 12 [v1] [Val (Kd.sl KPiece) v1 a1] [] (fun (s : Unit) => .bool r) (fun s => []) := by
 unfold reasm_Check.f at H
 refine Spc.go Try.func12 rfl (by kernel_rfl) rfl rfl (all_cons (Val.per Per_sl) all_nil) fun F a w h => ?_
 refine Go.seq ?_
 refine Go.reg ?_
 refine gs h (o_assign rfl) rfl fun _ _ _ h => ?_
 refine GoR.done ?_
 refine Go.seq ?_
 refine Go.seq ?_
 refine Go.reg ?_
 refine gs h (o_move rfl) rfl fun _ _ _ h => ?_
 have g1 := (len_at 0 rfl h.mem)
 refine gs h (o_ln rfl (rd_at 0 rfl) t_v23) rfl fun _ _ _ h => ?_
 refine gs h (o_bin rfl rfl rfl) rfl fun _ _ _ h => ?_
 refine GoR.done ?_
 by_cases c1 : decide (4 < (a1.length : Int)) = true
 ·have H := ifT c1 H
  refine g_t h rfl c1 ?_
  refine Go.seq ?_
  refine Go.reg ?_
  refine gs h (o_assign rfl) rfl fun _ _ _ h => ?_
  refine GoR.done ?_
  rw [← som H]
  exact g_ret (vs := [.bool false]) h Try.func12 ⟨rfl, trivial⟩ ⟨(), rfl, (h.mem.pick [] (by decide) rfl)⟩
 ·have H := ifF c1 H
  refine g_f h rfl c1 ?_
  refine Go.skip ?_
  refine Go.seq ?_
  refine Go.reg ?_
  refine gs h (o_mkmap Kwho Kd.bool) rfl fun v2 _ _ h => ?_
  refine gs h (o_assign rfl) rfl fun _ _ _ h => ?_
  refine GoR.done ?_
  refine Go.seq ?_
  refine Go.seq ?_
  refine Go.reg ?_
  refine gs h (o_move rfl) rfl fun _ _ _ h => ?_
  have g2 := (len_at 1 rfl h.mem)
  refine gs h (o_ln rfl (rd_at 1 rfl) t_v23) rfl fun _ _ _ h => ?_
  refine gs h (o_move rfl) rfl fun _ _ _ h => ?_
  refine GoR.done ?_
  refine Go.block ?_
  obtain ⟨o1, hl, G1⟩ := bindE H
  refine g_cut (fun G => ∀ j2 (a : Act) (w : World), o1 = .inl (j2) → St Try.f12.ntmps F [] [] a w → G a w) 2 ?_ fun J2 => ?_
  ·intro j2 a w ho_ h
   rw [ho_] at G1
   have H := G1
   refine Go.seq ?_
   refine Go.reg ?_
   refine gs h (o_assign rfl) rfl fun _ _ _ h => ?_
   refine GoR.done ?_
   rw [← som H]
   exact g_ret (vs := [.bool true]) h Try.func12 ⟨rfl, trivial⟩ ⟨(), rfl, (h.mem.pick [] (by decide) rfl)⟩
  refine g_loop (fun s1 G => ∀  (a : Act) (w : World), InR .i64 s1.2 → St Try.f12.ntmps F [(3, v2), (10, v1), (11, .int .i64 (a1.length : Int)), (12, .int .i64 s1.2)] [Val (Kd.mp Kwho Kd.bool) v2 s1.1, Val (Kd.sl KPiece) v1 a1] a w → G a w) hl (fun s1 p1 H i1 => ?_) fun I_ => ?_
  ·intro  a w g3 h
   refine Go.seq ?_
   refine Go.reg ?_
   refine gs h (o_bin rfl rfl rfl) rfl fun _ _ _ h => ?_
   refine GoR.done ?_
   refine Go.seq ?_
   by_cases c2 : decide (s1.2 < (a1.length : Int)) = true
   ·have H := ifT c2 H
    refine g_t h rfl c2 ?_
    refine Go.skip ?_
    refine Go.seq ?_
    refine Go.block ?_
    refine Go.seq ?_
    refine Go.reg ?_
    obtain ⟨x1, ex1, H⟩ := bindE H
    refine gs h (o_ix rfl rfl (rd_at 1 rfl) ex1 t_v23) rfl fun _ _ _ h => ?_
    refine gs h (o_lev rfl (rd_at 1 rfl) ex1 t_y50 (by decide)) rfl fun v3 _ _ h => ?_
    refine gs h (o_alloc (K := KPiece) (z := (.agg #[.int .u32 0, .int .u32 0, .int .i64 0, .int .i64 0, .int .i64 0, .slice none 0 0, .slice none 0 0, .int .i64 0])) rfl ZPiece) rfl fun b1 _ _ h => ?_
    refine gs0 h (o_st 0 rfl rfl rfl (pv_at PPiece 1 rfl) rfl t_w50) fun _ _ _ h => ?_
    refine GoR.done ?_
    refine Go.seq ?_
    refine Go.seq ?_
    obtain ⟨o2, H, G2⟩ := bindE H
    refine g_cut (fun G => ∀ j1 (a : Act) (w : World), o2 = j1 → St Try.f12.ntmps F [(3, v2), (5, .pointer (some ⟨b1, 0, none⟩)), (10, v1), (11, .int .i64 (a1.length : Int)), (12, .int .i64 s1.2), (24, .bool j1)] [Val (Kd.mp Kwho Kd.bool) v2 s1.1, Val (Kd.sl KPiece) v1 a1, Fld KPiece b1 0 x1] a w → G a w) 1 ?_ fun J1 => ?_
    ·intro j1 a w ho_ h
     rw [ho_] at G2
     have H := G2
     by_cases c4 : j1 = true
     ·have H := ifT c4 H
      refine g_t h rfl c4 ?_
      refine Go.seq ?_
      refine Go.reg ?_
      refine gs h (o_assign rfl) rfl fun _ _ _ h => ?_
      refine GoR.done ?_
      have e_ := som H; subst e_
      rw [← nx_out i1] at G1
      have H := G1
      rw [← som H]
      exact g_ret (vs := [.bool false]) h Try.func12 ⟨rfl, trivial⟩ ⟨(), rfl, (h.mem.pick [] (by decide) rfl)⟩
     ·have H := ifF c4 H
      refine g_f h rfl c4 ?_
      refine Go.skip ?_
      refine Go.reg ?_
      refine gs h (o_move rfl) rfl fun _ _ _ h => ?_
      refine gs h (o_ldv 2 rfl rfl PPiece t_y50) rfl fun v7 _ _ h => ?_
      obtain ⟨r3, er3, H⟩ := bindE H
      refine gs h (o_call (reasm_whose.spc v7 x1 r3 er3) rfl [0] [] (by decide) rfl rfl) rfl fun v8 _ _ h => ?_
      obtain ⟨y1, ey1, H⟩ := ltE H
      refine gs0 h (o_mput 2 rfl rfl rfl rfl (pv_at Pwho 0 rfl) pv_bool t_u62 t_mk53) fun _ _ _ h => ?_
      rw [ey1] at h
      refine GoR.done ?_
      refine Go.inBlock ?_
      refine Go.reg ?_
      refine gs h (o_bin rfl rfl rfl) rfl fun _ _ _ h => ?_
      refine gs h (o_move rfl) rfl fun _ _ _ h => ?_
      refine GoR.done ?_
      have e_ := som H; subst e_
      exact Go.inLoop (nx_in i1 _ _ (wrap_in _ _) (h.wk (by rfl) [2, 3] (by decide) (by rfl)))
    refine Go.reg ?_
    refine gs h (o_ldv 0 rfl rfl PPiece t_y50) rfl fun v4 _ _ h => ?_
    obtain ⟨r1, er1, H⟩ := bindE H
    refine gs h (o_call (reasm_right.spc v4 x1 r1 er1) rfl [0] [] (by decide) rfl rfl) rfl fun _ _ _ h => ?_
    refine gs h (o_not rfl) rfl fun _ _ _ h => ?_
    refine gs h (o_move rfl) rfl fun _ _ _ h => ?_
    by_cases c3 : (!r1) = true
    ·have H := ifT c3 H
     refine gk h rfl rfl (nb_t c3) rfl fun _ h => ?_
     refine gk h rfl rfl (nb_t c3) rfl fun _ h => ?_
     refine gk h rfl rfl (nb_t c3) rfl fun _ h => ?_
     refine gk h rfl rfl (nb_t c3) rfl fun _ h => ?_
     refine gs h (o_pickT rfl rfl c3) rfl fun _ _ _ h => ?_
     refine GoR.done ?_
     exact J1 true _ _ (som H).symm (h.wk (by rfl) [3, 4, 1] (by decide) (by rfl))
    ·have H := ifF c3 H
     refine gg h rfl rfl (nbF c3) (o_move rfl) rfl fun _ _ _ h => ?_
     refine gg h rfl rfl (nbF c3) (o_ldv 1 rfl rfl PPiece t_y50) rfl fun v5 _ _ h => ?_
     obtain ⟨r2, er2, H⟩ := bindE H
     refine gg h rfl rfl (nbF c3) (o_call (reasm_whose.spc v5 x1 r2 er2) rfl [0] [] (by decide) rfl rfl) rfl fun v6 _ _ h => ?_
     refine gg h rfl rfl (nbF c3) (o_mget (zv := .bool false) 5 rfl rfl rfl (pv_at Pwho 0 rfl) t_u62 t_mk53 t_zz4 (fun m => ⟨_, z_bool _, rfl⟩) X_bool) rfl fun _ _ _ h => ?_
     refine gs h (o_pickF rfl rfl c3) rfl fun _ _ _ h => ?_
     refine GoR.done ?_
     exact J1 ((mget s1.1 r2).getD false) _ _ (som H).symm (h.wk (by rfl) [5, 6, 3] (by decide) (by rfl))
   ·have H := ifF c2 H
    refine g_f h rfl c2 ?_
    refine Go.exit rfl ?_
    have e_ := som H; subst e_
    exact J2 () _ _ (nx_out i1).symm (h.wk (by rfl) [] (by decide) (by rfl))
  ·exact I_ _ _ (show InR .i64 0 by decide) (h.wk (by rfl) [0, 1] (by decide) (by rfl))
def reasm_Check.g (k_ : Nat) (a1 : List TPiece) : Option (Bool) :=
  (if decide (4 < (a1.length : Int)) = true then some (false) else (loopK k_ (fun s1 => (if decide (s1.2 < (a1.length : Int)) = true then (idx a1 s1.2).bind fun x1 => ((reasm_right.g k_ x1).bind fun r1 => (if (!r1) = true then some (true) else (reasm_whose.g k_ x1).bind fun r2 => some ((mget s1.1 r2).getD false))).bind (fun j1 => (if j1 = true then some (.inr (.inr (false))) else (reasm_whose.g k_ x1).bind fun r3 => lt (mput s1.1 r3 true) fun y1 => some (.inl (y1, IntKind.i64.wrap (s1.2 + 1))))) else some (.inr (.inl (()))))) (([] : List (Twho × Bool)), 0)).bind (Sum.elim (fun j2 => some (true)) (fun z_ => some (z_))))
theorem reasm_Check.le (k_ : Nat) (a1 : List TPiece) : Le (reasm_Check.g k_ a1) (reasm_Check.f a1) := by
 unfold reasm_Check.g reasm_Check.f
 repeat' (first | with_reducible refine le_loop fun _ => ?_ | with_reducible refine le_bind ?_ fun _ => ?_ | with_reducible refine le_ite ?_ ?_ | with_reducible refine le_lt fun _ => ?_ | with_reducible refine le_elim (fun _ => ?_) (fun _ => ?_) _ | with_reducible apply reasm_right.le | with_reducible apply reasm_whose.le | with_reducible exact le_refl _)
/-! drawbridge/reasm.tick -/
noncomputable def reasm_tick.f (a1 : Int) : Option (Bool) :=
  ((if decide (0 ≤ a1) = true then lt (decide (a1 ≤ 1099511627746)) fun y1 => some (y1) else some (false))).bind (fun j1 => some (j1))
set_option maxRecDepth 100000 in
set_option maxHeartbeats 4000000 in
theorem reasm_tick.spc (a1 : Int) (ha1 : InR .i64 a1) (r : Bool) (H : reasm_tick.f a1 = some r) : Spc Try.prog 15 [.int .i64 a1] [] [] (fun (s : Unit) => .bool r) (fun s => []) := by
 unfold reasm_tick.f at H
 refine Spc.go Try.func15 rfl (by kernel_rfl) rfl rfl all_nil fun F a w h => ?_
 refine Go.seq ?_
 refine Go.reg ?_
 refine gs h (o_assign rfl) rfl fun _ _ _ h => ?_
 refine GoR.done ?_
 refine Go.seq ?_
 obtain ⟨o1, H, G1⟩ := bindE H
 refine g_cut (fun G => ∀ j1 (a : Act) (w : World), o1 = j1 → St Try.f15.ntmps F [(2, .bool j1)] [] a w → G a w) 1 ?_ fun J1 => ?_
 ·intro j1 a w ho_ h
  rw [ho_] at G1
  have H := G1
  rw [← som H]
  exact g_ret (vs := [.bool j1]) h Try.func15 ⟨rfl, trivial⟩ ⟨(), rfl, (h.mem.pick [] (by decide) rfl)⟩
 refine Go.reg ?_
 refine gs h (o_move rfl) rfl fun _ _ _ h => ?_
 refine gs h (o_bin rfl rfl rfl) rfl fun _ _ _ h => ?_
 refine gs h (o_move rfl) rfl fun _ _ _ h => ?_
 by_cases c1 : decide (0 ≤ a1) = true
 ·have H := ifT c1 H
  refine gg h rfl rfl c1 (o_move rfl) rfl fun _ _ _ h => ?_
  refine gg h rfl rfl c1 (o_bin rfl rfl rfl) rfl fun _ _ _ h => ?_
  refine gs h (o_pickT rfl rfl c1) rfl fun _ _ _ h => ?_
  obtain ⟨y1, ey1, H⟩ := ltE H
  refine gs h (o_assign' rfl (congrArg Value.bool ey1)) rfl fun _ _ _ h => ?_
  refine GoR.done ?_
  exact J1 y1 _ _ (som H).symm (h.wk (by rfl) [] (by decide) (by rfl))
 ·have H := ifF c1 H
  refine gk h rfl rfl (nb_f c1) rfl fun _ h => ?_
  refine gk h rfl rfl (nb_f c1) rfl fun _ h => ?_
  refine gs h (o_pickF rfl rfl c1) rfl fun _ _ _ h => ?_
  refine gs h (o_assign rfl) rfl fun _ _ _ h => ?_
  refine GoR.done ?_
  exact J1 false _ _ (som H).symm (h.wk (by rfl) [] (by decide) (by rfl))
def reasm_tick.g (k_ : Nat) (a1 : Int) : Option (Bool) :=
  ((if decide (0 ≤ a1) = true then lt (decide (a1 ≤ 1099511627746)) fun y1 => some (y1) else some (false))).bind (fun j1 => some (j1))
theorem reasm_tick.le (k_ : Nat) (a1 : Int) : Le (reasm_tick.g k_ a1) (reasm_tick.f a1) := by
 unfold reasm_tick.g reasm_tick.f
 repeat' (first | with_reducible refine le_loop fun _ => ?_ | with_reducible refine le_bind ?_ fun _ => ?_ | with_reducible refine le_ite ?_ ?_ | with_reducible refine le_lt fun _ => ?_ | with_reducible refine le_elim (fun _ => ?_) (fun _ => ?_) _ | with_reducible exact le_refl _)
/-! drawbridge/reasm.seek -/
noncomputable def reasm_seek.f (a1 : List TPiece) (a2 : Twho) : Option (Int) :=
  ((loop (fun s1 => (if decide (s1.2 < (a1.length : Int)) = true then (idx a1 s1.2).bind fun x1 => (reasm_whose.f x1).bind fun r1 => (if (decide (r1.src = a2.src) && (decide (r1.dst = a2.dst) && (decide (r1.id = a2.id) && (decide (r1.proto = a2.proto))))) = true then some (.inr (s1.1)) else lt (IntKind.i64.wrap (s1.1 + 1)) fun y1 => some (.inl (y1, IntKind.i64.wrap (s1.2 + 1)))) else some (.inr (s1.1)))) (0, 0)).bind (fun j1 => some (j1))).bind (fun j2 => some (j2))
set_option maxRecDepth 100000 in
set_option maxHeartbeats 4000000 in
theorem reasm_seek.spc (v1 : Value) (a1 : List TPiece) (v2 : Value) (a2 : Twho) (r : Int) (H : reasm_seek.f a1 a2 = some r) : Spc Try.prog 16 [v1, v2] [Val (Kd.sl KPiece) v1 a1, Val Kwho v2 a2] [] (fun (s : Unit) => .int .i64 r) (fun s => [Ent.pur (InR .i64 r)]) := by
 unfold reasm_seek.f at H
 refine Spc.go Try.func16 rfl (by kernel_rfl) rfl rfl (all_cons (Val.per Per_sl) (all_cons (Val.per Pwho) all_nil)) fun F a w h => ?_
 refine Go.seq ?_
 refine Go.reg ?_
 refine gs h (o_box (K := Kwho) rfl (pv_at Pwho 1 rfl)) rfl fun b1 _ _ h => ?_
 refine gs h (o_assign rfl) rfl fun _ _ _ h => ?_
 refine GoR.done ?_
 refine Go.scope ?_
 refine Go.seq ?_
 refine Go.reg ?_
 refine gs h (o_assign rfl) rfl fun _ _ _ h => ?_
 refine GoR.done ?_
 refine Go.seq ?_
 refine Go.label ?_
 refine Go.seq ?_
 obtain ⟨o1, H, G1⟩ := bindE H
 refine g_cut (fun G => ∀ j2 (a : Act) (w : World), o1 = j2 → InR .i64 j2 → St Try.f16.ntmps F [(5, .int .i64 j2)] [Fld Kwho b1 0 a2] a w → G a w) 1 ?_ fun J2 => ?_
 ·intro j2 a w ho_ g5 h
  rw [ho_] at G1
  have H := G1
  refine Go.seq ?_
  refine Go.reg ?_
  refine gs h (o_move rfl) rfl fun _ _ _ h => ?_
  refine gs h (o_assign rfl) rfl fun _ _ _ h => ?_
  refine GoR.done ?_
  rw [← som H]
  exact g_ret (vs := [.int .i64 j2]) h Try.func16 ⟨rfl, trivial⟩ ⟨(), rfl, ((h.mem.pick [] (by decide) rfl).addpur g5)⟩
 refine Go.seq ?_
 refine Go.reg ?_
 refine gs h (o_move rfl) rfl fun _ _ _ h => ?_
 have g1 := (len_at 1 rfl h.mem)
 refine gs h (o_ln rfl (rd_at 1 rfl) t_v23) rfl fun _ _ _ h => ?_
 refine gs h (o_move rfl) rfl fun _ _ _ h => ?_
 refine GoR.done ?_
 refine Go.block ?_
 obtain ⟨o2, hl, G2⟩ := bindE H
 refine g_cut (fun G => ∀ j1 (a : Act) (w : World), o2 = j1 → InR .i64 j1 → St Try.f16.ntmps F [(5, .int .i64 j1)] [Fld Kwho b1 0 a2] a w → G a w) 2 ?_ fun J1 => ?_
 ·intro j1 a w ho_ g4 h
  rw [ho_] at G2
  have H := G2
  exact J2 j1 _ _ (som H).symm g4 (h.wk (by rfl) [0] (by decide) (by rfl))
 refine g_loop (fun s1 G => ∀  (a : Act) (w : World), InR .i64 s1.1 → InR .i64 s1.2 → St Try.f16.ntmps F [(3, .pointer (some ⟨b1, 0, none⟩)), (5, .int .i64 s1.1), (8, v1), (9, .int .i64 (a1.length : Int)), (10, .int .i64 s1.2)] [Val (Kd.sl KPiece) v1 a1, Fld Kwho b1 0 a2] a w → G a w) hl (fun s1 p1 H i1 => ?_) fun I_ => ?_
 ·intro  a w g2 g3 h
  refine Go.seq ?_
  refine Go.reg ?_
  refine gs h (o_bin rfl rfl rfl) rfl fun _ _ _ h => ?_
  refine GoR.done ?_
  refine Go.seq ?_
  by_cases c1 : decide (s1.2 < (a1.length : Int)) = true
  ·have H := ifT c1 H
   refine g_t h rfl c1 ?_
   refine Go.skip ?_
   refine Go.seq ?_
   refine Go.block ?_
   refine Go.seq ?_
   refine Go.reg ?_
   obtain ⟨x1, ex1, H⟩ := bindE H
   refine gs h (o_ix rfl rfl (rd_at 0 rfl) ex1 t_v23) rfl fun _ _ _ h => ?_
   refine gs h (o_lev rfl (rd_at 0 rfl) ex1 t_y50 (by decide)) rfl fun v3 _ _ h => ?_
   refine gs h (o_alloc (K := KPiece) (z := (.agg #[.int .u32 0, .int .u32 0, .int .i64 0, .int .i64 0, .int .i64 0, .slice none 0 0, .slice none 0 0, .int .i64 0])) rfl ZPiece) rfl fun b2 _ _ h => ?_
   refine gs0 h (o_st 0 rfl rfl rfl (pv_at PPiece 1 rfl) rfl t_w50) fun _ _ _ h => ?_
   refine GoR.done ?_
   refine Go.seq ?_
   refine Go.seq ?_
   replace h := h.wk (E' := [(3, .pointer (some ⟨b1, 0, none⟩)), (5, .int .i64 s1.1), (8, v1), (9, .int .i64 (a1.length : Int)), (10, .int .i64 s1.2), (7, .pointer (some ⟨b2, 0, none⟩))]) (L' := [Fld KPiece b2 0 x1, Val KPiece v3 x1, Val (Kd.sl KPiece) v1 a1, Fld Kwho b1 0 a2]) (by rfl) [0, 1, 2, 3] (by decide) (by rfl)
   obtain ⟨r1, er1, H⟩ := bindE H
   refine Go.draw (L := [Fld KPiece b2 0 x1, Val KPiece v3 x1, Val (Kd.sl KPiece) v1 a1, Fld Kwho b1 0 a2]) h 3 [⟨[], [], [], false, .own, none, fun u => [Val KPiece u x1]⟩, ⟨[0], [0], [], false, .own, none, fun u => [Val Kwho u r1]⟩, ⟨[], [], [], false, .own, none, fun u => [Val Kwho u a2]⟩] rfl t_mxo (by kernel_rfl) (by rfl) ?_ fun f1 _ _ h => ?_
   ·exact obs_cons (ob_own rfl (gok_none rfl) rfl fun f1 => (o_ldv 0 rfl rfl PPiece t_y50)) (obs_cons (ob_own rfl (gok_none rfl) rfl fun f1 => (o_call (reasm_whose.spc (f1 0) x1 r1 er1) rfl [0] [] (by decide) rfl rfl)) (obs_cons (ob_own rfl (gok_none rfl) rfl fun f1 => (o_ldv 3 rfl rfl Pwho t_y53)) (obs_nil)))
   replace h := h.wk (E' := [(3, .pointer (some ⟨b1, 0, none⟩)), (5, .int .i64 s1.1), (8, v1), (9, .int .i64 (a1.length : Int)), (10, .int .i64 s1.2), (15, (f1 1)), (16, (f1 2))]) (L' := [Val KPiece (f1 0) x1, Val Kwho (f1 1) r1, Val Kwho (f1 2) a2, Fld KPiece b2 0 x1, Val KPiece v3 x1, Val (Kd.sl KPiece) v1 a1, Fld Kwho b1 0 a2]) (by kernel_rfl) [0, 1, 2, 3, 4, 5, 6] (by decide) (by kernel_rfl)
   refine gs h (o_eqv rfl rfl (pv_at Pwho 1 rfl) (pv_at Pwho 2 rfl) rfl t_e53 (.cons swho_src (eq_int t_u24) (.cons swho_dst (eq_int t_u24) (.cons swho_id (eq_int t_u3) (.last swho_proto (eq_int t_u3)))))) rfl fun _ _ _ h => ?_
   refine GoR.done ?_
   by_cases c2 : (decide (r1.src = a2.src) && (decide (r1.dst = a2.dst) && (decide (r1.id = a2.id) && (decide (r1.proto = a2.proto))))) = true
   ·have H := ifT c2 H
    refine g_t h rfl c2 ?_
    refine Go.exit rfl ?_
    have e_ := som H; subst e_
    exact J1 s1.1 _ _ (nx_out i1).symm g2 (h.wk (by rfl) [6] (by decide) (by rfl))
   ·have H := ifF c2 H
    refine g_f h rfl c2 ?_
    refine Go.skip ?_
    refine Go.reg ?_
    refine gs h (o_move rfl) rfl fun _ _ _ h => ?_
    refine gs h (o_bin rfl rfl rfl) rfl fun _ _ _ h => ?_
    obtain ⟨y1, ey1, H⟩ := ltE H
    refine gs h (o_assign' rfl (congrArg (fun z => Value.int .i64 z) ey1)) rfl fun _ _ _ h => ?_
    refine GoR.done ?_
    refine Go.inBlock ?_
    refine Go.reg ?_
    refine gs h (o_bin rfl rfl rfl) rfl fun _ _ _ h => ?_
    refine gs h (o_move rfl) rfl fun _ _ _ h => ?_
    refine GoR.done ?_
    have e_ := som H; subst e_
    exact Go.inLoop (nx_in i1 _ _ (ey1 ▸ (wrap_in _ _)) (wrap_in _ _) (h.wk (by rfl) [5, 6] (by decide) (by rfl)))
  ·have H := ifF c1 H
   refine g_f h rfl c1 ?_
   refine Go.exit rfl ?_
   have e_ := som H; subst e_
   exact J1 s1.1 _ _ (nx_out i1).symm g2 (h.wk (by rfl) [1] (by decide) (by rfl))
 ·exact I_ _ _ (show InR .i64 0 by decide) (show InR .i64 0 by decide) (h.wk (by rfl) [1, 0] (by decide) (by rfl))
def reasm_seek.g (k_ : Nat) (a1 : List TPiece) (a2 : Twho) : Option (Int) :=
  ((loopK k_ (fun s1 => (if decide (s1.2 < (a1.length : Int)) = true then (idx a1 s1.2).bind fun x1 => (reasm_whose.g k_ x1).bind fun r1 => (if (decide (r1.src = a2.src) && (decide (r1.dst = a2.dst) && (decide (r1.id = a2.id) && (decide (r1.proto = a2.proto))))) = true then some (.inr (s1.1)) else lt (IntKind.i64.wrap (s1.1 + 1)) fun y1 => some (.inl (y1, IntKind.i64.wrap (s1.2 + 1)))) else some (.inr (s1.1)))) (0, 0)).bind (fun j1 => some (j1))).bind (fun j2 => some (j2))
theorem reasm_seek.le (k_ : Nat) (a1 : List TPiece) (a2 : Twho) : Le (reasm_seek.g k_ a1 a2) (reasm_seek.f a1 a2) := by
 unfold reasm_seek.g reasm_seek.f
 repeat' (first | with_reducible refine le_loop fun _ => ?_ | with_reducible refine le_bind ?_ fun _ => ?_ | with_reducible refine le_ite ?_ ?_ | with_reducible refine le_lt fun _ => ?_ | with_reducible refine le_elim (fun _ => ?_) (fun _ => ?_) _ | with_reducible apply reasm_whose.le | with_reducible exact le_refl _)
/-! slices.Clone[[]drawbridge/api.Piece,drawbridge/api.Piece] -/
noncomputable def slices_Clone_s_api_Piece_api_Piece.f (a1 : List TPiece) : Option ((List TPiece)) :=
  (app ([] : List TPiece) a1).bind fun x1 => some (x1)
set_option maxRecDepth 100000 in
set_option maxHeartbeats 4000000 in
theorem slices_Clone_s_api_Piece_api_Piece.spc (v1 : Value) (a1 : List TPiece) (r : (List TPiece)) (H : slices_Clone_s_api_Piece_api_Piece.f a1 = some r) : Spc Try.prog 18 [v1] [Val (Kd.sl KPiece) v1 a1] [] (fun (s : Value) => s) (fun s => [Val (Kd.osl KPiece) s r]) := by
 unfold slices_Clone_s_api_Piece_api_Piece.f at H
 refine Spc.go Try.func18 rfl (by kernel_rfl) rfl rfl (all_cons (Val.per Per_sl) all_nil) fun F a w h => ?_
 refine Go.seq ?_
 refine Go.reg ?_
 refine gs h (o_assign rfl) rfl fun _ _ _ h => ?_
 refine GoR.done ?_
 refine Go.seq ?_
 refine Go.seq ?_
 refine Go.reg ?_
 refine gs h (o_move rfl) rfl fun _ _ _ h => ?_
 refine gs h (o_eqn rfl rfl (rd_at 0 rfl) t_v23) rfl fun t1 _ _ h => ?_
 refine GoR.done ?_
 by_cases c1 : t1 = true
 ·have q_ := h.mem.pur 0 rfl c1
  have H : (some ([])) = some r := by rw [q_] at H; simpa [app, app1] using H
  refine g_t h rfl c1 ?_
  refine Go.seq ?_
  refine Go.reg ?_
  refine gs h (o_assign rfl) rfl fun _ _ _ h => ?_
  refine GoR.done ?_
  replace h := h.mm fun m => m.nilo KPiece
  rw [← som H]
  exact g_ret (vs := [.slice none 0 0]) h Try.func18 ⟨rfl, trivial⟩ ⟨.slice none 0 0, rfl, (h.mem.pick [0] (by decide) rfl)⟩
 ·refine g_f h rfl c1 ?_
  refine Go.skip ?_
  refine Go.seq ?_
  refine Go.reg ?_
  refine gs h (o_bs (K := KPiece) (vs := []) (xs := ([] : List TPiece)) rfl rfl pvs_nil t_a23 (by decide) (by decide)) rfl fun v2 _ _ h => ?_
  refine gs h (o_move rfl) rfl fun _ _ _ h => ?_
  obtain ⟨x1, ex1, H⟩ := bindE H
  refine gs h (o_app (K := KPiece) 0 rfl rfl rfl (rd_at 2 rfl) ex1 t_a23 t_n23) rfl fun v3 _ _ h => ?_
  refine gs h (o_assign rfl) rfl fun _ _ _ h => ?_
  refine GoR.done ?_
  rw [← som H]
  exact g_ret (vs := [v3]) h Try.func18 ⟨rfl, trivial⟩ ⟨v3, rfl, (h.mem.pick [0] (by decide) rfl)⟩
def slices_Clone_s_api_Piece_api_Piece.g (k_ : Nat) (a1 : List TPiece) : Option ((List TPiece)) :=
  (app ([] : List TPiece) a1).bind fun x1 => some (x1)
theorem slices_Clone_s_api_Piece_api_Piece.le (k_ : Nat) (a1 : List TPiece) : Le (slices_Clone_s_api_Piece_api_Piece.g k_ a1) (slices_Clone_s_api_Piece_api_Piece.f a1) := by
 unfold slices_Clone_s_api_Piece_api_Piece.g slices_Clone_s_api_Piece_api_Piece.f
 repeat' (first | with_reducible refine le_loop fun _ => ?_ | with_reducible refine le_bind ?_ fun _ => ?_ | with_reducible refine le_ite ?_ ?_ | with_reducible refine le_lt fun _ => ?_ | with_reducible refine le_elim (fun _ => ?_) (fun _ => ?_) _ | with_reducible exact le_refl _)
/-! drawbridge/reasm.drops -/
noncomputable def reasm_drops.f (a1 : TPiece) (a2 : Bool) (a3 : Int) : Option (Bool) :=
  lt (decide (0 ≤ a1.Total)) fun y1 => (if a2 = true then ((if y1 = true then (if (!decide (a1.Total = a3)) = true then some (true) else lt (decide (a3 < (a1.Data.length : Int))) fun y2 => some (y2)) else lt (decide (a3 < (a1.Data.length : Int))) fun y3 => some (y3))).bind (fun j1 => some (j1)) else ((if y1 = true then lt (decide (a1.Total < a3)) fun y4 => some (y4) else some (false))).bind (fun j2 => some (j2)))
set_option maxRecDepth 100000 in
set_option maxHeartbeats 4000000 in
theorem reasm_drops.spc (v1 : Value) (a1 : TPiece) (a2 : Bool) (a3 : Int) (ha3 : InR .i64 a3) (r : Bool) (H : reasm_drops.f a1 a2 a3 = some r) : Spc Try.prog 19 [v1, .bool a2, .int .i64 a3] [Val KPiece v1 a1] [] (fun (s : Unit) => .bool r) (fun s => []) := by
 unfold reasm_drops.f at H
 refine Spc.go Try.func19 rfl (by kernel_rfl) rfl rfl (all_cons (Val.per PPiece) all_nil) fun F a w h => ?_
 refine Go.seq ?_
 refine Go.reg ?_
 refine gs h (o_box (K := KPiece) rfl (pv_at PPiece 0 rfl)) rfl fun b1 _ _ h => ?_
 refine gs h (o_assign rfl) rfl fun _ _ _ h => ?_
 refine GoR.done ?_
 refine Go.seq ?_
 refine Go.reg ?_
 refine gs h (o_fa rfl t_f50_7 rfl rfl) rfl fun _ _ _ h => ?_
 have g1 := (in2 (fd_sub sPiece_Total 0 rfl h.mem))
 refine gs h (o_lfx 0 rfl rfl sPiece_Total rfl X_int t_y3) rfl fun _ _ _ h => ?_
 refine gs h (o_bin rfl rfl rfl) rfl fun _ _ _ h => ?_
 obtain ⟨y1, ey1, H⟩ := ltE H
 refine gs h (o_assign' rfl (congrArg Value.bool ey1)) rfl fun _ _ _ h => ?_
 refine GoR.done ?_
 refine Go.seq ?_
 refine Go.seq ?_
 refine Go.reg ?_
 refine gs h (o_move rfl) rfl fun _ _ _ h => ?_
 refine GoR.done ?_
 by_cases c1 : a2 = true
 ·have H := ifT c1 H
  refine g_t h rfl c1 ?_
  refine Go.seq ?_
  obtain ⟨o1, H, G1⟩ := bindE H
  refine g_cut (fun G => ∀ j1 (a : Act) (w : World), o1 = j1 → St Try.f19.ntmps F [(6, .bool j1)] [Fld KPiece b1 0 a1] a w → G a w) 1 ?_ fun J1 => ?_
  ·intro j1 a w ho_ h
   rw [ho_] at G1
   have H := G1
   rw [← som H]
   exact g_ret (vs := [.bool j1]) h Try.func19 ⟨rfl, trivial⟩ ⟨(), rfl, (h.mem.pick [] (by decide) rfl)⟩
  refine Go.reg ?_
  refine gs h (o_move rfl) rfl fun _ _ _ h => ?_
  refine gs h (o_move rfl) rfl fun _ _ _ h => ?_
  by_cases c2 : y1 = true
  ·have H := ifT c2 H
   refine gg h rfl rfl c2 (o_fa rfl t_f50_7 rfl rfl) rfl fun _ _ _ h => ?_
   have g2 := (in2 (fd_sub sPiece_Total 0 rfl h.mem))
   refine gg h rfl rfl c2 (o_lfx 0 rfl rfl sPiece_Total rfl X_int t_y3) rfl fun _ _ _ h => ?_
   refine gg h rfl rfl c2 (o_move rfl) rfl fun _ _ _ h => ?_
   refine gg h rfl rfl c2 (o_bin rfl rfl rfl) rfl fun _ _ _ h => ?_
   refine gs h (o_pickT rfl rfl c2) rfl fun _ _ _ h => ?_
   refine gs h (o_move rfl) rfl fun _ _ _ h => ?_
   by_cases c3 : (!decide (a1.Total = a3)) = true
   ·have H := ifT c3 H
    refine gk h rfl rfl (nb_t c3) rfl fun _ h => ?_
    refine gk h rfl rfl (nb_t c3) rfl fun _ h => ?_
    refine gk h rfl rfl (nb_t c3) rfl fun _ h => ?_
    refine gk h rfl rfl (nb_t c3) rfl fun _ h => ?_
    refine gk h rfl rfl (nb_t c3) rfl fun _ h => ?_
    refine gs h (o_pickT rfl rfl c3) rfl fun _ _ _ h => ?_
    refine gs h (o_assign rfl) rfl fun _ _ _ h => ?_
    refine GoR.done ?_
    exact J1 true _ _ (som H).symm (h.wk (by rfl) [0] (by decide) (by rfl))
   ·have H := ifF c3 H
    refine gg h rfl rfl (nbF c3) (o_fa rfl t_f50_5 rfl rfl) rfl fun _ _ _ h => ?_
    refine gg h rfl rfl (nbF c3) (o_lfv 0 rfl rfl sPiece_Data rfl Per_sl t_y25) rfl fun v2 _ _ h => ?_
    have g3 := (len_at 0 rfl h.mem)
    refine gg h rfl rfl (nbF c3) (o_ln rfl (rd_at 0 rfl) t_v25) rfl fun _ _ _ h => ?_
    refine gg h rfl rfl (nbF c3) (o_move rfl) rfl fun _ _ _ h => ?_
    refine gg h rfl rfl (nbF c3) (o_bin rfl rfl rfl) rfl fun _ _ _ h => ?_
    refine gs h (o_pickF rfl rfl c3) rfl fun _ _ _ h => ?_
    obtain ⟨y2, ey2, H⟩ := ltE H
    refine gs h (o_assign' rfl (congrArg Value.bool ey2)) rfl fun _ _ _ h => ?_
    refine GoR.done ?_
    exact J1 y2 _ _ (som H).symm (h.wk (by rfl) [1] (by decide) (by rfl))
  ·have H := ifF c2 H
   refine gk h rfl rfl (nb_f c2) rfl fun _ h => ?_
   refine gk h rfl rfl (nb_f c2) rfl fun _ h => ?_
   refine gk h rfl rfl (nb_f c2) rfl fun _ h => ?_
   refine gk h rfl rfl (nb_f c2) rfl fun _ h => ?_
   refine gs h (o_pickF rfl rfl c2) rfl fun _ _ _ h => ?_
   refine gs h (o_move rfl) rfl fun _ _ _ h => ?_
   refine gg h rfl rfl (nbF Bool.false_ne_true) (o_fa rfl t_f50_5 rfl rfl) rfl fun _ _ _ h => ?_
   refine gg h rfl rfl (nbF Bool.false_ne_true) (o_lfv 0 rfl rfl sPiece_Data rfl Per_sl t_y25) rfl fun v3 _ _ h => ?_
   have g4 := (len_at 0 rfl h.mem)
   refine gg h rfl rfl (nbF Bool.false_ne_true) (o_ln rfl (rd_at 0 rfl) t_v25) rfl fun _ _ _ h => ?_
   refine gg h rfl rfl (nbF Bool.false_ne_true) (o_move rfl) rfl fun _ _ _ h => ?_
   refine gg h rfl rfl (nbF Bool.false_ne_true) (o_bin rfl rfl rfl) rfl fun _ _ _ h => ?_
   refine gs h (o_pickF rfl rfl Bool.false_ne_true) rfl fun _ _ _ h => ?_
   obtain ⟨y3, ey3, H⟩ := ltE H
   refine gs h (o_assign' rfl (congrArg Value.bool ey3)) rfl fun _ _ _ h => ?_
   refine GoR.done ?_
   exact J1 y3 _ _ (som H).symm (h.wk (by rfl) [1] (by decide) (by rfl))
 ·have H := ifF c1 H
  refine g_f h rfl c1 ?_
  refine Go.skip ?_
  refine Go.seq ?_
  obtain ⟨o2, H, G2⟩ := bindE H
  refine g_cut (fun G => ∀ j2 (a : Act) (w : World), o2 = j2 → St Try.f19.ntmps F [(6, .bool j2)] [Fld KPiece b1 0 a1] a w → G a w) 1 ?_ fun J2 => ?_
  ·intro j2 a w ho_ h
   rw [ho_] at G2
   have H := G2
   rw [← som H]
   exact g_ret (vs := [.bool j2]) h Try.func19 ⟨rfl, trivial⟩ ⟨(), rfl, (h.mem.pick [] (by decide) rfl)⟩
  refine Go.reg ?_
  refine gs h (o_move rfl) rfl fun _ _ _ h => ?_
  refine gs h (o_move rfl) rfl fun _ _ _ h => ?_
  by_cases c4 : y1 = true
  ·have H := ifT c4 H
   refine gg h rfl rfl c4 (o_move rfl) rfl fun _ _ _ h => ?_
   refine gg h rfl rfl c4 (o_fa rfl t_f50_7 rfl rfl) rfl fun _ _ _ h => ?_
   have g5 := (in2 (fd_sub sPiece_Total 0 rfl h.mem))
   refine gg h rfl rfl c4 (o_lfx 0 rfl rfl sPiece_Total rfl X_int t_y3) rfl fun _ _ _ h => ?_
   refine gg h rfl rfl c4 (o_bin rfl rfl rfl) rfl fun _ _ _ h => ?_
   refine gs h (o_pickT rfl rfl c4) rfl fun _ _ _ h => ?_
   obtain ⟨y4, ey4, H⟩ := ltE H
   refine gs h (o_assign' rfl (congrArg Value.bool ey4)) rfl fun _ _ _ h => ?_
   refine GoR.done ?_
   exact J2 y4 _ _ (som H).symm (h.wk (by rfl) [0] (by decide) (by rfl))
  ·have H := ifF c4 H
   refine gk h rfl rfl (nb_f c4) rfl fun _ h => ?_
   refine gk h rfl rfl (nb_f c4) rfl fun _ h => ?_
   refine gk h rfl rfl (nb_f c4) rfl fun _ h => ?_
   refine gk h rfl rfl (nb_f c4) rfl fun _ h => ?_
   refine gs h (o_pickF rfl rfl c4) rfl fun _ _ _ h => ?_
   refine gs h (o_assign rfl) rfl fun _ _ _ h => ?_
   refine GoR.done ?_
   exact J2 false _ _ (som H).symm (h.wk (by rfl) [0] (by decide) (by rfl))
def reasm_drops.g (k_ : Nat) (a1 : TPiece) (a2 : Bool) (a3 : Int) : Option (Bool) :=
  lt (decide (0 ≤ a1.Total)) fun y1 => (if a2 = true then ((if y1 = true then (if (!decide (a1.Total = a3)) = true then some (true) else lt (decide (a3 < (a1.Data.length : Int))) fun y2 => some (y2)) else lt (decide (a3 < (a1.Data.length : Int))) fun y3 => some (y3))).bind (fun j1 => some (j1)) else ((if y1 = true then lt (decide (a1.Total < a3)) fun y4 => some (y4) else some (false))).bind (fun j2 => some (j2)))
theorem reasm_drops.le (k_ : Nat) (a1 : TPiece) (a2 : Bool) (a3 : Int) : Le (reasm_drops.g k_ a1 a2 a3) (reasm_drops.f a1 a2 a3) := by
 unfold reasm_drops.g reasm_drops.f
 repeat' (first | with_reducible refine le_loop fun _ => ?_ | with_reducible refine le_bind ?_ fun _ => ?_ | with_reducible refine le_ite ?_ ?_ | with_reducible refine le_lt fun _ => ?_ | with_reducible refine le_elim (fun _ => ?_) (fun _ => ?_) _ | with_reducible exact le_refl _)
/-! drawbridge/reasm.put -/
noncomputable def reasm_put.f (a1 : TPiece) (a2 : Int) (a3 : List Int) : Option (TPiece) :=
  lt (max (a1.Data.length : Int) (IntKind.i64.wrap (a2 + (a3.length : Int)))) fun y1 => (mk y1 0).bind fun x1 => (mk y1 false).bind fun x2 => lt (ovr x1 0 (x1.length : Int) a1.Data) fun y2 => lt (ovr x2 0 (x2.length : Int) a1.Have) fun y3 => (loop (fun s1 => (if decide (s1.2.2 < (a3.length : Int)) = true then (((idx a3 s1.2.2).bind fun x3 => (idx s1.2.1 (IntKind.i64.wrap (a2 + s1.2.2))).bind fun x4 => (if (!x4) = true then (idx s1.1 (IntKind.i64.wrap (a2 + s1.2.2))).bind fun x5 => lt (s1.1.set (IntKind.i64.wrap (a2 + s1.2.2)).toNat x3) fun y4 => (idx s1.2.1 (IntKind.i64.wrap (a2 + s1.2.2))).bind fun x6 => lt (s1.2.1.set (IntKind.i64.wrap (a2 + s1.2.2)).toNat true) fun y5 => some ((y4, y5)) else some ((s1.1, s1.2.1)))).bind (fun j1 => some ((j1.1, j1.2)))).bind (fun j2 => some (.inl (j2.1, j2.2, IntKind.i64.wrap (s1.2.2 + 1)))) else some (.inr ((s1.1, s1.2.1))))) (y2, y3, 0)).bind (fun j3 => some ((⟨a1.Src, a1.Dst, a1.Id, a1.Proto, a1.Until, j3.1, j3.2, a1.Total⟩ : TPiece)))
set_option maxRecDepth 100000 in
set_option maxHeartbeats 4000000 in
theorem reasm_put.spc (v1 : Value) (a1 : TPiece) (a2 : Int) (ha2 : InR .i64 a2) (v2 : Value) (a3 : List Int) (r : TPiece) (H : reasm_put.f a1 a2 a3 = some r) : Spc Try.prog 20 [v1, .int .i64 a2, v2] [Val KPiece v1 a1, Val (Kd.sl (Kd.int .u8)) v2 a3] [] (fun (s : Value) => s) (fun s => [Val KPiece s r]) := by
 unfold reasm_put.f at H
 refine Spc.go Try.func20 rfl (by kernel_rfl) rfl rfl (all_cons (Val.per PPiece) (all_cons (Val.per Per_sl) all_nil)) fun F a w h => ?_
 refine Go.seq ?_
 refine Go.reg ?_
 refine gs h (o_box (K := KPiece) rfl (pv_at PPiece 0 rfl)) rfl fun b1 _ _ h => ?_
 refine gs h (o_alloc (K := KPiece) (z := (.agg #[.int .u32 0, .int .u32 0, .int .i64 0, .int .i64 0, .int .i64 0, .slice none 0 0, .slice none 0 0, .int .i64 0])) rfl ZPiece) rfl fun b2 _ _ h => ?_
 refine GoR.done ?_
 refine Go.seq ?_
 refine Go.reg ?_
 refine gs h (o_fa rfl t_f50_5 rfl rfl) rfl fun _ _ _ h => ?_
 refine gs h (o_lfv 1 rfl rfl sPiece_Data rfl Per_sl t_y25) rfl fun v3 _ _ h => ?_
 have g1 := (len_at 0 rfl h.mem)
 refine gs h (o_ln rfl (rd_at 0 rfl) t_v25) rfl fun _ _ _ h => ?_
 refine gs h (o_move rfl) rfl fun _ _ _ h => ?_
 refine gs h (o_move rfl) rfl fun _ _ _ h => ?_
 have g2 := (len_at 4 rfl h.mem)
 refine gs h (o_ln rfl (rd_at 4 rfl) t_v25) rfl fun _ _ _ h => ?_
 refine gs h (o_bin rfl rfl rfl) rfl fun _ _ _ h => ?_
 refine gs h (o_max rfl rfl) rfl fun _ _ _ h => ?_
 obtain ⟨y1, ey1, H⟩ := ltE H
 refine gs h (o_assign' rfl (congrArg (fun z => Value.int .i64 z) ey1)) rfl fun _ _ _ h => ?_
 refine GoR.done ?_
 refine Go.seq ?_
 replace h := h.wk (E' := [(1, .int .i64 a2), (2, v2), (3, .pointer (some ⟨b1, 0, none⟩)), (6, .pointer (some ⟨b2, 0, none⟩)), (7, .int .i64 y1)]) (L' := [Val (Kd.sl (Kd.int .u8)) v3 a1.Data, Fld KPiece b2 0 zPiece, Fld KPiece b1 0 a1, Val KPiece v1 a1, Val (Kd.sl (Kd.int .u8)) v2 a3]) (by rfl) [0, 1, 2, 3, 4] (by decide) (by rfl)
 obtain ⟨x1, ex1, H⟩ := bindE H
 obtain ⟨x2, ex2, H⟩ := bindE H
 refine Go.draw (L := [Val (Kd.sl (Kd.int .u8)) v3 a1.Data, Fld KPiece b2 0 zPiece, Fld KPiece b1 0 a1, Val KPiece v1 a1, Val (Kd.sl (Kd.int .u8)) v2 a3]) h 5 [⟨[], [], [], false, .con (.int .i64 y1), none, fun u => []⟩, ⟨[0], [], [], false, .own, none, fun u => [Val (Kd.osl (Kd.int .u8)) u x1]⟩, ⟨[], [], [], false, .con (.int .i64 y1), none, fun u => []⟩, ⟨[2], [], [], false, .own, none, fun u => [Val (Kd.osl Kd.bool) u x2]⟩, ⟨[0, 1], [], [], false, .fn (fun u => u) 1, none, fun u => []⟩] rfl t_mxo (by kernel_rfl) (by rfl) ?_ fun f1 _ _ h => ?_
 ·exact obs_cons (ob_con rfl (gok_none rfl) rfl fun f1 => (o_move rfl)) (obs_cons (ob_own rfl (gok_none rfl) rfl fun f1 => (o_mk (K := (Kd.int .u8)) rfl rfl ex1 t_a25 (by decide) (fun e he => ⟨[.int .u8 0], by cases he; exact t_zc5, z_int⟩))) (obs_cons (ob_con rfl (gok_none rfl) rfl fun f1 => (o_move rfl)) (obs_cons (ob_own rfl (gok_none rfl) rfl fun f1 => (o_mk (K := Kd.bool) rfl rfl ex2 t_a38 (by decide) (fun e he => ⟨[.bool false], by cases he; exact t_zc4, z_bool⟩))) (obs_cons (ob_fn rfl (gok_none rfl) rfl fun f1 => (o_assign rfl)) (obs_nil)))))
 replace h := h.wk (E' := [(1, .int .i64 a2), (2, v2), (3, .pointer (some ⟨b1, 0, none⟩)), (6, .pointer (some ⟨b2, 0, none⟩)), (23, (f1 3)), (8, (f1 1))]) (L' := [Val (Kd.osl (Kd.int .u8)) (f1 1) x1, Val (Kd.osl Kd.bool) (f1 3) x2, Val (Kd.sl (Kd.int .u8)) v3 a1.Data, Fld KPiece b2 0 zPiece, Fld KPiece b1 0 a1, Val KPiece v1 a1, Val (Kd.sl (Kd.int .u8)) v2 a3]) (by kernel_rfl) [0, 1, 2, 3, 4, 5, 6] (by decide) (by kernel_rfl)
 refine gs h (o_assign rfl) rfl fun _ _ _ h => ?_
 refine GoR.done ?_
 refine Go.seq ?_
 refine Go.reg ?_
 refine gs h (o_move rfl) rfl fun _ _ _ h => ?_
 refine gs h (o_fa rfl t_f50_5 rfl rfl) rfl fun _ _ _ h => ?_
 refine gs h (o_lfv 4 rfl rfl sPiece_Data rfl Per_sl t_y25) rfl fun v6 _ _ h => ?_
 obtain ⟨y2, ey2, H⟩ := ltE H
 refine gs h (o_cpf 1 rfl rfl rfl (rd_at 0 rfl) t_a25) rfl fun _ _ _ h => ?_
 rw [ey2] at h
 refine GoR.done ?_
 refine Go.seq ?_
 refine Go.reg ?_
 refine gs h (o_move rfl) rfl fun _ _ _ h => ?_
 refine gs h (o_fa rfl t_f50_6 rfl rfl) rfl fun _ _ _ h => ?_
 refine gs h (o_lfv 5 rfl rfl sPiece_Have rfl Per_sl t_y38) rfl fun v7 _ _ h => ?_
 obtain ⟨y3, ey3, H⟩ := ltE H
 refine gs h (o_cpf 3 rfl rfl rfl (rd_at 0 rfl) t_a38) rfl fun _ _ _ h => ?_
 rw [ey3] at h
 refine GoR.done ?_
 refine Go.seq ?_
 refine Go.seq ?_
 refine Go.reg ?_
 refine gs h (o_move rfl) rfl fun _ _ _ h => ?_
 have g3 := (len_at 8 rfl h.mem)
 refine gs h (o_ln rfl (rd_at 8 rfl) t_v25) rfl fun _ _ _ h => ?_
 refine gs h (o_move rfl) rfl fun _ _ _ h => ?_
 refine GoR.done ?_
 refine Go.block ?_
 obtain ⟨o1, hl, G1⟩ := bindE H
 refine g_cut (fun G => ∀ j3 (v8 : Value) (v9 : Value) (a : Act) (w : World), o1 = j3 → St Try.f20.ntmps F [(3, .pointer (some ⟨b1, 0, none⟩)), (6, .pointer (some ⟨b2, 0, none⟩)), (8, v8), (9, v9)] [Val (Kd.osl (Kd.int .u8)) v8 j3.1, Val (Kd.osl Kd.bool) v9 j3.2, Fld KPiece b2 0 zPiece, Fld KPiece b1 0 a1] a w → G a w) 2 ?_ fun J3 => ?_
 ·intro j3 v8 v9 a w ho_ h
  rw [ho_] at G1
  have H := G1
  refine Go.seq ?_
  refine Go.reg ?_
  refine gs h (o_move rfl) rfl fun _ _ _ h => ?_
  refine gs h (o_move rfl) rfl fun _ _ _ h => ?_
  refine gs h (o_fa rfl t_f50_5 rfl rfl) rfl fun _ _ _ h => ?_
  replace h := h.mm fun m => (m.take (i := 3) rfl).opn (cPiece _ _)
  replace h := h.mm fun m => m.freeze 8 rfl
  refine gs0 h (o_st 5 rfl rfl rfl (pv_at Per_sl 8 rfl) rfl t_w25) fun _ _ _ h => ?_
  refine gs h (o_fa rfl t_f50_6 rfl rfl) rfl fun _ _ _ h => ?_
  replace h := h.mm fun m => m.freeze 9 rfl
  refine gs0 h (o_st 6 rfl rfl rfl (pv_at Per_sl 9 rfl) rfl t_w38) fun _ _ _ h => ?_
  refine GoR.done ?_
  refine Go.seq ?_
  refine Go.reg ?_
  replace h := h.mm fun m => (m.pull (Lo := [Fld (Kd.int .u32) b1 0 a1.Src, Fld (Kd.int .u32) b1 1 a1.Dst, Fld (Kd.int .i64) b1 2 a1.Id, Fld (Kd.int .i64) b1 3 a1.Proto, Fld (Kd.int .i64) b1 4 a1.Until, Fld (Kd.sl (Kd.int .u8)) b1 5 j3.1, Fld (Kd.sl Kd.bool) b1 6 j3.2, Fld (Kd.int .i64) b1 7 a1.Total]) [0, 1, 2, 3, 4, 5, 6, 7] (by decide) rfl).cls (cPiece _ (⟨a1.Src, a1.Dst, a1.Id, a1.Proto, a1.Until, j3.1, j3.2, a1.Total⟩ : TPiece))
  refine gs h (o_ldv 0 rfl rfl PPiece t_y50) rfl fun v10 _ _ h => ?_
  refine gs0 h (o_st 12 rfl rfl rfl (pv_at PPiece 0 rfl) rfl t_w50) fun _ _ _ h => ?_
  refine GoR.done ?_
  obtain ⟨v11, h, u1⟩ := h.peek 12 rfl PPiece t_y50
  rw [← som H]
  exact g_ret (vs := [v11]) h Try.func20 ⟨⟨_, rfl, u1⟩, trivial⟩ ⟨v11, rfl, (h.mem.pick [0] (by decide) rfl)⟩
 refine g_loop (fun s1 G => ∀  (a : Act) (w : World), InR .i64 s1.2.2 → St Try.f20.ntmps F [(1, .int .i64 a2), (3, .pointer (some ⟨b1, 0, none⟩)), (6, .pointer (some ⟨b2, 0, none⟩)), (8, (f1 1)), (9, (f1 3)), (32, v2), (33, .int .i64 (a3.length : Int)), (34, .int .i64 s1.2.2)] [Val (Kd.osl (Kd.int .u8)) (f1 1) s1.1, Val (Kd.osl Kd.bool) (f1 3) s1.2.1, Val (Kd.sl (Kd.int .u8)) v2 a3, Fld KPiece b2 0 zPiece, Fld KPiece b1 0 a1] a w → G a w) hl (fun s1 p1 H i1 => ?_) fun I_ => ?_
 ·intro  a w g4 h
  refine Go.seq ?_
  refine Go.reg ?_
  refine gs h (o_bin rfl rfl rfl) rfl fun _ _ _ h => ?_
  refine GoR.done ?_
  refine Go.seq ?_
  by_cases c1 : decide (s1.2.2 < (a3.length : Int)) = true
  ·have H := ifT c1 H
   refine g_t h rfl c1 ?_
   refine Go.skip ?_
   refine Go.seq ?_
   obtain ⟨o2, H, G2⟩ := bindE H
   refine g_cut (fun G => ∀ j2 (a : Act) (w : World), o2 = j2 → St Try.f20.ntmps F [(1, .int .i64 a2), (3, .pointer (some ⟨b1, 0, none⟩)), (6, .pointer (some ⟨b2, 0, none⟩)), (8, (f1 1)), (9, (f1 3)), (32, v2), (33, .int .i64 (a3.length : Int)), (34, .int .i64 s1.2.2)] [Val (Kd.osl (Kd.int .u8)) (f1 1) j2.1, Val (Kd.osl Kd.bool) (f1 3) j2.2, Val (Kd.sl (Kd.int .u8)) v2 a3, Fld KPiece b2 0 zPiece, Fld KPiece b1 0 a1] a w → G a w) 1 ?_ fun J2 => ?_
   ·intro j2 a w ho_ h
    rw [ho_] at G2
    have H := G2
    refine Go.reg ?_
    refine gs h (o_bin rfl rfl rfl) rfl fun _ _ _ h => ?_
    refine gs h (o_move rfl) rfl fun _ _ _ h => ?_
    refine GoR.done ?_
    have e_ := som H; subst e_
    exact Go.inLoop (nx_in i1 _ _ (wrap_in _ _) (h.wk (by rfl) [0, 1, 2, 3, 4] (by decide) (by rfl)))
   refine Go.block ?_
   obtain ⟨o3, H, G3⟩ := bindE H
   refine g_cut (fun G => ∀ j1 (a : Act) (w : World), o3 = j1 → St Try.f20.ntmps F [(1, .int .i64 a2), (3, .pointer (some ⟨b1, 0, none⟩)), (6, .pointer (some ⟨b2, 0, none⟩)), (8, (f1 1)), (9, (f1 3)), (32, v2), (33, .int .i64 (a3.length : Int)), (34, .int .i64 s1.2.2)] [Val (Kd.osl (Kd.int .u8)) (f1 1) j1.1, Val (Kd.osl Kd.bool) (f1 3) j1.2, Val (Kd.sl (Kd.int .u8)) v2 a3, Fld KPiece b2 0 zPiece, Fld KPiece b1 0 a1] a w → G a w) 2 ?_ fun J1 => ?_
   ·intro j1 a w ho_ h
    rw [ho_] at G3
    have H := G3
    exact J2 (j1.1, j1.2) _ _ (som H).symm (h.wk (by rfl) [0, 1, 2, 3, 4] (by decide) (by rfl))
   refine Go.seq ?_
   refine Go.reg ?_
   refine gs h (o_move rfl) rfl fun _ _ _ h => ?_
   obtain ⟨x3, ex3, H⟩ := bindE H
   refine gs h (o_ix rfl rfl (rd_at 2 rfl) ex3 t_v25) rfl fun _ _ _ h => ?_
   have g5 := (rd_inr (rd_at 2 rfl) ex3 h.mem)
   refine gs h (o_lex rfl (rd_at 2 rfl) ex3 X_int t_y5 (by decide)) rfl fun _ _ _ h => ?_
   refine gs h (o_assign rfl) rfl fun _ _ _ h => ?_
   refine gs h (o_assign rfl) rfl fun _ _ _ h => ?_
   refine GoR.done ?_
   refine Go.seq ?_
   refine Go.reg ?_
   refine gs h (o_move rfl) rfl fun _ _ _ h => ?_
   refine gs h (o_move rfl) rfl fun _ _ _ h => ?_
   refine gs h (o_move rfl) rfl fun _ _ _ h => ?_
   refine gs h (o_bin rfl rfl rfl) rfl fun _ _ _ h => ?_
   obtain ⟨x4, ex4, H⟩ := bindE H
   refine gs h (o_ix rfl rfl (rd_own 1 rfl) ex4 t_v38) rfl fun _ _ _ h => ?_
   refine gs h (o_lex rfl (rd_own 1 rfl) ex4 X_bool t_y4 (by decide)) rfl fun _ _ _ h => ?_
   refine gs h (o_not rfl) rfl fun _ _ _ h => ?_
   refine GoR.done ?_
   by_cases c2 : (!x4) = true
   ·have H := ifT c2 H
    refine g_t h rfl c2 ?_
    refine Go.reg ?_
    refine gs h (o_move rfl) rfl fun _ _ _ h => ?_
    refine gs h (o_move rfl) rfl fun _ _ _ h => ?_
    refine gs h (o_move rfl) rfl fun _ _ _ h => ?_
    refine gs h (o_bin rfl rfl rfl) rfl fun _ _ _ h => ?_
    refine gs h (o_move rfl) rfl fun _ _ _ h => ?_
    refine gs h (o_move rfl) rfl fun _ _ _ h => ?_
    refine gs h (o_move rfl) rfl fun _ _ _ h => ?_
    refine gs h (o_bin rfl rfl rfl) rfl fun _ _ _ h => ?_
    refine gs h (o_move rfl) rfl fun _ _ _ h => ?_
    obtain ⟨x5, ex5, H⟩ := bindE H
    refine gs h (o_ix rfl rfl (rd_own 0 rfl) ex5 t_v25) rfl fun _ _ _ h => ?_
    obtain ⟨y4, ey4, H⟩ := ltE H
    refine gs0 h (o_ste 0 rfl rfl rfl (pv_int g5) ex5 t_w5 (by decide)) fun _ _ _ h => ?_
    rw [ey4] at h
    obtain ⟨x6, ex6, H⟩ := bindE H
    refine gs h (o_ix rfl rfl (rd_own 1 rfl) ex6 t_v38) rfl fun _ _ _ h => ?_
    obtain ⟨y5, ey5, H⟩ := ltE H
    refine gs0 h (o_ste 1 rfl rfl rfl pv_bool ex6 t_w4 (by decide)) fun _ _ _ h => ?_
    rw [ey5] at h
    refine GoR.done ?_
    refine Go.inBlock ?_
    exact J1 (y4, y5) _ _ (som H).symm (h.wk (by rfl) [0, 1, 2, 3, 4] (by decide) (by rfl))
   ·have H := ifF c2 H
    refine g_f h rfl c2 ?_
    refine Go.skip ?_
    refine Go.inBlock ?_
    exact J1 (s1.1, s1.2.1) _ _ (som H).symm (h.wk (by rfl) [0, 1, 2, 3, 4] (by decide) (by rfl))
  ·have H := ifF c1 H
   refine g_f h rfl c1 ?_
   refine Go.exit rfl ?_
   have e_ := som H; subst e_
   exact J3 (s1.1, s1.2.1) (f1 1) (f1 3) _ _ (nx_out i1).symm (h.wk (by rfl) [0, 1, 3, 4] (by decide) (by rfl))
 ·exact I_ _ _ (show InR .i64 0 by decide) (h.wk (by rfl) [2, 3, 8, 5, 6] (by decide) (by rfl))
def reasm_put.g (k_ : Nat) (a1 : TPiece) (a2 : Int) (a3 : List Int) : Option (TPiece) :=
  lt (max (a1.Data.length : Int) (IntKind.i64.wrap (a2 + (a3.length : Int)))) fun y1 => (mk y1 0).bind fun x1 => (mk y1 false).bind fun x2 => lt (ovr x1 0 (x1.length : Int) a1.Data) fun y2 => lt (ovr x2 0 (x2.length : Int) a1.Have) fun y3 => (loopK k_ (fun s1 => (if decide (s1.2.2 < (a3.length : Int)) = true then (((idx a3 s1.2.2).bind fun x3 => (idx s1.2.1 (IntKind.i64.wrap (a2 + s1.2.2))).bind fun x4 => (if (!x4) = true then (idx s1.1 (IntKind.i64.wrap (a2 + s1.2.2))).bind fun x5 => lt (s1.1.set (IntKind.i64.wrap (a2 + s1.2.2)).toNat x3) fun y4 => (idx s1.2.1 (IntKind.i64.wrap (a2 + s1.2.2))).bind fun x6 => lt (s1.2.1.set (IntKind.i64.wrap (a2 + s1.2.2)).toNat true) fun y5 => some ((y4, y5)) else some ((s1.1, s1.2.1)))).bind (fun j1 => some ((j1.1, j1.2)))).bind (fun j2 => some (.inl (j2.1, j2.2, IntKind.i64.wrap (s1.2.2 + 1)))) else some (.inr ((s1.1, s1.2.1))))) (y2, y3, 0)).bind (fun j3 => some ((⟨a1.Src, a1.Dst, a1.Id, a1.Proto, a1.Until, j3.1, j3.2, a1.Total⟩ : TPiece)))
theorem reasm_put.le (k_ : Nat) (a1 : TPiece) (a2 : Int) (a3 : List Int) : Le (reasm_put.g k_ a1 a2 a3) (reasm_put.f a1 a2 a3) := by
 unfold reasm_put.g reasm_put.f
 repeat' (first | with_reducible refine le_loop fun _ => ?_ | with_reducible refine le_bind ?_ fun _ => ?_ | with_reducible refine le_ite ?_ ?_ | with_reducible refine le_lt fun _ => ?_ | with_reducible refine le_elim (fun _ => ?_) (fun _ => ?_) _ | with_reducible exact le_refl _)
/-! slices.Index[[]bool,bool] -/
noncomputable def slices_Index_s_bool_bool.f (a1 : List Bool) (a2 : Bool) : Option (Int) :=
  (loop (fun s1 => (if decide (s1 < (a1.length : Int)) = true then (idx a1 s1).bind fun x1 => (if (a2 == x1) = true then some (.inr (.inr (s1))) else some (.inl (IntKind.i64.wrap (s1 + 1)))) else some (.inr (.inl (()))))) 0).bind (Sum.elim (fun j1 => some ((-1))) (fun z_ => some (z_)))
set_option maxRecDepth 100000 in
set_option maxHeartbeats 4000000 in
theorem slices_Index_s_bool_bool.spc (v1 : Value) (a1 : List Bool) (a2 : Bool) (r : Int) (H : slices_Index_s_bool_bool.f a1 a2 = some r) : Spc Try.prog 33 [v1, .bool a2] [Val (Kd.sl Kd.bool) v1 a1] [] (fun (s : Unit) => .int .i64 r) (fun s => [Ent.pur (InR .i64 r)]) := by
 unfold slices_Index_s_bool_bool.f at H
 refine Spc.go Try.func33 rfl (by kernel_rfl) rfl rfl (all_cons (Val.per Per_sl) all_nil) fun F a w h => ?_
 refine Go.seq ?_
 refine Go.reg ?_
 refine gs h (o_assign rfl) rfl fun _ _ _ h => ?_
 refine GoR.done ?_
 refine Go.seq ?_
 refine Go.seq ?_
 refine Go.reg ?_
 refine gs h (o_move rfl) rfl fun _ _ _ h => ?_
 have g1 := (len_at 0 rfl h.mem)
 refine gs h (o_ln rfl (rd_at 0 rfl) t_v38) rfl fun _ _ _ h => ?_
 refine gs h (o_move rfl) rfl fun _ _ _ h => ?_
 refine GoR.done ?_
 refine Go.block ?_
 obtain ⟨o1, hl, G1⟩ := bindE H
 refine g_cut (fun G => ∀ j1 (a : Act) (w : World), o1 = .inl (j1) → St Try.f33.ntmps F [] [] a w → G a w) 2 ?_ fun J1 => ?_
 ·intro j1 a w ho_ h
  rw [ho_] at G1
  have H := G1
  refine Go.seq ?_
  refine Go.reg ?_
  refine gs h (o_assign rfl) rfl fun _ _ _ h => ?_
  refine GoR.done ?_
  rw [← som H]
  exact g_ret (vs := [.int .i64 (-1)]) h Try.func33 ⟨rfl, trivial⟩ ⟨(), rfl, ((h.mem.pick [] (by decide) rfl).addpur (show InR .i64 (-1) by decide))⟩
 refine g_loop (fun s1 G => ∀  (a : Act) (w : World), InR .i64 s1 → St Try.f33.ntmps F [(0, v1), (1, .bool a2), (7, .int .i64 (a1.length : Int)), (8, .int .i64 s1)] [Val (Kd.sl Kd.bool) v1 a1] a w → G a w) hl (fun s1 p1 H i1 => ?_) fun I_ => ?_
 ·intro  a w g2 h
  refine Go.seq ?_
  refine Go.reg ?_
  refine gs h (o_bin rfl rfl rfl) rfl fun _ _ _ h => ?_
  refine GoR.done ?_
  refine Go.seq ?_
  by_cases c1 : decide (s1 < (a1.length : Int)) = true
  ·have H := ifT c1 H
   refine g_t h rfl c1 ?_
   refine Go.skip ?_
   refine Go.seq ?_
   refine Go.block ?_
   refine Go.seq ?_
   refine Go.reg ?_
   refine gs h (o_move rfl) rfl fun _ _ _ h => ?_
   refine gs h (o_assign rfl) rfl fun _ _ _ h => ?_
   refine GoR.done ?_
   refine Go.seq ?_
   refine Go.reg ?_
   refine gs h (o_move rfl) rfl fun _ _ _ h => ?_
   refine gs h (o_move rfl) rfl fun _ _ _ h => ?_
   refine gs h (o_move rfl) rfl fun _ _ _ h => ?_
   obtain ⟨x1, ex1, H⟩ := bindE H
   refine gs h (o_ix rfl rfl (rd_at 0 rfl) ex1 t_v38) rfl fun _ _ _ h => ?_
   refine gs h (o_lex rfl (rd_at 0 rfl) ex1 X_bool t_y4 (by decide)) rfl fun _ _ _ h => ?_
   refine gs h (o_eqb rfl rfl t_u4) rfl fun _ _ _ h => ?_
   refine GoR.done ?_
   by_cases c2 : (a2 == x1) = true
   ·have H := ifT c2 H
    refine g_t h rfl c2 ?_
    refine Go.seq ?_
    refine Go.reg ?_
    refine gs h (o_move rfl) rfl fun _ _ _ h => ?_
    refine gs h (o_assign rfl) rfl fun _ _ _ h => ?_
    refine GoR.done ?_
    have e_ := som H; subst e_
    rw [← nx_out i1] at G1
    have H := G1
    rw [← som H]
    exact g_ret (vs := [.int .i64 s1]) h Try.func33 ⟨rfl, trivial⟩ ⟨(), rfl, ((h.mem.pick [] (by decide) rfl).addpur g2)⟩
   ·have H := ifF c2 H
    refine g_f h rfl c2 ?_
    refine Go.skip ?_
    refine Go.inBlock ?_
    refine Go.reg ?_
    refine gs h (o_bin rfl rfl rfl) rfl fun _ _ _ h => ?_
    refine gs h (o_move rfl) rfl fun _ _ _ h => ?_
    refine GoR.done ?_
    have e_ := som H; subst e_
    exact Go.inLoop (nx_in i1 _ _ (wrap_in _ _) (h.wk (by rfl) [0] (by decide) (by rfl)))
  ·have H := ifF c1 H
   refine g_f h rfl c1 ?_
   refine Go.exit rfl ?_
   have e_ := som H; subst e_
   exact J1 () _ _ (nx_out i1).symm (h.wk (by rfl) [] (by decide) (by rfl))
 ·exact I_ _ _ (show InR .i64 0 by decide) (h.wk (by rfl) [0] (by decide) (by rfl))
def slices_Index_s_bool_bool.g (k_ : Nat) (a1 : List Bool) (a2 : Bool) : Option (Int) :=
  (loopK k_ (fun s1 => (if decide (s1 < (a1.length : Int)) = true then (idx a1 s1).bind fun x1 => (if (a2 == x1) = true then some (.inr (.inr (s1))) else some (.inl (IntKind.i64.wrap (s1 + 1)))) else some (.inr (.inl (()))))) 0).bind (Sum.elim (fun j1 => some ((-1))) (fun z_ => some (z_)))
theorem slices_Index_s_bool_bool.le (k_ : Nat) (a1 : List Bool) (a2 : Bool) : Le (slices_Index_s_bool_bool.g k_ a1 a2) (slices_Index_s_bool_bool.f a1 a2) := by
 unfold slices_Index_s_bool_bool.g slices_Index_s_bool_bool.f
 repeat' (first | with_reducible refine le_loop fun _ => ?_ | with_reducible refine le_bind ?_ fun _ => ?_ | with_reducible refine le_ite ?_ ?_ | with_reducible refine le_lt fun _ => ?_ | with_reducible refine le_elim (fun _ => ?_) (fun _ => ?_) _ | with_reducible exact le_refl _)
/-! slices.Contains[[]bool,bool] -/
noncomputable def slices_Contains_s_bool_bool.f (a1 : List Bool) (a2 : Bool) : Option (Bool) :=
  (slices_Index_s_bool_bool.f a1 a2).bind fun r1 => lt (decide (0 ≤ r1)) fun y1 => some (y1)
set_option maxRecDepth 100000 in
set_option maxHeartbeats 4000000 in
theorem slices_Contains_s_bool_bool.spc (v1 : Value) (a1 : List Bool) (a2 : Bool) (r : Bool) (H : slices_Contains_s_bool_bool.f a1 a2 = some r) : Spc Try.prog 21 [v1, .bool a2] [Val (Kd.sl Kd.bool) v1 a1] [] (fun (s : Unit) => .bool r) (fun s => []) := by
 unfold slices_Contains_s_bool_bool.f at H
 refine Spc.go Try.func21 rfl (by kernel_rfl) rfl rfl (all_cons (Val.per Per_sl) all_nil) fun F a w h => ?_
 refine Go.seq ?_
 refine Go.reg ?_
 refine gs h (o_assign rfl) rfl fun _ _ _ h => ?_
 refine GoR.done ?_
 refine Go.seq ?_
 refine Go.reg ?_
 refine gs h (o_move rfl) rfl fun _ _ _ h => ?_
 refine gs h (o_move rfl) rfl fun _ _ _ h => ?_
 obtain ⟨r1, er1, H⟩ := bindE H
 refine gs h (o_call (slices_Index_s_bool_bool.spc v1 a1 a2 r1 er1) rfl [0] [] (by decide) rfl rfl) rfl fun _ _ _ h => ?_
 have g1 := h.mem.pur 0 rfl
 refine gs h (o_bin rfl rfl rfl) rfl fun _ _ _ h => ?_
 obtain ⟨y1, ey1, H⟩ := ltE H
 refine gs h (o_assign' rfl (congrArg Value.bool ey1)) rfl fun _ _ _ h => ?_
 refine GoR.done ?_
 rw [← som H]
 exact g_ret (vs := [.bool y1]) h Try.func21 ⟨rfl, trivial⟩ ⟨(), rfl, (h.mem.pick [] (by decide) rfl)⟩
def slices_Contains_s_bool_bool.g (k_ : Nat) (a1 : List Bool) (a2 : Bool) : Option (Bool) :=
  (slices_Index_s_bool_bool.g k_ a1 a2).bind fun r1 => lt (decide (0 ≤ r1)) fun y1 => some (y1)
theorem slices_Contains_s_bool_bool.le (k_ : Nat) (a1 : List Bool) (a2 : Bool) : Le (slices_Contains_s_bool_bool.g k_ a1 a2) (slices_Contains_s_bool_bool.f a1 a2) := by
 unfold slices_Contains_s_bool_bool.g slices_Contains_s_bool_bool.f
 repeat' (first | with_reducible refine le_loop fun _ => ?_ | with_reducible refine le_bind ?_ fun _ => ?_ | with_reducible refine le_ite ?_ ?_ | with_reducible refine le_lt fun _ => ?_ | with_reducible refine le_elim (fun _ => ?_) (fun _ => ?_) _ | with_reducible apply slices_Index_s_bool_bool.le | with_reducible exact le_refl _)
end Go.Proofs.Ytlpjgmbbcibkjaa.S
