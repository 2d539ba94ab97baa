/- Contracts, printed by a program of this session. -/
import Derived.Test.YtplkiompmjhdlaaT1
import Derived.Test.YtplkiompmjhdlaaT2
import Derived.Test.YtplkiompmjhdlaaT3
namespace Go.Proofs.Ytplkiompmjhdlaa.S
open Go Go.SL Go.RowKit
set_option linter.unusedVariables false
set_option linter.unusedSimpArgs false
/-! drawbridge/ether.errno -/
noncomputable def ether_errno.f (a1 : Option Trefusal) : Option (Int) :=
  (loop (fun s1 => (if decide (s1 < (([160, 161] : List Int).length : Int)) = true then (idx ([160, 161] : List Int) s1).bind fun x1 => (errors_Is.f a1 x1).bind fun r1 => (if r1 = true then some (.inr (.inr (x1))) else some (.inl (IntKind.i64.wrap (s1 + 1)))) else some (.inr (.inl (()))))) 0).bind (Sum.elim (fun j1 => some (0)) (fun z_ => some (z_)))
set_option maxRecDepth 100000 in
set_option maxHeartbeats 4000000 in
theorem ether_errno.spc (v1 : Value) (a1 : Option Trefusal) (r : Int) (H : ether_errno.f a1 = some r) : Spc Try.prog 23 [v1] [Val (Kd.erp 71 Krefusal) v1 a1] [] (fun (s : Unit) => .int .i64 r) (fun s => [Ent.pur (InR .i64 r)]) := by
 unfold ether_errno.f at H
 refine Spc.go Try.func23 rfl (by kernel_rfl) rfl rfl (all_cons (Val.per Per_erp) all_nil) fun F a w h => ?_
 refine Go.seq ?_
 refine Go.reg ?_
 refine gs h (o_assign rfl) rfl fun _ _ _ h => ?_
 refine GoR.done ?_
 refine Go.seq ?_
 refine Go.seq ?_
 refine Go.reg ?_
 refine gs h (o_bs (K := (Kd.int .i64)) (vs := [.int .i64 160, .int .i64 161]) (xs := ([160, 161] : List Int)) rfl rfl (pvs_cons (pv_int (show InR .i64 160 by decide)) (pvs_cons (pv_int (show InR .i64 161 by decide)) pvs_nil)) t_a75 (by decide) (by decide)) rfl fun v2 _ _ h => ?_
 have g1 := (len_own 0 rfl h.mem)
 refine gs h (o_ln rfl (rd_own 0 rfl) t_v75) rfl fun _ _ _ h => ?_
 refine gs h (o_move rfl) rfl fun _ _ _ h => ?_
 refine GoR.done ?_
 refine Go.block ?_
 obtain ⟨o1, hl, G1⟩ := bindE H
 refine g_cut (fun G => ∀ j1 (a : Act) (w : World), o1 = .inl (j1) → St Try.f23.ntmps F [] [] a w → G a w) 2 ?_ fun J1 => ?_
 ·intro j1 a w ho_ h
  rw [ho_] at G1
  have H := G1
  refine Go.seq ?_
  refine Go.reg ?_
  refine gs h (o_assign rfl) rfl fun _ _ _ h => ?_
  refine GoR.done ?_
  rw [← som H]
  exact g_ret (vs := [.int .i64 0]) h Try.func23 ⟨rfl, trivial⟩ ⟨(), rfl, ((h.mem.pick [] (by decide) rfl).addpur (show InR .i64 0 by decide))⟩
 refine g_loop (fun s1 G => ∀  (a : Act) (w : World), InR .i64 s1 → St Try.f23.ntmps F [(0, v1), (5, v2), (6, .int .i64 (([160, 161] : List Int).length : Int)), (7, .int .i64 s1)] [Val (Kd.erp 71 Krefusal) v1 a1, Val (Kd.osl (Kd.int .i64)) v2 ([160, 161] : List Int)] a w → G a w) hl (fun s1 p1 H i1 => ?_) fun I_ => ?_
 ·intro  a w g2 h
  refine Go.seq ?_
  refine Go.reg ?_
  refine gs h (o_bin rfl rfl rfl) rfl fun _ _ _ h => ?_
  refine GoR.done ?_
  refine Go.seq ?_
  by_cases c1 : decide (s1 < (([160, 161] : List Int).length : Int)) = true
  ·have H := ifT c1 H
   refine g_t h rfl c1 ?_
   refine Go.skip ?_
   refine Go.seq ?_
   refine Go.block ?_
   refine Go.seq ?_
   refine Go.reg ?_
   obtain ⟨x1, ex1, H⟩ := bindE H
   refine gs h (o_ix rfl rfl (rd_own 1 rfl) ex1 t_v75) rfl fun _ _ _ h => ?_
   have g3 := (rd_inr (rd_own 1 rfl) ex1 h.mem)
   refine gs h (o_lex rfl (rd_own 1 rfl) ex1 X_int t_y26 (by decide)) rfl fun _ _ _ h => ?_
   refine gs h (o_assign rfl) rfl fun _ _ _ h => ?_
   refine GoR.done ?_
   refine Go.seq ?_
   refine Go.reg ?_
   refine gs h (o_move rfl) rfl fun _ _ _ h => ?_
   refine gs h (o_move rfl) rfl fun _ _ _ h => ?_
   refine gs h (o_ifc rfl (by kernel_rfl)) rfl fun _ _ _ h => ?_
   obtain ⟨r1, er1, H⟩ := bindE H
   refine gs h (o_call (errors_Is.spc v1 a1 x1 r1 er1) rfl [0] [] (by decide) rfl rfl) rfl fun _ _ _ h => ?_
   refine GoR.done ?_
   by_cases c2 : r1 = true
   ·have H := ifT c2 H
    refine g_t h rfl c2 ?_
    refine Go.seq ?_
    refine Go.reg ?_
    refine gs h (o_move rfl) rfl fun _ _ _ h => ?_
    refine gs h (o_assign rfl) rfl fun _ _ _ h => ?_
    refine GoR.done ?_
    have e_ := som H; subst e_
    rw [← nx_out i1] at G1
    have H := G1
    rw [← som H]
    exact g_ret (vs := [.int .i64 x1]) h Try.func23 ⟨rfl, trivial⟩ ⟨(), rfl, ((h.mem.pick [] (by decide) rfl).addpur g3)⟩
   ·have H := ifF c2 H
    refine g_f h rfl c2 ?_
    refine Go.skip ?_
    refine Go.inBlock ?_
    refine Go.reg ?_
    refine gs h (o_bin rfl rfl rfl) rfl fun _ _ _ h => ?_
    refine gs h (o_move rfl) rfl fun _ _ _ h => ?_
    refine GoR.done ?_
    have e_ := som H; subst e_
    exact Go.inLoop (nx_in i1 _ _ (wrap_in _ _) (h.wk (by rfl) [0, 1] (by decide) (by rfl)))
  ·have H := ifF c1 H
   refine g_f h rfl c1 ?_
   refine Go.exit rfl ?_
   have e_ := som H; subst e_
   exact J1 () _ _ (nx_out i1).symm (h.wk (by rfl) [] (by decide) (by rfl))
 ·exact I_ _ _ (show InR .i64 0 by decide) (h.wk (by rfl) [1, 0] (by decide) (by rfl))
def ether_errno.g (k_ : Nat) (a1 : Option Trefusal) : Option (Int) :=
  (loopK k_ (fun s1 => (if decide (s1 < (([160, 161] : List Int).length : Int)) = true then (idx ([160, 161] : List Int) s1).bind fun x1 => (errors_Is.g k_ a1 x1).bind fun r1 => (if r1 = true then some (.inr (.inr (x1))) else some (.inl (IntKind.i64.wrap (s1 + 1)))) else some (.inr (.inl (()))))) 0).bind (Sum.elim (fun j1 => some (0)) (fun z_ => some (z_)))
theorem ether_errno.le (k_ : Nat) (a1 : Option Trefusal) : Le (ether_errno.g k_ a1) (ether_errno.f a1) := by
 unfold ether_errno.g ether_errno.f
 repeat' (first | with_reducible refine le_loop fun _ => ?_ | with_reducible refine le_bind ?_ fun _ => ?_ | with_reducible refine le_ite ?_ ?_ | with_reducible refine le_lt fun _ => ?_ | with_reducible refine le_elim (fun _ => ?_) (fun _ => ?_) _ | with_reducible apply errors_Is.le | with_reducible exact le_refl _)
/-! (*drawbridge/ether.taker).take -/
noncomputable def ether_taker_take.f (a1 : Ttaker) (a2 : Int) : Option ((List Int) × Ttaker) :=
  (cut a1.b 0 a2).bind fun x1 => (cut a1.b a2 (a1.b.length : Int)).bind fun x2 => (slices_Clone_s_byte_byte.f x1).bind fun r1 => some ((r1, (⟨x2⟩ : Ttaker)))
set_option maxRecDepth 100000 in
set_option maxHeartbeats 4000000 in
theorem ether_taker_take.spc (b1 : Nat) (a1 : Ttaker) (a2 : Int) (ha2 : InR .i64 a2) (r : (List Int) × Ttaker) (H : ether_taker_take.f a1 a2 = some r) : Spc Try.prog 24 [.pointer (some ⟨b1, 0, none⟩), .int .i64 a2] [] [Fld Ktaker b1 0 a1] (fun (s : Value) => s) (fun s => [Val (Kd.osl (Kd.int .u8)) s r.1, Fld Ktaker b1 0 r.2]) := by
 unfold ether_taker_take.f at H
 refine Spc.go Try.func24 rfl (by kernel_rfl) rfl rfl all_nil fun F a w h => ?_
 refine Go.seq ?_
 refine Go.reg ?_
 refine gs h (o_assign rfl) rfl fun _ _ _ h => ?_
 refine GoR.done ?_
 refine Go.seq ?_
 refine Go.reg ?_
 refine gs h (o_move rfl) rfl fun _ _ _ h => ?_
 refine gs h (o_nilc rfl) rfl fun _ _ _ h => ?_
 refine gs h (o_fa rfl t_f60_0 rfl rfl) rfl fun _ _ _ h => ?_
 refine gs h (o_lfv 0 rfl rfl staker_b rfl Per_sl t_y22) rfl fun v1 _ _ h => ?_
 refine gs h (o_move rfl) rfl fun _ _ _ h => ?_
 refine gs h (o_move rfl) rfl fun _ _ _ h => ?_
 obtain ⟨x1, ex1, H⟩ := bindE H
 refine gs h (o_cuth3 rfl (pv_at Per_sl 0 rfl) rfl rfl ex1 t_v22) rfl fun v2 _ _ h => ?_
 refine gs h (o_assign rfl) rfl fun _ _ _ h => ?_
 refine GoR.done ?_
 refine Go.seq ?_
 refine Go.reg ?_
 refine gs h (o_move rfl) rfl fun _ _ _ h => ?_
 refine gs h (o_move rfl) rfl fun _ _ _ h => ?_
 refine gs h (o_nilc rfl) rfl fun _ _ _ h => ?_
 refine gs h (o_fa rfl t_f60_0 rfl rfl) rfl fun _ _ _ h => ?_
 refine gs h (o_lfv 2 rfl rfl staker_b rfl Per_sl t_y22) rfl fun v3 _ _ h => ?_
 refine gs h (o_move rfl) rfl fun _ _ _ h => ?_
 obtain ⟨x2, ex2, H⟩ := bindE H
 refine gs h (o_cutl rfl (pv_at Per_sl 0 rfl) rfl ex2 t_v22) rfl fun v4 _ _ h => ?_
 refine gs h (o_nilc rfl) rfl fun _ _ _ h => ?_
 refine gs h (o_fa rfl t_f60_0 rfl rfl) rfl fun _ _ _ h => ?_
 replace h := h.mm fun m => (m.take (i := 4) rfl).opn (ctaker _ _)
 refine gs0 h (o_st 0 rfl rfl rfl (pv_at Per_sl 1 rfl) rfl t_w22) fun _ _ _ h => ?_
 refine GoR.done ?_
 refine Go.seq ?_
 refine Go.reg ?_
 refine gs h (o_move rfl) rfl fun _ _ _ h => ?_
 obtain ⟨r1, er1, H⟩ := bindE H
 refine gs h (o_call (slices_Clone_s_byte_byte.spc v2 x1 r1 er1) rfl [3] [] (by decide) rfl rfl) rfl fun v5 _ _ h => ?_
 refine gs h (o_assign rfl) rfl fun _ _ _ h => ?_
 refine GoR.done ?_
 replace h := h.mm fun m => (m.pull (Lo := [Fld (Kd.sl (Kd.int .u8)) b1 0 x2]) [1] (by decide) rfl).cls (ctaker _ (⟨x2⟩ : Ttaker))
 rw [← som H]
 exact g_ret (vs := [v5]) h Try.func24 ⟨rfl, trivial⟩ ⟨v5, rfl, (h.mem.pick [1, 0] (by decide) rfl)⟩
def ether_taker_take.g (k_ : Nat) (a1 : Ttaker) (a2 : Int) : Option ((List Int) × Ttaker) :=
  (cut a1.b 0 a2).bind fun x1 => (cut a1.b a2 (a1.b.length : Int)).bind fun x2 => (slices_Clone_s_byte_byte.g k_ x1).bind fun r1 => some ((r1, (⟨x2⟩ : Ttaker)))
theorem ether_taker_take.le (k_ : Nat) (a1 : Ttaker) (a2 : Int) : Le (ether_taker_take.g k_ a1 a2) (ether_taker_take.f a1 a2) := by
 unfold ether_taker_take.g ether_taker_take.f
 repeat' (first | with_reducible refine le_loop fun _ => ?_ | with_reducible refine le_bind ?_ fun _ => ?_ | with_reducible refine le_ite ?_ ?_ | with_reducible refine le_lt fun _ => ?_ | with_reducible refine le_elim (fun _ => ?_) (fun _ => ?_) _ | with_reducible apply slices_Clone_s_byte_byte.le | with_reducible exact le_refl _)
/-! drawbridge/bits.Get -/
noncomputable def bits_Get.f (a1 : List Int) (a2 : Bool) : Option (Int) :=
  lt (min (a1.length : Int) 8) fun y1 => (loop (fun s1 => (if decide (s1.2 < y1) = true then ((if a2 = true then lt (IntKind.i64.wrap ((IntKind.i64.wrap (y1 - 1)) - s1.2)) fun y2 => some (y2) else some (s1.2))).bind (fun j1 => (idx a1 j1).bind fun x1 => if 0 ≤ (IntKind.i64.wrap (8 * s1.2)) then (lt (bits .or .u64 s1.1 (ishl .u64 x1 (IntKind.i64.wrap (8 * s1.2)))) fun y3 => some (.inl (y3, IntKind.i64.wrap (s1.2 + 1)))) else none) else some (.inr (s1.1)))) (0, 0)).bind (fun j2 => some (j2))
set_option maxRecDepth 100000 in
set_option maxHeartbeats 4000000 in
theorem bits_Get.spc (v1 : Value) (a1 : List Int) (a2 : Bool) (r : Int) (H : bits_Get.f a1 a2 = some r) : Spc Try.prog 35 [v1, .bool a2] [Val (Kd.sl (Kd.int .u8)) v1 a1] [] (fun (s : Unit) => .int .u64 r) (fun s => [Ent.pur (InR .u64 r)]) := by
 unfold bits_Get.f at H
 refine Spc.go Try.func35 rfl (by kernel_rfl) rfl rfl (all_cons (Val.per Per_sl) all_nil) fun F a w h => ?_
 refine Go.seq ?_
 refine Go.reg ?_
 refine gs h (o_assign rfl) rfl fun _ _ _ h => ?_
 refine GoR.done ?_
 refine Go.seq ?_
 refine Go.reg ?_
 refine gs h (o_assign rfl) rfl fun _ _ _ h => ?_
 refine GoR.done ?_
 refine Go.seq ?_
 refine Go.reg ?_
 refine gs h (o_move rfl) rfl fun _ _ _ h => ?_
 have g1 := (len_at 0 rfl h.mem)
 refine gs h (o_ln rfl (rd_at 0 rfl) t_v22) rfl fun _ _ _ h => ?_
 refine gs h (o_min rfl rfl) rfl fun _ _ _ h => ?_
 obtain ⟨y1, ey1, H⟩ := ltE H
 refine gs h (o_assign' rfl (congrArg (fun z => Value.int .i64 z) ey1)) rfl fun _ _ _ h => ?_
 refine GoR.done ?_
 refine Go.seq ?_
 refine Go.seq ?_
 refine Go.reg ?_
 refine gs h (o_move rfl) rfl fun _ _ _ h => ?_
 refine gs h (o_move rfl) rfl fun _ _ _ h => ?_
 refine GoR.done ?_
 refine Go.block ?_
 obtain ⟨o1, hl, G1⟩ := bindE H
 refine g_cut (fun G => ∀ j2 (a : Act) (w : World), o1 = j2 → InR .u64 j2 → St Try.f35.ntmps F [(5, .int .u64 j2)] [] a w → G a w) 2 ?_ fun J2 => ?_
 ·intro j2 a w ho_ g6 h
  rw [ho_] at G1
  have H := G1
  refine Go.seq ?_
  refine Go.reg ?_
  refine gs h (o_move rfl) rfl fun _ _ _ h => ?_
  refine gs h (o_assign rfl) rfl fun _ _ _ h => ?_
  refine GoR.done ?_
  rw [← som H]
  exact g_ret (vs := [.int .u64 j2]) h Try.func35 ⟨rfl, trivial⟩ ⟨(), rfl, ((h.mem.pick [] (by decide) rfl).addpur g6)⟩
 refine g_loop (fun s1 G => ∀  (a : Act) (w : World), InR .u64 s1.1 → InR .i64 s1.2 → St Try.f35.ntmps F [(0, v1), (1, .bool a2), (5, .int .u64 s1.1), (6, .int .i64 y1), (12, .int .i64 y1), (13, .int .i64 s1.2)] [Val (Kd.sl (Kd.int .u8)) v1 a1] a w → G a w) hl (fun s1 p1 H i1 => ?_) fun I_ => ?_
 ·intro  a w g2 g3 h
  refine Go.seq ?_
  refine Go.reg ?_
  refine gs h (o_bin rfl rfl rfl) rfl fun _ _ _ h => ?_
  refine GoR.done ?_
  refine Go.seq ?_
  by_cases c1 : decide (s1.2 < y1) = true
  ·have H := ifT c1 H
   refine g_t h rfl c1 ?_
   refine Go.skip ?_
   refine Go.seq ?_
   refine Go.block ?_
   refine Go.seq ?_
   refine Go.reg ?_
   refine gs h (o_move rfl) rfl fun _ _ _ h => ?_
   refine gs h (o_assign rfl) rfl fun _ _ _ h => ?_
   refine GoR.done ?_
   refine Go.seq ?_
   refine Go.reg ?_
   refine gs h (o_move rfl) rfl fun _ _ _ h => ?_
   refine gs h (o_assign rfl) rfl fun _ _ _ h => ?_
   refine GoR.done ?_
   refine Go.seq ?_
   obtain ⟨o2, H, G2⟩ := bindE H
   refine g_cut (fun G => ∀ j1 (a : Act) (w : World), o2 = j1 → InR .i64 j1 → St Try.f35.ntmps F [(0, v1), (1, .bool a2), (5, .int .u64 s1.1), (6, .int .i64 y1), (7, .int .i64 s1.2), (8, .int .i64 j1), (12, .int .i64 y1), (13, .int .i64 s1.2)] [Val (Kd.sl (Kd.int .u8)) v1 a1] a w → G a w) 1 ?_ fun J1 => ?_
   ·intro j1 a w ho_ g4 h
    rw [ho_] at G2
    have H := G2
    refine Go.reg ?_
    refine gs h (o_move rfl) rfl fun _ _ _ h => ?_
    refine gs h (o_move rfl) rfl fun _ _ _ h => ?_
    refine gs h (o_move rfl) rfl fun _ _ _ h => ?_
    obtain ⟨x1, ex1, H⟩ := bindE H
    refine gs h (o_ix rfl rfl (rd_at 0 rfl) ex1 t_v22) rfl fun _ _ _ h => ?_
    have g5 := (rd_inr (rd_at 0 rfl) ex1 h.mem)
    refine gs h (o_lex rfl (rd_at 0 rfl) ex1 X_int t_y5 (by decide)) rfl fun _ _ _ h => ?_
    refine gs h (o_convw rfl t_q5 t_u62 g5 rfl) rfl fun _ _ _ h => ?_
    refine gs h (o_move rfl) rfl fun _ _ _ h => ?_
    refine gs h (o_bin rfl rfl rfl) rfl fun _ _ _ h => ?_
    obtain ⟨q1, H⟩ := ifS H
    refine gs h (o_shl rfl rfl q1) rfl fun _ _ _ h => ?_
    refine gs h (o_bin rfl rfl rfl) rfl fun _ _ _ h => ?_
    obtain ⟨y3, ey3, H⟩ := ltE H
    refine gs h (o_assign' rfl (congrArg (fun z => Value.int .u64 z) ey3)) rfl fun _ _ _ h => ?_
    refine GoR.done ?_
    refine Go.inBlock ?_
    refine Go.reg ?_
    refine gs h (o_bin rfl rfl rfl) rfl fun _ _ _ h => ?_
    refine gs h (o_move rfl) rfl fun _ _ _ h => ?_
    refine GoR.done ?_
    have e_ := som H; subst e_
    exact Go.inLoop (nx_in i1 _ _ (ey3 ▸ (wrap_in _ _)) (wrap_in _ _) (h.wk (by rfl) [0] (by decide) (by rfl)))
   refine Go.seq ?_
   refine Go.reg ?_
   refine gs h (o_move rfl) rfl fun _ _ _ h => ?_
   refine GoR.done ?_
   by_cases c2 : a2 = true
   ·have H := ifT c2 H
    refine g_t h rfl c2 ?_
    refine Go.reg ?_
    refine gs h (o_move rfl) rfl fun _ _ _ h => ?_
    refine gs h (o_bin rfl rfl rfl) rfl fun _ _ _ h => ?_
    refine gs h (o_move rfl) rfl fun _ _ _ h => ?_
    refine gs h (o_bin rfl rfl rfl) rfl fun _ _ _ h => ?_
    obtain ⟨y2, ey2, H⟩ := ltE H
    refine gs h (o_assign' rfl (congrArg (fun z => Value.int .i64 z) ey2)) rfl fun _ _ _ h => ?_
    refine GoR.done ?_
    exact J1 y2 _ _ (som H).symm (ey2 ▸ (wrap_in _ _)) (h.wk (by rfl) [0] (by decide) (by rfl))
   ·have H := ifF c2 H
    refine g_f h rfl c2 ?_
    refine Go.skip ?_
    exact J1 s1.2 _ _ (som H).symm g3 (h.wk (by rfl) [0] (by decide) (by rfl))
  ·have H := ifF c1 H
   refine g_f h rfl c1 ?_
   refine Go.exit rfl ?_
   have e_ := som H; subst e_
   exact J2 s1.1 _ _ (nx_out i1).symm g2 (h.wk (by rfl) [] (by decide) (by rfl))
 ·exact I_ _ _ (show InR .u64 0 by decide) (show InR .i64 0 by decide) (h.wk (by rfl) [0] (by decide) (by rfl))
def bits_Get.g (k_ : Nat) (a1 : List Int) (a2 : Bool) : Option (Int) :=
  lt (min (a1.length : Int) 8) fun y1 => (loopK k_ (fun s1 => (if decide (s1.2 < y1) = true then ((if a2 = true then lt (IntKind.i64.wrap ((IntKind.i64.wrap (y1 - 1)) - s1.2)) fun y2 => some (y2) else some (s1.2))).bind (fun j1 => (idx a1 j1).bind fun x1 => if 0 ≤ (IntKind.i64.wrap (8 * s1.2)) then (lt (bits .or .u64 s1.1 (ishl .u64 x1 (IntKind.i64.wrap (8 * s1.2)))) fun y3 => some (.inl (y3, IntKind.i64.wrap (s1.2 + 1)))) else none) else some (.inr (s1.1)))) (0, 0)).bind (fun j2 => some (j2))
theorem bits_Get.le (k_ : Nat) (a1 : List Int) (a2 : Bool) : Le (bits_Get.g k_ a1 a2) (bits_Get.f a1 a2) := by
 unfold bits_Get.g bits_Get.f
 repeat' (first | with_reducible refine le_loop fun _ => ?_ | with_reducible refine le_bind ?_ fun _ => ?_ | with_reducible refine le_ite ?_ ?_ | with_reducible refine le_lt fun _ => ?_ | with_reducible refine le_elim (fun _ => ?_) (fun _ => ?_) _ | with_reducible exact le_refl _)
/-! (*drawbridge/ether.taker).num -/
noncomputable def ether_taker_num.f (a1 : Ttaker) (a2 : Int) : Option (Int × Ttaker) :=
  (ether_taker_take.f a1 a2).bind fun r1 => (bits_Get.f r1.1 true).bind fun r2 => some ((r2, r1.2))
set_option maxRecDepth 100000 in
set_option maxHeartbeats 4000000 in
theorem ether_taker_num.spc (b1 : Nat) (a1 : Ttaker) (a2 : Int) (ha2 : InR .i64 a2) (r : Int × Ttaker) (H : ether_taker_num.f a1 a2 = some r) : Spc Try.prog 25 [.pointer (some ⟨b1, 0, none⟩), .int .i64 a2] [] [Fld Ktaker b1 0 a1] (fun (s : Unit) => .int .u64 r.1) (fun s => [Ent.pur (InR .u64 r.1), Fld Ktaker b1 0 r.2]) := by
 unfold ether_taker_num.f at H
 refine Spc.go Try.func25 rfl (by kernel_rfl) rfl rfl all_nil fun F a w h => ?_
 refine Go.seq ?_
 refine Go.reg ?_
 refine gs h (o_assign rfl) rfl fun _ _ _ h => ?_
 refine GoR.done ?_
 refine Go.seq ?_
 refine Go.reg ?_
 refine gs h (o_move rfl) rfl fun _ _ _ h => ?_
 refine gs h (o_move rfl) rfl fun _ _ _ h => ?_
 obtain ⟨r1, er1, H⟩ := bindE H
 refine gs h (o_call (ether_taker_take.spc b1 a1 a2 ha2 r1 er1) rfl [] [0] (by decide) rfl rfl) rfl fun v1 _ _ h => ?_
 replace h := h.mm fun m => m.freeze 0 rfl
 obtain ⟨r2, er2, H⟩ := bindE H
 refine gs h (o_call (bits_Get.spc v1 r1.1 true r2 er2) rfl [0] [] (by decide) rfl rfl) rfl fun _ _ _ h => ?_
 have g1 := h.mem.pur 0 rfl
 refine gs h (o_assign rfl) rfl fun _ _ _ h => ?_
 refine GoR.done ?_
 rw [← som H]
 exact g_ret (vs := [.int .u64 r2]) h Try.func25 ⟨rfl, trivial⟩ ⟨(), rfl, ((h.mem.pick [2] (by decide) rfl).addpur g1)⟩
def ether_taker_num.g (k_ : Nat) (a1 : Ttaker) (a2 : Int) : Option (Int × Ttaker) :=
  (ether_taker_take.g k_ a1 a2).bind fun r1 => (bits_Get.g k_ r1.1 true).bind fun r2 => some ((r2, r1.2))
theorem ether_taker_num.le (k_ : Nat) (a1 : Ttaker) (a2 : Int) : Le (ether_taker_num.g k_ a1 a2) (ether_taker_num.f a1 a2) := by
 unfold ether_taker_num.g ether_taker_num.f
 repeat' (first | with_reducible refine le_loop fun _ => ?_ | with_reducible refine le_bind ?_ fun _ => ?_ | with_reducible refine le_ite ?_ ?_ | with_reducible refine le_lt fun _ => ?_ | with_reducible refine le_elim (fun _ => ?_) (fun _ => ?_) _ | with_reducible apply bits_Get.le | with_reducible apply ether_taker_take.le | with_reducible exact le_refl _)
/-! drawbridge/ether.Get -/
noncomputable def ether_Get.f (a1 : List Int) : Option (TFrm × Int) :=
  (ether_beside.f a1 14 1514).bind fun r1 => (if (!r1.isNone) = true then (ether_errno.f r1).bind fun r2 => some (((⟨[], [], 0, []⟩ : TFrm), r2)) else (ether_taker_take.f (⟨a1⟩ : Ttaker) 6).bind fun r3 => (ether_taker_take.f r3.2 6).bind fun r4 => (ether_taker_num.f r4.2 2).bind fun r5 => (ether_taker_take.f r5.2 (r5.2.b.length : Int)).bind fun r6 => some (((⟨(⟨r3.1, r4.1, 0, []⟩ : TFrm).Dst, (⟨r3.1, r4.1, 0, []⟩ : TFrm).Src, IntKind.i64.wrap r5.1, r6.1⟩ : TFrm), 0)))
set_option maxRecDepth 100000 in
set_option maxHeartbeats 4000000 in
theorem ether_Get.spc (v1 : Value) (a1 : List Int) (r : TFrm × Int) (H : ether_Get.f a1 = some r) : Spc Try.prog 9 [v1] [Val (Kd.sl (Kd.int .u8)) v1 a1] [] (fun (s : Value) => .tuple #[s, .int .i64 r.2]) (fun s => [Ent.pur (InR .i64 r.2), Val KFrm s r.1]) := by
 unfold ether_Get.f at H
 refine Spc.go Try.func9 rfl (by kernel_rfl) rfl rfl (all_cons (Val.per Per_sl) all_nil) fun F a w h => ?_
 refine Go.seq ?_
 refine Go.reg ?_
 refine gs h (o_alloc (K := KFrm) (z := (.agg #[.slice none 0 0, .slice none 0 0, .int .i64 0, .slice none 0 0])) rfl ZFrm) rfl fun b1 _ _ h => ?_
 refine gs h (o_assign rfl) rfl fun _ _ _ h => ?_
 refine GoR.done ?_
 refine Go.seq ?_
 refine Go.seq ?_
 refine Go.reg ?_
 refine gs h (o_move rfl) rfl fun _ _ _ h => ?_
 obtain ⟨r1, er1, H⟩ := bindE H
 refine gs h (o_call (ether_beside.spc v1 a1 14 (show InR .i64 14 by decide) 1514 (show InR .i64 1514 by decide) r1 er1) rfl [1] [] (by decide) rfl rfl) rfl fun v2 _ _ h => ?_
 refine gs h (o_assign rfl) rfl fun _ _ _ h => ?_
 refine GoR.done ?_
 refine Go.seq ?_
 refine Go.reg ?_
 refine gs h (o_move rfl) rfl fun _ _ _ h => ?_
 refine gs h (o_ern 0 rfl rfl t_i55) rfl fun _ _ _ h => ?_
 refine GoR.done ?_
 by_cases c1 : (!r1.isNone) = true
 ·have H := ifT c1 H
  refine g_t h rfl c1 ?_
  refine Go.seq ?_
  refine Go.reg ?_
  refine gs h (o_build (K := KFrm) (x := (⟨[], [], 0, []⟩ : TFrm)) (ps := []) rfl (zs := zsFrm) rfl t_b25 rfl (show PB (Kd.pair (Kd.sl (Kd.int .u8)) (Kd.pair (Kd.sl (Kd.int .u8)) (Kd.pair (Kd.int .i64) (Kd.last (Kd.sl (Kd.int .u8)))))) ([], [], 0, []) 0 zsFrm _ _ from (pb_zero z_sl (pb_zero z_sl (pb_zero z_int (pb_lastz z_sl)))))) rfl fun v3 _ _ h => ?_
  refine gs h (o_move rfl) rfl fun _ _ _ h => ?_
  obtain ⟨r2, er2, H⟩ := bindE H
  refine gs h (o_call (ether_errno.spc v2 r1 r2 er2) rfl [1] [] (by decide) rfl rfl) rfl fun _ _ _ h => ?_
  have g1 := h.mem.pur 0 rfl
  refine gs0 h (o_st 3 rfl rfl rfl (pv_at PFrm 1 rfl) rfl t_w25) fun _ _ _ h => ?_
  refine gs h (o_assign rfl) rfl fun _ _ _ h => ?_
  refine GoR.done ?_
  obtain ⟨v4, h, u1⟩ := h.peek 3 rfl PFrm t_y25
  rw [← som H]
  exact g_ret (vs := [v4, .int .i64 r2]) h Try.func9 ⟨⟨_, rfl, u1⟩, ⟨rfl, trivial⟩⟩ ⟨v4, rfl, ((h.mem.pick [0] (by decide) rfl).addpur g1)⟩
 ·have H := ifF c1 H
  refine g_f h rfl c1 ?_
  refine Go.skip ?_
  refine Go.seq ?_
  refine Go.reg ?_
  refine gs h (o_move rfl) rfl fun _ _ _ h => ?_
  refine gs h (o_build (K := Ktaker) (x := (⟨a1⟩ : Ttaker)) (ps := [(0, v1)]) rfl (zs := zstaker) rfl t_b60 rfl (show PB (Kd.last (Kd.sl (Kd.int .u8))) a1 0 zstaker _ _ from (pb_lastp (pv_at Per_sl 2 rfl) rfl))) rfl fun v5 _ _ h => ?_
  refine gs h (o_box (K := Ktaker) rfl (pv_at Ptaker 0 rfl)) rfl fun b2 _ _ h => ?_
  refine gs h (o_assign rfl) rfl fun _ _ _ h => ?_
  refine GoR.done ?_
  refine Go.seq ?_
  refine Go.reg ?_
  refine gs h (o_move rfl) rfl fun _ _ _ h => ?_
  obtain ⟨r3, er3, H⟩ := bindE H
  refine gs h (o_call (ether_taker_take.spc b2 (⟨a1⟩ : Ttaker) 6 (show InR .i64 6 by decide) r3 er3) rfl [] [0] (by decide) rfl rfl) rfl fun v6 _ _ h => ?_
  refine gs h (o_move rfl) rfl fun _ _ _ h => ?_
  obtain ⟨r4, er4, H⟩ := bindE H
  refine gs h (o_call (ether_taker_take.spc b2 r3.2 6 (show InR .i64 6 by decide) r4 er4) rfl [] [1] (by decide) rfl rfl) rfl fun v7 _ _ h => ?_
  replace h := h.mm fun m => m.freeze 2 rfl
  replace h := h.mm fun m => m.freeze 0 rfl
  refine gs h (o_build (K := KFrm) (x := (⟨r3.1, r4.1, 0, []⟩ : TFrm)) (ps := [(0, v6), (1, v7)]) rfl (zs := zsFrm) rfl t_b25 rfl (show PB (Kd.pair (Kd.sl (Kd.int .u8)) (Kd.pair (Kd.sl (Kd.int .u8)) (Kd.pair (Kd.int .i64) (Kd.last (Kd.sl (Kd.int .u8)))))) (r3.1, r4.1, 0, []) 0 zsFrm _ _ from (pb_part (pv_at Per_sl 2 rfl) rfl (pb_part (pv_at Per_sl 0 rfl) rfl (pb_zero z_int (pb_lastz z_sl)))))) rfl fun v8 _ _ h => ?_
  refine gs h (o_alloc (K := KFrm) (z := (.agg #[.slice none 0 0, .slice none 0 0, .int .i64 0, .slice none 0 0])) rfl ZFrm) rfl fun b3 _ _ h => ?_
  refine gs0 h (o_st 0 rfl rfl rfl (pv_at PFrm 1 rfl) rfl t_w25) fun _ _ _ h => ?_
  refine GoR.done ?_
  refine Go.seq ?_
  refine Go.reg ?_
  refine gs h (o_move rfl) rfl fun _ _ _ h => ?_
  obtain ⟨r5, er5, H⟩ := bindE H
  refine gs h (o_call (ether_taker_num.spc b2 r4.2 2 (show InR .i64 2 by decide) r5 er5) rfl [] [3] (by decide) rfl rfl) rfl fun _ _ _ h => ?_
  have g2 := h.mem.pur 0 rfl
  refine gs h (o_conv rfl t_q62 t_u3) rfl fun _ _ _ h => ?_
  refine gs h (o_fa rfl t_f25_2 rfl rfl) rfl fun _ _ _ h => ?_
  replace h := h.mm fun m => (m.take (i := 2) rfl).opn (cFrm _ _)
  refine gs0 h (o_st 2 rfl rfl rfl (pv_int (wrap_in _ _)) rfl t_w3) fun _ _ _ h => ?_
  refine GoR.done ?_
  refine Go.seq ?_
  refine Go.reg ?_
  refine gs h (o_move rfl) rfl fun _ _ _ h => ?_
  refine gs h (o_move rfl) rfl fun _ _ _ h => ?_
  refine gs h (o_nilc rfl) rfl fun _ _ _ h => ?_
  refine gs h (o_fa rfl t_f60_0 rfl rfl) rfl fun _ _ _ h => ?_
  refine gs h (o_lfv 5 rfl rfl staker_b rfl Per_sl t_y22) rfl fun v9 _ _ h => ?_
  have g3 := (len_at 0 rfl h.mem)
  refine gs h (o_ln rfl (rd_at 0 rfl) t_v22) rfl fun _ _ _ h => ?_
  obtain ⟨r6, er6, H⟩ := bindE H
  refine gs h (o_call (ether_taker_take.spc b2 r5.2 (r5.2.b.length : Int) g3 r6 er6) rfl [] [6] (by decide) rfl rfl) rfl fun v10 _ _ h => ?_
  refine gs h (o_fa rfl t_f25_3 rfl rfl) rfl fun _ _ _ h => ?_
  replace h := h.mm fun m => m.freeze 0 rfl
  refine gs0 h (o_st 6 rfl rfl rfl (pv_at Per_sl 0 rfl) rfl t_w22) fun _ _ _ h => ?_
  refine GoR.done ?_
  refine Go.seq ?_
  refine Go.reg ?_
  replace h := h.mm fun m => (m.pull (Lo := [Fld (Kd.sl (Kd.int .u8)) b3 0 ((⟨r3.1, r4.1, 0, []⟩ : TFrm).Dst), Fld (Kd.sl (Kd.int .u8)) b3 1 ((⟨r3.1, r4.1, 0, []⟩ : TFrm).Src), Fld (Kd.int .i64) b3 2 (IntKind.i64.wrap r5.1), Fld (Kd.sl (Kd.int .u8)) b3 3 r6.1]) [3, 4, 5, 6] (by decide) rfl).cls (cFrm _ (⟨(⟨r3.1, r4.1, 0, []⟩ : TFrm).Dst, (⟨r3.1, r4.1, 0, []⟩ : TFrm).Src, IntKind.i64.wrap r5.1, r6.1⟩ : TFrm))
  refine gs h (o_ldv 0 rfl rfl PFrm t_y25) rfl fun v11 _ _ h => ?_
  refine gs0 h (o_st 20 rfl rfl rfl (pv_at PFrm 0 rfl) rfl t_w25) fun _ _ _ h => ?_
  refine gs h (o_assign rfl) rfl fun _ _ _ h => ?_
  refine GoR.done ?_
  obtain ⟨v12, h, u2⟩ := h.peek 20 rfl PFrm t_y25
  rw [← som H]
  exact g_ret (vs := [v12, .int .i64 0]) h Try.func9 ⟨⟨_, rfl, u2⟩, ⟨rfl, trivial⟩⟩ ⟨v12, rfl, ((h.mem.pick [0] (by decide) rfl).addpur (show InR .i64 0 by decide))⟩
def ether_Get.g (k_ : Nat) (a1 : List Int) : Option (TFrm × Int) :=
  (ether_beside.g k_ a1 14 1514).bind fun r1 => (if (!r1.isNone) = true then (ether_errno.g k_ r1).bind fun r2 => some (((⟨[], [], 0, []⟩ : TFrm), r2)) else (ether_taker_take.g k_ (⟨a1⟩ : Ttaker) 6).bind fun r3 => (ether_taker_take.g k_ r3.2 6).bind fun r4 => (ether_taker_num.g k_ r4.2 2).bind fun r5 => (ether_taker_take.g k_ r5.2 (r5.2.b.length : Int)).bind fun r6 => some (((⟨(⟨r3.1, r4.1, 0, []⟩ : TFrm).Dst, (⟨r3.1, r4.1, 0, []⟩ : TFrm).Src, IntKind.i64.wrap r5.1, r6.1⟩ : TFrm), 0)))
theorem ether_Get.le (k_ : Nat) (a1 : List Int) : Le (ether_Get.g k_ a1) (ether_Get.f a1) := by
 unfold ether_Get.g ether_Get.f
 repeat' (first | with_reducible refine le_loop fun _ => ?_ | with_reducible refine le_bind ?_ fun _ => ?_ | with_reducible refine le_ite ?_ ?_ | with_reducible refine le_lt fun _ => ?_ | with_reducible refine le_elim (fun _ => ?_) (fun _ => ?_) _ | with_reducible apply ether_beside.le | with_reducible apply ether_errno.le | with_reducible apply ether_taker_num.le | with_reducible apply ether_taker_take.le | with_reducible exact le_refl _)
/-! drawbridge/ether.lead -/
noncomputable def ether_lead.f  : Option ((List Int)) :=
  some (([0, 1, 8, 0, 6, 4, 0] : List Int))
set_option maxRecDepth 100000 in
set_option maxHeartbeats 4000000 in
theorem ether_lead.spc  (r : (List Int)) (H : ether_lead.f  = some r) : Spc Try.prog 29 [] [] [] (fun (s : Value) => s) (fun s => [Val (Kd.osl (Kd.int .u8)) s r]) := by
 unfold ether_lead.f at H
 refine Spc.go Try.func29 rfl (by kernel_rfl) rfl rfl all_nil fun F a w h => ?_
 refine Go.seq ?_
 refine Go.reg ?_
 refine gs h (o_assign rfl) rfl fun _ _ _ h => ?_
 refine GoR.done ?_
 refine Go.seq ?_
 refine Go.reg ?_
 refine gs h (o_bs (K := (Kd.int .u8)) (vs := [.int .u8 0, .int .u8 1, .int .u8 8, .int .u8 0, .int .u8 6, .int .u8 4, .int .u8 0]) (xs := ([0, 1, 8, 0, 6, 4, 0] : List Int)) rfl rfl (pvs_cons (pv_int (show InR .u8 0 by decide)) (pvs_cons (pv_int (show InR .u8 1 by decide)) (pvs_cons (pv_int (show InR .u8 8 by decide)) (pvs_cons (pv_int (show InR .u8 0 by decide)) (pvs_cons (pv_int (show InR .u8 6 by decide)) (pvs_cons (pv_int (show InR .u8 4 by decide)) (pvs_cons (pv_int (show InR .u8 0 by decide)) pvs_nil))))))) t_a22 (by decide) (by decide)) rfl fun v1 _ _ h => ?_
 refine gs h (o_assign rfl) rfl fun _ _ _ h => ?_
 refine GoR.done ?_
 rw [← som H]
 exact g_ret (vs := [v1]) h Try.func29 ⟨rfl, trivial⟩ ⟨v1, rfl, (h.mem.pick [0] (by decide) rfl)⟩
def ether_lead.g (k_ : Nat)  : Option ((List Int)) :=
  some (([0, 1, 8, 0, 6, 4, 0] : List Int))
theorem ether_lead.le (k_ : Nat)  : Le (ether_lead.g k_ ) (ether_lead.f ) := by
 unfold ether_lead.g ether_lead.f
 repeat' (first | with_reducible refine le_loop fun _ => ?_ | with_reducible refine le_bind ?_ fun _ => ?_ | with_reducible refine le_ite ?_ ?_ | with_reducible refine le_lt fun _ => ?_ | with_reducible refine le_elim (fun _ => ?_) (fun _ => ?_) _ | with_reducible exact le_refl _)
/-! drawbridge/ether.PutArp -/
noncomputable def ether_PutArp.f (a1 : TArp) : Option ((List Int) × Int) :=
  ((if (!decide ((a1.Smac.length : Int) = 6)) = true then some (true) else (if (!decide ((a1.Tmac.length : Int) = 6)) = true then some (true) else (if decide (a1.Op < 1) = true then some (true) else some (decide (2 < a1.Op)))))).bind (fun j1 => (if j1 = true then some (([], 2)) else (ether_lead.f).bind fun r1 => (bits_Put.f a1.Sip 4 true).bind fun r2 => (bits_Put.f a1.Tip 4 true).bind fun r3 => (slices_Concat_s_byte_byte.f ([r1, ([IntKind.u8.wrap a1.Op] : List Int), a1.Smac, r2, a1.Tmac, r3] : List (List Int))).bind fun r4 => some ((r4, 0))))
set_option maxRecDepth 100000 in
set_option maxHeartbeats 4000000 in
theorem ether_PutArp.spc (v1 : Value) (a1 : TArp) (r : (List Int) × Int) (H : ether_PutArp.f a1 = some r) : Spc Try.prog 13 [v1] [Val KArp v1 a1] [] (fun (s : Value) => .tuple #[s, .int .i64 r.2]) (fun s => [Ent.pur (InR .i64 r.2), Val (Kd.osl (Kd.int .u8)) s r.1]) := by
 unfold ether_PutArp.f at H
 refine Spc.go Try.func13 rfl (by kernel_rfl) rfl rfl (all_cons (Val.per PArp) all_nil) fun F a w h => ?_
 refine Go.seq ?_
 refine Go.reg ?_
 refine gs h (o_box (K := KArp) rfl (pv_at PArp 0 rfl)) rfl fun b1 _ _ h => ?_
 refine gs h (o_assign rfl) rfl fun _ _ _ h => ?_
 refine gs h (o_assign rfl) rfl fun _ _ _ h => ?_
 refine GoR.done ?_
 refine Go.seq ?_
 refine Go.seq ?_
 obtain ⟨o1, H, G1⟩ := bindE H
 refine g_cut (fun G => ∀ j1 (a : Act) (w : World), o1 = j1 → St Try.f13.ntmps F [(1, .pointer (some ⟨b1, 0, none⟩)), (23, .bool j1)] [Fld KArp b1 0 a1] a w → G a w) 1 ?_ fun J1 => ?_
 ·intro j1 a w ho_ h
  rw [ho_] at G1
  have H := G1
  by_cases c4 : j1 = true
  ·have H := ifT c4 H
   refine g_t h rfl c4 ?_
   refine Go.seq ?_
   refine Go.reg ?_
   refine gs h (o_assign rfl) rfl fun _ _ _ h => ?_
   refine gs h (o_assign rfl) rfl fun _ _ _ h => ?_
   refine GoR.done ?_
   replace h := h.mm fun m => m.nilo (Kd.int .u8)
   rw [← som H]
   exact g_ret (vs := [.slice none 0 0, .int .i64 2]) h Try.func13 ⟨rfl, ⟨rfl, trivial⟩⟩ ⟨.slice none 0 0, rfl, ((h.mem.pick [0] (by decide) rfl).addpur (show InR .i64 2 by decide))⟩
  ·have H := ifF c4 H
   refine g_f h rfl c4 ?_
   refine Go.skip ?_
   refine Go.seq ?_
   replace h := h.wk (E' := [(1, .pointer (some ⟨b1, 0, none⟩))]) (L' := [Fld KArp b1 0 a1]) (by rfl) [0] (by decide) (by rfl)
   obtain ⟨r1, er1, H⟩ := bindE H
   obtain ⟨r2, er2, H⟩ := bindE H
   obtain ⟨r3, er3, H⟩ := bindE H
   refine Go.draw (L := [Fld KArp b1 0 a1]) h 17 [⟨[], [], [], false, .own, none, fun u => [Val (Kd.osl (Kd.int .u8)) u r1]⟩, ⟨[], [], [], false, .con (.pointer (some ⟨b1, 0, none⟩)), none, fun u => []⟩, ⟨[1], [], [], false, .con (.int .i64 a1.Op), none, fun u => [Ent.pur (InR .i64 a1.Op)]⟩, ⟨[1, 2], [], [], false, .con (.int .u8 (IntKind.u8.wrap a1.Op)), none, fun u => []⟩, ⟨[1, 2, 3], [], [], false, .own, none, fun u => [Val (Kd.osl (Kd.int .u8)) u ([IntKind.u8.wrap a1.Op] : List Int)]⟩, ⟨[], [], [], false, .con (.pointer (some ⟨b1, 1, none⟩)), none, fun u => []⟩, ⟨[5], [], [], false, .own, none, fun u => [Val (Kd.sl (Kd.int .u8)) u a1.Smac]⟩, ⟨[], [], [], false, .con (.pointer (some ⟨b1, 2, none⟩)), none, fun u => []⟩, ⟨[7], [], [], false, .con (.int .u32 a1.Sip), none, fun u => [Ent.pur (InR .u32 a1.Sip)]⟩, ⟨[7, 8], [8], [], false, .con (.int .u64 a1.Sip), none, fun u => []⟩, ⟨[7, 8, 9], [8], [], false, .own, none, fun u => [Val (Kd.osl (Kd.int .u8)) u r2]⟩, ⟨[], [], [], false, .con (.pointer (some ⟨b1, 3, none⟩)), none, fun u => []⟩, ⟨[11], [], [], false, .own, none, fun u => [Val (Kd.sl (Kd.int .u8)) u a1.Tmac]⟩, ⟨[], [], [], false, .con (.pointer (some ⟨b1, 4, none⟩)), none, fun u => []⟩, ⟨[13], [], [], false, .con (.int .u32 a1.Tip), none, fun u => [Ent.pur (InR .u32 a1.Tip)]⟩, ⟨[13, 14], [14], [], false, .con (.int .u64 a1.Tip), none, fun u => []⟩, ⟨[13, 14, 15], [14], [], false, .own, none, fun u => [Val (Kd.osl (Kd.int .u8)) u r3]⟩] rfl t_mxo (by kernel_rfl) (by rfl) ?_ fun f1 _ _ h => ?_
   ·exact obs_cons (ob_own rfl (gok_none rfl) rfl fun f1 => (o_call (ether_lead.spc  r1 er1) rfl [] [] (by decide) rfl rfl)) (obs_cons (ob_con rfl (gok_none rfl) rfl fun f1 => (o_fa rfl t_f34_0 rfl rfl)) (obs_cons (ob_con rfl (gok_none rfl) rfl fun f1 => (OpS.pur (fun F w m_ => (in2 (fd_sub sArp_Op 0 rfl m_))) (o_lfx 0 rfl rfl sArp_Op rfl X_int t_y3))) (obs_cons (ob_con rfl (gok_none rfl) rfl fun f1 => (o_conv rfl t_q3 t_u5)) (obs_cons (ob_own rfl (gok_none rfl) rfl fun f1 => (o_bs (K := (Kd.int .u8)) (vs := [.int .u8 (IntKind.u8.wrap a1.Op)]) (xs := ([IntKind.u8.wrap a1.Op] : List Int)) rfl rfl (pvs_cons (pv_int (wrap_in _ _)) pvs_nil) t_a22 (by decide) (by decide))) (obs_cons (ob_con rfl (gok_none rfl) rfl fun f1 => (o_fa rfl t_f34_1 rfl rfl)) (obs_cons (ob_own rfl (gok_none rfl) rfl fun f1 => (o_lfv 0 rfl rfl sArp_Smac rfl Per_sl t_y22)) (obs_cons (ob_con rfl (gok_none rfl) rfl fun f1 => (o_fa rfl t_f34_2 rfl rfl)) (obs_cons (ob_con rfl (gok_none rfl) rfl fun f1 => (OpS.pur (fun F w m_ => (in2 (fd_sub sArp_Sip 0 rfl m_))) (o_lfx 0 rfl rfl sArp_Sip rfl X_int t_y32))) (obs_cons (ob_con rfl (gok_none rfl) rfl fun f1 => (OpS.fact (p := InR .u32 a1.Sip) (fun F w m_ => (Mem.pur 0 rfl m_)) fun g5 => (o_convw rfl t_q32 t_u62 g5 rfl))) (obs_cons (ob_own rfl (gok_none rfl) rfl fun f1 => (OpS.fact (p := InR .u64 a1.Sip) (fun F w m_ => (inr_wid (k := .u32) (k' := .u64) (Mem.pur 0 rfl m_) rfl)) fun g6 => (o_call (bits_Put.spc a1.Sip g6 4 (show InR .i64 4 by decide) true r2 er2) rfl [] [] (by decide) rfl rfl))) (obs_cons (ob_con rfl (gok_none rfl) rfl fun f1 => (o_fa rfl t_f34_3 rfl rfl)) (obs_cons (ob_own rfl (gok_none rfl) rfl fun f1 => (o_lfv 0 rfl rfl sArp_Tmac rfl Per_sl t_y22)) (obs_cons (ob_con rfl (gok_none rfl) rfl fun f1 => (o_fa rfl t_f34_4 rfl rfl)) (obs_cons (ob_con rfl (gok_none rfl) rfl fun f1 => (OpS.pur (fun F w m_ => (in2 (fd_sub sArp_Tip 0 rfl m_))) (o_lfx 0 rfl rfl sArp_Tip rfl X_int t_y32))) (obs_cons (ob_con rfl (gok_none rfl) rfl fun f1 => (OpS.fact (p := InR .u32 a1.Tip) (fun F w m_ => (Mem.pur 0 rfl m_)) fun g7 => (o_convw rfl t_q32 t_u62 g7 rfl))) (obs_cons (ob_own rfl (gok_none rfl) rfl fun f1 => (OpS.fact (p := InR .u64 a1.Tip) (fun F w m_ => (inr_wid (k := .u32) (k' := .u64) (Mem.pur 0 rfl m_) rfl)) fun g8 => (o_call (bits_Put.spc a1.Tip g8 4 (show InR .i64 4 by decide) true r3 er3) rfl [] [] (by decide) rfl rfl))) (obs_nil)))))))))))))))))
   replace h := h.wk (E' := [(24, (f1 0)), (28, (f1 4)), (30, (f1 6)), (34, (f1 10)), (36, (f1 12)), (40, (f1 16))]) (L' := [Val (Kd.osl (Kd.int .u8)) (f1 0) r1, Ent.pur (InR .i64 a1.Op), Val (Kd.osl (Kd.int .u8)) (f1 4) ([IntKind.u8.wrap a1.Op] : List Int), Val (Kd.sl (Kd.int .u8)) (f1 6) a1.Smac, Ent.pur (InR .u32 a1.Sip), Val (Kd.osl (Kd.int .u8)) (f1 10) r2, Val (Kd.sl (Kd.int .u8)) (f1 12) a1.Tmac, Ent.pur (InR .u32 a1.Tip), Val (Kd.osl (Kd.int .u8)) (f1 16) r3, Fld KArp b1 0 a1]) (by kernel_rfl) [0, 1, 2, 3, 4, 5, 6, 7, 8, 9] (by decide) (by kernel_rfl)
   replace h := h.mm fun m => m.freeze 0 rfl
   replace h := h.mm fun m => m.freeze 2 rfl
   replace h := h.mm fun m => m.freeze 5 rfl
   replace h := h.mm fun m => m.freeze 8 rfl
   refine gs h (o_bs (K := (Kd.sl (Kd.int .u8))) (vs := [(f1 0), (f1 4), (f1 6), (f1 10), (f1 12), (f1 16)]) (xs := ([r1, ([IntKind.u8.wrap a1.Op] : List Int), a1.Smac, r2, a1.Tmac, r3] : List (List Int))) rfl rfl (pvs_cons (pv_at Per_sl 0 rfl) (pvs_cons (pv_at Per_sl 2 rfl) (pvs_cons (pv_at Per_sl 3 rfl) (pvs_cons (pv_at Per_sl 5 rfl) (pvs_cons (pv_at Per_sl 6 rfl) (pvs_cons (pv_at Per_sl 8 rfl) pvs_nil)))))) t_a77 (by decide) (by decide)) rfl fun v10 _ _ h => ?_
   replace h := h.mm fun m => m.freeze 0 rfl
   obtain ⟨r4, er4, H⟩ := bindE H
   refine gs h (o_call (slices_Concat_s_byte_byte.spc v10 ([r1, ([IntKind.u8.wrap a1.Op] : List Int), a1.Smac, r2, a1.Tmac, r3] : List (List Int)) r4 er4) rfl [0] [] (by decide) rfl rfl) rfl fun v11 _ _ h => ?_
   refine gs h (o_assign rfl) rfl fun _ _ _ h => ?_
   refine gs h (o_assign rfl) rfl fun _ _ _ h => ?_
   refine GoR.done ?_
   rw [← som H]
   exact g_ret (vs := [v11, .int .i64 0]) h Try.func13 ⟨rfl, ⟨rfl, trivial⟩⟩ ⟨v11, rfl, ((h.mem.pick [0] (by decide) rfl).addpur (show InR .i64 0 by decide))⟩
 refine Go.reg ?_
 refine gs h (o_fa rfl t_f34_1 rfl rfl) rfl fun _ _ _ h => ?_
 refine gs h (o_lfv 0 rfl rfl sArp_Smac rfl Per_sl t_y22) rfl fun v2 _ _ h => ?_
 have g1 := (len_at 0 rfl h.mem)
 refine gs h (o_ln rfl (rd_at 0 rfl) t_v22) rfl fun _ _ _ h => ?_
 refine gs h (o_bin rfl rfl rfl) rfl fun _ _ _ h => ?_
 refine gs h (o_move rfl) rfl fun _ _ _ h => ?_
 by_cases c1 : (!decide ((a1.Smac.length : Int) = 6)) = true
 ·have H := ifT c1 H
  refine gk h rfl rfl (nb_t c1) rfl fun _ h => ?_
  refine gk h rfl rfl (nb_t c1) rfl fun _ h => ?_
  refine gk h rfl rfl (nb_t c1) rfl fun _ h => ?_
  refine gk h rfl rfl (nb_t c1) rfl fun _ h => ?_
  refine gs h (o_pickT rfl rfl c1) rfl fun _ _ _ h => ?_
  refine gs h (o_move rfl) rfl fun _ _ _ h => ?_
  refine gk h rfl rfl (nb_t rfl) rfl fun _ h => ?_
  refine gk h rfl rfl (nb_t rfl) rfl fun _ h => ?_
  refine gk h rfl rfl (nb_t rfl) rfl fun _ h => ?_
  refine gs h (o_pickT rfl rfl rfl) rfl fun _ _ _ h => ?_
  refine gs h (o_move rfl) rfl fun _ _ _ h => ?_
  refine gk h rfl rfl (nb_t rfl) rfl fun _ h => ?_
  refine gk h rfl rfl (nb_t rfl) rfl fun _ h => ?_
  refine gk h rfl rfl (nb_t rfl) rfl fun _ h => ?_
  refine gs h (o_pickT rfl rfl rfl) rfl fun _ _ _ h => ?_
  refine GoR.done ?_
  exact J1 true _ _ (som H).symm (h.wk (by rfl) [1] (by decide) (by rfl))
 ·have H := ifF c1 H
  refine gg h rfl rfl (nbF c1) (o_fa rfl t_f34_3 rfl rfl) rfl fun _ _ _ h => ?_
  refine gg h rfl rfl (nbF c1) (o_lfv 1 rfl rfl sArp_Tmac rfl Per_sl t_y22) rfl fun v3 _ _ h => ?_
  have g2 := (len_at 0 rfl h.mem)
  refine gg h rfl rfl (nbF c1) (o_ln rfl (rd_at 0 rfl) t_v22) rfl fun _ _ _ h => ?_
  refine gg h rfl rfl (nbF c1) (o_bin rfl rfl rfl) rfl fun _ _ _ h => ?_
  refine gs h (o_pickF rfl rfl c1) rfl fun _ _ _ h => ?_
  refine gs h (o_move rfl) rfl fun _ _ _ h => ?_
  by_cases c2 : (!decide ((a1.Tmac.length : Int) = 6)) = true
  ·have H := ifT c2 H
   refine gk h rfl rfl (nb_t c2) rfl fun _ h => ?_
   refine gk h rfl rfl (nb_t c2) rfl fun _ h => ?_
   refine gk h rfl rfl (nb_t c2) rfl fun _ h => ?_
   refine gs h (o_pickT rfl rfl c2) rfl fun _ _ _ h => ?_
   refine gs h (o_move rfl) rfl fun _ _ _ h => ?_
   refine gk h rfl rfl (nb_t rfl) rfl fun _ h => ?_
   refine gk h rfl rfl (nb_t rfl) rfl fun _ h => ?_
   refine gk h rfl rfl (nb_t rfl) rfl fun _ h => ?_
   refine gs h (o_pickT rfl rfl rfl) rfl fun _ _ _ h => ?_
   refine GoR.done ?_
   exact J1 true _ _ (som H).symm (h.wk (by rfl) [2] (by decide) (by rfl))
  ·have H := ifF c2 H
   refine gg h rfl rfl (nbF c2) (o_fa rfl t_f34_0 rfl rfl) rfl fun _ _ _ h => ?_
   have g3 := (in2 (fd_sub sArp_Op 2 rfl h.mem))
   refine gg h rfl rfl (nbF c2) (o_lfx 2 rfl rfl sArp_Op rfl X_int t_y3) rfl fun _ _ _ h => ?_
   refine gg h rfl rfl (nbF c2) (o_bin rfl rfl rfl) rfl fun _ _ _ h => ?_
   refine gs h (o_pickF rfl rfl c2) rfl fun _ _ _ h => ?_
   refine gs h (o_move rfl) rfl fun _ _ _ h => ?_
   by_cases c3 : decide (a1.Op < 1) = true
   ·have H := ifT c3 H
    refine gk h rfl rfl (nb_t c3) rfl fun _ h => ?_
    refine gk h rfl rfl (nb_t c3) rfl fun _ h => ?_
    refine gk h rfl rfl (nb_t c3) rfl fun _ h => ?_
    refine gs h (o_pickT rfl rfl c3) rfl fun _ _ _ h => ?_
    refine GoR.done ?_
    exact J1 true _ _ (som H).symm (h.wk (by rfl) [2] (by decide) (by rfl))
   ·have H := ifF c3 H
    refine gg h rfl rfl (nbF c3) (o_fa rfl t_f34_0 rfl rfl) rfl fun _ _ _ h => ?_
    have g4 := (in2 (fd_sub sArp_Op 2 rfl h.mem))
    refine gg h rfl rfl (nbF c3) (o_lfx 2 rfl rfl sArp_Op rfl X_int t_y3) rfl fun _ _ _ h => ?_
    refine gg h rfl rfl (nbF c3) (o_bin rfl rfl rfl) rfl fun _ _ _ h => ?_
    refine gs h (o_pickF rfl rfl c3) rfl fun _ _ _ h => ?_
    refine GoR.done ?_
    exact J1 (decide (2 < a1.Op)) _ _ (som H).symm (h.wk (by rfl) [2] (by decide) (by rfl))
def ether_PutArp.g (k_ : Nat) (a1 : TArp) : Option ((List Int) × Int) :=
  ((if (!decide ((a1.Smac.length : Int) = 6)) = true then some (true) else (if (!decide ((a1.Tmac.length : Int) = 6)) = true then some (true) else (if decide (a1.Op < 1) = true then some (true) else some (decide (2 < a1.Op)))))).bind (fun j1 => (if j1 = true then some (([], 2)) else (ether_lead.g k_).bind fun r1 => (bits_Put.g k_ a1.Sip 4 true).bind fun r2 => (bits_Put.g k_ a1.Tip 4 true).bind fun r3 => (slices_Concat_s_byte_byte.g k_ ([r1, ([IntKind.u8.wrap a1.Op] : List Int), a1.Smac, r2, a1.Tmac, r3] : List (List Int))).bind fun r4 => some ((r4, 0))))
theorem ether_PutArp.le (k_ : Nat) (a1 : TArp) : Le (ether_PutArp.g k_ a1) (ether_PutArp.f a1) := by
 unfold ether_PutArp.g ether_PutArp.f
 repeat' (first | with_reducible refine le_loop fun _ => ?_ | with_reducible refine le_bind ?_ fun _ => ?_ | with_reducible refine le_ite ?_ ?_ | with_reducible refine le_lt fun _ => ?_ | with_reducible refine le_elim (fun _ => ?_) (fun _ => ?_) _ | with_reducible apply bits_Put.le | with_reducible apply ether_lead.le | with_reducible apply slices_Concat_s_byte_byte.le | with_reducible exact le_refl _)
/-! bytes.Equal -/
noncomputable def bytes_Equal.f (a1 : List Int) (a2 : List Int) : Option (Bool) :=
  lt (decide (a1 = a2)) fun y1 => some (y1)
set_option maxRecDepth 100000 in
set_option maxHeartbeats 4000000 in
theorem bytes_Equal.spc (v1 : Value) (a1 : List Int) (v2 : Value) (a2 : List Int) (r : Bool) (H : bytes_Equal.f a1 a2 = some r) : Spc Try.prog 38 [v1, v2] [Val (Kd.sl (Kd.int .u8)) v1 a1, Val (Kd.sl (Kd.int .u8)) v2 a2] [] (fun (s : Unit) => .bool r) (fun s => []) := by
 unfold bytes_Equal.f at H
 refine Spc.go Try.func38 rfl (by kernel_rfl) rfl rfl (all_cons (Val.per Per_sl) (all_cons (Val.per Per_sl) all_nil)) fun F a w h => ?_
 refine Go.seq ?_
 refine Go.reg ?_
 refine gs h (o_assign rfl) rfl fun _ _ _ h => ?_
 refine GoR.done ?_
 refine Go.seq ?_
 refine Go.reg ?_
 refine gs h (o_move rfl) rfl fun _ _ _ h => ?_
 have g1 := (rd_bs (rd_at 0 rfl) h.mem)
 refine gs h (o_b2s rfl (rd_at 0 rfl) t_u22 t_u5 t_u9) rfl fun _ _ _ h => ?_
 refine gs h (o_move rfl) rfl fun _ _ _ h => ?_
 have g2 := (rd_bs (rd_at 1 rfl) h.mem)
 refine gs h (o_b2s rfl (rd_at 1 rfl) t_u22 t_u5 t_u9) rfl fun _ _ _ h => ?_
 refine gs h (o_eqs rfl rfl g1 g2) rfl fun _ _ _ h => ?_
 obtain ⟨y1, ey1, H⟩ := ltE H
 refine gs h (o_assign' rfl (congrArg Value.bool ey1)) rfl fun _ _ _ h => ?_
 refine GoR.done ?_
 rw [← som H]
 exact g_ret (vs := [.bool y1]) h Try.func38 ⟨rfl, trivial⟩ ⟨(), rfl, (h.mem.pick [] (by decide) rfl)⟩
def bytes_Equal.g (k_ : Nat) (a1 : List Int) (a2 : List Int) : Option (Bool) :=
  lt (decide (a1 = a2)) fun y1 => some (y1)
theorem bytes_Equal.le (k_ : Nat) (a1 : List Int) (a2 : List Int) : Le (bytes_Equal.g k_ a1 a2) (bytes_Equal.f a1 a2) := by
 unfold bytes_Equal.g bytes_Equal.f
 repeat' (first | with_reducible refine le_loop fun _ => ?_ | with_reducible refine le_bind ?_ fun _ => ?_ | with_reducible refine le_ite ?_ ?_ | with_reducible refine le_lt fun _ => ?_ | with_reducible refine le_elim (fun _ => ?_) (fun _ => ?_) _ | with_reducible exact le_refl _)
/-! bytes.HasPrefix -/
noncomputable def bytes_HasPrefix.f (a1 : List Int) (a2 : List Int) : Option (Bool) :=
  ((if decide ((a2.length : Int) ≤ (a1.length : Int)) = true then (cut a1 0 (a2.length : Int)).bind fun x1 => (bytes_Equal.f x1 a2).bind fun r1 => some (r1) else some (false))).bind (fun j1 => some (j1))
set_option maxRecDepth 100000 in
set_option maxHeartbeats 4000000 in
theorem bytes_HasPrefix.spc (v1 : Value) (a1 : List Int) (v2 : Value) (a2 : List Int) (r : Bool) (H : bytes_HasPrefix.f a1 a2 = some r) : Spc Try.prog 28 [v1, v2] [Val (Kd.sl (Kd.int .u8)) v1 a1, Val (Kd.sl (Kd.int .u8)) v2 a2] [] (fun (s : Unit) => .bool r) (fun s => []) := by
 unfold bytes_HasPrefix.f at H
 refine Spc.go Try.func28 rfl (by kernel_rfl) rfl rfl (all_cons (Val.per Per_sl) (all_cons (Val.per Per_sl) all_nil)) fun F a w h => ?_
 refine Go.seq ?_
 refine Go.reg ?_
 refine gs h (o_assign rfl) rfl fun _ _ _ h => ?_
 refine GoR.done ?_
 refine Go.seq ?_
 obtain ⟨o1, H, G1⟩ := bindE H
 refine g_cut (fun G => ∀ j1 (a : Act) (w : World), o1 = j1 → St Try.f28.ntmps F [(4, .bool j1)] [] a w → G a w) 1 ?_ fun J1 => ?_
 ·intro j1 a w ho_ h
  rw [ho_] at G1
  have H := G1
  rw [← som H]
  exact g_ret (vs := [.bool j1]) h Try.func28 ⟨rfl, trivial⟩ ⟨(), rfl, (h.mem.pick [] (by decide) rfl)⟩
 refine Go.reg ?_
 refine gs h (o_move rfl) rfl fun _ _ _ h => ?_
 have g1 := (len_at 0 rfl h.mem)
 refine gs h (o_ln rfl (rd_at 0 rfl) t_v22) rfl fun _ _ _ h => ?_
 refine gs h (o_move rfl) rfl fun _ _ _ h => ?_
 have g2 := (len_at 1 rfl h.mem)
 refine gs h (o_ln rfl (rd_at 1 rfl) t_v22) rfl fun _ _ _ h => ?_
 refine gs h (o_bin rfl rfl rfl) rfl fun _ _ _ h => ?_
 refine gs h (o_move rfl) rfl fun _ _ _ h => ?_
 by_cases c1 : decide ((a2.length : Int) ≤ (a1.length : Int)) = true
 ·have H := ifT c1 H
  refine gg h rfl rfl c1 (o_move rfl) rfl fun _ _ _ h => ?_
  refine gg h rfl rfl c1 (o_move rfl) rfl fun _ _ _ h => ?_
  have g3 := (len_at 1 rfl h.mem)
  refine gg h rfl rfl c1 (o_ln rfl (rd_at 1 rfl) t_v22) rfl fun _ _ _ h => ?_
  obtain ⟨x1, ex1, H⟩ := bindE H
  refine gg h rfl rfl c1 (o_cuth rfl (pv_at Per_sl 0 rfl) rfl ex1 t_v22) rfl fun v3 _ _ h => ?_
  refine gg h rfl rfl c1 (o_move rfl) rfl fun _ _ _ h => ?_
  obtain ⟨r1, er1, H⟩ := bindE H
  refine gg h rfl rfl c1 (o_call (bytes_Equal.spc v3 x1 v2 a2 r1 er1) rfl [0, 2] [] (by decide) rfl rfl) rfl fun _ _ _ h => ?_
  refine gs h (o_pickT rfl rfl c1) rfl fun _ _ _ h => ?_
  refine gs h (o_assign rfl) rfl fun _ _ _ h => ?_
  refine GoR.done ?_
  exact J1 r1 _ _ (som H).symm (h.wk (by rfl) [] (by decide) (by rfl))
 ·have H := ifF c1 H
  refine gk h rfl rfl (nb_f c1) rfl fun _ h => ?_
  refine gk h rfl rfl (nb_f c1) rfl fun _ h => ?_
  refine gk h rfl rfl (nb_f c1) rfl fun _ h => ?_
  refine gk h rfl rfl (nb_f c1) rfl fun _ h => ?_
  refine gk h rfl rfl (nb_f c1) rfl fun _ h => ?_
  refine gk h rfl rfl (nb_f c1) rfl fun _ h => ?_
  refine gs h (o_pickF rfl rfl c1) rfl fun _ _ _ h => ?_
  refine gs h (o_assign rfl) rfl fun _ _ _ h => ?_
  refine GoR.done ?_
  exact J1 false _ _ (som H).symm (h.wk (by rfl) [] (by decide) (by rfl))
def bytes_HasPrefix.g (k_ : Nat) (a1 : List Int) (a2 : List Int) : Option (Bool) :=
  ((if decide ((a2.length : Int) ≤ (a1.length : Int)) = true then (cut a1 0 (a2.length : Int)).bind fun x1 => (bytes_Equal.g k_ x1 a2).bind fun r1 => some (r1) else some (false))).bind (fun j1 => some (j1))
theorem bytes_HasPrefix.le (k_ : Nat) (a1 : List Int) (a2 : List Int) : Le (bytes_HasPrefix.g k_ a1 a2) (bytes_HasPrefix.f a1 a2) := by
 unfold bytes_HasPrefix.g bytes_HasPrefix.f
 repeat' (first | with_reducible refine le_loop fun _ => ?_ | with_reducible refine le_bind ?_ fun _ => ?_ | with_reducible refine le_ite ?_ ?_ | with_reducible refine le_lt fun _ => ?_ | with_reducible refine le_elim (fun _ => ?_) (fun _ => ?_) _ | with_reducible apply bytes_Equal.le | with_reducible exact le_refl _)
end Go.Proofs.Ytplkiompmjhdlaa.S
