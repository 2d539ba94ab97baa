/- Contracts, printed by a program of this session. -/
import Derived.Test.YtmmaojclfggioaaT1
import Derived.Test.YtmmaojclfggioaaT2
namespace Go.Proofs.Ytmmaojclfggioaa.S
open Go Go.SL Go.RowKit
set_option linter.unusedVariables false
set_option linter.unusedSimpArgs false
/-! slices.IndexFunc[[]drawbridge/api.Lease,drawbridge/api.Lease] -/
noncomputable def slices_IndexFunc_s_api_Lease_api_Lease_at_lease_held_1_of_lease_Owner_1.f (a1 : List TLease) (a2 : Int) (a3 : Int) : Option (Int) :=
  (loop (fun s1 => (if decide (s1 < (a1.length : Int)) = true then (idx a1 s1).bind fun x1 => (lease_held_1_at_lease_Owner_1.f x1 a2 a3).bind fun r1 => (if r1 = true then some (.inr (.inr (s1))) else some (.inl (IntKind.i64.wrap (s1 + 1)))) else some (.inr (.inl (()))))) 0).bind (Sum.elim (fun j1 => some ((-1))) (fun z_ => some (z_)))
set_option maxRecDepth 100000 in
set_option maxHeartbeats 4000000 in
theorem slices_IndexFunc_s_api_Lease_api_Lease_at_lease_held_1_of_lease_Owner_1.spc (v1 : Value) (a1 : List TLease) (b1 : Nat) (a2 : Int) (b2 : Nat) (b3 : Nat) (a3 : Int) (r : Int) (H : slices_IndexFunc_s_api_Lease_api_Lease_at_lease_held_1_of_lease_Owner_1.f a1 a2 a3 = some r) : Spc Try.prog 63 [v1, .func (.func 57) #[] #[pt b1, pt b2]] [Val (Kd.sl KLease) v1 a1, Pfl (Kd.int .i64) b1 0 a2, Pfl (Kd.int .u32) b3 0 a3, Pfl (Kd.eq (.func (.func 27) #[] #[pt b3])) b2 0 ()] [] (fun (s : Unit) => .int .i64 r) (fun s => [Ent.pur (InR .i64 r)]) := by
 unfold slices_IndexFunc_s_api_Lease_api_Lease_at_lease_held_1_of_lease_Owner_1.f at H
 refine Spc.go Try.func63 rfl (by kernel_rfl) rfl rfl (all_cons (Val.per Per_sl) (all_cons Per_pfl (all_cons Per_pfl (all_cons Per_pfl all_nil)))) fun F a w h => ?_
 refine Go.seq ?_
 refine Go.reg ?_
 refine ga h (o_assign rfl) rfl fun h => ?_
 refine GoR.done ?_
 refine Go.seq ?_
 refine Go.seq ?_
 refine Go.reg ?_
 refine mv h rfl rfl fun h => ?_
 have g1 := (len_at 0 rfl h.mem)
 refine ga h (o_ln rfl (rd_at 0 rfl) t_v26) rfl fun h => ?_
 refine mv h rfl rfl fun h => ?_
 refine GoR.done ?_
 refine Go.block ?_
 obtain ⟨o1, hl, G1⟩ := bindE H
 refine g_cut (fun G => ∀ j1 (a : Act) (w : World), o1 = .inl (j1) → St Try.f63.ntmps F [] [Pfl (Kd.int .i64) b1 0 a2, Pfl (Kd.int .u32) b3 0 a3, Pfl (Kd.eq (.func (.func 27) #[] #[pt b3])) b2 0 ()] a w → G a w) 2 ?_ fun J1 => ?_
 ·intro j1 a w ho_ h
  rw [ho_] at G1
  have H := eInl G1
  refine Go.seq ?_
  refine Go.reg ?_
  refine ga h (o_assign rfl) rfl fun h => ?_
  refine GoR.done ?_
  rw [← som H]
  exact g_ret (vs := [.int .i64 (-1)]) h Try.func63 ⟨rfl, trivial⟩ ⟨(), rfl, ((h.mem.pick [] (by decide) rfl).addpur (show InR .i64 (-1) by decide))⟩
 refine g_loop (fun s1 G => ∀  (a : Act) (w : World), InR .i64 s1 → St Try.f63.ntmps F [(0, v1), (1, .func (.func 57) #[] #[pt b1, pt b2]), (7, .int .i64 (a1.length : Int)), (8, .int .i64 s1)] [Val (Kd.sl KLease) v1 a1, Pfl (Kd.int .i64) b1 0 a2, Pfl (Kd.int .u32) b3 0 a3, Pfl (Kd.eq (.func (.func 27) #[] #[pt b3])) b2 0 ()] a w → G a w) hl (fun s1 p1 H i1 => ?_) fun I_ => ?_
 ·intro  a w g2 h
  refine Go.seq ?_
  refine Go.reg ?_
  refine ga h (o_bin rfl rfl rfl) rfl fun h => ?_
  refine GoR.done ?_
  refine Go.seq ?_
  by_cases c1 : decide (s1 < (a1.length : Int)) = true
  ·have H := ifT c1 H
   refine g_t h rfl c1 ?_
   refine Go.skip ?_
   refine Go.seq ?_
   refine Go.block ?_
   refine Go.seq ?_
   refine Go.reg ?_
   refine mv h rfl rfl fun h => ?_
   refine ga h (o_assign rfl) rfl fun h => ?_
   refine GoR.done ?_
   refine Go.seq ?_
   refine Go.reg ?_
   iterate 3 (refine ga h (o_move rfl) rfl fun h => ?_)
   obtain ⟨x1, ex1, H⟩ := bindE H
   refine ga h (o_ix rfl rfl (rd_at 0 rfl) ex1 t_v26) rfl fun h => ?_
   refine gs h (o_lev rfl (rd_at 0 rfl) ex1 t_y42 (by decide)) rfl fun v2 _ _ h => ?_
   obtain ⟨r1, er1, H⟩ := bindE H
   refine ga h (o_callv (vs := [v2]) (caps := [pt b1, pt b2]) rfl rfl (lease_held_1_at_lease_Owner_1.spc v2 x1 b1 a2 b2 b3 a3 r1 er1) [0, 2, 3, 4] [] (by decide) rfl rfl) rfl fun h => ?_
   refine GoR.done ?_
   by_cases c2 : r1 = true
   ·have H := ifT c2 H
    refine g_t h rfl c2 ?_
    refine Go.seq ?_
    refine Go.reg ?_
    refine mv h rfl rfl fun h => ?_
    refine ga h (o_assign rfl) rfl fun h => ?_
    refine GoR.done ?_
    have e_ := som H; subst e_
    rw [← nx_out i1] at G1
    have H := G1
    rw [← som H]
    exact g_ret (vs := [.int .i64 s1]) h Try.func63 ⟨rfl, trivial⟩ ⟨(), rfl, ((h.mem.pick [] (by decide) rfl).addpur g2)⟩
   ·have H := ifF c2 H
    refine g_f h rfl c2 ?_
    refine Go.skip ?_
    refine Go.inBlock ?_
    refine Go.reg ?_
    refine ga h (o_bin rfl rfl rfl) rfl fun h => ?_
    refine mv h rfl rfl fun h => ?_
    refine GoR.done ?_
    have e_ := som H; subst e_
    exact Go.inLoop (nx_in i1 _ _ (wrap_in _ _) (h.wr [1, 2, 3, 4]))
  ·have H := ifF c1 H
   refine g_f h rfl c1 ?_
   refine Go.exit rfl ?_
   have e_ := som H; subst e_
   exact J1 () _ _ (nx_out i1).symm (h.wr [1, 2, 3])
 ·exact I_ _ _ (show InR .i64 0 by decide) (h.wr [0, 1, 2, 3])
def slices_IndexFunc_s_api_Lease_api_Lease_at_lease_held_1_of_lease_Owner_1.g (k_ : Nat) (a1 : List TLease) (a2 : Int) (a3 : Int) : Option (Int) :=
  (loopK k_ (fun s1 => (if decide (s1 < (a1.length : Int)) = true then (idx a1 s1).bind fun x1 => (lease_held_1_at_lease_Owner_1.g k_ x1 a2 a3).bind fun r1 => (if r1 = true then some (.inr (.inr (s1))) else some (.inl (IntKind.i64.wrap (s1 + 1)))) else some (.inr (.inl (()))))) 0).bind (Sum.elim (fun j1 => some ((-1))) (fun z_ => some (z_)))
theorem slices_IndexFunc_s_api_Lease_api_Lease_at_lease_held_1_of_lease_Owner_1.le (k_ : Nat) (a1 : List TLease) (a2 : Int) (a3 : Int) : Le (slices_IndexFunc_s_api_Lease_api_Lease_at_lease_held_1_of_lease_Owner_1.g k_ a1 a2 a3) (slices_IndexFunc_s_api_Lease_api_Lease_at_lease_held_1_of_lease_Owner_1.f a1 a2 a3) := by
 unfold slices_IndexFunc_s_api_Lease_api_Lease_at_lease_held_1_of_lease_Owner_1.g slices_IndexFunc_s_api_Lease_api_Lease_at_lease_held_1_of_lease_Owner_1.f
 repeat' (first | with_reducible refine le_loop fun _ => ?_ | with_reducible refine le_bind ?_ fun _ => ?_ | with_reducible refine le_ite ?_ ?_ | with_reducible refine le_lt fun _ => ?_ | with_reducible refine le_elim (fun _ => ?_) (fun _ => ?_) _ | with_reducible apply lease_held_1_at_lease_Owner_1.le | with_reducible exact le_refl _)
/-! drawbridge/lease.first[drawbridge/api.Lease] -/
noncomputable def lease_first_api_Lease_at_lease_held_1_of_lease_Owner_1.f (a1 : List TLease) (a2 : Int) (a3 : Int) : Option (TLease × Bool) :=
  (slices_IndexFunc_s_api_Lease_api_Lease_at_lease_held_1_of_lease_Owner_1.f a1 a2 a3).bind fun r1 => (if decide (r1 < 0) = true then some ((zLease, false)) else (idx a1 r1).bind fun x1 => some ((x1, true)))
set_option maxRecDepth 100000 in
set_option maxHeartbeats 4000000 in
theorem lease_first_api_Lease_at_lease_held_1_of_lease_Owner_1.spc (v1 : Value) (a1 : List TLease) (b1 : Nat) (a2 : Int) (b2 : Nat) (b3 : Nat) (a3 : Int) (r : TLease × Bool) (H : lease_first_api_Lease_at_lease_held_1_of_lease_Owner_1.f a1 a2 a3 = some r) : Spc Try.prog 56 [v1, .func (.func 57) #[] #[pt b1, pt b2]] [Val (Kd.sl KLease) v1 a1, Pfl (Kd.int .i64) b1 0 a2, Pfl (Kd.int .u32) b3 0 a3, Pfl (Kd.eq (.func (.func 27) #[] #[pt b3])) b2 0 ()] [] (fun (s : Value) => .tuple #[s, .bool r.2]) (fun s => [Val KLease s r.1]) := by
 unfold lease_first_api_Lease_at_lease_held_1_of_lease_Owner_1.f at H
 refine Spc.go Try.func56 rfl (by kernel_rfl) rfl rfl (all_cons (Val.per Per_sl) (all_cons Per_pfl (all_cons Per_pfl (all_cons Per_pfl all_nil)))) fun F a w h => ?_
 refine Go.seq ?_
 refine Go.reg ?_
 refine gs h (o_alloc (K := KLease) (z := (.agg #[.slice none 0 0, .int .u32 0, .int .i64 0])) rfl ZLease) rfl fun b4 _ _ h => ?_
 refine ga h (o_assign rfl) rfl fun h => ?_
 refine GoR.done ?_
 refine Go.seq ?_
 refine Go.reg ?_
 refine mv h rfl rfl fun h => ?_
 refine mv h rfl rfl fun h => ?_
 obtain ⟨r1, er1, H⟩ := bindE H
 refine ga h (o_call (slices_IndexFunc_s_api_Lease_api_Lease_at_lease_held_1_of_lease_Owner_1.spc v1 a1 b1 a2 b2 b3 a3 r1 er1) rfl [1, 2, 3, 4] [] (by decide) rfl rfl) rfl fun h => ?_
 have g1 := h.mem.pur 0 rfl
 refine ga h (o_assign rfl) rfl fun h => ?_
 refine GoR.done ?_
 refine Go.seq ?_
 refine Go.seq ?_
 refine Go.reg ?_
 refine mv h rfl rfl fun h => ?_
 refine ga h (o_bin rfl rfl rfl) rfl fun h => ?_
 refine GoR.done ?_
 by_cases c1 : decide (r1 < 0) = true
 ·have H := ifT c1 H
  refine g_t h rfl c1 ?_
  refine Go.seq ?_
  refine Go.reg ?_
  refine gs h (o_alloc (K := KLease) (z := (.agg #[.slice none 0 0, .int .u32 0, .int .i64 0])) rfl ZLease) rfl fun b5 _ _ h => ?_
  refine GoR.done ?_
  refine Go.seq ?_
  refine Go.reg ?_
  refine gs h (o_ldv 0 rfl rfl PLease t_y42) rfl fun v2 _ _ h => ?_
  refine gs0 h (o_st 3 rfl rfl rfl (pv_at PLease 0 rfl) rfl t_w42) fun _ _ _ h => ?_
  refine ga h (o_assign rfl) rfl fun h => ?_
  refine GoR.done ?_
  obtain ⟨v3, h, u1⟩ := h.peek 3 rfl PLease t_y42
  rw [← som H]
  exact g_ret (vs := [v3, .bool false]) h Try.func56 ⟨⟨_, rfl, u1⟩, ⟨rfl, trivial⟩⟩ ⟨v3, rfl, (h.mem.pick [0] (by decide) rfl)⟩
 ·have H := ifF c1 H
  refine g_f h rfl c1 ?_
  refine Go.skip ?_
  refine Go.seq ?_
  refine Go.reg ?_
  refine mv h rfl rfl fun h => ?_
  refine mv h rfl rfl fun h => ?_
  obtain ⟨x1, ex1, H⟩ := bindE H
  refine ga h (o_ix rfl rfl (rd_at 2 rfl) ex1 t_v26) rfl fun h => ?_
  refine gs h (o_lev rfl (rd_at 2 rfl) ex1 t_y42 (by decide)) rfl fun v4 _ _ h => ?_
  refine gs0 h (o_st 2 rfl rfl rfl (pv_at PLease 0 rfl) rfl t_w42) fun _ _ _ h => ?_
  refine ga h (o_assign rfl) rfl fun h => ?_
  refine GoR.done ?_
  obtain ⟨v5, h, u2⟩ := h.peek 2 rfl PLease t_y42
  rw [← som H]
  exact g_ret (vs := [v5, .bool true]) h Try.func56 ⟨⟨_, rfl, u2⟩, ⟨rfl, trivial⟩⟩ ⟨v5, rfl, (h.mem.pick [0] (by decide) rfl)⟩
def lease_first_api_Lease_at_lease_held_1_of_lease_Owner_1.g (k_ : Nat) (a1 : List TLease) (a2 : Int) (a3 : Int) : Option (TLease × Bool) :=
  (slices_IndexFunc_s_api_Lease_api_Lease_at_lease_held_1_of_lease_Owner_1.g k_ a1 a2 a3).bind fun r1 => (if decide (r1 < 0) = true then some ((zLease, false)) else (idx a1 r1).bind fun x1 => some ((x1, true)))
theorem lease_first_api_Lease_at_lease_held_1_of_lease_Owner_1.le (k_ : Nat) (a1 : List TLease) (a2 : Int) (a3 : Int) : Le (lease_first_api_Lease_at_lease_held_1_of_lease_Owner_1.g k_ a1 a2 a3) (lease_first_api_Lease_at_lease_held_1_of_lease_Owner_1.f a1 a2 a3) := by
 unfold lease_first_api_Lease_at_lease_held_1_of_lease_Owner_1.g lease_first_api_Lease_at_lease_held_1_of_lease_Owner_1.f
 repeat' (first | with_reducible refine le_loop fun _ => ?_ | with_reducible refine le_bind ?_ fun _ => ?_ | with_reducible refine le_ite ?_ ?_ | with_reducible refine le_lt fun _ => ?_ | with_reducible refine le_elim (fun _ => ?_) (fun _ => ?_) _ | with_reducible apply slices_IndexFunc_s_api_Lease_api_Lease_at_lease_held_1_of_lease_Owner_1.le | with_reducible exact le_refl _)
/-! drawbridge/lease.held -/
noncomputable def lease_held_at_lease_Owner_1.f (a1 : List TLease) (a2 : Int) (a3 : Int) : Option (TLease × Bool) :=
  ((lease_Check.f a1).bind fun r1 => (if (!r1) = true then some (true) else (lease_tick.f a2).bind fun r2 => some ((!r2)))).bind (fun j1 => (if j1 = true then some (((⟨[], 0, 0⟩ : TLease), false)) else (lease_first_api_Lease_at_lease_held_1_of_lease_Owner_1.f a1 a2 a3).bind fun r3 => some ((r3.1, r3.2))))
set_option maxRecDepth 100000 in
set_option maxHeartbeats 4000000 in
theorem lease_held_at_lease_Owner_1.spc (v1 : Value) (a1 : List TLease) (a2 : Int) (ha2 : InR .i64 a2) (b1 : Nat) (a3 : Int) (r : TLease × Bool) (H : lease_held_at_lease_Owner_1.f a1 a2 a3 = some r) : Spc Try.prog 26 [v1, .int .i64 a2, .func (.func 27) #[] #[pt b1]] [Val (Kd.sl KLease) v1 a1, Pfl (Kd.int .u32) b1 0 a3] [] (fun (s : Value) => .tuple #[s, .bool r.2]) (fun s => [Val KLease s r.1]) := by
 unfold lease_held_at_lease_Owner_1.f at H
 refine Spc.go Try.func26 rfl (by kernel_rfl) rfl rfl (all_cons (Val.per Per_sl) (all_cons Per_pfl all_nil)) fun F a w h => ?_
 refine Go.seq ?_
 refine Go.reg ?_
 refine gs h (o_box (K := (Kd.int .i64)) rfl (pv_int ha2)) rfl fun b2 _ _ h => ?_
 refine gs h (o_box (K := (Kd.eq (.func (.func 27) #[] #[pt b1]))) rfl (pv_eq rfl)) rfl fun b3 _ _ h => ?_
 refine gs h (o_alloc (K := KLease) (z := (.agg #[.slice none 0 0, .int .u32 0, .int .i64 0])) rfl ZLease) rfl fun b4 _ _ h => ?_
 refine ga h (o_assign rfl) rfl fun h => ?_
 refine GoR.done ?_
 refine Go.seq ?_
 refine Go.seq ?_
 obtain ⟨o1, H, G1⟩ := bindE H
 refine g_cut (fun G => ∀ j1 (a : Act) (w : World), o1 = j1 → St Try.f26.ntmps F [(0, v1), (4, pt b2), (5, pt b3), (6, pt b4), (15, .bool j1)] [Val (Kd.sl KLease) v1 a1, Fld KLease b4 0 zLease, Fld (Kd.eq (.func (.func 27) #[] #[pt b1])) b3 0 (), Fld (Kd.int .i64) b2 0 a2, Pfl (Kd.int .u32) b1 0 a3] a w → G a w) 1 ?_ fun J1 => ?_
 ·intro j1 a w ho_ h
  rw [ho_] at G1
  have H := G1
  by_cases c2 : j1 = true
  ·have H := ifT c2 H
   refine g_t h rfl c2 ?_
   refine Go.seq ?_
   refine Go.reg ?_
   refine gs h (o_build (K := KLease) (x := (⟨[], 0, 0⟩ : TLease)) (ps := []) rfl (zs := zsLease) rfl t_b42 rfl (show PB (Kd.pair (Kd.sl (Kd.int .u8)) (Kd.pair (Kd.int .u32) (Kd.last (Kd.int .i64)))) ([], 0, 0) 0 zsLease _ _ from (pb_zero z_sl (pb_zero z_int (pb_lastz z_int))))) rfl fun v2 _ _ h => ?_
   refine gs0 h (o_st 2 rfl rfl rfl (pv_at PLease 0 rfl) rfl t_w42) fun _ _ _ h => ?_
   refine ga h (o_assign rfl) rfl fun h => ?_
   refine GoR.done ?_
   obtain ⟨v3, h, u1⟩ := h.peek 2 rfl PLease t_y42
   rw [← som H]
   exact g_ret (vs := [v3, .bool false]) h Try.func26 ⟨⟨_, rfl, u1⟩, ⟨rfl, trivial⟩⟩ ⟨v3, rfl, (h.mem.pick [0] (by decide) rfl)⟩
  ·have H := ifF c2 H
   refine g_f h rfl c2 ?_
   refine Go.skip ?_
   refine Go.seq ?_
   refine Go.reg ?_
   refine mv h rfl rfl fun h => ?_
   refine ga h (o_makeFunc (vs := [pt b2, pt b3]) rfl) rfl fun h => ?_
   replace h := h.mm fun m => m.frz Per_int 3 rfl
   replace h := h.mm fun m => m.frz Per_eq 2 rfl
   obtain ⟨r3, er3, H⟩ := bindE H
   refine gs h (o_call (lease_first_api_Lease_at_lease_held_1_of_lease_Owner_1.spc v1 a1 b2 a2 b3 b1 a3 r3 er3) rfl [0, 3, 4, 2] [] (by decide) rfl rfl) rfl fun v4 _ _ h => ?_
   refine ga h (o_extract rfl rfl) rfl fun h => ?_
   refine ga h (o_extract rfl rfl) rfl fun h => ?_
   refine gs0 h (o_st 2 rfl rfl rfl (pv_at PLease 0 rfl) rfl t_w42) fun _ _ _ h => ?_
   refine ga h (o_assign rfl) rfl fun h => ?_
   refine GoR.done ?_
   obtain ⟨v5, h, u2⟩ := h.peek 2 rfl PLease t_y42
   rw [← som H]
   exact g_ret (vs := [v5, .bool r3.2]) h Try.func26 ⟨⟨_, rfl, u2⟩, ⟨rfl, trivial⟩⟩ ⟨v5, rfl, (h.mem.pick [0] (by decide) rfl)⟩
 refine Go.reg ?_
 refine mv h rfl rfl fun h => ?_
 obtain ⟨r1, er1, H⟩ := bindE H
 refine ga h (o_call (lease_Check.spc v1 a1 r1 er1) rfl [3] [] (by decide) rfl rfl) rfl fun h => ?_
 refine ga h (o_not rfl) rfl fun h => ?_
 refine mv h rfl rfl fun h => ?_
 by_cases c1 : (!r1) = true
 ·have H := ifT c1 H
  iterate 3 (refine gk h rfl rfl (nb_t c1) rfl fun _ h => ?_)
  refine ga h (o_pickT rfl rfl c1) rfl fun h => ?_
  refine GoR.done ?_
  exact J1 true _ _ (som H).symm (h.wr [3, 0, 1, 2, 4])
 ·have H := ifF c1 H
  have g1 := (fd_in 2 rfl h.mem)
  refine gg h rfl rfl (nbF c1) (o_ldx 2 rfl rfl X_int t_y3) rfl fun _ _ _ h => ?_
  obtain ⟨r2, er2, H⟩ := bindE H
  refine gg h rfl rfl (nbF c1) (o_call (lease_tick.spc a2 g1 r2 er2) rfl [] [] (by decide) rfl rfl) rfl fun _ _ _ h => ?_
  refine gg h rfl rfl (nbF c1) (o_not rfl) rfl fun _ _ _ h => ?_
  refine ga h (o_pickF rfl rfl c1) rfl fun h => ?_
  refine GoR.done ?_
  exact J1 (!r2) _ _ (som H).symm (h.wr [3, 0, 1, 2, 4])
def lease_held_at_lease_Owner_1.g (k_ : Nat) (a1 : List TLease) (a2 : Int) (a3 : Int) : Option (TLease × Bool) :=
  ((lease_Check.g k_ a1).bind fun r1 => (if (!r1) = true then some (true) else (lease_tick.g k_ a2).bind fun r2 => some ((!r2)))).bind (fun j1 => (if j1 = true then some (((⟨[], 0, 0⟩ : TLease), false)) else (lease_first_api_Lease_at_lease_held_1_of_lease_Owner_1.g k_ a1 a2 a3).bind fun r3 => some ((r3.1, r3.2))))
theorem lease_held_at_lease_Owner_1.le (k_ : Nat) (a1 : List TLease) (a2 : Int) (a3 : Int) : Le (lease_held_at_lease_Owner_1.g k_ a1 a2 a3) (lease_held_at_lease_Owner_1.f a1 a2 a3) := by
 unfold lease_held_at_lease_Owner_1.g lease_held_at_lease_Owner_1.f
 repeat' (first | with_reducible refine le_loop fun _ => ?_ | with_reducible refine le_bind ?_ fun _ => ?_ | with_reducible refine le_ite ?_ ?_ | with_reducible refine le_lt fun _ => ?_ | with_reducible refine le_elim (fun _ => ?_) (fun _ => ?_) _ | with_reducible apply lease_Check.le | with_reducible apply lease_first_api_Lease_at_lease_held_1_of_lease_Owner_1.le | with_reducible apply lease_tick.le | with_reducible exact le_refl _)
/-! drawbridge/lease.Owner -/
noncomputable def lease_Owner.f (a1 : List TLease) (a2 : Int) (a3 : Int) : Option ((List Int) × Bool) :=
  (lease_held_at_lease_Owner_1.f a1 a2 a3).bind fun r1 => (slices_Clone_s_byte_byte.f r1.1.Mac).bind fun r2 => some ((r2, r1.2))
set_option maxRecDepth 100000 in
set_option maxHeartbeats 4000000 in
theorem lease_Owner.spc (v1 : Value) (a1 : List TLease) (a2 : Int) (ha2 : InR .i64 a2) (a3 : Int) (ha3 : InR .u32 a3) (r : (List Int) × Bool) (H : lease_Owner.f a1 a2 a3 = some r) : Spc Try.prog 12 [v1, .int .i64 a2, .int .u32 a3] [Val (Kd.sl KLease) v1 a1] [] (fun (s : Value) => .tuple #[s, .bool r.2]) (fun s => [Val (Kd.osl (Kd.int .u8)) s r.1]) := by
 unfold lease_Owner.f at H
 refine Spc.go Try.func12 rfl (by kernel_rfl) rfl rfl (all_cons (Val.per Per_sl) all_nil) fun F a w h => ?_
 refine Go.seq ?_
 refine Go.reg ?_
 refine gs h (o_box (K := (Kd.int .u32)) rfl (pv_int ha3)) rfl fun b1 _ _ h => ?_
 refine ga h (o_assign rfl) rfl fun h => ?_
 refine ga h (o_assign rfl) rfl fun h => ?_
 refine GoR.done ?_
 refine Go.seq ?_
 refine Go.reg ?_
 refine mv h rfl rfl fun h => ?_
 refine mv h rfl rfl fun h => ?_
 refine ga h (o_makeFunc (vs := [pt b1]) rfl) rfl fun h => ?_
 replace h := h.mm fun m => m.frz Per_int 0 rfl
 obtain ⟨r1, er1, H⟩ := bindE H
 refine gs h (o_call (lease_held_at_lease_Owner_1.spc v1 a1 a2 ha2 b1 a3 r1 er1) rfl [1, 0] [] (by decide) rfl rfl) rfl fun v2 _ _ h => ?_
 refine mv h rfl rfl fun h => ?_
 refine ga h (o_extract rfl rfl) rfl fun h => ?_
 refine ga h (o_extract rfl rfl) rfl fun h => ?_
 refine gs h (o_alloc (K := KLease) (z := (.agg #[.slice none 0 0, .int .u32 0, .int .i64 0])) rfl ZLease) rfl fun b2 _ _ h => ?_
 refine gs0 h (o_st 0 rfl rfl rfl (pv_at PLease 1 rfl) rfl t_w42) fun _ _ _ h => ?_
 refine ga h (o_assign rfl) rfl fun h => ?_
 refine GoR.done ?_
 refine Go.seq ?_
 refine Go.reg ?_
 refine ga h (o_fa rfl t_f42_0 rfl rfl) rfl fun h => ?_
 refine gs h (o_lfv 0 rfl rfl sLease_Mac rfl Per_sl t_y22) rfl fun v3 _ _ h => ?_
 obtain ⟨r2, er2, H⟩ := bindE H
 refine gs h (o_call (slices_Clone_s_byte_byte.spc v3 r1.1.Mac r2 er2) rfl [0] [] (by decide) rfl rfl) rfl fun v4 _ _ h => ?_
 refine mv h rfl rfl fun h => ?_
 refine ga h (o_assign rfl) rfl fun h => ?_
 refine ga h (o_assign rfl) rfl fun h => ?_
 refine GoR.done ?_
 rw [← som H]
 exact g_ret (vs := [v4, .bool r1.2]) h Try.func12 ⟨rfl, ⟨rfl, trivial⟩⟩ ⟨v4, rfl, (h.mem.pick [0] (by decide) rfl)⟩
def lease_Owner.g (k_ : Nat) (a1 : List TLease) (a2 : Int) (a3 : Int) : Option ((List Int) × Bool) :=
  (lease_held_at_lease_Owner_1.g k_ a1 a2 a3).bind fun r1 => (slices_Clone_s_byte_byte.g k_ r1.1.Mac).bind fun r2 => some ((r2, r1.2))
theorem lease_Owner.le (k_ : Nat) (a1 : List TLease) (a2 : Int) (a3 : Int) : Le (lease_Owner.g k_ a1 a2 a3) (lease_Owner.f a1 a2 a3) := by
 unfold lease_Owner.g lease_Owner.f
 repeat' (first | with_reducible refine le_loop fun _ => ?_ | with_reducible refine le_bind ?_ fun _ => ?_ | with_reducible refine le_ite ?_ ?_ | with_reducible refine le_lt fun _ => ?_ | with_reducible refine le_elim (fun _ => ?_) (fun _ => ?_) _ | with_reducible apply lease_held_at_lease_Owner_1.le | with_reducible apply slices_Clone_s_byte_byte.le | with_reducible exact le_refl _)
/-! (*drawbridge/lease.server).free -/
noncomputable def lease_server_free.f (a1 : Tserver) (a2 : Int) : Option (Bool) :=
  (lease_Owner.f a1.l a1.now a2).bind fun r1 => ((lease_pool.f a2).bind fun r2 => (if r2 = true then some ((!r1.2)) else some (false))).bind (fun j1 => some (j1))
set_option maxRecDepth 100000 in
set_option maxHeartbeats 4000000 in
theorem lease_server_free.spc (b1 : Nat) (a1 : Tserver) (a2 : Int) (ha2 : InR .u32 a2) (r : Bool) (H : lease_server_free.f a1 a2 = some r) : Spc Try.prog 45 [pt b1, .int .u32 a2] [Pfl Kserver b1 0 a1] [] (fun (s : Unit) => .bool r) (fun s => []) := by
 unfold lease_server_free.f at H
 refine Spc.go Try.func45 rfl (by kernel_rfl) rfl rfl (all_cons Per_pfl all_nil) fun F a w h => ?_
 refine Go.seq ?_
 refine Go.reg ?_
 refine ga h (o_assign rfl) rfl fun h => ?_
 refine GoR.done ?_
 refine Go.seq ?_
 replace h := h.wq [(0, pt b1), (1, .int .u32 a2), (4, .bool false)] [Pfl Kserver b1 0 a1] [0]
 obtain ⟨r1, er1, H⟩ := bindE H
 refine Go.draw (E := [(0, pt b1), (1, .int .u32 a2), (4, .bool false)]) [] (L := [Pfl Kserver b1 0 a1]) h rfl rfl 14 [cn (pt b1), ce [0] (pt b1), ce [0, 1] (pt b1), cw [0, 1, 2] [] [] fun u => [Val (Kd.sl KLease) u a1.l], cn (pt b1), ce [4] (pt b1), ce [4, 5] (.pointer (some ⟨b1, 1, none⟩)), cm [4, 5, 6] [] [] (.int .i64 a1.now) fun u => [Ent.pur (InR .i64 a1.now)], cn (.int .u32 a2), cw [0, 1, 2, 3, 4, 5, 6, 7, 8] [3, 7] [] fun u => [Ent.pur (u = .tuple #[(tpv u 0), .bool r1.2]), Val (Kd.osl (Kd.int .u8)) (tpv u 0) r1.1], ⟨[0, 1, 2, 3, 4, 5, 6, 7, 8, 9], [], [], false, .fn (fun u => u) 9, none, fun u => [], []⟩, ⟨[0, 1, 2, 3, 4, 5, 6, 7, 8, 9, 10], [9], [], false, .fn (fun u => (tpv u 0)) 9, none, fun u => [], []⟩, cm [0, 1, 2, 3, 4, 5, 6, 7, 8, 9, 10] [9] [] (.bool r1.2) fun u => [], ⟨[0, 1, 2, 3, 4, 5, 6, 7, 8, 9, 10, 11], [], [], false, .fn (fun u => (tpv u 0)) 9, none, fun u => [], []⟩] rfl t_mxo (by kernel_rfl) (by rfl) ?_ fun f1 _ _ h => ?_
 ·exact ox rfl (o_move rfl) (ox rfl (o_nilc rfl) (ox rfl (o_fa rfl t_f53_0 rfl rfl) (oy rfl (p_lfv 0 rfl rfl sserver_l rfl t_y26) (ox rfl (o_move rfl) (ox rfl (o_nilc rfl) (ox rfl (o_fa rfl t_f53_1 rfl rfl) (ox rfl (OpS.pur (fun F w m_ => (in2 (pf_sub sserver_now 0 rfl m_))) (p_lfx 0 rfl rfl sserver_now rfl X_int t_y3)) (ox rfl (o_move rfl) (ow rfl rfl rfl (fun f1 => (OpS.fact (p := InR .i64 a1.now) (fun F w m_ => (Mem.pur 1 rfl m_)) fun g1 => (pur_d (o_call (lease_Owner.spc (f1 3) a1.l a1.now g1 a2 ha2 r1 er1) rfl [0] [] (by decide) rfl rfl) (fun _ => rfl)))) (obs_cons (ob_fn rfl (gok_none rfl) rfl fun f1 => (o_move rfl)) (obs_cons (ob_fn rfl (gok_none rfl) rfl fun f1 => (OpS.fact (fun F w m_ => (Mem.pur 0 rfl m_)) fun g2 => (o_extract (congrArg some g2) rfl))) (ox rfl (OpS.fact (fun F w m_ => (Mem.pur 0 rfl m_)) fun g3 => (o_extract (congrArg some g3) rfl)) (obs_cons (ob_fn rfl (gok_none rfl) rfl fun f1 => (o_assign rfl)) (obs_nil))))))))))))))
 replace h := h.wk (E' := [(1, .int .u32 a2), (4, .bool false), (19, .bool r1.2)]) (L' := [Val (Kd.sl KLease) (f1 3) a1.l, Ent.pur (InR .i64 a1.now), Ent.pur ((f1 9) = .tuple #[(tpv (f1 9) 0), .bool r1.2]), Val (Kd.osl (Kd.int .u8)) (tpv (f1 9) 0) r1.1, Pfl Kserver b1 0 a1]) (by kernel_rfl) [0, 1, 2, 3, 4] (by decide) (by kernel_rfl)
 refine ga h (o_assign rfl) rfl fun h => ?_
 refine GoR.done ?_
 refine Go.seq ?_
 obtain ⟨o1, H, G1⟩ := bindE H
 refine g_cut (fun G => ∀ j1 (a : Act) (w : World), o1 = j1 → St Try.f45.ntmps F [(4, .bool j1)] [Pfl Kserver b1 0 a1] a w → G a w) 1 ?_ fun J1 => ?_
 ·intro j1 a w ho_ h
  rw [ho_] at G1
  have H := G1
  rw [← som H]
  exact g_ret (vs := [.bool j1]) h Try.func45 ⟨rfl, trivial⟩ ⟨(), rfl, (h.mem.pick [] (by decide) rfl)⟩
 refine Go.reg ?_
 refine mv h rfl rfl fun h => ?_
 obtain ⟨r2, er2, H⟩ := bindE H
 refine ga h (o_call (lease_pool.spc a2 ha2 r2 er2) rfl [] [] (by decide) rfl rfl) rfl fun h => ?_
 refine mv h rfl rfl fun h => ?_
 by_cases c1 : r2 = true
 ·have H := ifT c1 H
  refine gg h rfl rfl c1 (o_move rfl) rfl fun _ _ _ h => ?_
  refine gg h rfl rfl c1 (o_not rfl) rfl fun _ _ _ h => ?_
  refine ga h (o_pickT rfl rfl c1) rfl fun h => ?_
  refine ga h (o_assign rfl) rfl fun h => ?_
  refine GoR.done ?_
  exact J1 (!r1.2) _ _ (som H).symm (h.wr [4])
 ·have H := ifF c1 H
  refine gk h rfl rfl (nb_f c1) rfl fun _ h => ?_
  refine gk h rfl rfl (nb_f c1) rfl fun _ h => ?_
  refine ga h (o_pickF rfl rfl c1) rfl fun h => ?_
  refine ga h (o_assign rfl) rfl fun h => ?_
  refine GoR.done ?_
  exact J1 false _ _ (som H).symm (h.wr [4])
def lease_server_free.g (k_ : Nat) (a1 : Tserver) (a2 : Int) : Option (Bool) :=
  (lease_Owner.g k_ a1.l a1.now a2).bind fun r1 => ((lease_pool.g k_ a2).bind fun r2 => (if r2 = true then some ((!r1.2)) else some (false))).bind (fun j1 => some (j1))
theorem lease_server_free.le (k_ : Nat) (a1 : Tserver) (a2 : Int) : Le (lease_server_free.g k_ a1 a2) (lease_server_free.f a1 a2) := by
 unfold lease_server_free.g lease_server_free.f
 repeat' (first | with_reducible refine le_loop fun _ => ?_ | with_reducible refine le_bind ?_ fun _ => ?_ | with_reducible refine le_ite ?_ ?_ | with_reducible refine le_lt fun _ => ?_ | with_reducible refine le_elim (fun _ => ?_) (fun _ => ?_) _ | with_reducible apply lease_Owner.le | with_reducible apply lease_pool.le | with_reducible exact le_refl _)
/-! (*drawbridge/lease.server).answer -/
noncomputable def lease_server_answer.f (a1 : Tserver) (a2 : Int) : Option (TDhcp × Tserver) :=
  (slices_Clone_s_byte_byte.f a1.d.Mac).bind fun r1 => some (((⟨2, a1.d.Xid, 0, 0, r1, a2, 0, 167772674, 0, 0, 0, 0⟩ : TDhcp), a1))
set_option maxRecDepth 100000 in
set_option maxHeartbeats 4000000 in
theorem lease_server_answer.spc (b1 : Nat) (a1 : Tserver) (a2 : Int) (ha2 : InR .i64 a2) (r : TDhcp × Tserver) (H : lease_server_answer.f a1 a2 = some r) : Spc Try.prog 48 [pt b1, .int .i64 a2] [] [Fld Kserver b1 0 a1] (fun (s : Value) => s) (fun s => [Val KDhcp s r.1, Fld Kserver b1 0 r.2]) := by
 unfold lease_server_answer.f at H
 refine Spc.go Try.func48 rfl (by kernel_rfl) rfl rfl all_nil fun F a w h => ?_
 refine Go.seq ?_
 refine Go.reg ?_
 refine gs h (o_alloc (K := KDhcp) (z := (.agg #[.int .i64 0, .int .u32 0, .int .u32 0, .int .u32 0, .slice none 0 0, .int .i64 0, .int .u32 0, .int .u32 0, .int .u32 0, .int .u32 0, .int .u32 0, .int .u32 0])) rfl ZDhcp) rfl fun b2 _ _ h => ?_
 refine GoR.done ?_
 refine Go.seq ?_
 replace h := h.wq [(0, pt b1), (1, .int .i64 a2), (4, pt b2)] [Fld KDhcp b2 0 zDhcp, Fld Kserver b1 0 a1] [0, 1]
 obtain ⟨r1, er1, H⟩ := bindE H
 refine Go.draw (E := [(0, pt b1), (1, .int .i64 a2), (4, pt b2)]) [] (L := [Fld KDhcp b2 0 zDhcp, Fld Kserver b1 0 a1]) h rfl rfl 12 [cn (pt b1), ce [0] (pt b1), ce [0, 1] (.pointer (some ⟨b1, 2, none⟩)), ce [0, 1, 2] (.pointer (some ⟨b1, 3, none⟩)), cm [0, 1, 2, 3] [] [] (.int .u32 a1.d.Xid) fun u => [Ent.pur (InR .u32 a1.d.Xid)], cn (pt b1), ce [5] (pt b1), ce [5, 6] (.pointer (some ⟨b1, 2, none⟩)), ce [5, 6, 7] (.pointer (some ⟨b1, 6, none⟩)), cw [5, 6, 7, 8] [] [] fun u => [Val (Kd.sl (Kd.int .u8)) u a1.d.Mac], cw [5, 6, 7, 8, 9] [9] [] fun u => [Val (Kd.osl (Kd.int .u8)) u r1], cn (.int .i64 a2)] rfl t_mxo (by kernel_rfl) (by rfl) ?_ fun f1 _ _ h => ?_
 ·exact ox rfl (o_move rfl) (ox rfl (o_nilc rfl) (ox rfl (o_fa rfl t_f53_2 rfl rfl) (ox rfl (o_fa rfl t_f28_1 rfl rfl) (ox rfl (OpS.pur (fun F w m_ => (in2 (fd_sub t_sserver_d_Xid 1 rfl m_))) (o_lfx (K := Kserver) (pr := fun x => x.d.Xid) (y := a1) 1 rfl rfl t_sserver_d_Xid rfl X_int t_y25)) (ox rfl (o_move rfl) (ox rfl (o_nilc rfl) (ox rfl (o_fa rfl t_f53_2 rfl rfl) (ox rfl (o_fa rfl t_f28_4 rfl rfl) (oy rfl (o_lfv (K := Kserver) (pr := fun x => x.d.Mac) (y := a1) 1 rfl rfl t_sserver_d_Mac rfl Per_sl t_y22) (ow rfl rfl rfl (fun f1 => (o_call (slices_Clone_s_byte_byte.spc (f1 9) a1.d.Mac r1 er1) rfl [0] [] (by decide) rfl rfl)) (ox rfl (o_move rfl) (obs_nil))))))))))))
 replace h := h.wk (E' := [(4, pt b2), (9, .int .u32 a1.d.Xid), (15, (f1 10)), (16, .int .i64 a2)]) (L' := [Ent.pur (InR .u32 a1.d.Xid), Val (Kd.sl (Kd.int .u8)) (f1 9) a1.d.Mac, Val (Kd.osl (Kd.int .u8)) (f1 10) r1, Fld KDhcp b2 0 zDhcp, Fld Kserver b1 0 a1]) (by kernel_rfl) [0, 1, 2, 3, 4] (by decide) (by kernel_rfl)
 have g1 := (Mem.pur 0 rfl h.mem)
 replace h := h.mm fun m => m.freeze 2 rfl
 refine gs h (o_build (K := KDhcp) (x := (⟨2, a1.d.Xid, 0, 0, r1, a2, 0, 167772674, 0, 0, 0, 0⟩ : TDhcp)) (ps := [(0, .int .i64 2), (1, .int .u32 a1.d.Xid), (4, (f1 10)), (5, .int .i64 a2), (7, .int .u32 167772674)]) rfl (zs := zsDhcp) rfl t_b28 rfl (show PB (Kd.pair (Kd.int .i64) (Kd.pair (Kd.int .u32) (Kd.pair (Kd.int .u32) (Kd.pair (Kd.int .u32) (Kd.pair (Kd.sl (Kd.int .u8)) (Kd.pair (Kd.int .i64) (Kd.pair (Kd.int .u32) (Kd.pair (Kd.int .u32) (Kd.pair (Kd.int .u32) (Kd.pair (Kd.int .u32) (Kd.pair (Kd.int .u32) (Kd.last (Kd.int .u32))))))))))))) (2, a1.d.Xid, 0, 0, r1, a2, 0, 167772674, 0, 0, 0, 0) 0 zsDhcp _ _ from (pb_part (pv_int (show InR .i64 2 by decide)) rfl (pb_part (pv_int g1) rfl (pb_zero z_int (pb_zero z_int (pb_part (pv_at Per_sl 2 rfl) rfl (pb_part (pv_int ha2) rfl (pb_zero z_int (pb_part (pv_int (show InR .u32 167772674 by decide)) rfl (pb_zero z_int (pb_zero z_int (pb_zero z_int (pb_lastz z_int)))))))))))))) rfl fun v3 _ _ h => ?_
 refine gs0 h (o_st 4 rfl rfl rfl (pv_at PDhcp 0 rfl) rfl t_w28) fun _ _ _ h => ?_
 refine GoR.done ?_
 obtain ⟨v4, h, u1⟩ := h.peek 4 rfl PDhcp t_y28
 rw [← som H]
 exact g_ret (vs := [v4]) h Try.func48 ⟨⟨_, rfl, u1⟩, trivial⟩ ⟨v4, rfl, (h.mem.pick [0, 6] (by decide) rfl)⟩
def lease_server_answer.g (k_ : Nat) (a1 : Tserver) (a2 : Int) : Option (TDhcp × Tserver) :=
  (slices_Clone_s_byte_byte.g k_ a1.d.Mac).bind fun r1 => some (((⟨2, a1.d.Xid, 0, 0, r1, a2, 0, 167772674, 0, 0, 0, 0⟩ : TDhcp), a1))
theorem lease_server_answer.le (k_ : Nat) (a1 : Tserver) (a2 : Int) : Le (lease_server_answer.g k_ a1 a2) (lease_server_answer.f a1 a2) := by
 unfold lease_server_answer.g lease_server_answer.f
 repeat' (first | with_reducible refine le_loop fun _ => ?_ | with_reducible refine le_bind ?_ fun _ => ?_ | with_reducible refine le_ite ?_ ?_ | with_reducible refine le_lt fun _ => ?_ | with_reducible refine le_elim (fun _ => ?_) (fun _ => ?_) _ | with_reducible apply slices_Clone_s_byte_byte.le | with_reducible exact le_refl _)
/-! (*drawbridge/lease.server).full -/
noncomputable def lease_server_full.f (a1 : Tserver) (a2 : Int) (a3 : Int) : Option (TDhcp × Tserver) :=
  (lease_server_answer.f a1 a2).bind fun r1 => lt (⟨r1.1.Op, r1.1.Xid, r1.1.Ci, a3, r1.1.Mac, r1.1.Type_, r1.1.Want, r1.1.Server, r1.1.Lease, r1.1.Mask, r1.1.Router, r1.1.Dns⟩ : TDhcp) fun y1 => lt (⟨y1.Op, y1.Xid, y1.Ci, y1.Yi, y1.Mac, y1.Type_, y1.Want, y1.Server, 3600, y1.Mask, y1.Router, y1.Dns⟩ : TDhcp) fun y2 => lt (⟨y2.Op, y2.Xid, y2.Ci, y2.Yi, y2.Mac, y2.Type_, y2.Want, y2.Server, y2.Lease, 4294967040, y2.Router, y2.Dns⟩ : TDhcp) fun y3 => lt (⟨y3.Op, y3.Xid, y3.Ci, y3.Yi, y3.Mac, y3.Type_, y3.Want, y3.Server, y3.Lease, y3.Mask, 167772674, y3.Dns⟩ : TDhcp) fun y4 => lt (⟨y4.Op, y4.Xid, y4.Ci, y4.Yi, y4.Mac, y4.Type_, y4.Want, y4.Server, y4.Lease, y4.Mask, y4.Router, 167772675⟩ : TDhcp) fun y5 => some ((y5, r1.2))
set_option maxRecDepth 100000 in
set_option maxHeartbeats 4000000 in
theorem lease_server_full.spc (b1 : Nat) (a1 : Tserver) (a2 : Int) (ha2 : InR .i64 a2) (a3 : Int) (ha3 : InR .u32 a3) (r : TDhcp × Tserver) (H : lease_server_full.f a1 a2 a3 = some r) : Spc Try.prog 46 [pt b1, .int .i64 a2, .int .u32 a3] [] [Fld Kserver b1 0 a1] (fun (s : Value) => s) (fun s => [Val KDhcp s r.1, Fld Kserver b1 0 r.2]) := by
 unfold lease_server_full.f at H
 refine Spc.go Try.func46 rfl (by kernel_rfl) rfl rfl all_nil fun F a w h => ?_
 refine Go.seq ?_
 refine Go.reg ?_
 refine gs h (o_alloc (K := KDhcp) (z := (.agg #[.int .i64 0, .int .u32 0, .int .u32 0, .int .u32 0, .slice none 0 0, .int .i64 0, .int .u32 0, .int .u32 0, .int .u32 0, .int .u32 0, .int .u32 0, .int .u32 0])) rfl ZDhcp) rfl fun b2 _ _ h => ?_
 refine GoR.done ?_
 refine Go.seq ?_
 refine Go.reg ?_
 refine mv h rfl rfl fun h => ?_
 refine mv h rfl rfl fun h => ?_
 obtain ⟨r1, er1, H⟩ := bindE H
 refine gs h (o_call (lease_server_answer.spc b1 a1 a2 ha2 r1 er1) rfl [] [1] (by decide) rfl rfl) rfl fun v1 _ _ h => ?_
 refine gs h (o_alloc (K := KDhcp) (z := (.agg #[.int .i64 0, .int .u32 0, .int .u32 0, .int .u32 0, .slice none 0 0, .int .i64 0, .int .u32 0, .int .u32 0, .int .u32 0, .int .u32 0, .int .u32 0, .int .u32 0])) rfl ZDhcp) rfl fun b3 _ _ h => ?_
 refine gs0 h (o_st 0 rfl rfl rfl (pv_at PDhcp 1 rfl) rfl t_w28) fun _ _ _ h => ?_
 refine GoR.done ?_
 refine Go.seq ?_
 refine Go.reg ?_
 refine mv h rfl rfl fun h => ?_
 refine ga h (o_fa rfl t_f28_3 rfl rfl) rfl fun h => ?_
 obtain ⟨y1, ey1, H⟩ := ltE H
 refine gs0 h (o_stp (x0 := r1.1) (y := a3) 0 t_uDhcp_3_1 rfl rfl rfl rfl (pv_int ha3) t_w25) fun _ _ _ h => ?_
 rw [ey1] at h
 refine ga h (o_fa rfl t_f28_8 rfl rfl) rfl fun h => ?_
 obtain ⟨y2, ey2, H⟩ := ltE H
 refine gs0 h (o_stp (x0 := y1) (y := 3600) 0 t_uDhcp_8_1 rfl rfl rfl rfl (pv_int (show InR .u32 3600 by decide)) t_w25) fun _ _ _ h => ?_
 rw [ey2] at h
 refine ga h (o_fa rfl t_f28_9 rfl rfl) rfl fun h => ?_
 obtain ⟨y3, ey3, H⟩ := ltE H
 refine gs0 h (o_stp (x0 := y2) (y := 4294967040) 0 t_uDhcp_9_1 rfl rfl rfl rfl (pv_int (show InR .u32 4294967040 by decide)) t_w25) fun _ _ _ h => ?_
 rw [ey3] at h
 refine ga h (o_fa rfl t_f28_10 rfl rfl) rfl fun h => ?_
 obtain ⟨y4, ey4, H⟩ := ltE H
 refine gs0 h (o_stp (x0 := y3) (y := 167772674) 0 t_uDhcp_10_1 rfl rfl rfl rfl (pv_int (show InR .u32 167772674 by decide)) t_w25) fun _ _ _ h => ?_
 rw [ey4] at h
 refine ga h (o_fa rfl t_f28_11 rfl rfl) rfl fun h => ?_
 obtain ⟨y5, ey5, H⟩ := ltE H
 refine gs0 h (o_stp (x0 := y4) (y := 167772675) 0 t_uDhcp_11_1 rfl rfl rfl rfl (pv_int (show InR .u32 167772675 by decide)) t_w25) fun _ _ _ h => ?_
 rw [ey5] at h
 refine GoR.done ?_
 refine Go.seq ?_
 refine Go.reg ?_
 refine gs h (o_ldv 0 rfl rfl PDhcp t_y28) rfl fun v2 _ _ h => ?_
 refine gs0 h (o_st 4 rfl rfl rfl (pv_at PDhcp 0 rfl) rfl t_w28) fun _ _ _ h => ?_
 refine GoR.done ?_
 obtain ⟨v3, h, u1⟩ := h.peek 4 rfl PDhcp t_y28
 rw [← som H]
 exact g_ret (vs := [v3]) h Try.func46 ⟨⟨_, rfl, u1⟩, trivial⟩ ⟨v3, rfl, (h.mem.pick [0, 4] (by decide) rfl)⟩
def lease_server_full.g (k_ : Nat) (a1 : Tserver) (a2 : Int) (a3 : Int) : Option (TDhcp × Tserver) :=
  (lease_server_answer.g k_ a1 a2).bind fun r1 => lt (⟨r1.1.Op, r1.1.Xid, r1.1.Ci, a3, r1.1.Mac, r1.1.Type_, r1.1.Want, r1.1.Server, r1.1.Lease, r1.1.Mask, r1.1.Router, r1.1.Dns⟩ : TDhcp) fun y1 => lt (⟨y1.Op, y1.Xid, y1.Ci, y1.Yi, y1.Mac, y1.Type_, y1.Want, y1.Server, 3600, y1.Mask, y1.Router, y1.Dns⟩ : TDhcp) fun y2 => lt (⟨y2.Op, y2.Xid, y2.Ci, y2.Yi, y2.Mac, y2.Type_, y2.Want, y2.Server, y2.Lease, 4294967040, y2.Router, y2.Dns⟩ : TDhcp) fun y3 => lt (⟨y3.Op, y3.Xid, y3.Ci, y3.Yi, y3.Mac, y3.Type_, y3.Want, y3.Server, y3.Lease, y3.Mask, 167772674, y3.Dns⟩ : TDhcp) fun y4 => lt (⟨y4.Op, y4.Xid, y4.Ci, y4.Yi, y4.Mac, y4.Type_, y4.Want, y4.Server, y4.Lease, y4.Mask, y4.Router, 167772675⟩ : TDhcp) fun y5 => some ((y5, r1.2))
theorem lease_server_full.le (k_ : Nat) (a1 : Tserver) (a2 : Int) (a3 : Int) : Le (lease_server_full.g k_ a1 a2 a3) (lease_server_full.f a1 a2 a3) := by
 unfold lease_server_full.g lease_server_full.f
 repeat' (first | with_reducible refine le_loop fun _ => ?_ | with_reducible refine le_bind ?_ fun _ => ?_ | with_reducible refine le_ite ?_ ?_ | with_reducible refine le_lt fun _ => ?_ | with_reducible refine le_elim (fun _ => ?_) (fun _ => ?_) _ | with_reducible apply lease_server_answer.le | with_reducible exact le_refl _)
/-! slices.IndexFunc[[]uint32,uint32] -/
noncomputable def slices_IndexFunc_s_uint32_uint32_at_lease_server_free.f (a1 : List Int) (a2 : Tserver) : Option (Int) :=
  (loop (fun s1 => (if decide (s1 < (a1.length : Int)) = true then (idx a1 s1).bind fun x1 => (lease_server_free.f a2 x1).bind fun r1 => (if r1 = true then some (.inr (.inr (s1))) else some (.inl (IntKind.i64.wrap (s1 + 1)))) else some (.inr (.inl (()))))) 0).bind (Sum.elim (fun j1 => some ((-1))) (fun z_ => some (z_)))
set_option maxRecDepth 100000 in
set_option maxHeartbeats 4000000 in
theorem slices_IndexFunc_s_uint32_uint32_at_lease_server_free.spc (v1 : Value) (a1 : List Int) (b1 : Nat) (a2 : Tserver) (r : Int) (H : slices_IndexFunc_s_uint32_uint32_at_lease_server_free.f a1 a2 = some r) : Spc Try.prog 62 [v1, .func (.func 45) #[pt b1] #[]] [Val (Kd.sl (Kd.int .u32)) v1 a1, Pfl Kserver b1 0 a2] [] (fun (s : Unit) => .int .i64 r) (fun s => [Ent.pur (InR .i64 r)]) := by
 unfold slices_IndexFunc_s_uint32_uint32_at_lease_server_free.f at H
 refine Spc.go Try.func62 rfl (by kernel_rfl) rfl rfl (all_cons (Val.per Per_sl) (all_cons Per_pfl all_nil)) fun F a w h => ?_
 refine Go.seq ?_
 refine Go.reg ?_
 refine ga h (o_assign rfl) rfl fun h => ?_
 refine GoR.done ?_
 refine Go.seq ?_
 refine Go.seq ?_
 refine Go.reg ?_
 refine mv h rfl rfl fun h => ?_
 have g1 := (len_at 0 rfl h.mem)
 refine ga h (o_ln rfl (rd_at 0 rfl) t_v74) rfl fun h => ?_
 refine mv h rfl rfl fun h => ?_
 refine GoR.done ?_
 refine Go.block ?_
 obtain ⟨o1, hl, G1⟩ := bindE H
 refine g_cut (fun G => ∀ j1 (a : Act) (w : World), o1 = .inl (j1) → St Try.f62.ntmps F [] [Pfl Kserver b1 0 a2] a w → G a w) 2 ?_ fun J1 => ?_
 ·intro j1 a w ho_ h
  rw [ho_] at G1
  have H := eInl G1
  refine Go.seq ?_
  refine Go.reg ?_
  refine ga h (o_assign rfl) rfl fun h => ?_
  refine GoR.done ?_
  rw [← som H]
  exact g_ret (vs := [.int .i64 (-1)]) h Try.func62 ⟨rfl, trivial⟩ ⟨(), rfl, ((h.mem.pick [] (by decide) rfl).addpur (show InR .i64 (-1) by decide))⟩
 refine g_loop (fun s1 G => ∀  (a : Act) (w : World), InR .i64 s1 → St Try.f62.ntmps F [(0, v1), (1, .func (.func 45) #[pt b1] #[]), (7, .int .i64 (a1.length : Int)), (8, .int .i64 s1)] [Val (Kd.sl (Kd.int .u32)) v1 a1, Pfl Kserver b1 0 a2] a w → G a w) hl (fun s1 p1 H i1 => ?_) fun I_ => ?_
 ·intro  a w g2 h
  refine Go.seq ?_
  refine Go.reg ?_
  refine ga h (o_bin rfl rfl rfl) rfl fun h => ?_
  refine GoR.done ?_
  refine Go.seq ?_
  by_cases c1 : decide (s1 < (a1.length : Int)) = true
  ·have H := ifT c1 H
   refine g_t h rfl c1 ?_
   refine Go.skip ?_
   refine Go.seq ?_
   refine Go.block ?_
   refine Go.seq ?_
   refine Go.reg ?_
   refine mv h rfl rfl fun h => ?_
   refine ga h (o_assign rfl) rfl fun h => ?_
   refine GoR.done ?_
   refine Go.seq ?_
   refine Go.reg ?_
   iterate 3 (refine ga h (o_move rfl) rfl fun h => ?_)
   obtain ⟨x1, ex1, H⟩ := bindE H
   refine ga h (o_ix rfl rfl (rd_at 0 rfl) ex1 t_v74) rfl fun h => ?_
   have g3 := (rd_inr (rd_at 0 rfl) ex1 h.mem)
   refine ga h (o_lex rfl (rd_at 0 rfl) ex1 X_int t_y25 (by decide)) rfl fun h => ?_
   obtain ⟨r1, er1, H⟩ := bindE H
   refine ga h (o_callw (us := [pt b1]) (vs := [.int .u32 x1]) (caps := []) rfl rfl (lease_server_free.spc b1 a2 x1 g3 r1 er1) [1] [] (by decide) rfl rfl) rfl fun h => ?_
   refine GoR.done ?_
   by_cases c2 : r1 = true
   ·have H := ifT c2 H
    refine g_t h rfl c2 ?_
    refine Go.seq ?_
    refine Go.reg ?_
    refine mv h rfl rfl fun h => ?_
    refine ga h (o_assign rfl) rfl fun h => ?_
    refine GoR.done ?_
    have e_ := som H; subst e_
    rw [← nx_out i1] at G1
    have H := G1
    rw [← som H]
    exact g_ret (vs := [.int .i64 s1]) h Try.func62 ⟨rfl, trivial⟩ ⟨(), rfl, ((h.mem.pick [] (by decide) rfl).addpur g2)⟩
   ·have H := ifF c2 H
    refine g_f h rfl c2 ?_
    refine Go.skip ?_
    refine Go.inBlock ?_
    refine Go.reg ?_
    refine ga h (o_bin rfl rfl rfl) rfl fun h => ?_
    refine mv h rfl rfl fun h => ?_
    refine GoR.done ?_
    have e_ := som H; subst e_
    exact Go.inLoop (nx_in i1 _ _ (wrap_in _ _) (h.wr [0, 1]))
  ·have H := ifF c1 H
   refine g_f h rfl c1 ?_
   refine Go.exit rfl ?_
   have e_ := som H; subst e_
   exact J1 () _ _ (nx_out i1).symm (h.wr [1])
 ·exact I_ _ _ (show InR .i64 0 by decide) (h.wr [0, 1])
def slices_IndexFunc_s_uint32_uint32_at_lease_server_free.g (k_ : Nat) (a1 : List Int) (a2 : Tserver) : Option (Int) :=
  (loopK k_ (fun s1 => (if decide (s1 < (a1.length : Int)) = true then (idx a1 s1).bind fun x1 => (lease_server_free.g k_ a2 x1).bind fun r1 => (if r1 = true then some (.inr (.inr (s1))) else some (.inl (IntKind.i64.wrap (s1 + 1)))) else some (.inr (.inl (()))))) 0).bind (Sum.elim (fun j1 => some ((-1))) (fun z_ => some (z_)))
theorem slices_IndexFunc_s_uint32_uint32_at_lease_server_free.le (k_ : Nat) (a1 : List Int) (a2 : Tserver) : Le (slices_IndexFunc_s_uint32_uint32_at_lease_server_free.g k_ a1 a2) (slices_IndexFunc_s_uint32_uint32_at_lease_server_free.f a1 a2) := by
 unfold slices_IndexFunc_s_uint32_uint32_at_lease_server_free.g slices_IndexFunc_s_uint32_uint32_at_lease_server_free.f
 repeat' (first | with_reducible refine le_loop fun _ => ?_ | with_reducible refine le_bind ?_ fun _ => ?_ | with_reducible refine le_ite ?_ ?_ | with_reducible refine le_lt fun _ => ?_ | with_reducible refine le_elim (fun _ => ?_) (fun _ => ?_) _ | with_reducible apply lease_server_free.le | with_reducible exact le_refl _)
/-! drawbridge/lease.first[uint32] -/
noncomputable def lease_first_uint32_at_lease_server_free.f (a1 : List Int) (a2 : Tserver) : Option (Int × Bool × Tserver) :=
  (slices_IndexFunc_s_uint32_uint32_at_lease_server_free.f a1 a2).bind fun r1 => (if decide (r1 < 0) = true then some ((0, false, a2)) else (idx a1 r1).bind fun x1 => some ((x1, true, a2)))
set_option maxRecDepth 100000 in
set_option maxHeartbeats 4000000 in
theorem lease_first_uint32_at_lease_server_free.spc (v1 : Value) (a1 : List Int) (b1 : Nat) (a2 : Tserver) (r : Int × Bool × Tserver) (H : lease_first_uint32_at_lease_server_free.f a1 a2 = some r) : Spc Try.prog 44 [v1, .func (.func 45) #[pt b1] #[]] [Val (Kd.sl (Kd.int .u32)) v1 a1] [Fld Kserver b1 0 a2] (fun (s : Unit) => .tuple #[.int .u32 r.1, .bool r.2.1]) (fun s => [Ent.pur (InR .u32 r.1), Fld Kserver b1 0 r.2.2]) := by
 unfold lease_first_uint32_at_lease_server_free.f at H
 refine Spc.go Try.func44 rfl (by kernel_rfl) rfl rfl (all_cons (Val.per Per_sl) all_nil) fun F a w h => ?_
 refine Go.seq ?_
 refine Go.reg ?_
 refine ga h (o_assign rfl) rfl fun h => ?_
 refine ga h (o_assign rfl) rfl fun h => ?_
 refine GoR.done ?_
 refine Go.seq ?_
 refine Go.reg ?_
 refine mv h rfl rfl fun h => ?_
 refine mv h rfl rfl fun h => ?_
 obtain ⟨r1, er1, H⟩ := bindE H
 refine ga h (OpS.lend (Lp := [Val (Kd.sl (Kd.int .u32)) v1 a1, Pfl Kserver b1 0 a2]) (lent_cons (lent_per (Val.per Per_sl) 0 rfl) (lent_cons (lent_fld (ro_per Pserver) 1 rfl) lent_nil)) (o_call (slices_IndexFunc_s_uint32_uint32_at_lease_server_free.spc v1 a1 b1 a2 r1 er1) rfl [0, 1] [] (by decide) rfl rfl) (fun _ => (clo_cons cl_pur clo_nil))) rfl fun h => ?_
 have g1 := h.mem.pur 0 rfl
 refine ga h (o_assign rfl) rfl fun h => ?_
 refine GoR.done ?_
 refine Go.seq ?_
 refine Go.seq ?_
 refine Go.reg ?_
 refine mv h rfl rfl fun h => ?_
 refine ga h (o_bin rfl rfl rfl) rfl fun h => ?_
 refine GoR.done ?_
 by_cases c1 : decide (r1 < 0) = true
 ·have H := ifT c1 H
  refine g_t h rfl c1 ?_
  refine Go.seq ?_
  refine Go.reg ?_
  refine ga h (o_assign rfl) rfl fun h => ?_
  refine GoR.done ?_
  refine Go.seq ?_
  refine Go.reg ?_
  refine mv h rfl rfl fun h => ?_
  refine ga h (o_assign rfl) rfl fun h => ?_
  refine ga h (o_assign rfl) rfl fun h => ?_
  refine GoR.done ?_
  rw [← som H]
  exact g_ret (vs := [.int .u32 0, .bool false]) h Try.func44 ⟨rfl, ⟨rfl, trivial⟩⟩ ⟨(), rfl, ((h.mem.pick [2] (by decide) rfl).addpur (show InR .u32 0 by decide))⟩
 ·have H := ifF c1 H
  refine g_f h rfl c1 ?_
  refine Go.skip ?_
  refine Go.seq ?_
  refine Go.reg ?_
  refine mv h rfl rfl fun h => ?_
  refine mv h rfl rfl fun h => ?_
  obtain ⟨x1, ex1, H⟩ := bindE H
  refine ga h (o_ix rfl rfl (rd_at 1 rfl) ex1 t_v74) rfl fun h => ?_
  have g2 := (rd_inr (rd_at 1 rfl) ex1 h.mem)
  refine ga h (o_lex rfl (rd_at 1 rfl) ex1 X_int t_y25 (by decide)) rfl fun h => ?_
  refine ga h (o_assign rfl) rfl fun h => ?_
  refine ga h (o_assign rfl) rfl fun h => ?_
  refine GoR.done ?_
  rw [← som H]
  exact g_ret (vs := [.int .u32 x1, .bool true]) h Try.func44 ⟨rfl, ⟨rfl, trivial⟩⟩ ⟨(), rfl, ((h.mem.pick [2] (by decide) rfl).addpur g2)⟩
def lease_first_uint32_at_lease_server_free.g (k_ : Nat) (a1 : List Int) (a2 : Tserver) : Option (Int × Bool × Tserver) :=
  (slices_IndexFunc_s_uint32_uint32_at_lease_server_free.g k_ a1 a2).bind fun r1 => (if decide (r1 < 0) = true then some ((0, false, a2)) else (idx a1 r1).bind fun x1 => some ((x1, true, a2)))
theorem lease_first_uint32_at_lease_server_free.le (k_ : Nat) (a1 : List Int) (a2 : Tserver) : Le (lease_first_uint32_at_lease_server_free.g k_ a1 a2) (lease_first_uint32_at_lease_server_free.f a1 a2) := by
 unfold lease_first_uint32_at_lease_server_free.g lease_first_uint32_at_lease_server_free.f
 repeat' (first | with_reducible refine le_loop fun _ => ?_ | with_reducible refine le_bind ?_ fun _ => ?_ | with_reducible refine le_ite ?_ ?_ | with_reducible refine le_lt fun _ => ?_ | with_reducible refine le_elim (fun _ => ?_) (fun _ => ?_) _ | with_reducible apply slices_IndexFunc_s_uint32_uint32_at_lease_server_free.le | with_reducible exact le_refl _)
/-! (*drawbridge/lease.server).discover -/
noncomputable def lease_server_discover.f (a1 : Tserver) : Option (TDhcp × Bool × Tserver) :=
  (lease_Find.f a1.l a1.now a1.d.Mac).bind fun r1 => (loop (fun s1 => (if decide (s1.2 < 8) = true then (app s1.1 ([IntKind.u32.wrap (167772687 + s1.2)] : List Int)).bind fun x1 => some (.inl (x1, IntKind.u32.wrap (s1.2 + 1))) else some (.inr (s1.1)))) (([a1.d.Want] : List Int), 0)).bind (fun j1 => ((if (!r1.2) = true then (lease_first_uint32_at_lease_server_free.f j1 a1).bind fun r2 => some ((r2.1, r2.2.1, r2.2.2)) else some ((r1.1, r1.2, a1)))).bind (fun j2 => (if (!j2.2.1) = true then some (((⟨0, 0, 0, 0, [], 0, 0, 0, 0, 0, 0, 0⟩ : TDhcp), false, j2.2.2)) else (lease_server_full.f j2.2.2 2 j2.1).bind fun r3 => some ((r3.1, true, r3.2)))))
set_option maxRecDepth 100000 in
set_option maxHeartbeats 4000000 in
theorem lease_server_discover.spc (b1 : Nat) (a1 : Tserver) (r : TDhcp × Bool × Tserver) (H : lease_server_discover.f a1 = some r) : Spc Try.prog 22 [pt b1] [] [Fld Kserver b1 0 a1] (fun (s : Value) => .tuple #[s, .bool r.2.1]) (fun s => [Val KDhcp s r.1, Fld Kserver b1 0 r.2.2]) := by
 unfold lease_server_discover.f at H
 refine Spc.go Try.func22 rfl (by kernel_rfl) rfl rfl all_nil fun F a w h => ?_
 refine Go.seq ?_
 refine Go.reg ?_
 refine gs h (o_alloc (K := KDhcp) (z := (.agg #[.int .i64 0, .int .u32 0, .int .u32 0, .int .u32 0, .slice none 0 0, .int .i64 0, .int .u32 0, .int .u32 0, .int .u32 0, .int .u32 0, .int .u32 0, .int .u32 0])) rfl ZDhcp) rfl fun b2 _ _ h => ?_
 refine ga h (o_assign rfl) rfl fun h => ?_
 refine GoR.done ?_
 refine Go.seq ?_
 replace h := h.wq [(0, pt b1), (2, pt b2), (3, .bool false)] [Fld KDhcp b2 0 zDhcp, Fld Kserver b1 0 a1] [0, 1]
 obtain ⟨r1, er1, H⟩ := bindE H
 refine Go.draw (E := [(0, pt b1), (2, pt b2), (3, .bool false)]) [] (L := [Fld KDhcp b2 0 zDhcp, Fld Kserver b1 0 a1]) h rfl rfl 18 [cn (pt b1), ce [0] (pt b1), ce [0, 1] (pt b1), cw [0, 1, 2] [] [] fun u => [Val (Kd.sl KLease) u a1.l], cn (pt b1), ce [4] (pt b1), ce [4, 5] (.pointer (some ⟨b1, 1, none⟩)), cm [4, 5, 6] [] [] (.int .i64 a1.now) fun u => [Ent.pur (InR .i64 a1.now)], cn (pt b1), ce [8] (pt b1), ce [8, 9] (.pointer (some ⟨b1, 2, none⟩)), ce [8, 9, 10] (.pointer (some ⟨b1, 6, none⟩)), cw [8, 9, 10, 11] [] [] fun u => [Val (Kd.sl (Kd.int .u8)) u a1.d.Mac], cm [0, 1, 2, 3, 4, 5, 6, 7, 8, 9, 10, 11, 12] [3, 7, 12] [] (.tuple #[.int .u32 r1.1, .bool r1.2]) fun u => [Ent.pur (InR .u32 r1.1)], ce [0, 1, 2, 3, 4, 5, 6, 7, 8, 9, 10, 11, 12, 13] (.tuple #[.int .u32 r1.1, .bool r1.2]), ce [0, 1, 2, 3, 4, 5, 6, 7, 8, 9, 10, 11, 12, 13, 14] (.int .u32 r1.1), ce [0, 1, 2, 3, 4, 5, 6, 7, 8, 9, 10, 11, 12, 13, 14] (.bool r1.2), ce [0, 1, 2, 3, 4, 5, 6, 7, 8, 9, 10, 11, 12, 13, 14, 15] (.int .u32 r1.1)] rfl t_mxo (by kernel_rfl) (by rfl) ?_ fun f1 _ _ h => ?_
 ·exact ox rfl (o_move rfl) (ox rfl (o_nilc rfl) (ox rfl (o_fa rfl t_f53_0 rfl rfl) (oy rfl (o_lfv 1 rfl rfl sserver_l rfl Per_sl t_y26) (ox rfl (o_move rfl) (ox rfl (o_nilc rfl) (ox rfl (o_fa rfl t_f53_1 rfl rfl) (ox rfl (OpS.pur (fun F w m_ => (in2 (fd_sub sserver_now 1 rfl m_))) (o_lfx 1 rfl rfl sserver_now rfl X_int t_y3)) (ox rfl (o_move rfl) (ox rfl (o_nilc rfl) (ox rfl (o_fa rfl t_f53_2 rfl rfl) (ox rfl (o_fa rfl t_f28_4 rfl rfl) (oy rfl (o_lfv (K := Kserver) (pr := fun x => x.d.Mac) (y := a1) 1 rfl rfl t_sserver_d_Mac rfl Per_sl t_y22) (oc rfl rfl rfl (fun f1 => (OpS.fact (p := InR .i64 a1.now) (fun F w m_ => (Mem.pur 1 rfl m_)) fun g1 => (o_call (lease_Find.spc (f1 3) a1.l a1.now g1 (f1 12) a1.d.Mac r1 er1) rfl [0, 2] [] (by decide) rfl rfl))) (ox rfl (o_move rfl) (ox rfl (o_extract rfl rfl) (ox rfl (o_extract rfl rfl) (ox rfl (o_assign rfl) (obs_nil))))))))))))))))))
 replace h := h.wk (E' := [(0, pt b1), (2, pt b2), (3, .bool false), (24, .bool r1.2), (4, .int .u32 r1.1)]) (L' := [Val (Kd.sl KLease) (f1 3) a1.l, Ent.pur (InR .i64 a1.now), Val (Kd.sl (Kd.int .u8)) (f1 12) a1.d.Mac, Ent.pur (InR .u32 r1.1), Fld KDhcp b2 0 zDhcp, Fld Kserver b1 0 a1]) (by kernel_rfl) [0, 1, 2, 3, 4, 5] (by decide) (by kernel_rfl)
 have g2 := (Mem.pur 3 rfl h.mem)
 refine ga h (o_assign rfl) rfl fun h => ?_
 refine GoR.done ?_
 refine Go.seq ?_
 refine Go.reg ?_
 refine mv h rfl rfl fun h => ?_
 refine ga h (o_nilc rfl) rfl fun h => ?_
 refine ga h (o_fa rfl t_f53_2 rfl rfl) rfl fun h => ?_
 refine ga h (o_fa rfl t_f28_6 rfl rfl) rfl fun h => ?_
 have g3 := (in2 (fd_sub t_sserver_d_Want 5 rfl h.mem))
 refine ga h (o_lfx 5 rfl rfl t_sserver_d_Want rfl X_int t_y25) rfl fun h => ?_
 refine gs h (o_bs (K := (Kd.int .u32)) (vs := [.int .u32 a1.d.Want]) (xs := ([a1.d.Want] : List Int)) rfl rfl (pvs_cons (pv_int g3) pvs_nil) t_a74 (by decide) (by decide)) rfl fun v3 _ _ h => ?_
 refine ga h (o_assign rfl) rfl fun h => ?_
 refine GoR.done ?_
 refine Go.seq ?_
 refine Go.seq ?_
 refine Go.reg ?_
 refine mv h rfl rfl fun h => ?_
 refine GoR.done ?_
 refine Go.block ?_
 obtain ⟨o1, hl, G1⟩ := bindE H
 refine g_cut (fun G => ∀ j1 (v7 : Value) (a : Act) (w : World), o1 = j1 → St Try.f22.ntmps F [(0, pt b1), (2, pt b2), (4, .int .u32 r1.1), (5, .bool r1.2), (6, v7)] [Val (Kd.osl (Kd.int .u32)) v7 j1, Fld KDhcp b2 0 zDhcp, Fld Kserver b1 0 a1] a w → G a w) 2 ?_ fun J1 => ?_
 ·intro j1 v7 a w ho_ h
  rw [ho_] at G1
  have H := G1
  refine Go.seq ?_
  obtain ⟨o2, H, G2⟩ := bindE H
  refine g_cut (fun G => ∀ j2 (a : Act) (w : World), o2 = j2 → InR .u32 j2.1 → St Try.f22.ntmps F [(0, pt b1), (2, pt b2), (4, .int .u32 j2.1), (5, .bool j2.2.1)] [Fld Kserver b1 0 j2.2.2, Fld KDhcp b2 0 zDhcp] a w → G a w) 1 ?_ fun J2 => ?_
  ·intro j2 a w ho_ g6 h
   rw [ho_] at G2
   have H := G2
   refine Go.seq ?_
   refine Go.seq ?_
   refine Go.reg ?_
   refine mv h rfl rfl fun h => ?_
   refine ga h (o_not rfl) rfl fun h => ?_
   refine GoR.done ?_
   by_cases c3 : (!j2.2.1) = true
   ·have H := ifT c3 H
    refine g_t h rfl c3 ?_
    refine Go.seq ?_
    refine Go.reg ?_
    refine gs h (o_build (K := KDhcp) (x := (⟨0, 0, 0, 0, [], 0, 0, 0, 0, 0, 0, 0⟩ : TDhcp)) (ps := []) rfl (zs := zsDhcp) rfl t_b28 rfl (show PB (Kd.pair (Kd.int .i64) (Kd.pair (Kd.int .u32) (Kd.pair (Kd.int .u32) (Kd.pair (Kd.int .u32) (Kd.pair (Kd.sl (Kd.int .u8)) (Kd.pair (Kd.int .i64) (Kd.pair (Kd.int .u32) (Kd.pair (Kd.int .u32) (Kd.pair (Kd.int .u32) (Kd.pair (Kd.int .u32) (Kd.pair (Kd.int .u32) (Kd.last (Kd.int .u32))))))))))))) (0, 0, 0, 0, [], 0, 0, 0, 0, 0, 0, 0) 0 zsDhcp _ _ from (pb_zero z_int (pb_zero z_int (pb_zero z_int (pb_zero z_int (pb_zero z_sl (pb_zero z_int (pb_zero z_int (pb_zero z_int (pb_zero z_int (pb_zero z_int (pb_zero z_int (pb_lastz z_int)))))))))))))) rfl fun v8 _ _ h => ?_
    refine gs0 h (o_st 2 rfl rfl rfl (pv_at PDhcp 0 rfl) rfl t_w28) fun _ _ _ h => ?_
    refine ga h (o_assign rfl) rfl fun h => ?_
    refine GoR.done ?_
    obtain ⟨v9, h, u1⟩ := h.peek 2 rfl PDhcp t_y28
    rw [← som H]
    exact g_ret (vs := [v9, .bool false]) h Try.func22 ⟨⟨_, rfl, u1⟩, ⟨rfl, trivial⟩⟩ ⟨v9, rfl, (h.mem.pick [0, 2] (by decide) rfl)⟩
   ·have H := ifF c3 H
    refine g_f h rfl c3 ?_
    refine Go.skip ?_
    refine Go.seq ?_
    refine Go.reg ?_
    refine mv h rfl rfl fun h => ?_
    refine mv h rfl rfl fun h => ?_
    obtain ⟨r3, er3, H⟩ := bindE H
    refine gs h (o_call (lease_server_full.spc b1 j2.2.2 2 (show InR .i64 2 by decide) j2.1 g6 r3 er3) rfl [] [0] (by decide) rfl rfl) rfl fun v10 _ _ h => ?_
    refine gs0 h (o_st 3 rfl rfl rfl (pv_at PDhcp 0 rfl) rfl t_w28) fun _ _ _ h => ?_
    refine ga h (o_assign rfl) rfl fun h => ?_
    refine GoR.done ?_
    obtain ⟨v11, h, u2⟩ := h.peek 3 rfl PDhcp t_y28
    rw [← som H]
    exact g_ret (vs := [v11, .bool true]) h Try.func22 ⟨⟨_, rfl, u2⟩, ⟨rfl, trivial⟩⟩ ⟨v11, rfl, (h.mem.pick [0, 2] (by decide) rfl)⟩
  refine Go.seq ?_
  refine Go.reg ?_
  refine mv h rfl rfl fun h => ?_
  refine ga h (o_not rfl) rfl fun h => ?_
  refine GoR.done ?_
  by_cases c2 : (!r1.2) = true
  ·have H := ifT c2 H
   refine g_t h rfl c2 ?_
   refine Go.reg ?_
   refine mv h rfl rfl fun h => ?_
   refine mv h rfl rfl fun h => ?_
   refine ga h (o_makeFuncB (us := [pt b1]) (vs := []) rfl rfl) rfl fun h => ?_
   replace h := h.mm fun m => m.freeze 0 rfl
   obtain ⟨r2, er2, H⟩ := bindE H
   refine ga h (o_call (lease_first_uint32_at_lease_server_free.spc v7 j1 b1 a1 r2 er2) rfl [0] [2] (by decide) rfl rfl) rfl fun h => ?_
   have g5 := h.mem.pur 0 rfl
   refine mv h rfl rfl fun h => ?_
   refine ga h (o_extract rfl rfl) rfl fun h => ?_
   refine ga h (o_extract rfl rfl) rfl fun h => ?_
   refine ga h (o_assign rfl) rfl fun h => ?_
   refine ga h (o_assign rfl) rfl fun h => ?_
   refine GoR.done ?_
   exact J2 (r2.1, r2.2.1, r2.2.2) _ _ (som H).symm g5 (h.wr [1, 3])
  ·have H := ifF c2 H
   refine g_f h rfl c2 ?_
   refine Go.skip ?_
   exact J2 (r1.1, r1.2, a1) _ _ (som H).symm g2 (h.wr [2, 1])
 refine g_loop (fun s1 G => ∀ (v4 : Value) (a : Act) (w : World), InR .u32 s1.2 → St Try.f22.ntmps F [(0, pt b1), (2, pt b2), (4, .int .u32 r1.1), (5, .bool r1.2), (6, v4), (31, .int .u32 s1.2)] [Val (Kd.osl (Kd.int .u32)) v4 s1.1, Fld KDhcp b2 0 zDhcp, Fld Kserver b1 0 a1] a w → G a w) hl (fun s1 p1 H i1 => ?_) fun I_ => ?_
 ·intro v4 a w g4 h
  refine Go.seq ?_
  refine Go.reg ?_
  refine ga h (o_bin rfl rfl rfl) rfl fun h => ?_
  refine GoR.done ?_
  refine Go.seq ?_
  by_cases c1 : decide (s1.2 < 8) = true
  ·have H := ifT c1 H
   refine g_t h rfl c1 ?_
   refine Go.skip ?_
   refine Go.seq ?_
   refine Go.block ?_
   refine Go.seq ?_
   refine Go.reg ?_
   refine mv h rfl rfl fun h => ?_
   refine ga h (o_assign rfl) rfl fun h => ?_
   refine GoR.done ?_
   refine Go.reg ?_
   refine mv h rfl rfl fun h => ?_
   refine mv h rfl rfl fun h => ?_
   refine ga h (o_bin rfl rfl rfl) rfl fun h => ?_
   refine gs h (o_bs (K := (Kd.int .u32)) (vs := [.int .u32 (IntKind.u32.wrap (167772687 + s1.2))]) (xs := ([IntKind.u32.wrap (167772687 + s1.2)] : List Int)) rfl rfl (pvs_cons (pv_int (wrap_in _ _)) pvs_nil) t_a74 (by decide) (by decide)) rfl fun v5 _ _ h => ?_
   obtain ⟨x1, ex1, H⟩ := bindE H
   refine gs h (o_app (K := (Kd.int .u32)) 1 rfl rfl rfl (rd_own 0 rfl) ex1 t_a74 t_n74) rfl fun v6 _ _ h => ?_
   refine ga h (o_assign rfl) rfl fun h => ?_
   refine GoR.done ?_
   refine Go.inBlock ?_
   refine Go.reg ?_
   refine ga h (o_bin rfl rfl rfl) rfl fun h => ?_
   refine mv h rfl rfl fun h => ?_
   refine GoR.done ?_
   have e_ := som H; subst e_
   exact Go.inLoop (nx_in i1 v6 _ _ (wrap_in _ _) (h.wr [1, 2, 3]))
  ·have H := ifF c1 H
   refine g_f h rfl c1 ?_
   refine Go.exit rfl ?_
   have e_ := som H; subst e_
   exact J1 s1.1 v4 _ _ (nx_out i1).symm (h.wr [0, 1, 2])
 ·exact I_ v3 _ _ (show InR .u32 0 by decide) (h.wr [0, 5, 6])
def lease_server_discover.g (k_ : Nat) (a1 : Tserver) : Option (TDhcp × Bool × Tserver) :=
  (lease_Find.g k_ a1.l a1.now a1.d.Mac).bind fun r1 => (loopK k_ (fun s1 => (if decide (s1.2 < 8) = true then (app s1.1 ([IntKind.u32.wrap (167772687 + s1.2)] : List Int)).bind fun x1 => some (.inl (x1, IntKind.u32.wrap (s1.2 + 1))) else some (.inr (s1.1)))) (([a1.d.Want] : List Int), 0)).bind (fun j1 => ((if (!r1.2) = true then (lease_first_uint32_at_lease_server_free.g k_ j1 a1).bind fun r2 => some ((r2.1, r2.2.1, r2.2.2)) else some ((r1.1, r1.2, a1)))).bind (fun j2 => (if (!j2.2.1) = true then some (((⟨0, 0, 0, 0, [], 0, 0, 0, 0, 0, 0, 0⟩ : TDhcp), false, j2.2.2)) else (lease_server_full.g k_ j2.2.2 2 j2.1).bind fun r3 => some ((r3.1, true, r3.2)))))
theorem lease_server_discover.le (k_ : Nat) (a1 : Tserver) : Le (lease_server_discover.g k_ a1) (lease_server_discover.f a1) := by
 unfold lease_server_discover.g lease_server_discover.f
 repeat' (first | with_reducible refine le_loop fun _ => ?_ | with_reducible refine le_bind ?_ fun _ => ?_ | with_reducible refine le_ite ?_ ?_ | with_reducible refine le_lt fun _ => ?_ | with_reducible refine le_elim (fun _ => ?_) (fun _ => ?_) _ | with_reducible apply lease_Find.le | with_reducible apply lease_first_uint32_at_lease_server_free.le | with_reducible apply lease_server_full.le | with_reducible exact le_refl _)
end Go.Proofs.Ytmmaojclfggioaa.S
