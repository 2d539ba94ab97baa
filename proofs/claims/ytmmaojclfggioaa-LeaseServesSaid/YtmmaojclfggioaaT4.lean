/- Contracts, printed by a program of this session. -/
import Derived.Test.YtmmaojclfggioaaT2
namespace Go.Proofs.Ytmmaojclfggioaa.S
open Go Go.SL Go.RowKit
set_option linter.unusedVariables false
set_option linter.unusedSimpArgs false
/-! cmp.Or[uint32] -/
noncomputable def cmp_Or_uint32.f (a1 : List Int) : Option (Int) :=
  (loop (fun s1 => (if decide (s1 < (a1.length : Int)) = true then (idx a1 s1).bind fun x1 => (if (!decide (x1 = 0)) = true then some (.inr (.inr (x1))) else some (.inl (IntKind.i64.wrap (s1 + 1)))) else some (.inr (.inl (()))))) 0).bind (Sum.elim (fun j1 => some (0)) (fun z_ => some (z_)))
set_option maxRecDepth 100000 in
set_option maxHeartbeats 4000000 in
theorem cmp_Or_uint32.spc (v1 : Value) (a1 : List Int) (r : Int) (H : cmp_Or_uint32.f a1 = some r) : Spc Try.prog 47 [v1] [Val (Kd.sl (Kd.int .u32)) v1 a1] [] (fun (s : Unit) => .int .u32 r) (fun s => [Ent.pur (InR .u32 r)]) := by
 unfold cmp_Or_uint32.f at H
 refine Spc.go Try.func47 rfl (by kernel_rfl) rfl rfl (all_cons (Val.per Per_sl) all_nil) fun F a w h => ?_
 refine Go.seq ?_
 refine Go.reg ?_
 refine ga h (o_assign rfl) rfl fun h => ?_
 refine GoR.done ?_
 refine Go.seq ?_
 refine Go.reg ?_
 refine ga h (o_assign rfl) rfl fun h => ?_
 refine GoR.done ?_
 refine Go.seq ?_
 refine Go.seq ?_
 refine Go.reg ?_
 refine mv h rfl rfl fun h => ?_
 have g1 := (len_at 0 rfl h.mem)
 refine ga h (o_ln rfl (rd_at 0 rfl) t_v74) rfl fun h => ?_
 refine mv h rfl rfl fun h => ?_
 refine GoR.done ?_
 refine Go.block ?_
 obtain ⟨o1, hl, G1⟩ := bindE H
 refine g_cut (fun G => ∀ j1 (a : Act) (w : World), o1 = .inl (j1) → St Try.f47.ntmps F [(3, .int .u32 0)] [] a w → G a w) 2 ?_ fun J1 => ?_
 ·intro j1 a w ho_ h
  rw [ho_] at G1
  have H := eInl G1
  refine Go.seq ?_
  refine Go.reg ?_
  refine mv h rfl rfl fun h => ?_
  refine ga h (o_assign rfl) rfl fun h => ?_
  refine GoR.done ?_
  rw [← som H]
  exact g_ret (vs := [.int .u32 0]) h Try.func47 ⟨rfl, trivial⟩ ⟨(), rfl, ((h.mem.pick [] (by decide) rfl).addpur (show InR .u32 0 by decide))⟩
 refine g_loop (fun s1 G => ∀  (a : Act) (w : World), InR .i64 s1 → St Try.f47.ntmps F [(3, .int .u32 0), (6, v1), (7, .int .i64 (a1.length : Int)), (8, .int .i64 s1)] [Val (Kd.sl (Kd.int .u32)) v1 a1] a w → G a w) hl (fun s1 p1 H i1 => ?_) fun I_ => ?_
 ·intro  a w g2 h
  refine Go.seq ?_
  refine Go.reg ?_
  refine ga h (o_bin rfl rfl rfl) rfl fun h => ?_
  refine GoR.done ?_
  refine Go.seq ?_
  by_cases c1 : decide (s1 < (a1.length : Int)) = true
  ·have H := ifT c1 H
   refine g_t h rfl c1 ?_
   refine Go.skip ?_
   refine Go.seq ?_
   refine Go.block ?_
   refine Go.seq ?_
   refine Go.reg ?_
   obtain ⟨x1, ex1, H⟩ := bindE H
   refine ga h (o_ix rfl rfl (rd_at 0 rfl) ex1 t_v74) rfl fun h => ?_
   have g3 := (rd_inr (rd_at 0 rfl) ex1 h.mem)
   refine ga h (o_lex rfl (rd_at 0 rfl) ex1 X_int t_y25 (by decide)) rfl fun h => ?_
   refine ga h (o_assign rfl) rfl fun h => ?_
   refine GoR.done ?_
   refine Go.seq ?_
   refine Go.reg ?_
   refine mv h rfl rfl fun h => ?_
   refine mv h rfl rfl fun h => ?_
   refine ga h (o_bin rfl rfl rfl) rfl fun h => ?_
   refine GoR.done ?_
   by_cases c2 : (!decide (x1 = 0)) = true
   ·have H := ifT c2 H
    refine g_t h rfl c2 ?_
    refine Go.seq ?_
    refine Go.reg ?_
    refine mv h rfl rfl fun h => ?_
    refine ga h (o_assign rfl) rfl fun h => ?_
    refine GoR.done ?_
    have e_ := som H; subst e_
    rw [← nx_out i1] at G1
    have H := G1
    rw [← som H]
    exact g_ret (vs := [.int .u32 x1]) h Try.func47 ⟨rfl, trivial⟩ ⟨(), rfl, ((h.mem.pick [] (by decide) rfl).addpur g3)⟩
   ·have H := ifF c2 H
    refine g_f h rfl c2 ?_
    refine Go.skip ?_
    refine Go.inBlock ?_
    refine Go.reg ?_
    refine ga h (o_bin rfl rfl rfl) rfl fun h => ?_
    refine mv h rfl rfl fun h => ?_
    refine GoR.done ?_
    have e_ := som H; subst e_
    exact Go.inLoop (nx_in i1 _ _ (wrap_in _ _) (h.wr [0]))
  ·have H := ifF c1 H
   refine g_f h rfl c1 ?_
   refine Go.exit rfl ?_
   have e_ := som H; subst e_
   exact J1 () _ _ (nx_out i1).symm (h.wr [])
 ·exact I_ _ _ (show InR .i64 0 by decide) (h.wr [0])
def cmp_Or_uint32.g (k_ : Nat) (a1 : List Int) : Option (Int) :=
  (loopK k_ (fun s1 => (if decide (s1 < (a1.length : Int)) = true then (idx a1 s1).bind fun x1 => (if (!decide (x1 = 0)) = true then some (.inr (.inr (x1))) else some (.inl (IntKind.i64.wrap (s1 + 1)))) else some (.inr (.inl (()))))) 0).bind (Sum.elim (fun j1 => some (0)) (fun z_ => some (z_)))
theorem cmp_Or_uint32.le (k_ : Nat) (a1 : List Int) : Le (cmp_Or_uint32.g k_ a1) (cmp_Or_uint32.f a1) := by
 unfold cmp_Or_uint32.g cmp_Or_uint32.f
 repeat' (first | with_reducible refine le_loop fun _ => ?_ | with_reducible refine le_bind ?_ fun _ => ?_ | with_reducible refine le_ite ?_ ?_ | with_reducible refine le_lt fun _ => ?_ | with_reducible refine le_elim (fun _ => ?_) (fun _ => ?_) _ | with_reducible exact le_refl _)
/-! slices.Clone[[]drawbridge/api.Lease,drawbridge/api.Lease] -/
noncomputable def slices_Clone_s_api_Lease_api_Lease.f (a1 : List TLease) : Option ((List TLease)) :=
  (app ([] : List TLease) a1).bind fun x1 => some (x1)
set_option maxRecDepth 100000 in
set_option maxHeartbeats 4000000 in
theorem slices_Clone_s_api_Lease_api_Lease.spc (v1 : Value) (a1 : List TLease) (r : (List TLease)) (H : slices_Clone_s_api_Lease_api_Lease.f a1 = some r) : Spc Try.prog 50 [v1] [Val (Kd.sl KLease) v1 a1] [] (fun (s : Value) => s) (fun s => [Val (Kd.osl KLease) s r]) := by
 unfold slices_Clone_s_api_Lease_api_Lease.f at H
 refine Spc.go Try.func50 rfl (by kernel_rfl) rfl rfl (all_cons (Val.per Per_sl) all_nil) fun F a w h => ?_
 refine Go.seq ?_
 refine Go.reg ?_
 refine ga h (o_assign rfl) rfl fun h => ?_
 refine GoR.done ?_
 refine Go.seq ?_
 refine Go.seq ?_
 refine Go.reg ?_
 refine mv h rfl rfl fun h => ?_
 refine gs h (o_eqn rfl rfl (rd_at 0 rfl) t_v26) rfl fun t1 _ _ h => ?_
 refine GoR.done ?_
 by_cases c1 : t1 = true
 ·have q_ := h.mem.pur 0 rfl c1
  have H : (some ([])) = some r := by rw [q_] at H; simpa [app, app1] using H
  refine g_t h rfl c1 ?_
  refine Go.seq ?_
  refine Go.reg ?_
  refine ga h (o_assign rfl) rfl fun h => ?_
  refine GoR.done ?_
  replace h := h.mm fun m => m.nilo KLease
  rw [← som H]
  exact g_ret (vs := [.slice none 0 0]) h Try.func50 ⟨rfl, trivial⟩ ⟨.slice none 0 0, rfl, (h.mem.pick [0] (by decide) rfl)⟩
 ·refine g_f h rfl c1 ?_
  refine Go.skip ?_
  refine Go.seq ?_
  refine Go.reg ?_
  refine gs h (o_bs (K := KLease) (vs := []) (xs := ([] : List TLease)) rfl rfl pvs_nil t_a26 (by decide) (by decide)) rfl fun v2 _ _ h => ?_
  refine mv h rfl rfl fun h => ?_
  obtain ⟨x1, ex1, H⟩ := bindE H
  refine gs h (o_app (K := KLease) 0 rfl rfl rfl (rd_at 2 rfl) ex1 t_a26 t_n26) rfl fun v3 _ _ h => ?_
  refine ga h (o_assign rfl) rfl fun h => ?_
  refine GoR.done ?_
  rw [← som H]
  exact g_ret (vs := [v3]) h Try.func50 ⟨rfl, trivial⟩ ⟨v3, rfl, (h.mem.pick [0] (by decide) rfl)⟩
def slices_Clone_s_api_Lease_api_Lease.g (k_ : Nat) (a1 : List TLease) : Option ((List TLease)) :=
  (app ([] : List TLease) a1).bind fun x1 => some (x1)
theorem slices_Clone_s_api_Lease_api_Lease.le (k_ : Nat) (a1 : List TLease) : Le (slices_Clone_s_api_Lease_api_Lease.g k_ a1) (slices_Clone_s_api_Lease_api_Lease.f a1) := by
 unfold slices_Clone_s_api_Lease_api_Lease.g slices_Clone_s_api_Lease_api_Lease.f
 repeat' (first | with_reducible refine le_loop fun _ => ?_ | with_reducible refine le_bind ?_ fun _ => ?_ | with_reducible refine le_ite ?_ ?_ | with_reducible refine le_lt fun _ => ?_ | with_reducible refine le_elim (fun _ => ?_) (fun _ => ?_) _ | with_reducible exact le_refl _)
/-! cmp.isNaN[uint32] -/
noncomputable def cmp_isNaN_uint32.f (a1 : Int) : Option (Bool) :=
  lt (!decide (a1 = a1)) fun y1 => some (y1)
set_option maxRecDepth 100000 in
set_option maxHeartbeats 4000000 in
theorem cmp_isNaN_uint32.spc (a1 : Int) (ha1 : InR .u32 a1) (r : Bool) (H : cmp_isNaN_uint32.f a1 = some r) : Spc Try.prog 66 [.int .u32 a1] [] [] (fun (s : Unit) => .bool r) (fun s => []) := by
 unfold cmp_isNaN_uint32.f at H
 refine Spc.go Try.func66 rfl (by kernel_rfl) rfl rfl all_nil fun F a w h => ?_
 refine Go.seq ?_
 refine Go.reg ?_
 refine ga h (o_assign rfl) rfl fun h => ?_
 refine GoR.done ?_
 refine Go.seq ?_
 refine Go.reg ?_
 refine mv h rfl rfl fun h => ?_
 refine mv h rfl rfl fun h => ?_
 refine ga h (o_bin rfl rfl rfl) rfl fun h => ?_
 obtain ⟨y1, ey1, H⟩ := ltE H
 refine ga h (o_assign' rfl (congrArg Value.bool ey1)) rfl fun h => ?_
 refine GoR.done ?_
 rw [← som H]
 exact g_ret (vs := [.bool y1]) h Try.func66 ⟨rfl, trivial⟩ ⟨(), rfl, (h.mem.pick [] (by decide) rfl)⟩
def cmp_isNaN_uint32.g (k_ : Nat) (a1 : Int) : Option (Bool) :=
  lt (!decide (a1 = a1)) fun y1 => some (y1)
theorem cmp_isNaN_uint32.le (k_ : Nat) (a1 : Int) : Le (cmp_isNaN_uint32.g k_ a1) (cmp_isNaN_uint32.f a1) := by
 unfold cmp_isNaN_uint32.g cmp_isNaN_uint32.f
 repeat' (first | with_reducible refine le_loop fun _ => ?_ | with_reducible refine le_bind ?_ fun _ => ?_ | with_reducible refine le_ite ?_ ?_ | with_reducible refine le_lt fun _ => ?_ | with_reducible refine le_elim (fun _ => ?_) (fun _ => ?_) _ | with_reducible exact le_refl _)
/-! cmp.Compare[uint32] -/
noncomputable def cmp_Compare_uint32.f (a1 : Int) (a2 : Int) : Option (Int) :=
  (cmp_isNaN_uint32.f a1).bind fun r1 => (cmp_isNaN_uint32.f a2).bind fun r2 => (if r1 = true then (if r2 = true then some (0) else some ((-1))) else (if r2 = true then some (1) else (if decide (a1 < a2) = true then some ((-1)) else (if decide (a2 < a1) = true then some (1) else some (0)))))
set_option maxRecDepth 100000 in
set_option maxHeartbeats 4000000 in
theorem cmp_Compare_uint32.spc (a1 : Int) (ha1 : InR .u32 a1) (a2 : Int) (ha2 : InR .u32 a2) (r : Int) (H : cmp_Compare_uint32.f a1 a2 = some r) : Spc Try.prog 54 [.int .u32 a1, .int .u32 a2] [] [] (fun (s : Unit) => .int .i64 r) (fun s => [Ent.pur (InR .i64 r)]) := by
 unfold cmp_Compare_uint32.f at H
 refine Spc.go Try.func54 rfl (by kernel_rfl) rfl rfl all_nil fun F a w h => ?_
 refine Go.seq ?_
 refine Go.reg ?_
 refine ga h (o_assign rfl) rfl fun h => ?_
 refine GoR.done ?_
 refine Go.seq ?_
 refine Go.reg ?_
 refine mv h rfl rfl fun h => ?_
 obtain ⟨r1, er1, H⟩ := bindE H
 refine ga h (o_call (cmp_isNaN_uint32.spc a1 ha1 r1 er1) rfl [] [] (by decide) rfl rfl) rfl fun h => ?_
 refine ga h (o_assign rfl) rfl fun h => ?_
 refine GoR.done ?_
 refine Go.seq ?_
 refine Go.reg ?_
 refine mv h rfl rfl fun h => ?_
 obtain ⟨r2, er2, H⟩ := bindE H
 refine ga h (o_call (cmp_isNaN_uint32.spc a2 ha2 r2 er2) rfl [] [] (by decide) rfl rfl) rfl fun h => ?_
 refine ga h (o_assign rfl) rfl fun h => ?_
 refine GoR.done ?_
 refine Go.seq ?_
 refine Go.seq ?_
 refine Go.reg ?_
 refine mv h rfl rfl fun h => ?_
 refine GoR.done ?_
 by_cases c1 : r1 = true
 ·have H := ifT c1 H
  refine g_t h rfl c1 ?_
  refine Go.seq ?_
  refine Go.seq ?_
  refine Go.reg ?_
  refine mv h rfl rfl fun h => ?_
  refine GoR.done ?_
  by_cases c2 : r2 = true
  ·have H := ifT c2 H
   refine g_t h rfl c2 ?_
   refine Go.seq ?_
   refine Go.reg ?_
   refine ga h (o_assign rfl) rfl fun h => ?_
   refine GoR.done ?_
   rw [← som H]
   exact g_ret (vs := [.int .i64 0]) h Try.func54 ⟨rfl, trivial⟩ ⟨(), rfl, ((h.mem.pick [] (by decide) rfl).addpur (show InR .i64 0 by decide))⟩
  ·have H := ifF c2 H
   refine g_f h rfl c2 ?_
   refine Go.skip ?_
   refine Go.seq ?_
   refine Go.reg ?_
   refine ga h (o_assign rfl) rfl fun h => ?_
   refine GoR.done ?_
   rw [← som H]
   exact g_ret (vs := [.int .i64 (-1)]) h Try.func54 ⟨rfl, trivial⟩ ⟨(), rfl, ((h.mem.pick [] (by decide) rfl).addpur (show InR .i64 (-1) by decide))⟩
 ·have H := ifF c1 H
  refine g_f h rfl c1 ?_
  refine Go.skip ?_
  refine Go.seq ?_
  refine Go.seq ?_
  refine Go.reg ?_
  refine mv h rfl rfl fun h => ?_
  refine GoR.done ?_
  by_cases c3 : r2 = true
  ·have H := ifT c3 H
   refine g_t h rfl c3 ?_
   refine Go.seq ?_
   refine Go.reg ?_
   refine ga h (o_assign rfl) rfl fun h => ?_
   refine GoR.done ?_
   rw [← som H]
   exact g_ret (vs := [.int .i64 1]) h Try.func54 ⟨rfl, trivial⟩ ⟨(), rfl, ((h.mem.pick [] (by decide) rfl).addpur (show InR .i64 1 by decide))⟩
  ·have H := ifF c3 H
   refine g_f h rfl c3 ?_
   refine Go.skip ?_
   refine Go.seq ?_
   refine Go.seq ?_
   refine Go.reg ?_
   refine mv h rfl rfl fun h => ?_
   refine mv h rfl rfl fun h => ?_
   refine ga h (o_bin rfl rfl rfl) rfl fun h => ?_
   refine GoR.done ?_
   by_cases c4 : decide (a1 < a2) = true
   ·have H := ifT c4 H
    refine g_t h rfl c4 ?_
    refine Go.seq ?_
    refine Go.reg ?_
    refine ga h (o_assign rfl) rfl fun h => ?_
    refine GoR.done ?_
    rw [← som H]
    exact g_ret (vs := [.int .i64 (-1)]) h Try.func54 ⟨rfl, trivial⟩ ⟨(), rfl, ((h.mem.pick [] (by decide) rfl).addpur (show InR .i64 (-1) by decide))⟩
   ·have H := ifF c4 H
    refine g_f h rfl c4 ?_
    refine Go.skip ?_
    refine Go.seq ?_
    refine Go.seq ?_
    refine Go.reg ?_
    refine mv h rfl rfl fun h => ?_
    refine mv h rfl rfl fun h => ?_
    refine ga h (o_bin rfl rfl rfl) rfl fun h => ?_
    refine GoR.done ?_
    by_cases c5 : decide (a2 < a1) = true
    ·have H := ifT c5 H
     refine g_t h rfl c5 ?_
     refine Go.seq ?_
     refine Go.reg ?_
     refine ga h (o_assign rfl) rfl fun h => ?_
     refine GoR.done ?_
     rw [← som H]
     exact g_ret (vs := [.int .i64 1]) h Try.func54 ⟨rfl, trivial⟩ ⟨(), rfl, ((h.mem.pick [] (by decide) rfl).addpur (show InR .i64 1 by decide))⟩
    ·have H := ifF c5 H
     refine g_f h rfl c5 ?_
     refine Go.skip ?_
     refine Go.seq ?_
     refine Go.reg ?_
     refine ga h (o_assign rfl) rfl fun h => ?_
     refine GoR.done ?_
     rw [← som H]
     exact g_ret (vs := [.int .i64 0]) h Try.func54 ⟨rfl, trivial⟩ ⟨(), rfl, ((h.mem.pick [] (by decide) rfl).addpur (show InR .i64 0 by decide))⟩
def cmp_Compare_uint32.g (k_ : Nat) (a1 : Int) (a2 : Int) : Option (Int) :=
  (cmp_isNaN_uint32.g k_ a1).bind fun r1 => (cmp_isNaN_uint32.g k_ a2).bind fun r2 => (if r1 = true then (if r2 = true then some (0) else some ((-1))) else (if r2 = true then some (1) else (if decide (a1 < a2) = true then some ((-1)) else (if decide (a2 < a1) = true then some (1) else some (0)))))
theorem cmp_Compare_uint32.le (k_ : Nat) (a1 : Int) (a2 : Int) : Le (cmp_Compare_uint32.g k_ a1 a2) (cmp_Compare_uint32.f a1 a2) := by
 unfold cmp_Compare_uint32.g cmp_Compare_uint32.f
 repeat' (first | with_reducible refine le_loop fun _ => ?_ | with_reducible refine le_bind ?_ fun _ => ?_ | with_reducible refine le_ite ?_ ?_ | with_reducible refine le_lt fun _ => ?_ | with_reducible refine le_elim (fun _ => ?_) (fun _ => ?_) _ | with_reducible apply cmp_isNaN_uint32.le | with_reducible exact le_refl _)
/-! (*drawbridge/lease.server).request$2 -/
noncomputable def lease_server_request_2.f (a1 : TLease) (a2 : TLease) : Option (Int) :=
  (cmp_Compare_uint32.f a1.Ip a2.Ip).bind fun r1 => some (r1)
set_option maxRecDepth 100000 in
set_option maxHeartbeats 4000000 in
theorem lease_server_request_2.spc (v1 : Value) (a1 : TLease) (v2 : Value) (a2 : TLease) (r : Int) (H : lease_server_request_2.f a1 a2 = some r) : Spc Try.prog 53 [v1, v2] [Val KLease v1 a1, Val KLease v2 a2] [] (fun (s : Unit) => .int .i64 r) (fun s => [Ent.pur (InR .i64 r)]) := by
 unfold lease_server_request_2.f at H
 refine Spc.go Try.func53 rfl (by kernel_rfl) rfl rfl (all_cons (Val.per PLease) (all_cons (Val.per PLease) all_nil)) fun F a w h => ?_
 refine Go.seq ?_
 refine Go.reg ?_
 refine gs h (o_box (K := KLease) rfl (pv_at PLease 0 rfl)) rfl fun b1 _ _ h => ?_
 refine gs h (o_box (K := KLease) rfl (pv_at PLease 2 rfl)) rfl fun b2 _ _ h => ?_
 refine ga h (o_assign rfl) rfl fun h => ?_
 refine GoR.done ?_
 refine Go.seq ?_
 refine Go.reg ?_
 refine ga h (o_fa rfl t_f42_1 rfl rfl) rfl fun h => ?_
 have g1 := (in2 (fd_sub sLease_Ip 1 rfl h.mem))
 refine ga h (o_lfx 1 rfl rfl sLease_Ip rfl X_int t_y25) rfl fun h => ?_
 refine ga h (o_fa rfl t_f42_1 rfl rfl) rfl fun h => ?_
 have g2 := (in2 (fd_sub sLease_Ip 0 rfl h.mem))
 refine ga h (o_lfx 0 rfl rfl sLease_Ip rfl X_int t_y25) rfl fun h => ?_
 obtain ⟨r1, er1, H⟩ := bindE H
 refine ga h (o_call (cmp_Compare_uint32.spc a1.Ip g1 a2.Ip g2 r1 er1) rfl [] [] (by decide) rfl rfl) rfl fun h => ?_
 have g3 := h.mem.pur 0 rfl
 refine ga h (o_assign rfl) rfl fun h => ?_
 refine GoR.done ?_
 rw [← som H]
 exact g_ret (vs := [.int .i64 r1]) h Try.func53 ⟨rfl, trivial⟩ ⟨(), rfl, ((h.mem.pick [] (by decide) rfl).addpur g3)⟩
def lease_server_request_2.g (k_ : Nat) (a1 : TLease) (a2 : TLease) : Option (Int) :=
  (cmp_Compare_uint32.g k_ a1.Ip a2.Ip).bind fun r1 => some (r1)
theorem lease_server_request_2.le (k_ : Nat) (a1 : TLease) (a2 : TLease) : Le (lease_server_request_2.g k_ a1 a2) (lease_server_request_2.f a1 a2) := by
 unfold lease_server_request_2.g lease_server_request_2.f
 repeat' (first | with_reducible refine le_loop fun _ => ?_ | with_reducible refine le_bind ?_ fun _ => ?_ | with_reducible refine le_ite ?_ ?_ | with_reducible refine le_lt fun _ => ?_ | with_reducible refine le_elim (fun _ => ?_) (fun _ => ?_) _ | with_reducible apply cmp_Compare_uint32.le | with_reducible exact le_refl _)
/-! (*drawbridge/lease.server).request$1 -/
noncomputable def lease_server_request_1_at_p.f (a1 : TLease) (a2 : Int) (a3 : Tserver) : Option (Bool) :=
  ((if decide (a1.Ip = a2) = true then some (true) else (bytes_Equal.f a1.Mac a3.d.Mac).bind fun r1 => some (r1))).bind (fun j1 => some (j1))
set_option maxRecDepth 100000 in
set_option maxHeartbeats 4000000 in
theorem lease_server_request_1_at_p.spc (v1 : Value) (a1 : TLease) (b1 : Nat) (a2 : Int) (b2 : Nat) (b3 : Nat) (a3 : Tserver) (r : Bool) (H : lease_server_request_1_at_p.f a1 a2 a3 = some r) : Spc Try.prog 51 [v1, pt b1, pt b2] [Val KLease v1 a1, Pfl (Kd.int .u32) b1 0 a2, Pfl Kserver b3 0 a3, Pfl (Kd.eq (pt b3)) b2 0 ()] [] (fun (s : Unit) => .bool r) (fun s => []) := by
 unfold lease_server_request_1_at_p.f at H
 refine Spc.go Try.func51 rfl (by kernel_rfl) rfl rfl (all_cons (Val.per PLease) (all_cons Per_pfl (all_cons Per_pfl (all_cons Per_pfl all_nil)))) fun F a w h => ?_
 refine Go.seq ?_
 refine Go.reg ?_
 refine gs h (o_box (K := KLease) rfl (pv_at PLease 0 rfl)) rfl fun b4 _ _ h => ?_
 refine ga h (o_assign rfl) rfl fun h => ?_
 refine GoR.done ?_
 refine Go.seq ?_
 replace h := h.wq [(1, pt b1), (2, pt b2), (3, pt b4), (4, .bool false)] [Fld KLease b4 0 a1, Val KLease v1 a1, Pfl (Kd.int .u32) b1 0 a2, Pfl Kserver b3 0 a3, Pfl (Kd.eq (pt b3)) b2 0 ()] [0, 1, 2, 3, 4]
 obtain ⟨o1, H, G1⟩ := bindE H
 refine g_cut (fun G => ∀ j1 (a : Act) (w : World), o1 = j1 → St Try.f51.ntmps F [(4, .bool j1)] [Fld KLease b4 0 a1, Pfl (Kd.int .u32) b1 0 a2, Pfl Kserver b3 0 a3, Pfl (Kd.eq (pt b3)) b2 0 ()] a w → G a w) 1 ?_ fun J1 => ?_
 ·intro j1 a w ho_ h
  rw [ho_] at G1
  have H := G1
  rw [← som H]
  exact g_ret (vs := [.bool j1]) h Try.func51 ⟨rfl, trivial⟩ ⟨(), rfl, (h.mem.pick [] (by decide) rfl)⟩
 by_cases c1 : decide (a1.Ip = a2) = true
 ·have H := ifT c1 H
  refine Go.draw (E := [(1, pt b1), (2, pt b2), (3, pt b4), (4, .bool false)]) [] (L := [Fld KLease b4 0 a1, Val KLease v1 a1, Pfl (Kd.int .u32) b1 0 a2, Pfl Kserver b3 0 a3, Pfl (Kd.eq (pt b3)) b2 0 ()]) h rfl rfl 12 [cn (.pointer (some ⟨b4, 1, none⟩)), cm [0] [] [] (.int .u32 a1.Ip) fun u => [Ent.pur (InR .u32 a1.Ip)], cm [] [] [] (.int .u32 a2) fun u => [Ent.pur (InR .u32 a2)], ce [0, 1, 2] (.bool (decide (a1.Ip = a2))), ce [0, 1, 2, 3] (.bool (decide (a1.Ip = a2))), ⟨[4], [], [], true, .con undef, none, fun u => [], []⟩, ⟨[4], [], [], true, .con undef, none, fun u => [], []⟩, ⟨[4], [], [], true, .con undef, none, fun u => [], []⟩, ⟨[4], [], [], true, .con undef, none, fun u => [], []⟩, ⟨[4], [], [], true, .con undef, none, fun u => [], []⟩, ⟨[4], [], [], true, .con undef, none, fun u => [], []⟩, ⟨[4], [], [], true, .con undef, none, fun u => [], []⟩] rfl t_mxo (by kernel_rfl) (by rfl) ?_ fun f1 _ _ h => ?_
  ·exact ox rfl (o_fa rfl t_f42_1 rfl rfl) (ox rfl (OpS.pur (fun F w m_ => (in2 (fd_sub sLease_Ip 0 rfl m_))) (o_lfx 0 rfl rfl sLease_Ip rfl X_int t_y25)) (ox rfl (OpS.pur (fun F w m_ => (in2 (pf_sub sub_self 2 rfl m_))) (p_lfx 2 rfl rfl sub_self rfl X_int t_y25)) (ox rfl (o_bin rfl rfl rfl) (ox rfl (o_move rfl) (oj rfl rfl (fun _ => rfl) (nb_t c1) (oj rfl rfl (fun _ => rfl) (nb_t c1) (oj rfl rfl (fun _ => rfl) (nb_t c1) (oj rfl rfl (fun _ => rfl) (nb_t c1) (oj rfl rfl (fun _ => rfl) (nb_t c1) (oj rfl rfl (fun _ => rfl) (nb_t c1) (oj rfl rfl (fun _ => rfl) (nb_t c1) (obs_nil))))))))))))
  replace h := h.wk (E' := [(4, .bool false), (9, .bool (decide (a1.Ip = a2)))]) (L' := [Ent.pur (InR .u32 a1.Ip), Ent.pur (InR .u32 a2), Fld KLease b4 0 a1, Val KLease v1 a1, Pfl (Kd.int .u32) b1 0 a2, Pfl Kserver b3 0 a3, Pfl (Kd.eq (pt b3)) b2 0 ()]) (by kernel_rfl) [0, 1, 2, 3, 4, 5, 6] (by decide) (by kernel_rfl)
  refine gk h rfl rfl (nb_t c1) rfl fun _ h => ?_
  refine ga h (o_pickT rfl rfl c1) rfl fun h => ?_
  refine ga h (o_assign rfl) rfl fun h => ?_
  refine GoR.done ?_
  exact J1 true _ _ (som H).symm (h.wr [2, 4, 5, 6])
 ·have H := ifF c1 H
  refine Go.draw (E := [(1, pt b1), (2, pt b2), (3, pt b4), (4, .bool false)]) [] (L := [Fld KLease b4 0 a1, Val KLease v1 a1, Pfl (Kd.int .u32) b1 0 a2, Pfl Kserver b3 0 a3, Pfl (Kd.eq (pt b3)) b2 0 ()]) h rfl rfl 12 [cn (.pointer (some ⟨b4, 1, none⟩)), cm [0] [] [] (.int .u32 a1.Ip) fun u => [Ent.pur (InR .u32 a1.Ip)], cm [] [] [] (.int .u32 a2) fun u => [Ent.pur (InR .u32 a2)], ce [0, 1, 2] (.bool (decide (a1.Ip = a2))), ce [0, 1, 2, 3] (.bool (decide (a1.Ip = a2))), ce [0, 1, 2, 3, 4] (pt b4), cw [0, 1, 2, 3, 4, 5] [] [] fun u => [Val (Kd.sl (Kd.int .u8)) u a1.Mac], ce [0, 1, 2, 3, 4] (pt b3), ce [0, 1, 2, 3, 4, 7] (pt b3), ce [0, 1, 2, 3, 4, 7, 8] (.pointer (some ⟨b3, 2, none⟩)), ce [0, 1, 2, 3, 4, 7, 8, 9] (.pointer (some ⟨b3, 6, none⟩)), cw [0, 1, 2, 3, 4, 7, 8, 9, 10] [] [] fun u => [Val (Kd.sl (Kd.int .u8)) u a3.d.Mac]] rfl t_mxo (by kernel_rfl) (by rfl) ?_ fun f1 _ _ h => ?_
  ·exact ox rfl (o_fa rfl t_f42_1 rfl rfl) (ox rfl (OpS.pur (fun F w m_ => (in2 (fd_sub sLease_Ip 0 rfl m_))) (o_lfx 0 rfl rfl sLease_Ip rfl X_int t_y25)) (ox rfl (OpS.pur (fun F w m_ => (in2 (pf_sub sub_self 2 rfl m_))) (p_lfx 2 rfl rfl sub_self rfl X_int t_y25)) (ox rfl (o_bin rfl rfl rfl) (ox rfl (o_move rfl) (og rfl rfl (fun _ => rfl) (nbF c1) (o_fa rfl t_f42_0 rfl rfl) (obs_cons (ob_own rfl (gok_some rfl rfl rfl (fun _ => rfl) (nbF c1)) rfl fun f1 => (o_lfv 0 rfl rfl sLease_Mac rfl Per_sl t_y22)) (og rfl rfl (fun _ => rfl) (nbF c1) (p_lfx (K := (Kd.eq (pt b3))) (A := (Kd.eq (pt b3))) (pr := fun x => x) (off := 0) 4 rfl rfl sub_self rfl X_eq t_y51) (og rfl rfl (fun _ => rfl) (nbF c1) (o_nilc rfl) (og rfl rfl (fun _ => rfl) (nbF c1) (o_fa rfl t_f53_2 rfl rfl) (og rfl rfl (fun _ => rfl) (nbF c1) (o_fa rfl t_f28_4 rfl rfl) (obs_cons (ob_own rfl (gok_some rfl rfl rfl (fun _ => rfl) (nbF c1)) rfl fun f1 => (p_lfv (K := Kserver) (pr := fun x => x.d.Mac) (y := a3) 3 rfl rfl t_sserver_d_Mac rfl t_y22)) (obs_nil))))))))))))
  replace h := h.wk (E' := [(4, .bool false), (9, .bool (decide (a1.Ip = a2))), (11, (f1 6)), (16, (f1 11))]) (L' := [Ent.pur (InR .u32 a1.Ip), Ent.pur (InR .u32 a2), Val (Kd.sl (Kd.int .u8)) (f1 6) a1.Mac, Val (Kd.sl (Kd.int .u8)) (f1 11) a3.d.Mac, Fld KLease b4 0 a1, Val KLease v1 a1, Pfl (Kd.int .u32) b1 0 a2, Pfl Kserver b3 0 a3, Pfl (Kd.eq (pt b3)) b2 0 ()]) (by kernel_rfl) [0, 1, 2, 3, 4, 5, 6, 7, 8] (by decide) (by kernel_rfl)
  obtain ⟨r1, er1, H⟩ := bindE H
  refine gg h rfl rfl (nbF c1) (o_call (bytes_Equal.spc (f1 6) a1.Mac (f1 11) a3.d.Mac r1 er1) rfl [2, 3] [] (by decide) rfl rfl) rfl fun _ _ _ h => ?_
  refine ga h (o_pickF rfl rfl c1) rfl fun h => ?_
  refine ga h (o_assign rfl) rfl fun h => ?_
  refine GoR.done ?_
  exact J1 r1 _ _ (som H).symm (h.wr [4, 6, 7, 8])
def lease_server_request_1_at_p.g (k_ : Nat) (a1 : TLease) (a2 : Int) (a3 : Tserver) : Option (Bool) :=
  ((if decide (a1.Ip = a2) = true then some (true) else (bytes_Equal.g k_ a1.Mac a3.d.Mac).bind fun r1 => some (r1))).bind (fun j1 => some (j1))
theorem lease_server_request_1_at_p.le (k_ : Nat) (a1 : TLease) (a2 : Int) (a3 : Tserver) : Le (lease_server_request_1_at_p.g k_ a1 a2 a3) (lease_server_request_1_at_p.f a1 a2 a3) := by
 unfold lease_server_request_1_at_p.g lease_server_request_1_at_p.f
 repeat' (first | with_reducible refine le_loop fun _ => ?_ | with_reducible refine le_bind ?_ fun _ => ?_ | with_reducible refine le_ite ?_ ?_ | with_reducible refine le_lt fun _ => ?_ | with_reducible refine le_elim (fun _ => ?_) (fun _ => ?_) _ | with_reducible apply bytes_Equal.le | with_reducible exact le_refl _)
/-! slices.IndexFunc[[]drawbridge/api.Lease,drawbridge/api.Lease] -/
noncomputable def slices_IndexFunc_s_api_Lease_api_Lease_at_lease_server_request_1_of_p.f (a1 : List TLease) (a2 : Int) (a3 : Tserver) : Option (Int) :=
  (loop (fun s1 => (if decide (s1 < (a1.length : Int)) = true then (idx a1 s1).bind fun x1 => (lease_server_request_1_at_p.f x1 a2 a3).bind fun r1 => (if r1 = true then some (.inr (.inr (s1))) else some (.inl (IntKind.i64.wrap (s1 + 1)))) else some (.inr (.inl (()))))) 0).bind (Sum.elim (fun j1 => some ((-1))) (fun z_ => some (z_)))
set_option maxRecDepth 100000 in
set_option maxHeartbeats 4000000 in
theorem slices_IndexFunc_s_api_Lease_api_Lease_at_lease_server_request_1_of_p.spc (v1 : Value) (a1 : List TLease) (b1 : Nat) (a2 : Int) (b2 : Nat) (b3 : Nat) (a3 : Tserver) (r : Int) (H : slices_IndexFunc_s_api_Lease_api_Lease_at_lease_server_request_1_of_p.f a1 a2 a3 = some r) : Spc Try.prog 63 [v1, .func (.func 51) #[] #[pt b1, pt b2]] [Val (Kd.sl KLease) v1 a1, Pfl (Kd.int .u32) b1 0 a2, Pfl Kserver b3 0 a3, Pfl (Kd.eq (pt b3)) b2 0 ()] [] (fun (s : Unit) => .int .i64 r) (fun s => [Ent.pur (InR .i64 r)]) := by
 unfold slices_IndexFunc_s_api_Lease_api_Lease_at_lease_server_request_1_of_p.f at H
 refine Spc.go Try.func63 rfl (by kernel_rfl) rfl rfl (all_cons (Val.per Per_sl) (all_cons Per_pfl (all_cons Per_pfl (all_cons Per_pfl all_nil)))) fun F a w h => ?_
 refine Go.seq ?_
 refine Go.reg ?_
 refine ga h (o_assign rfl) rfl fun h => ?_
 refine GoR.done ?_
 refine Go.seq ?_
 refine Go.seq ?_
 refine Go.reg ?_
 refine mv h rfl rfl fun h => ?_
 have g1 := (len_at 0 rfl h.mem)
 refine ga h (o_ln rfl (rd_at 0 rfl) t_v26) rfl fun h => ?_
 refine mv h rfl rfl fun h => ?_
 refine GoR.done ?_
 refine Go.block ?_
 obtain ⟨o1, hl, G1⟩ := bindE H
 refine g_cut (fun G => ∀ j1 (a : Act) (w : World), o1 = .inl (j1) → St Try.f63.ntmps F [] [Pfl (Kd.int .u32) b1 0 a2, Pfl Kserver b3 0 a3, Pfl (Kd.eq (pt b3)) b2 0 ()] a w → G a w) 2 ?_ fun J1 => ?_
 ·intro j1 a w ho_ h
  rw [ho_] at G1
  have H := eInl G1
  refine Go.seq ?_
  refine Go.reg ?_
  refine ga h (o_assign rfl) rfl fun h => ?_
  refine GoR.done ?_
  rw [← som H]
  exact g_ret (vs := [.int .i64 (-1)]) h Try.func63 ⟨rfl, trivial⟩ ⟨(), rfl, ((h.mem.pick [] (by decide) rfl).addpur (show InR .i64 (-1) by decide))⟩
 refine g_loop (fun s1 G => ∀  (a : Act) (w : World), InR .i64 s1 → St Try.f63.ntmps F [(0, v1), (1, .func (.func 51) #[] #[pt b1, pt b2]), (7, .int .i64 (a1.length : Int)), (8, .int .i64 s1)] [Val (Kd.sl KLease) v1 a1, Pfl (Kd.int .u32) b1 0 a2, Pfl Kserver b3 0 a3, Pfl (Kd.eq (pt b3)) b2 0 ()] a w → G a w) hl (fun s1 p1 H i1 => ?_) fun I_ => ?_
 ·intro  a w g2 h
  refine Go.seq ?_
  refine Go.reg ?_
  refine ga h (o_bin rfl rfl rfl) rfl fun h => ?_
  refine GoR.done ?_
  refine Go.seq ?_
  by_cases c1 : decide (s1 < (a1.length : Int)) = true
  ·have H := ifT c1 H
   refine g_t h rfl c1 ?_
   refine Go.skip ?_
   refine Go.seq ?_
   refine Go.block ?_
   refine Go.seq ?_
   refine Go.reg ?_
   refine mv h rfl rfl fun h => ?_
   refine ga h (o_assign rfl) rfl fun h => ?_
   refine GoR.done ?_
   refine Go.seq ?_
   refine Go.reg ?_
   iterate 3 (refine ga h (o_move rfl) rfl fun h => ?_)
   obtain ⟨x1, ex1, H⟩ := bindE H
   refine ga h (o_ix rfl rfl (rd_at 0 rfl) ex1 t_v26) rfl fun h => ?_
   refine gs h (o_lev rfl (rd_at 0 rfl) ex1 t_y42 (by decide)) rfl fun v2 _ _ h => ?_
   obtain ⟨r1, er1, H⟩ := bindE H
   refine ga h (o_callv (vs := [v2]) (caps := [pt b1, pt b2]) rfl rfl (lease_server_request_1_at_p.spc v2 x1 b1 a2 b2 b3 a3 r1 er1) [0, 2, 3, 4] [] (by decide) rfl rfl) rfl fun h => ?_
   refine GoR.done ?_
   by_cases c2 : r1 = true
   ·have H := ifT c2 H
    refine g_t h rfl c2 ?_
    refine Go.seq ?_
    refine Go.reg ?_
    refine mv h rfl rfl fun h => ?_
    refine ga h (o_assign rfl) rfl fun h => ?_
    refine GoR.done ?_
    have e_ := som H; subst e_
    rw [← nx_out i1] at G1
    have H := G1
    rw [← som H]
    exact g_ret (vs := [.int .i64 s1]) h Try.func63 ⟨rfl, trivial⟩ ⟨(), rfl, ((h.mem.pick [] (by decide) rfl).addpur g2)⟩
   ·have H := ifF c2 H
    refine g_f h rfl c2 ?_
    refine Go.skip ?_
    refine Go.inBlock ?_
    refine Go.reg ?_
    refine ga h (o_bin rfl rfl rfl) rfl fun h => ?_
    refine mv h rfl rfl fun h => ?_
    refine GoR.done ?_
    have e_ := som H; subst e_
    exact Go.inLoop (nx_in i1 _ _ (wrap_in _ _) (h.wr [1, 2, 3, 4]))
  ·have H := ifF c1 H
   refine g_f h rfl c1 ?_
   refine Go.exit rfl ?_
   have e_ := som H; subst e_
   exact J1 () _ _ (nx_out i1).symm (h.wr [1, 2, 3])
 ·exact I_ _ _ (show InR .i64 0 by decide) (h.wr [0, 1, 2, 3])
def slices_IndexFunc_s_api_Lease_api_Lease_at_lease_server_request_1_of_p.g (k_ : Nat) (a1 : List TLease) (a2 : Int) (a3 : Tserver) : Option (Int) :=
  (loopK k_ (fun s1 => (if decide (s1 < (a1.length : Int)) = true then (idx a1 s1).bind fun x1 => (lease_server_request_1_at_p.g k_ x1 a2 a3).bind fun r1 => (if r1 = true then some (.inr (.inr (s1))) else some (.inl (IntKind.i64.wrap (s1 + 1)))) else some (.inr (.inl (()))))) 0).bind (Sum.elim (fun j1 => some ((-1))) (fun z_ => some (z_)))
theorem slices_IndexFunc_s_api_Lease_api_Lease_at_lease_server_request_1_of_p.le (k_ : Nat) (a1 : List TLease) (a2 : Int) (a3 : Tserver) : Le (slices_IndexFunc_s_api_Lease_api_Lease_at_lease_server_request_1_of_p.g k_ a1 a2 a3) (slices_IndexFunc_s_api_Lease_api_Lease_at_lease_server_request_1_of_p.f a1 a2 a3) := by
 unfold slices_IndexFunc_s_api_Lease_api_Lease_at_lease_server_request_1_of_p.g slices_IndexFunc_s_api_Lease_api_Lease_at_lease_server_request_1_of_p.f
 repeat' (first | with_reducible refine le_loop fun _ => ?_ | with_reducible refine le_bind ?_ fun _ => ?_ | with_reducible refine le_ite ?_ ?_ | with_reducible refine le_lt fun _ => ?_ | with_reducible refine le_elim (fun _ => ?_) (fun _ => ?_) _ | with_reducible apply lease_server_request_1_at_p.le | with_reducible exact le_refl _)
/-! slices.DeleteFunc[[]drawbridge/api.Lease,drawbridge/api.Lease] -/
noncomputable def slices_DeleteFunc_s_api_Lease_api_Lease_at_lease_server_request_1_of_p.f (a1 : List TLease) (a2 : Int) (a3 : Tserver) : Option ((List TLease) × Tserver) :=
  (slices_IndexFunc_s_api_Lease_api_Lease_at_lease_server_request_1_of_p.f a1 a2 a3).bind fun r1 => (if decide (r1 = (-1)) = true then some ((a1, a3)) else lt (IntKind.i64.wrap (r1 + 1)) fun y1 => (loop (fun s1 => (if decide (s1.2.2 < (s1.1.length : Int)) = true then (((idx s1.1 s1.2.2).bind fun x1 => (lease_server_request_1_at_p.f x1 a2 a3).bind fun r2 => (if (!r2) = true then (idx s1.1 s1.2.1).bind fun x2 => lt (s1.1.set s1.2.1.toNat x1) fun y2 => lt (IntKind.i64.wrap (s1.2.1 + 1)) fun y3 => some ((y2, y3, x1)) else some ((s1.1, s1.2.1, x1)))).bind (fun j1 => some ((j1.1, j1.2.1, j1.2.2)))).bind (fun j2 => lt (IntKind.i64.wrap (s1.2.2 + 1)) fun y4 => some (.inl (j2.1, j2.2.1, y4))) else some (.inr ((s1.1, s1.2.1))))) (a1, r1, y1)).bind (fun j3 => if inB j3.1 j3.2 (j3.1.length : Int) then (lt (Go.splice j3.1 j3.2.toNat (List.replicate ((j3.1.length : Int).toNat - j3.2.toNat) zLease)) fun y5 => (cut y5 0 j3.2).bind fun x3 => some ((x3, a3))) else none))
set_option maxRecDepth 100000 in
set_option maxHeartbeats 4000000 in
theorem slices_DeleteFunc_s_api_Lease_api_Lease_at_lease_server_request_1_of_p.spc (v1 : Value) (a1 : List TLease) (b1 : Nat) (a2 : Int) (b2 : Nat) (b3 : Nat) (a3 : Tserver) (r : (List TLease) × Tserver) (H : slices_DeleteFunc_s_api_Lease_api_Lease_at_lease_server_request_1_of_p.f a1 a2 a3 = some r) : Spc Try.prog 49 [v1, .func (.func 51) #[] #[pt b1, pt b2]] [Pfl (Kd.int .u32) b1 0 a2, Pfl (Kd.eq (pt b3)) b2 0 ()] [Val (Kd.osl KLease) v1 a1, Fld Kserver b3 0 a3] (fun (s : Value) => s) (fun s => [Val (Kd.osl KLease) s r.1, Fld Kserver b3 0 r.2]) := by
 unfold slices_DeleteFunc_s_api_Lease_api_Lease_at_lease_server_request_1_of_p.f at H
 refine Spc.go Try.func49 rfl (by kernel_rfl) rfl rfl (all_cons Per_pfl (all_cons Per_pfl all_nil)) fun F a w h => ?_
 refine Go.seq ?_
 refine Go.reg ?_
 refine ga h (o_assign rfl) rfl fun h => ?_
 refine GoR.done ?_
 refine Go.seq ?_
 refine Go.reg ?_
 refine mv h rfl rfl fun h => ?_
 refine mv h rfl rfl fun h => ?_
 obtain ⟨r1, er1, H⟩ := bindE H
 refine ga h (OpS.lend (Lp := [Val (Kd.sl KLease) v1 a1, Pfl (Kd.int .u32) b1 0 a2, Pfl Kserver b3 0 a3, Pfl (Kd.eq (pt b3)) b2 0 ()]) (lent_cons (lent_own 2 rfl) (lent_cons (lent_per Per_pfl 0 rfl) (lent_cons (lent_fld (ro_per Pserver) 3 rfl) (lent_cons (lent_per Per_pfl 1 rfl) lent_nil)))) (o_call (slices_IndexFunc_s_api_Lease_api_Lease_at_lease_server_request_1_of_p.spc v1 a1 b1 a2 b2 b3 a3 r1 er1) rfl [0, 1, 2, 3] [] (by decide) rfl rfl) (fun _ => (clo_cons cl_pur clo_nil))) rfl fun h => ?_
 have g1 := h.mem.pur 0 rfl
 refine ga h (o_assign rfl) rfl fun h => ?_
 refine GoR.done ?_
 refine Go.seq ?_
 refine Go.seq ?_
 refine Go.reg ?_
 refine mv h rfl rfl fun h => ?_
 refine ga h (o_bin rfl rfl rfl) rfl fun h => ?_
 refine GoR.done ?_
 by_cases c1 : decide (r1 = (-1)) = true
 ·have H := ifT c1 H
  refine g_t h rfl c1 ?_
  refine Go.seq ?_
  refine Go.reg ?_
  refine mv h rfl rfl fun h => ?_
  refine ga h (o_assign rfl) rfl fun h => ?_
  refine GoR.done ?_
  rw [← som H]
  exact g_ret (vs := [v1]) h Try.func49 ⟨rfl, trivial⟩ ⟨v1, rfl, (h.mem.pick [3, 4] (by decide) rfl)⟩
 ·have H := ifF c1 H
  refine g_f h rfl c1 ?_
  refine Go.skip ?_
  refine Go.seq ?_
  refine Go.seq ?_
  refine Go.reg ?_
  refine mv h rfl rfl fun h => ?_
  refine ga h (o_bin rfl rfl rfl) rfl fun h => ?_
  obtain ⟨y1, ey1, H⟩ := ltE H
  refine ga h (o_assign' rfl (congrArg (fun z => Value.int .i64 z) ey1)) rfl fun h => ?_
  refine GoR.done ?_
  refine Go.block ?_
  obtain ⟨o1, hl, G1⟩ := bindE H
  refine g_cut (fun G => ∀ j3 (v5 : Value) (a : Act) (w : World), o1 = j3 → InR .i64 j3.2 → St Try.f49.ntmps F [(0, v5), (5, .int .i64 j3.2)] [Val (Kd.osl KLease) v5 j3.1, Fld Kserver b3 0 a3, Pfl (Kd.int .u32) b1 0 a2, Pfl (Kd.eq (pt b3)) b2 0 ()] a w → G a w) 2 ?_ fun J3 => ?_
  ·intro j3 v5 a w ho_ g7 h
   rw [ho_] at G1
   have H := G1
   refine Go.seq ?_
   refine Go.reg ?_
   refine mv h rfl rfl fun h => ?_
   refine mv h rfl rfl fun h => ?_
   obtain ⟨q1, H⟩ := ifS H
   refine ga h (o_ownl 0 rfl rfl rfl q1 t_v26) rfl fun h => ?_
   obtain ⟨y5, ey5, H⟩ := ltE H
   refine gs0 h (o_clr (z := zLease) 0 rfl rfl q1 t_a26 (by decide) (fun e he => ⟨[.slice none 0 0, .int .u32 0, .int .i64 0], by cases he; exact t_zc42, ZLease⟩)) fun _ _ _ h => ?_
   rw [ey5] at h
   refine GoR.done ?_
   refine Go.seq ?_
   refine Go.reg ?_
   refine mv h rfl rfl fun h => ?_
   refine mv h rfl rfl fun h => ?_
   obtain ⟨x3, ex3, H⟩ := bindE H
   refine ga h (o_subh 0 rfl rfl rfl ex3 t_v26) rfl fun h => ?_
   refine ga h (o_assign rfl) rfl fun h => ?_
   refine GoR.done ?_
   rw [← som H]
   exact g_ret (vs := [subV v5 (0 : Int).toNat j3.2.toNat (Kd.n KLease)]) h Try.func49 ⟨rfl, trivial⟩ ⟨subV v5 (0 : Int).toNat j3.2.toNat (Kd.n KLease), rfl, (h.mem.pick [0, 1] (by decide) rfl)⟩
  refine g_loop (fun s1 G => ∀  (a : Act) (w : World), InR .i64 s1.2.1 → InR .i64 s1.2.2 → St Try.f49.ntmps F [(0, v1), (1, .func (.func 51) #[] #[pt b1, pt b2]), (5, .int .i64 s1.2.1), (6, .int .i64 s1.2.2)] [Val (Kd.osl KLease) v1 s1.1, Fld Kserver b3 0 a3, Pfl (Kd.int .u32) b1 0 a2, Pfl (Kd.eq (pt b3)) b2 0 ()] a w → G a w) hl (fun s1 p1 H i1 => ?_) fun I_ => ?_
  ·intro  a w g2 g3 h
   refine Go.seq ?_
   refine Go.seq ?_
   refine Go.reg ?_
   refine mv h rfl rfl fun h => ?_
   refine mv h rfl rfl fun h => ?_
   have g4 := (len_own 0 rfl h.mem)
   refine ga h (o_ln rfl (rd_own 0 rfl) t_v26) rfl fun h => ?_
   refine ga h (o_bin rfl rfl rfl) rfl fun h => ?_
   refine GoR.done ?_
   by_cases c2 : decide (s1.2.2 < (s1.1.length : Int)) = true
   ·have H := ifT c2 H
    refine g_t h rfl c2 ?_
    refine Go.skip ?_
    refine Go.seq ?_
    obtain ⟨o2, H, G2⟩ := bindE H
    refine g_cut (fun G => ∀ j2 (b4 : Nat) (a : Act) (w : World), o2 = j2 → InR .i64 j2.2.1 → St Try.f49.ntmps F [(0, v1), (1, .func (.func 51) #[] #[pt b1, pt b2]), (5, .int .i64 j2.2.1), (6, .int .i64 s1.2.2)] [Val (Kd.osl KLease) v1 j2.1, Fld KLease b4 0 j2.2.2, Fld Kserver b3 0 a3, Pfl (Kd.int .u32) b1 0 a2, Pfl (Kd.eq (pt b3)) b2 0 ()] a w → G a w) 1 ?_ fun J2 => ?_
    ·intro j2 b4 a w ho_ g6 h
     rw [ho_] at G2
     have H := G2
     refine Go.reg ?_
     refine mv h rfl rfl fun h => ?_
     refine ga h (o_bin rfl rfl rfl) rfl fun h => ?_
     obtain ⟨y4, ey4, H⟩ := ltE H
     refine ga h (o_assign' rfl (congrArg (fun z => Value.int .i64 z) ey4)) rfl fun h => ?_
     refine GoR.done ?_
     have e_ := som H; subst e_
     exact Go.inLoop (nx_in i1 _ _ g6 (ey4 ▸ (wrap_in _ _)) (h.wr [0, 2, 3, 4]))
    refine Go.block ?_
    obtain ⟨o3, H, G3⟩ := bindE H
    refine g_cut (fun G => ∀ j1 (b4 : Nat) (a : Act) (w : World), o3 = j1 → InR .i64 j1.2.1 → St Try.f49.ntmps F [(0, v1), (1, .func (.func 51) #[] #[pt b1, pt b2]), (5, .int .i64 j1.2.1), (6, .int .i64 s1.2.2)] [Val (Kd.osl KLease) v1 j1.1, Fld KLease b4 0 j1.2.2, Fld Kserver b3 0 a3, Pfl (Kd.int .u32) b1 0 a2, Pfl (Kd.eq (pt b3)) b2 0 ()] a w → G a w) 2 ?_ fun J1 => ?_
    ·intro j1 b4 a w ho_ g5 h
     rw [ho_] at G3
     have H := G3
     exact J2 (j1.1, j1.2.1, j1.2.2) b4 _ _ (som H).symm g5 (h.wr [0, 1, 2, 3, 4])
    refine Go.seq ?_
    refine Go.reg ?_
    refine mv h rfl rfl fun h => ?_
    refine mv h rfl rfl fun h => ?_
    obtain ⟨x1, ex1, H⟩ := bindE H
    refine ga h (o_ix rfl rfl (rd_own 0 rfl) ex1 t_v26) rfl fun h => ?_
    refine gs h (o_lev rfl (rd_own 0 rfl) ex1 t_y42 (by decide)) rfl fun v2 _ _ h => ?_
    refine gs h (o_alloc (K := KLease) (z := (.agg #[.slice none 0 0, .int .u32 0, .int .i64 0])) rfl ZLease) rfl fun b4 _ _ h => ?_
    refine gs0 h (o_st 0 rfl rfl rfl (pv_at PLease 1 rfl) rfl t_w42) fun _ _ _ h => ?_
    refine GoR.done ?_
    refine Go.seq ?_
    refine Go.reg ?_
    refine mv h rfl rfl fun h => ?_
    refine gs h (o_ldv 0 rfl rfl PLease t_y42) rfl fun v3 _ _ h => ?_
    obtain ⟨r2, er2, H⟩ := bindE H
    refine ga h (OpS.lend (Lp := [Val KLease v3 x1, Pfl (Kd.int .u32) b1 0 a2, Pfl Kserver b3 0 a3, Pfl (Kd.eq (pt b3)) b2 0 ()]) (lent_cons (lent_per (Val.per PLease) 0 rfl) (lent_cons (lent_per Per_pfl 5 rfl) (lent_cons (lent_fld (ro_per Pserver) 4 rfl) (lent_cons (lent_per Per_pfl 6 rfl) lent_nil)))) (o_callv (vs := [v3]) (caps := [pt b1, pt b2]) rfl rfl (lease_server_request_1_at_p.spc v3 x1 b1 a2 b2 b3 a3 r2 er2) [0, 1, 2, 3] [] (by decide) rfl rfl) (fun _ => clo_nil)) rfl fun h => ?_
    refine ga h (o_not rfl) rfl fun h => ?_
    refine GoR.done ?_
    by_cases c3 : (!r2) = true
    ·have H := ifT c3 H
     refine g_t h rfl c3 ?_
     refine Go.seq ?_
     refine Go.reg ?_
     refine mv h rfl rfl fun h => ?_
     refine mv h rfl rfl fun h => ?_
     refine gs h (o_ldv 1 rfl rfl PLease t_y42) rfl fun v4 _ _ h => ?_
     obtain ⟨x2, ex2, H⟩ := bindE H
     refine ga h (o_ix rfl rfl (rd_own 4 rfl) ex2 t_v26) rfl fun h => ?_
     obtain ⟨y2, ey2, H⟩ := ltE H
     refine gs0 h (o_ste 4 rfl rfl rfl (pv_at PLease 0 rfl) ex2 t_w42 (by decide)) fun _ _ _ h => ?_
     rw [ey2] at h
     refine GoR.done ?_
     refine Go.reg ?_
     refine mv h rfl rfl fun h => ?_
     refine ga h (o_bin rfl rfl rfl) rfl fun h => ?_
     obtain ⟨y3, ey3, H⟩ := ltE H
     refine ga h (o_assign' rfl (congrArg (fun z => Value.int .i64 z) ey3)) rfl fun h => ?_
     refine GoR.done ?_
     refine Go.inBlock ?_
     exact J1 (y2, y3, x1) b4 _ _ (som H).symm (ey3 ▸ (wrap_in _ _)) (h.wr [4, 2, 5, 6, 7])
    ·have H := ifF c3 H
     refine g_f h rfl c3 ?_
     refine Go.skip ?_
     refine Go.inBlock ?_
     exact J1 (s1.1, s1.2.1, x1) b4 _ _ (som H).symm g2 (h.wr [3, 1, 4, 5, 6])
   ·have H := ifF c2 H
    refine g_f h rfl c2 ?_
    refine Go.exit rfl ?_
    have e_ := som H; subst e_
    exact J3 (s1.1, s1.2.1) v1 _ _ (nx_out i1).symm g2 (h.wr [0, 1, 2, 3])
  ·exact I_ _ _ g1 (ey1 ▸ (wrap_in _ _)) (h.wr [3, 4, 1, 2])
def slices_DeleteFunc_s_api_Lease_api_Lease_at_lease_server_request_1_of_p.g (k_ : Nat) (a1 : List TLease) (a2 : Int) (a3 : Tserver) : Option ((List TLease) × Tserver) :=
  (slices_IndexFunc_s_api_Lease_api_Lease_at_lease_server_request_1_of_p.g k_ a1 a2 a3).bind fun r1 => (if decide (r1 = (-1)) = true then some ((a1, a3)) else lt (IntKind.i64.wrap (r1 + 1)) fun y1 => (loopK k_ (fun s1 => (if decide (s1.2.2 < (s1.1.length : Int)) = true then (((idx s1.1 s1.2.2).bind fun x1 => (lease_server_request_1_at_p.g k_ x1 a2 a3).bind fun r2 => (if (!r2) = true then (idx s1.1 s1.2.1).bind fun x2 => lt (s1.1.set s1.2.1.toNat x1) fun y2 => lt (IntKind.i64.wrap (s1.2.1 + 1)) fun y3 => some ((y2, y3, x1)) else some ((s1.1, s1.2.1, x1)))).bind (fun j1 => some ((j1.1, j1.2.1, j1.2.2)))).bind (fun j2 => lt (IntKind.i64.wrap (s1.2.2 + 1)) fun y4 => some (.inl (j2.1, j2.2.1, y4))) else some (.inr ((s1.1, s1.2.1))))) (a1, r1, y1)).bind (fun j3 => if inB j3.1 j3.2 (j3.1.length : Int) then (lt (Go.splice j3.1 j3.2.toNat (List.replicate ((j3.1.length : Int).toNat - j3.2.toNat) zLease)) fun y5 => (cut y5 0 j3.2).bind fun x3 => some ((x3, a3))) else none))
theorem slices_DeleteFunc_s_api_Lease_api_Lease_at_lease_server_request_1_of_p.le (k_ : Nat) (a1 : List TLease) (a2 : Int) (a3 : Tserver) : Le (slices_DeleteFunc_s_api_Lease_api_Lease_at_lease_server_request_1_of_p.g k_ a1 a2 a3) (slices_DeleteFunc_s_api_Lease_api_Lease_at_lease_server_request_1_of_p.f a1 a2 a3) := by
 unfold slices_DeleteFunc_s_api_Lease_api_Lease_at_lease_server_request_1_of_p.g slices_DeleteFunc_s_api_Lease_api_Lease_at_lease_server_request_1_of_p.f
 repeat' (first | with_reducible refine le_loop fun _ => ?_ | with_reducible refine le_bind ?_ fun _ => ?_ | with_reducible refine le_ite ?_ ?_ | with_reducible refine le_lt fun _ => ?_ | with_reducible refine le_elim (fun _ => ?_) (fun _ => ?_) _ | with_reducible apply lease_server_request_1_at_p.le | with_reducible apply slices_IndexFunc_s_api_Lease_api_Lease_at_lease_server_request_1_of_p.le | with_reducible exact le_refl _)
/-! math/bits.Len32 -/
noncomputable def math_bits_Len32.f (a1 : Int) : Option (Int) :=
  ((if decide (65536 ≤ a1) = true then lt (ishr .u32 a1 16) fun y1 => some ((y1, 16)) else some ((a1, 0)))).bind (fun j1 => ((if decide (256 ≤ j1.1) = true then lt (ishr .u32 j1.1 8) fun y2 => lt (IntKind.i64.wrap (j1.2 + 8)) fun y3 => some ((y2, y3)) else some ((j1.1, j1.2)))).bind (fun j2 => (idx [0, 1, 2, 2, 3, 3, 3, 3, 4, 4, 4, 4, 4, 4, 4, 4, 5, 5, 5, 5, 5, 5, 5, 5, 5, 5, 5, 5, 5, 5, 5, 5, 6, 6, 6, 6, 6, 6, 6, 6, 6, 6, 6, 6, 6, 6, 6, 6, 6, 6, 6, 6, 6, 6, 6, 6, 6, 6, 6, 6, 6, 6, 6, 6, 7, 7, 7, 7, 7, 7, 7, 7, 7, 7, 7, 7, 7, 7, 7, 7, 7, 7, 7, 7, 7, 7, 7, 7, 7, 7, 7, 7, 7, 7, 7, 7, 7, 7, 7, 7, 7, 7, 7, 7, 7, 7, 7, 7, 7, 7, 7, 7, 7, 7, 7, 7, 7, 7, 7, 7, 7, 7, 7, 7, 7, 7, 7, 7, 8, 8, 8, 8, 8, 8, 8, 8, 8, 8, 8, 8, 8, 8, 8, 8, 8, 8, 8, 8, 8, 8, 8, 8, 8, 8, 8, 8, 8, 8, 8, 8, 8, 8, 8, 8, 8, 8, 8, 8, 8, 8, 8, 8, 8, 8, 8, 8, 8, 8, 8, 8, 8, 8, 8, 8, 8, 8, 8, 8, 8, 8, 8, 8, 8, 8, 8, 8, 8, 8, 8, 8, 8, 8, 8, 8, 8, 8, 8, 8, 8, 8, 8, 8, 8, 8, 8, 8, 8, 8, 8, 8, 8, 8, 8, 8, 8, 8, 8, 8, 8, 8, 8, 8, 8, 8, 8, 8, 8, 8, 8, 8, 8, 8, 8, 8, 8, 8, 8, 8, 8, 8, 8, 8, 8, 8, 8, 8] (IntKind.u8.wrap j2.1)).bind fun x1 => lt (IntKind.i64.wrap (j2.2 + x1)) fun y4 => some (y4)))
set_option maxRecDepth 100000 in
set_option maxHeartbeats 4000000 in
theorem math_bits_Len32.spc (a1 : Int) (ha1 : InR .u32 a1) (r : Int) (H : math_bits_Len32.f a1 = some r) : Spc Try.prog 76 [.int .u32 a1] [] [] (fun (s : Unit) => .int .i64 r) (fun s => [Ent.pur (InR .i64 r)]) := by
 unfold math_bits_Len32.f at H
 refine Spc.go Try.func76 rfl (by kernel_rfl) rfl rfl all_nil fun F a w h => ?_
 refine Go.seq ?_
 refine Go.reg ?_
 refine ga h (o_assign rfl) rfl fun h => ?_
 refine GoR.done ?_
 refine Go.seq ?_
 obtain ⟨o1, H, G1⟩ := bindE H
 refine g_cut (fun G => ∀ j1 (a : Act) (w : World), o1 = j1 → InR .u32 j1.1 → InR .i64 j1.2 → St Try.f76.ntmps F [(0, .int .u32 j1.1), (2, .int .i64 j1.2)] [] a w → G a w) 1 ?_ fun J1 => ?_
 ·intro j1 a w ho_ g1 g2 h
  rw [ho_] at G1
  have H := G1
  refine Go.seq ?_
  obtain ⟨o2, H, G2⟩ := bindE H
  refine g_cut (fun G => ∀ j2 (a : Act) (w : World), o2 = j2 → InR .u32 j2.1 → InR .i64 j2.2 → St Try.f76.ntmps F [(0, .int .u32 j2.1), (2, .int .i64 j2.2)] [] a w → G a w) 1 ?_ fun J2 => ?_
  ·intro j2 a w ho_ g3 g4 h
   rw [ho_] at G2
   have H := G2
   refine Go.seq ?_
   refine Go.reg ?_
   refine mv h rfl rfl fun h => ?_
   refine mv h rfl rfl fun h => ?_
   refine ga h (o_conv rfl t_q25 t_u5) rfl fun h => ?_
   obtain ⟨x1, ex1, H⟩ := bindE H
   refine ga h (o_ixs rfl rfl (show Bs [0, 1, 2, 2, 3, 3, 3, 3, 4, 4, 4, 4, 4, 4, 4, 4, 5, 5, 5, 5, 5, 5, 5, 5, 5, 5, 5, 5, 5, 5, 5, 5, 6, 6, 6, 6, 6, 6, 6, 6, 6, 6, 6, 6, 6, 6, 6, 6, 6, 6, 6, 6, 6, 6, 6, 6, 6, 6, 6, 6, 6, 6, 6, 6, 7, 7, 7, 7, 7, 7, 7, 7, 7, 7, 7, 7, 7, 7, 7, 7, 7, 7, 7, 7, 7, 7, 7, 7, 7, 7, 7, 7, 7, 7, 7, 7, 7, 7, 7, 7, 7, 7, 7, 7, 7, 7, 7, 7, 7, 7, 7, 7, 7, 7, 7, 7, 7, 7, 7, 7, 7, 7, 7, 7, 7, 7, 7, 7, 8, 8, 8, 8, 8, 8, 8, 8, 8, 8, 8, 8, 8, 8, 8, 8, 8, 8, 8, 8, 8, 8, 8, 8, 8, 8, 8, 8, 8, 8, 8, 8, 8, 8, 8, 8, 8, 8, 8, 8, 8, 8, 8, 8, 8, 8, 8, 8, 8, 8, 8, 8, 8, 8, 8, 8, 8, 8, 8, 8, 8, 8, 8, 8, 8, 8, 8, 8, 8, 8, 8, 8, 8, 8, 8, 8, 8, 8, 8, 8, 8, 8, 8, 8, 8, 8, 8, 8, 8, 8, 8, 8, 8, 8, 8, 8, 8, 8, 8, 8, 8, 8, 8, 8, 8, 8, 8, 8, 8, 8, 8, 8, 8, 8, 8, 8, 8, 8, 8, 8, 8, 8, 8, 8, 8, 8, 8, 8] by decide) ex1 t_u9) rfl fun h => ?_
   refine ga h (o_convw rfl t_q5 t_u3 (Bs.idx (show Bs [0, 1, 2, 2, 3, 3, 3, 3, 4, 4, 4, 4, 4, 4, 4, 4, 5, 5, 5, 5, 5, 5, 5, 5, 5, 5, 5, 5, 5, 5, 5, 5, 6, 6, 6, 6, 6, 6, 6, 6, 6, 6, 6, 6, 6, 6, 6, 6, 6, 6, 6, 6, 6, 6, 6, 6, 6, 6, 6, 6, 6, 6, 6, 6, 7, 7, 7, 7, 7, 7, 7, 7, 7, 7, 7, 7, 7, 7, 7, 7, 7, 7, 7, 7, 7, 7, 7, 7, 7, 7, 7, 7, 7, 7, 7, 7, 7, 7, 7, 7, 7, 7, 7, 7, 7, 7, 7, 7, 7, 7, 7, 7, 7, 7, 7, 7, 7, 7, 7, 7, 7, 7, 7, 7, 7, 7, 7, 7, 8, 8, 8, 8, 8, 8, 8, 8, 8, 8, 8, 8, 8, 8, 8, 8, 8, 8, 8, 8, 8, 8, 8, 8, 8, 8, 8, 8, 8, 8, 8, 8, 8, 8, 8, 8, 8, 8, 8, 8, 8, 8, 8, 8, 8, 8, 8, 8, 8, 8, 8, 8, 8, 8, 8, 8, 8, 8, 8, 8, 8, 8, 8, 8, 8, 8, 8, 8, 8, 8, 8, 8, 8, 8, 8, 8, 8, 8, 8, 8, 8, 8, 8, 8, 8, 8, 8, 8, 8, 8, 8, 8, 8, 8, 8, 8, 8, 8, 8, 8, 8, 8, 8, 8, 8, 8, 8, 8, 8, 8, 8, 8, 8, 8, 8, 8, 8, 8, 8, 8, 8, 8, 8, 8, 8, 8, 8, 8] by decide) ex1) rfl) rfl fun h => ?_
   refine ga h (o_bin rfl rfl rfl) rfl fun h => ?_
   obtain ⟨y4, ey4, H⟩ := ltE H
   refine ga h (o_assign' rfl (congrArg (fun z => Value.int .i64 z) ey4)) rfl fun h => ?_
   refine GoR.done ?_
   rw [← som H]
   exact g_ret (vs := [.int .i64 y4]) h Try.func76 ⟨rfl, trivial⟩ ⟨(), rfl, ((h.mem.pick [] (by decide) rfl).addpur (ey4 ▸ (wrap_in _ _)))⟩
  refine Go.seq ?_
  refine Go.reg ?_
  refine mv h rfl rfl fun h => ?_
  refine ga h (o_bin rfl rfl rfl) rfl fun h => ?_
  refine GoR.done ?_
  by_cases c2 : decide (256 ≤ j1.1) = true
  ·have H := ifT c2 H
   refine g_t h rfl c2 ?_
   refine Go.seq ?_
   refine Go.reg ?_
   refine mv h rfl rfl fun h => ?_
   refine ga h (o_shr rfl rfl (show (0 : Int) ≤ 8 by decide)) rfl fun h => ?_
   obtain ⟨y2, ey2, H⟩ := ltE H
   refine ga h (o_assign' rfl (congrArg (fun z => Value.int .u32 z) ey2)) rfl fun h => ?_
   refine GoR.done ?_
   refine Go.reg ?_
   refine mv h rfl rfl fun h => ?_
   refine ga h (o_bin rfl rfl rfl) rfl fun h => ?_
   obtain ⟨y3, ey3, H⟩ := ltE H
   refine ga h (o_assign' rfl (congrArg (fun z => Value.int .i64 z) ey3)) rfl fun h => ?_
   refine GoR.done ?_
   exact J2 (y2, y3) _ _ (som H).symm (ey2 ▸ (inr_shr g1)) (ey3 ▸ (wrap_in _ _)) (h.wr [])
  ·have H := ifF c2 H
   refine g_f h rfl c2 ?_
   refine Go.skip ?_
   exact J2 (j1.1, j1.2) _ _ (som H).symm g1 g2 (h.wr [])
 refine Go.seq ?_
 refine Go.reg ?_
 refine mv h rfl rfl fun h => ?_
 refine ga h (o_bin rfl rfl rfl) rfl fun h => ?_
 refine GoR.done ?_
 by_cases c1 : decide (65536 ≤ a1) = true
 ·have H := ifT c1 H
  refine g_t h rfl c1 ?_
  refine Go.seq ?_
  refine Go.reg ?_
  refine mv h rfl rfl fun h => ?_
  refine ga h (o_shr rfl rfl (show (0 : Int) ≤ 16 by decide)) rfl fun h => ?_
  obtain ⟨y1, ey1, H⟩ := ltE H
  refine ga h (o_assign' rfl (congrArg (fun z => Value.int .u32 z) ey1)) rfl fun h => ?_
  refine GoR.done ?_
  refine Go.reg ?_
  refine ga h (o_assign rfl) rfl fun h => ?_
  refine GoR.done ?_
  exact J1 (y1, 16) _ _ (som H).symm (ey1 ▸ (inr_shr ha1)) (show InR .i64 16 by decide) (h.wr [])
 ·have H := ifF c1 H
  refine g_f h rfl c1 ?_
  refine Go.skip ?_
  exact J1 (a1, 0) _ _ (som H).symm ha1 (show InR .i64 0 by decide) (h.wr [])
def math_bits_Len32.g (k_ : Nat) (a1 : Int) : Option (Int) :=
  ((if decide (65536 ≤ a1) = true then lt (ishr .u32 a1 16) fun y1 => some ((y1, 16)) else some ((a1, 0)))).bind (fun j1 => ((if decide (256 ≤ j1.1) = true then lt (ishr .u32 j1.1 8) fun y2 => lt (IntKind.i64.wrap (j1.2 + 8)) fun y3 => some ((y2, y3)) else some ((j1.1, j1.2)))).bind (fun j2 => (idx [0, 1, 2, 2, 3, 3, 3, 3, 4, 4, 4, 4, 4, 4, 4, 4, 5, 5, 5, 5, 5, 5, 5, 5, 5, 5, 5, 5, 5, 5, 5, 5, 6, 6, 6, 6, 6, 6, 6, 6, 6, 6, 6, 6, 6, 6, 6, 6, 6, 6, 6, 6, 6, 6, 6, 6, 6, 6, 6, 6, 6, 6, 6, 6, 7, 7, 7, 7, 7, 7, 7, 7, 7, 7, 7, 7, 7, 7, 7, 7, 7, 7, 7, 7, 7, 7, 7, 7, 7, 7, 7, 7, 7, 7, 7, 7, 7, 7, 7, 7, 7, 7, 7, 7, 7, 7, 7, 7, 7, 7, 7, 7, 7, 7, 7, 7, 7, 7, 7, 7, 7, 7, 7, 7, 7, 7, 7, 7, 8, 8, 8, 8, 8, 8, 8, 8, 8, 8, 8, 8, 8, 8, 8, 8, 8, 8, 8, 8, 8, 8, 8, 8, 8, 8, 8, 8, 8, 8, 8, 8, 8, 8, 8, 8, 8, 8, 8, 8, 8, 8, 8, 8, 8, 8, 8, 8, 8, 8, 8, 8, 8, 8, 8, 8, 8, 8, 8, 8, 8, 8, 8, 8, 8, 8, 8, 8, 8, 8, 8, 8, 8, 8, 8, 8, 8, 8, 8, 8, 8, 8, 8, 8, 8, 8, 8, 8, 8, 8, 8, 8, 8, 8, 8, 8, 8, 8, 8, 8, 8, 8, 8, 8, 8, 8, 8, 8, 8, 8, 8, 8, 8, 8, 8, 8, 8, 8, 8, 8, 8, 8, 8, 8, 8, 8, 8, 8] (IntKind.u8.wrap j2.1)).bind fun x1 => lt (IntKind.i64.wrap (j2.2 + x1)) fun y4 => some (y4)))
theorem math_bits_Len32.le (k_ : Nat) (a1 : Int) : Le (math_bits_Len32.g k_ a1) (math_bits_Len32.f a1) := by
 unfold math_bits_Len32.g math_bits_Len32.f
 repeat' (first | with_reducible refine le_loop fun _ => ?_ | with_reducible refine le_bind ?_ fun _ => ?_ | with_reducible refine le_ite ?_ ?_ | with_reducible refine le_lt fun _ => ?_ | with_reducible refine le_elim (fun _ => ?_) (fun _ => ?_) _ | with_reducible exact le_refl _)
end Go.Proofs.Ytmmaojclfggioaa.S
