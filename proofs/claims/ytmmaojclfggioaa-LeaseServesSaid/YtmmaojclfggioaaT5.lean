/- Contracts, printed by a program of this session. -/
import Derived.Test.YtmmaojclfggioaaT4
namespace Go.Proofs.Ytmmaojclfggioaa.S
open Go Go.SL Go.RowKit
set_option linter.unusedVariables false
set_option linter.unusedSimpArgs false
/-! math/bits.Len64 -/
noncomputable def math_bits_Len64.f (a1 : Int) : Option (Int) :=
  ((if decide (4294967296 ≤ a1) = true then lt (ishr .u64 a1 32) fun y1 => some ((y1, 32)) else some ((a1, 0)))).bind (fun j1 => ((if decide (65536 ≤ j1.1) = true then lt (ishr .u64 j1.1 16) fun y2 => lt (IntKind.i64.wrap (j1.2 + 16)) fun y3 => some ((y2, y3)) else some ((j1.1, j1.2)))).bind (fun j2 => ((if decide (256 ≤ j2.1) = true then lt (ishr .u64 j2.1 8) fun y4 => lt (IntKind.i64.wrap (j2.2 + 8)) fun y5 => some ((y4, y5)) else some ((j2.1, j2.2)))).bind (fun j3 => (idx [0, 1, 2, 2, 3, 3, 3, 3, 4, 4, 4, 4, 4, 4, 4, 4, 5, 5, 5, 5, 5, 5, 5, 5, 5, 5, 5, 5, 5, 5, 5, 5, 6, 6, 6, 6, 6, 6, 6, 6, 6, 6, 6, 6, 6, 6, 6, 6, 6, 6, 6, 6, 6, 6, 6, 6, 6, 6, 6, 6, 6, 6, 6, 6, 7, 7, 7, 7, 7, 7, 7, 7, 7, 7, 7, 7, 7, 7, 7, 7, 7, 7, 7, 7, 7, 7, 7, 7, 7, 7, 7, 7, 7, 7, 7, 7, 7, 7, 7, 7, 7, 7, 7, 7, 7, 7, 7, 7, 7, 7, 7, 7, 7, 7, 7, 7, 7, 7, 7, 7, 7, 7, 7, 7, 7, 7, 7, 7, 8, 8, 8, 8, 8, 8, 8, 8, 8, 8, 8, 8, 8, 8, 8, 8, 8, 8, 8, 8, 8, 8, 8, 8, 8, 8, 8, 8, 8, 8, 8, 8, 8, 8, 8, 8, 8, 8, 8, 8, 8, 8, 8, 8, 8, 8, 8, 8, 8, 8, 8, 8, 8, 8, 8, 8, 8, 8, 8, 8, 8, 8, 8, 8, 8, 8, 8, 8, 8, 8, 8, 8, 8, 8, 8, 8, 8, 8, 8, 8, 8, 8, 8, 8, 8, 8, 8, 8, 8, 8, 8, 8, 8, 8, 8, 8, 8, 8, 8, 8, 8, 8, 8, 8, 8, 8, 8, 8, 8, 8, 8, 8, 8, 8, 8, 8, 8, 8, 8, 8, 8, 8, 8, 8, 8, 8, 8, 8] (IntKind.u8.wrap j3.1)).bind fun x1 => lt (IntKind.i64.wrap (j3.2 + x1)) fun y6 => some (y6))))
set_option maxRecDepth 100000 in
set_option maxHeartbeats 4000000 in
theorem math_bits_Len64.spc (a1 : Int) (ha1 : InR .u64 a1) (r : Int) (H : math_bits_Len64.f a1 = some r) : Spc Try.prog 77 [.int .u64 a1] [] [] (fun (s : Unit) => .int .i64 r) (fun s => [Ent.pur (InR .i64 r)]) := by
 unfold math_bits_Len64.f at H
 refine Spc.go Try.func77 rfl (by kernel_rfl) rfl rfl all_nil fun F a w h => ?_
 refine Go.seq ?_
 refine Go.reg ?_
 refine ga h (o_assign rfl) rfl fun h => ?_
 refine GoR.done ?_
 refine Go.seq ?_
 obtain ⟨o1, H, G1⟩ := bindE H
 refine g_cut (fun G => ∀ j1 (a : Act) (w : World), o1 = j1 → InR .u64 j1.1 → InR .i64 j1.2 → St Try.f77.ntmps F [(0, .int .u64 j1.1), (2, .int .i64 j1.2)] [] a w → G a w) 1 ?_ fun J1 => ?_
 ·intro j1 a w ho_ g1 g2 h
  rw [ho_] at G1
  have H := G1
  refine Go.seq ?_
  obtain ⟨o2, H, G2⟩ := bindE H
  refine g_cut (fun G => ∀ j2 (a : Act) (w : World), o2 = j2 → InR .u64 j2.1 → InR .i64 j2.2 → St Try.f77.ntmps F [(0, .int .u64 j2.1), (2, .int .i64 j2.2)] [] a w → G a w) 1 ?_ fun J2 => ?_
  ·intro j2 a w ho_ g3 g4 h
   rw [ho_] at G2
   have H := G2
   refine Go.seq ?_
   obtain ⟨o3, H, G3⟩ := bindE H
   refine g_cut (fun G => ∀ j3 (a : Act) (w : World), o3 = j3 → InR .u64 j3.1 → InR .i64 j3.2 → St Try.f77.ntmps F [(0, .int .u64 j3.1), (2, .int .i64 j3.2)] [] a w → G a w) 1 ?_ fun J3 => ?_
   ·intro j3 a w ho_ g5 g6 h
    rw [ho_] at G3
    have H := G3
    refine Go.seq ?_
    refine Go.reg ?_
    refine mv h rfl rfl fun h => ?_
    refine mv h rfl rfl fun h => ?_
    refine ga h (o_conv rfl t_q70 t_u5) rfl fun h => ?_
    obtain ⟨x1, ex1, H⟩ := bindE H
    refine ga h (o_ixs rfl rfl (show Bs [0, 1, 2, 2, 3, 3, 3, 3, 4, 4, 4, 4, 4, 4, 4, 4, 5, 5, 5, 5, 5, 5, 5, 5, 5, 5, 5, 5, 5, 5, 5, 5, 6, 6, 6, 6, 6, 6, 6, 6, 6, 6, 6, 6, 6, 6, 6, 6, 6, 6, 6, 6, 6, 6, 6, 6, 6, 6, 6, 6, 6, 6, 6, 6, 7, 7, 7, 7, 7, 7, 7, 7, 7, 7, 7, 7, 7, 7, 7, 7, 7, 7, 7, 7, 7, 7, 7, 7, 7, 7, 7, 7, 7, 7, 7, 7, 7, 7, 7, 7, 7, 7, 7, 7, 7, 7, 7, 7, 7, 7, 7, 7, 7, 7, 7, 7, 7, 7, 7, 7, 7, 7, 7, 7, 7, 7, 7, 7, 8, 8, 8, 8, 8, 8, 8, 8, 8, 8, 8, 8, 8, 8, 8, 8, 8, 8, 8, 8, 8, 8, 8, 8, 8, 8, 8, 8, 8, 8, 8, 8, 8, 8, 8, 8, 8, 8, 8, 8, 8, 8, 8, 8, 8, 8, 8, 8, 8, 8, 8, 8, 8, 8, 8, 8, 8, 8, 8, 8, 8, 8, 8, 8, 8, 8, 8, 8, 8, 8, 8, 8, 8, 8, 8, 8, 8, 8, 8, 8, 8, 8, 8, 8, 8, 8, 8, 8, 8, 8, 8, 8, 8, 8, 8, 8, 8, 8, 8, 8, 8, 8, 8, 8, 8, 8, 8, 8, 8, 8, 8, 8, 8, 8, 8, 8, 8, 8, 8, 8, 8, 8, 8, 8, 8, 8, 8, 8] by decide) ex1 t_u9) rfl fun h => ?_
    refine ga h (o_convw rfl t_q5 t_u3 (Bs.idx (show Bs [0, 1, 2, 2, 3, 3, 3, 3, 4, 4, 4, 4, 4, 4, 4, 4, 5, 5, 5, 5, 5, 5, 5, 5, 5, 5, 5, 5, 5, 5, 5, 5, 6, 6, 6, 6, 6, 6, 6, 6, 6, 6, 6, 6, 6, 6, 6, 6, 6, 6, 6, 6, 6, 6, 6, 6, 6, 6, 6, 6, 6, 6, 6, 6, 7, 7, 7, 7, 7, 7, 7, 7, 7, 7, 7, 7, 7, 7, 7, 7, 7, 7, 7, 7, 7, 7, 7, 7, 7, 7, 7, 7, 7, 7, 7, 7, 7, 7, 7, 7, 7, 7, 7, 7, 7, 7, 7, 7, 7, 7, 7, 7, 7, 7, 7, 7, 7, 7, 7, 7, 7, 7, 7, 7, 7, 7, 7, 7, 8, 8, 8, 8, 8, 8, 8, 8, 8, 8, 8, 8, 8, 8, 8, 8, 8, 8, 8, 8, 8, 8, 8, 8, 8, 8, 8, 8, 8, 8, 8, 8, 8, 8, 8, 8, 8, 8, 8, 8, 8, 8, 8, 8, 8, 8, 8, 8, 8, 8, 8, 8, 8, 8, 8, 8, 8, 8, 8, 8, 8, 8, 8, 8, 8, 8, 8, 8, 8, 8, 8, 8, 8, 8, 8, 8, 8, 8, 8, 8, 8, 8, 8, 8, 8, 8, 8, 8, 8, 8, 8, 8, 8, 8, 8, 8, 8, 8, 8, 8, 8, 8, 8, 8, 8, 8, 8, 8, 8, 8, 8, 8, 8, 8, 8, 8, 8, 8, 8, 8, 8, 8, 8, 8, 8, 8, 8, 8] by decide) ex1) rfl) rfl fun h => ?_
    refine ga h (o_bin rfl rfl rfl) rfl fun h => ?_
    obtain ⟨y6, ey6, H⟩ := ltE H
    refine ga h (o_assign' rfl (congrArg (fun z => Value.int .i64 z) ey6)) rfl fun h => ?_
    refine GoR.done ?_
    rw [← som H]
    exact g_ret (vs := [.int .i64 y6]) h Try.func77 ⟨rfl, trivial⟩ ⟨(), rfl, ((h.mem.pick [] (by decide) rfl).addpur (ey6 ▸ (wrap_in _ _)))⟩
   refine Go.seq ?_
   refine Go.reg ?_
   refine mv h rfl rfl fun h => ?_
   refine ga h (o_bin rfl rfl rfl) rfl fun h => ?_
   refine GoR.done ?_
   by_cases c3 : decide (256 ≤ j2.1) = true
   ·have H := ifT c3 H
    refine g_t h rfl c3 ?_
    refine Go.seq ?_
    refine Go.reg ?_
    refine mv h rfl rfl fun h => ?_
    refine ga h (o_shr rfl rfl (show (0 : Int) ≤ 8 by decide)) rfl fun h => ?_
    obtain ⟨y4, ey4, H⟩ := ltE H
    refine ga h (o_assign' rfl (congrArg (fun z => Value.int .u64 z) ey4)) rfl fun h => ?_
    refine GoR.done ?_
    refine Go.reg ?_
    refine mv h rfl rfl fun h => ?_
    refine ga h (o_bin rfl rfl rfl) rfl fun h => ?_
    obtain ⟨y5, ey5, H⟩ := ltE H
    refine ga h (o_assign' rfl (congrArg (fun z => Value.int .i64 z) ey5)) rfl fun h => ?_
    refine GoR.done ?_
    exact J3 (y4, y5) _ _ (som H).symm (ey4 ▸ (inr_shr g3)) (ey5 ▸ (wrap_in _ _)) (h.wr [])
   ·have H := ifF c3 H
    refine g_f h rfl c3 ?_
    refine Go.skip ?_
    exact J3 (j2.1, j2.2) _ _ (som H).symm g3 g4 (h.wr [])
  refine Go.seq ?_
  refine Go.reg ?_
  refine mv h rfl rfl fun h => ?_
  refine ga h (o_bin rfl rfl rfl) rfl fun h => ?_
  refine GoR.done ?_
  by_cases c2 : decide (65536 ≤ j1.1) = true
  ·have H := ifT c2 H
   refine g_t h rfl c2 ?_
   refine Go.seq ?_
   refine Go.reg ?_
   refine mv h rfl rfl fun h => ?_
   refine ga h (o_shr rfl rfl (show (0 : Int) ≤ 16 by decide)) rfl fun h => ?_
   obtain ⟨y2, ey2, H⟩ := ltE H
   refine ga h (o_assign' rfl (congrArg (fun z => Value.int .u64 z) ey2)) rfl fun h => ?_
   refine GoR.done ?_
   refine Go.reg ?_
   refine mv h rfl rfl fun h => ?_
   refine ga h (o_bin rfl rfl rfl) rfl fun h => ?_
   obtain ⟨y3, ey3, H⟩ := ltE H
   refine ga h (o_assign' rfl (congrArg (fun z => Value.int .i64 z) ey3)) rfl fun h => ?_
   refine GoR.done ?_
   exact J2 (y2, y3) _ _ (som H).symm (ey2 ▸ (inr_shr g1)) (ey3 ▸ (wrap_in _ _)) (h.wr [])
  ·have H := ifF c2 H
   refine g_f h rfl c2 ?_
   refine Go.skip ?_
   exact J2 (j1.1, j1.2) _ _ (som H).symm g1 g2 (h.wr [])
 refine Go.seq ?_
 refine Go.reg ?_
 refine mv h rfl rfl fun h => ?_
 refine ga h (o_bin rfl rfl rfl) rfl fun h => ?_
 refine GoR.done ?_
 by_cases c1 : decide (4294967296 ≤ a1) = true
 ·have H := ifT c1 H
  refine g_t h rfl c1 ?_
  refine Go.seq ?_
  refine Go.reg ?_
  refine mv h rfl rfl fun h => ?_
  refine ga h (o_shr rfl rfl (show (0 : Int) ≤ 32 by decide)) rfl fun h => ?_
  obtain ⟨y1, ey1, H⟩ := ltE H
  refine ga h (o_assign' rfl (congrArg (fun z => Value.int .u64 z) ey1)) rfl fun h => ?_
  refine GoR.done ?_
  refine Go.reg ?_
  refine ga h (o_assign rfl) rfl fun h => ?_
  refine GoR.done ?_
  exact J1 (y1, 32) _ _ (som H).symm (ey1 ▸ (inr_shr ha1)) (show InR .i64 32 by decide) (h.wr [])
 ·have H := ifF c1 H
  refine g_f h rfl c1 ?_
  refine Go.skip ?_
  exact J1 (a1, 0) _ _ (som H).symm ha1 (show InR .i64 0 by decide) (h.wr [])
def math_bits_Len64.g (k_ : Nat) (a1 : Int) : Option (Int) :=
  ((if decide (4294967296 ≤ a1) = true then lt (ishr .u64 a1 32) fun y1 => some ((y1, 32)) else some ((a1, 0)))).bind (fun j1 => ((if decide (65536 ≤ j1.1) = true then lt (ishr .u64 j1.1 16) fun y2 => lt (IntKind.i64.wrap (j1.2 + 16)) fun y3 => some ((y2, y3)) else some ((j1.1, j1.2)))).bind (fun j2 => ((if decide (256 ≤ j2.1) = true then lt (ishr .u64 j2.1 8) fun y4 => lt (IntKind.i64.wrap (j2.2 + 8)) fun y5 => some ((y4, y5)) else some ((j2.1, j2.2)))).bind (fun j3 => (idx [0, 1, 2, 2, 3, 3, 3, 3, 4, 4, 4, 4, 4, 4, 4, 4, 5, 5, 5, 5, 5, 5, 5, 5, 5, 5, 5, 5, 5, 5, 5, 5, 6, 6, 6, 6, 6, 6, 6, 6, 6, 6, 6, 6, 6, 6, 6, 6, 6, 6, 6, 6, 6, 6, 6, 6, 6, 6, 6, 6, 6, 6, 6, 6, 7, 7, 7, 7, 7, 7, 7, 7, 7, 7, 7, 7, 7, 7, 7, 7, 7, 7, 7, 7, 7, 7, 7, 7, 7, 7, 7, 7, 7, 7, 7, 7, 7, 7, 7, 7, 7, 7, 7, 7, 7, 7, 7, 7, 7, 7, 7, 7, 7, 7, 7, 7, 7, 7, 7, 7, 7, 7, 7, 7, 7, 7, 7, 7, 8, 8, 8, 8, 8, 8, 8, 8, 8, 8, 8, 8, 8, 8, 8, 8, 8, 8, 8, 8, 8, 8, 8, 8, 8, 8, 8, 8, 8, 8, 8, 8, 8, 8, 8, 8, 8, 8, 8, 8, 8, 8, 8, 8, 8, 8, 8, 8, 8, 8, 8, 8, 8, 8, 8, 8, 8, 8, 8, 8, 8, 8, 8, 8, 8, 8, 8, 8, 8, 8, 8, 8, 8, 8, 8, 8, 8, 8, 8, 8, 8, 8, 8, 8, 8, 8, 8, 8, 8, 8, 8, 8, 8, 8, 8, 8, 8, 8, 8, 8, 8, 8, 8, 8, 8, 8, 8, 8, 8, 8, 8, 8, 8, 8, 8, 8, 8, 8, 8, 8, 8, 8, 8, 8, 8, 8, 8, 8] (IntKind.u8.wrap j3.1)).bind fun x1 => lt (IntKind.i64.wrap (j3.2 + x1)) fun y6 => some (y6))))
theorem math_bits_Len64.le (k_ : Nat) (a1 : Int) : Le (math_bits_Len64.g k_ a1) (math_bits_Len64.f a1) := by
 unfold math_bits_Len64.g math_bits_Len64.f
 repeat' (first | with_reducible refine le_loop fun _ => ?_ | with_reducible refine le_bind ?_ fun _ => ?_ | with_reducible refine le_ite ?_ ?_ | with_reducible refine le_lt fun _ => ?_ | with_reducible refine le_elim (fun _ => ?_) (fun _ => ?_) _ | with_reducible exact le_refl _)
/-! math/bits.Len -/
noncomputable def math_bits_Len.f (a1 : Int) : Option (Int) :=
  (math_bits_Len64.f a1).bind fun r1 => some (r1)
set_option maxRecDepth 100000 in
set_option maxHeartbeats 4000000 in
theorem math_bits_Len.spc (a1 : Int) (ha1 : InR .u64 a1) (r : Int) (H : math_bits_Len.f a1 = some r) : Spc Try.prog 65 [.int .u64 a1] [] [] (fun (s : Unit) => .int .i64 r) (fun s => [Ent.pur (InR .i64 r)]) := by
 unfold math_bits_Len.f at H
 refine Spc.go Try.func65 rfl (by kernel_rfl) rfl rfl all_nil fun F a w h => ?_
 refine Go.seq ?_
 refine Go.reg ?_
 refine ga h (o_assign rfl) rfl fun h => ?_
 refine GoR.done ?_
 refine Go.seq ?_
 refine g_f h rfl Bool.false_ne_true ?_
 refine Go.skip ?_
 refine Go.seq ?_
 refine Go.reg ?_
 refine mv h rfl rfl fun h => ?_
 obtain ⟨r1, er1, H⟩ := bindE H
 refine ga h (o_call (math_bits_Len64.spc a1 ha1 r1 er1) rfl [] [] (by decide) rfl rfl) rfl fun h => ?_
 have g1 := h.mem.pur 0 rfl
 refine ga h (o_assign rfl) rfl fun h => ?_
 refine GoR.done ?_
 rw [← som H]
 exact g_ret (vs := [.int .i64 r1]) h Try.func65 ⟨rfl, trivial⟩ ⟨(), rfl, ((h.mem.pick [] (by decide) rfl).addpur g1)⟩
def math_bits_Len.g (k_ : Nat) (a1 : Int) : Option (Int) :=
  (math_bits_Len64.g k_ a1).bind fun r1 => some (r1)
theorem math_bits_Len.le (k_ : Nat) (a1 : Int) : Le (math_bits_Len.g k_ a1) (math_bits_Len.f a1) := by
 unfold math_bits_Len.g math_bits_Len.f
 repeat' (first | with_reducible refine le_loop fun _ => ?_ | with_reducible refine le_bind ?_ fun _ => ?_ | with_reducible refine le_ite ?_ ?_ | with_reducible refine le_lt fun _ => ?_ | with_reducible refine le_elim (fun _ => ?_) (fun _ => ?_) _ | with_reducible apply math_bits_Len64.le | with_reducible exact le_refl _)
/-! slices.insertionSortCmpFunc[drawbridge/api.Lease] -/
noncomputable def slices_insertionSortCmpFunc_api_Lease_at_lease_server_request_2.f (a1 : List TLease) (a2 : Int) (a3 : Int) : Option ((List TLease)) :=
  lt (IntKind.i64.wrap (a2 + 1)) fun y1 => (loop (fun s1 => (if decide (s1.2 < a3) = true then (loop (fun s2 => ((if decide (a2 < s2.2) = true then (idx s2.1 s2.2).bind fun x1 => (idx s2.1 (IntKind.i64.wrap (s2.2 - 1))).bind fun x2 => (lease_server_request_2.f x1 x2).bind fun r1 => some (decide (r1 < 0)) else some (false))).bind (fun j1 => (if j1 = true then (idx s2.1 (IntKind.i64.wrap (s2.2 - 1))).bind fun x3 => (idx s2.1 s2.2).bind fun x4 => (idx s2.1 s2.2).bind fun x5 => (idx (s2.1.set s2.2.toNat x3) (IntKind.i64.wrap (s2.2 - 1))).bind fun x6 => lt ((s2.1.set s2.2.toNat x3).set (IntKind.i64.wrap (s2.2 - 1)).toNat x4) fun y2 => lt (IntKind.i64.wrap (s2.2 - 1)) fun y3 => some (.inl (y2, y3)) else some (.inr (s2.1))))) (s1.1, s1.2)).bind (fun j2 => lt (IntKind.i64.wrap (s1.2 + 1)) fun y4 => some (.inl (j2, y4))) else some (.inr (s1.1)))) (a1, y1)).bind (fun z_ => some (z_))
set_option maxRecDepth 100000 in
set_option maxHeartbeats 4000000 in
theorem slices_insertionSortCmpFunc_api_Lease_at_lease_server_request_2.spc (v1 : Value) (a1 : List TLease) (a2 : Int) (ha2 : InR .i64 a2) (a3 : Int) (ha3 : InR .i64 a3) (r : (List TLease)) (H : slices_insertionSortCmpFunc_api_Lease_at_lease_server_request_2.f a1 a2 a3 = some r) : Spc Try.prog 68 [v1, .int .i64 a2, .int .i64 a3, .func (.func 53) #[] #[]] [] [Val (Kd.osl KLease) v1 a1] (fun (s : Unit) => .tuple #[]) (fun s => [Val (Kd.osl KLease) v1 r]) := by
 unfold slices_insertionSortCmpFunc_api_Lease_at_lease_server_request_2.f at H
 refine Spc.go Try.func68 rfl (by kernel_rfl) rfl rfl all_nil fun F a w h => ?_
 refine Go.seq ?_
 refine Go.reg ?_
 refine mv h rfl rfl fun h => ?_
 refine ga h (o_bin rfl rfl rfl) rfl fun h => ?_
 obtain ⟨y1, ey1, H⟩ := ltE H
 refine ga h (o_assign' rfl (congrArg (fun z => Value.int .i64 z) ey1)) rfl fun h => ?_
 refine GoR.done ?_
 refine Go.block ?_
 obtain ⟨o1, hl, G1⟩ := bindE H
 refine g_loop (fun s1 G => ∀  (a : Act) (w : World), InR .i64 s1.2 → St Try.f68.ntmps F [(0, v1), (1, .int .i64 a2), (2, .int .i64 a3), (3, .func (.func 53) #[] #[]), (8, .int .i64 s1.2)] [Val (Kd.osl KLease) v1 s1.1] a w → G a w) hl (fun s1 p1 H i1 => ?_) fun I_ => ?_
 ·intro  a w g1 h
  refine Go.seq ?_
  refine Go.seq ?_
  refine Go.reg ?_
  refine mv h rfl rfl fun h => ?_
  refine mv h rfl rfl fun h => ?_
  refine ga h (o_bin rfl rfl rfl) rfl fun h => ?_
  refine GoR.done ?_
  by_cases c1 : decide (s1.2 < a3) = true
  ·have H := ifT c1 H
   refine g_t h rfl c1 ?_
   refine Go.skip ?_
   refine Go.seq ?_
   refine Go.block ?_
   refine Go.seq ?_
   refine Go.reg ?_
   refine mv h rfl rfl fun h => ?_
   refine ga h (o_assign rfl) rfl fun h => ?_
   refine GoR.done ?_
   refine Go.block ?_
   obtain ⟨o2, hl, G2⟩ := bindE H
   refine g_cut (fun G => ∀ j2 (a : Act) (w : World), o2 = j2 → St Try.f68.ntmps F [(0, v1), (1, .int .i64 a2), (2, .int .i64 a3), (3, .func (.func 53) #[] #[]), (8, .int .i64 s1.2)] [Val (Kd.osl KLease) v1 j2] a w → G a w) 3 ?_ fun J2 => ?_
   ·intro j2 a w ho_ h
    rw [ho_] at G2
    have H := G2
    refine Go.reg ?_
    refine mv h rfl rfl fun h => ?_
    refine ga h (o_bin rfl rfl rfl) rfl fun h => ?_
    obtain ⟨y4, ey4, H⟩ := ltE H
    refine ga h (o_assign' rfl (congrArg (fun z => Value.int .i64 z) ey4)) rfl fun h => ?_
    refine GoR.done ?_
    have e_ := som H; subst e_
    exact Go.inLoop (nx_in i1 _ _ (ey4 ▸ (wrap_in _ _)) (h.wr [0]))
   refine g_loop (fun s2 G => ∀  (a : Act) (w : World), InR .i64 s2.2 → St Try.f68.ntmps F [(0, v1), (1, .int .i64 a2), (2, .int .i64 a3), (3, .func (.func 53) #[] #[]), (8, .int .i64 s1.2), (9, .int .i64 s2.2)] [Val (Kd.osl KLease) v1 s2.1] a w → G a w) hl (fun s2 p2 H i2 => ?_) fun I_ => ?_
   ·intro  a w g2 h
    refine Go.seq ?_
    refine Go.seq ?_
    replace h := h.wq [(0, v1), (1, .int .i64 a2), (2, .int .i64 a3), (3, .func (.func 53) #[] #[]), (8, .int .i64 s1.2), (9, .int .i64 s2.2)] [Val (Kd.osl KLease) v1 s2.1] [0]
    obtain ⟨o3, H, G3⟩ := bindE H
    refine g_cut (fun G => ∀ j1 (a : Act) (w : World), o3 = j1 → St Try.f68.ntmps F [(0, v1), (1, .int .i64 a2), (2, .int .i64 a3), (3, .func (.func 53) #[] #[]), (8, .int .i64 s1.2), (9, .int .i64 s2.2), (34, .bool j1)] [Val (Kd.osl KLease) v1 s2.1] a w → G a w) 1 ?_ fun J1 => ?_
    ·intro j1 a w ho_ h
     rw [ho_] at G3
     have H := G3
     by_cases c3 : j1 = true
     ·have H := ifT c3 H
      refine g_t h rfl c3 ?_
      refine Go.skip ?_
      refine Go.seq ?_
      refine Go.block ?_
      replace h := h.wq [(0, v1), (1, .int .i64 a2), (2, .int .i64 a3), (3, .func (.func 53) #[] #[]), (8, .int .i64 s1.2), (9, .int .i64 s2.2)] [Val (Kd.osl KLease) v1 s2.1] [0]
      obtain ⟨x3, ex3, H⟩ := bindE H
      obtain ⟨x4, ex4, H⟩ := bindE H
      obtain ⟨x5, ex5, H⟩ := bindE H
      refine Go.draw (E := [(0, v1), (1, .int .i64 a2), (2, .int .i64 a3), (3, .func (.func 53) #[] #[]), (8, .int .i64 s1.2), (9, .int .i64 s2.2)]) [] (L := []) h rfl rfl 16 [cn (v1), cn (.int .i64 s2.2), cn (v1), cn (.int .i64 s2.2), ce [3] (.int .i64 (IntKind.i64.wrap (s2.2 - 1))), cn (v1), cn (.int .i64 s2.2), ce [6] (.int .i64 (IntKind.i64.wrap (s2.2 - 1))), cm [5, 6, 7] [16] [] (elemP v1 ((IntKind.i64.wrap (s2.2 - 1)).toNat * Kd.n KLease)) fun u => [], cw [5, 6, 7, 8] [16] [] fun u => [Val KLease u x3], cn (v1), cn (.int .i64 s2.2), cm [10, 11] [16] [] (elemP v1 (s2.2.toNat * Kd.n KLease)) fun u => [], cw [10, 11, 12] [16] [] fun u => [Val KLease u x4], cm [0, 1] [16] [] (elemP v1 (s2.2.toNat * Kd.n KLease)) fun u => [], cm [0, 1, 5, 6, 7, 8, 9, 14] [16, 9] [16] (undef) fun u => [Val (Kd.osl KLease) v1 (s2.1.set s2.2.toNat x3)], cm [] [] [] undef fun u => [Val (Kd.osl KLease) v1 s2.1]] rfl t_mxo (by kernel_rfl) (by rfl) ?_ fun f2 _ _ h => ?_
      ·exact ox rfl (o_move rfl) (ox rfl (o_move rfl) (ox rfl (o_move rfl) (ox rfl (o_move rfl) (ox rfl (o_bin rfl rfl rfl) (ox rfl (o_move rfl) (ox rfl (o_move rfl) (ox rfl (o_bin rfl rfl rfl) (ox rfl (o_ix rfl rfl (rd_own 0 rfl) ex3 t_v26) (oy rfl (o_lev rfl (rd_own 0 rfl) ex3 t_y42 (by decide)) (ox rfl (o_move rfl) (ox rfl (o_move rfl) (ox rfl (o_ix rfl rfl (rd_own 0 rfl) ex4 t_v26) (oy rfl (o_lev rfl (rd_own 0 rfl) ex4 t_y42 (by decide)) (ox rfl (o_ix rfl rfl (rd_own 0 rfl) ex5 t_v26) (ox rfl (o_ste 0 rfl rfl rfl (pv_at PLease 1 rfl) ex5 t_w42 (by decide)) (obs_nil))))))))))))))))
      replace h := h.wk (E' := [(0, v1), (1, .int .i64 a2), (2, .int .i64 a3), (3, .func (.func 53) #[] #[]), (8, .int .i64 s1.2), (9, .int .i64 s2.2), (39, v1), (41, .int .i64 (IntKind.i64.wrap (s2.2 - 1))), (50, (f2 13))]) (L' := [Val KLease (f2 9) x3, Val KLease (f2 13) x4, Val (Kd.osl KLease) v1 (s2.1.set s2.2.toNat x3)]) (by kernel_rfl) [0, 1, 2] (by decide) (by kernel_rfl)
      obtain ⟨x6, ex6, H⟩ := bindE H
      refine ga h (o_ix rfl rfl (rd_own 2 rfl) ex6 t_v26) rfl fun h => ?_
      obtain ⟨y2, ey2, H⟩ := ltE H
      refine gs0 h (o_ste 2 rfl rfl rfl (pv_at PLease 1 rfl) ex6 t_w42 (by decide)) fun _ _ _ h => ?_
      rw [ey2] at h
      refine GoR.done ?_
      refine Go.inBlock ?_
      refine Go.reg ?_
      refine mv h rfl rfl fun h => ?_
      refine ga h (o_bin rfl rfl rfl) rfl fun h => ?_
      obtain ⟨y3, ey3, H⟩ := ltE H
      refine ga h (o_assign' rfl (congrArg (fun z => Value.int .i64 z) ey3)) rfl fun h => ?_
      refine GoR.done ?_
      have e_ := som H; subst e_
      exact Go.inLoop (nx_in i2 _ _ (ey3 ▸ (wrap_in _ _)) (h.wr [2]))
     ·have H := ifF c3 H
      refine g_f h rfl c3 ?_
      refine Go.exit rfl ?_
      refine Go.inBlock ?_
      have e_ := som H; subst e_
      exact J2 s2.1 _ _ (nx_out i2).symm (h.wr [0])
    by_cases c2 : decide (a2 < s2.2) = true
    ·have H := ifT c2 H
     obtain ⟨x1, ex1, H⟩ := bindE H
     obtain ⟨x2, ex2, H⟩ := bindE H
     refine Go.draw (E := [(0, v1), (1, .int .i64 a2), (2, .int .i64 a3), (3, .func (.func 53) #[] #[]), (8, .int .i64 s1.2), (9, .int .i64 s2.2)]) [] (L := [Val (Kd.osl KLease) v1 s2.1]) h rfl rfl 14 [cn (.int .i64 s2.2), cn (.int .i64 a2), ce [0, 1] (.bool (decide (a2 < s2.2))), ce [0, 1, 2] (.bool (decide (a2 < s2.2))), ce [0, 1, 2, 3] (.func (.func 53) #[] #[]), ce [0, 1, 2, 3] (v1), ce [0, 1, 2, 3] (.int .i64 s2.2), ce [0, 1, 2, 3, 5, 6] (elemP v1 (s2.2.toNat * Kd.n KLease)), cw [0, 1, 2, 3, 5, 6, 7] [] [] fun u => [Val KLease u x1], ce [0, 1, 2, 3] (v1), ce [0, 1, 2, 3] (.int .i64 s2.2), ce [0, 1, 2, 3, 10] (.int .i64 (IntKind.i64.wrap (s2.2 - 1))), ce [0, 1, 2, 3, 9, 10, 11] (elemP v1 ((IntKind.i64.wrap (s2.2 - 1)).toNat * Kd.n KLease)), cw [0, 1, 2, 3, 9, 10, 11, 12] [] [] fun u => [Val KLease u x2]] rfl t_mxo (by kernel_rfl) (by rfl) ?_ fun f1 _ _ h => ?_
     ·exact ox rfl (o_move rfl) (ox rfl (o_move rfl) (ox rfl (o_bin rfl rfl rfl) (ox rfl (o_move rfl) (og rfl rfl (fun _ => rfl) c2 (o_move rfl) (og rfl rfl (fun _ => rfl) c2 (o_move rfl) (og rfl rfl (fun _ => rfl) c2 (o_move rfl) (og rfl rfl (fun _ => rfl) c2 (o_ix rfl rfl (rd_own 0 rfl) ex1 t_v26) (obs_cons (ob_own rfl (gok_some rfl rfl rfl (fun _ => rfl) c2) rfl fun f1 => (o_lev rfl (rd_own 0 rfl) ex1 t_y42 (by decide))) (og rfl rfl (fun _ => rfl) c2 (o_move rfl) (og rfl rfl (fun _ => rfl) c2 (o_move rfl) (og rfl rfl (fun _ => rfl) c2 (o_bin rfl rfl rfl) (og rfl rfl (fun _ => rfl) c2 (o_ix rfl rfl (rd_own 0 rfl) ex2 t_v26) (obs_cons (ob_own rfl (gok_some rfl rfl rfl (fun _ => rfl) c2) rfl fun f1 => (o_lev rfl (rd_own 0 rfl) ex2 t_y42 (by decide))) (obs_nil))))))))))))))
     replace h := h.wk (E' := [(0, v1), (1, .int .i64 a2), (2, .int .i64 a3), (3, .func (.func 53) #[] #[]), (8, .int .i64 s1.2), (9, .int .i64 s2.2), (21, .bool (decide (a2 < s2.2))), (22, .func (.func 53) #[] #[]), (26, (f1 8)), (31, (f1 13))]) (L' := [Val KLease (f1 8) x1, Val KLease (f1 13) x2, Val (Kd.osl KLease) v1 s2.1]) (by kernel_rfl) [0, 1, 2] (by decide) (by kernel_rfl)
     obtain ⟨r1, er1, H⟩ := bindE H
     refine gg h rfl rfl c2 (o_callv (vs := [(f1 8), (f1 13)]) (caps := []) rfl rfl (lease_server_request_2.spc (f1 8) x1 (f1 13) x2 r1 er1) [0, 1] [] (by decide) rfl rfl) rfl fun _ _ _ h => ?_
     have g3 := h.mem.pur 0 rfl
     refine gg h rfl rfl c2 (o_bin rfl rfl rfl) rfl fun _ _ _ h => ?_
     refine ga h (o_pickT rfl rfl c2) rfl fun h => ?_
     refine GoR.done ?_
     exact J1 (decide (r1 < 0)) _ _ (som H).symm (h.wr [3])
    ·have H := ifF c2 H
     refine Go.draw (E := [(0, v1), (1, .int .i64 a2), (2, .int .i64 a3), (3, .func (.func 53) #[] #[]), (8, .int .i64 s1.2), (9, .int .i64 s2.2)]) [] (L := [Val (Kd.osl KLease) v1 s2.1]) h rfl rfl 14 [cn (.int .i64 s2.2), cn (.int .i64 a2), ce [0, 1] (.bool (decide (a2 < s2.2))), ce [0, 1, 2] (.bool (decide (a2 < s2.2))), ⟨[3], [], [], true, .con undef, none, fun u => [], []⟩, ⟨[3], [], [], true, .con undef, none, fun u => [], []⟩, ⟨[3], [], [], true, .con undef, none, fun u => [], []⟩, ⟨[3], [], [], true, .con undef, none, fun u => [], []⟩, ⟨[3], [], [], true, .con undef, none, fun u => [], []⟩, ⟨[3], [], [], true, .con undef, none, fun u => [], []⟩, ⟨[3], [], [], true, .con undef, none, fun u => [], []⟩, ⟨[3], [], [], true, .con undef, none, fun u => [], []⟩, ⟨[3], [], [], true, .con undef, none, fun u => [], []⟩, ⟨[3], [], [], true, .con undef, none, fun u => [], []⟩] rfl t_mxo (by kernel_rfl) (by rfl) ?_ fun f1 _ _ h => ?_
     ·exact ox rfl (o_move rfl) (ox rfl (o_move rfl) (ox rfl (o_bin rfl rfl rfl) (ox rfl (o_move rfl) (oj rfl rfl (fun _ => rfl) (nb_f c2) (oj rfl rfl (fun _ => rfl) (nb_f c2) (oj rfl rfl (fun _ => rfl) (nb_f c2) (oj rfl rfl (fun _ => rfl) (nb_f c2) (oj rfl rfl (fun _ => rfl) (nb_f c2) (oj rfl rfl (fun _ => rfl) (nb_f c2) (oj rfl rfl (fun _ => rfl) (nb_f c2) (oj rfl rfl (fun _ => rfl) (nb_f c2) (oj rfl rfl (fun _ => rfl) (nb_f c2) (oj rfl rfl (fun _ => rfl) (nb_f c2) (obs_nil))))))))))))))
     replace h := h.wk (E' := [(0, v1), (1, .int .i64 a2), (2, .int .i64 a3), (3, .func (.func 53) #[] #[]), (8, .int .i64 s1.2), (9, .int .i64 s2.2), (21, .bool (decide (a2 < s2.2)))]) (L' := [Val (Kd.osl KLease) v1 s2.1]) (by kernel_rfl) [0] (by decide) (by kernel_rfl)
     refine gk h rfl rfl (nb_f c2) rfl fun _ h => ?_
     refine gk h rfl rfl (nb_f c2) rfl fun _ h => ?_
     refine ga h (o_pickF rfl rfl c2) rfl fun h => ?_
     refine GoR.done ?_
     exact J1 false _ _ (som H).symm (h.wr [0])
   ·exact I_ _ _ g1 (h.wr [0])
  ·have H := ifF c1 H
   refine g_f h rfl c1 ?_
   refine Go.exit rfl ?_
   have e_ := som H; subst e_
   rw [← nx_out i1] at G1
   have H := G1
   rw [← som H]
   exact g_fin (vs := []) h Try.func68 trivial ⟨(), rfl, (h.mem.pick [0] (by decide) rfl)⟩
 ·exact I_ _ _ (ey1 ▸ (wrap_in _ _)) (h.wr [0])
def slices_insertionSortCmpFunc_api_Lease_at_lease_server_request_2.g (k_ : Nat) (a1 : List TLease) (a2 : Int) (a3 : Int) : Option ((List TLease)) :=
  lt (IntKind.i64.wrap (a2 + 1)) fun y1 => (loopK k_ (fun s1 => (if decide (s1.2 < a3) = true then (loopK k_ (fun s2 => ((if decide (a2 < s2.2) = true then (idx s2.1 s2.2).bind fun x1 => (idx s2.1 (IntKind.i64.wrap (s2.2 - 1))).bind fun x2 => (lease_server_request_2.g k_ x1 x2).bind fun r1 => some (decide (r1 < 0)) else some (false))).bind (fun j1 => (if j1 = true then (idx s2.1 (IntKind.i64.wrap (s2.2 - 1))).bind fun x3 => (idx s2.1 s2.2).bind fun x4 => (idx s2.1 s2.2).bind fun x5 => (idx (s2.1.set s2.2.toNat x3) (IntKind.i64.wrap (s2.2 - 1))).bind fun x6 => lt ((s2.1.set s2.2.toNat x3).set (IntKind.i64.wrap (s2.2 - 1)).toNat x4) fun y2 => lt (IntKind.i64.wrap (s2.2 - 1)) fun y3 => some (.inl (y2, y3)) else some (.inr (s2.1))))) (s1.1, s1.2)).bind (fun j2 => lt (IntKind.i64.wrap (s1.2 + 1)) fun y4 => some (.inl (j2, y4))) else some (.inr (s1.1)))) (a1, y1)).bind (fun z_ => some (z_))
theorem slices_insertionSortCmpFunc_api_Lease_at_lease_server_request_2.le (k_ : Nat) (a1 : List TLease) (a2 : Int) (a3 : Int) : Le (slices_insertionSortCmpFunc_api_Lease_at_lease_server_request_2.g k_ a1 a2 a3) (slices_insertionSortCmpFunc_api_Lease_at_lease_server_request_2.f a1 a2 a3) := by
 unfold slices_insertionSortCmpFunc_api_Lease_at_lease_server_request_2.g slices_insertionSortCmpFunc_api_Lease_at_lease_server_request_2.f
 repeat' (first | with_reducible refine le_loop fun _ => ?_ | with_reducible refine le_bind ?_ fun _ => ?_ | with_reducible refine le_ite ?_ ?_ | with_reducible refine le_lt fun _ => ?_ | with_reducible refine le_elim (fun _ => ?_) (fun _ => ?_) _ | with_reducible apply lease_server_request_2.le | with_reducible exact le_refl _)
/-! slices.pdqsortCmpFunc[drawbridge/api.Lease] -/
noncomputable def slices_pdqsortCmpFunc_api_Lease_at_lease_server_request_2.f (a1 : List TLease) (a2 : Int) (a3 : Int) (a4 : Int) : Option ((List TLease)) :=
  (loop (fun s1 => (lt (IntKind.i64.wrap (s1.2.1 - s1.1)) fun y1 => (if decide (y1 ≤ 12) = true then (slices_insertionSortCmpFunc_api_Lease_at_lease_server_request_2.f a1 s1.1 s1.2.1).bind fun r1 => some (r1) else none)).bind (fun z_ => some (.inr (z_)))) (a2, a3, a4, true, true)).bind (fun z_ => some (z_))
set_option maxRecDepth 100000 in
set_option maxHeartbeats 4000000 in
theorem slices_pdqsortCmpFunc_api_Lease_at_lease_server_request_2.spc (v1 : Value) (a1 : List TLease) (a2 : Int) (ha2 : InR .i64 a2) (a3 : Int) (ha3 : InR .i64 a3) (a4 : Int) (ha4 : InR .i64 a4) (r : (List TLease)) (H : slices_pdqsortCmpFunc_api_Lease_at_lease_server_request_2.f a1 a2 a3 a4 = some r) : Spc Try.prog 64 [v1, .int .i64 a2, .int .i64 a3, .int .i64 a4, .func (.func 53) #[] #[]] [] [Val (Kd.osl KLease) v1 a1] (fun (s : Unit) => .tuple #[]) (fun s => [Val (Kd.osl KLease) v1 r]) := by
 unfold slices_pdqsortCmpFunc_api_Lease_at_lease_server_request_2.f at H
 refine Spc.go Try.func64 rfl (by kernel_rfl) rfl rfl all_nil fun F a w h => ?_
 refine Go.seq ?_
 refine Go.reg ?_
 refine ga h (o_assign rfl) rfl fun h => ?_
 refine GoR.done ?_
 refine Go.seq ?_
 refine Go.reg ?_
 refine ga h (o_assign rfl) rfl fun h => ?_
 refine GoR.done ?_
 refine Go.block ?_
 obtain ⟨o1, hl, G1⟩ := bindE H
 refine g_loop (fun s1 G => ∀  (a : Act) (w : World), InR .i64 s1.1 → InR .i64 s1.2.1 → InR .i64 s1.2.2.1 → St Try.f64.ntmps F [(0, v1), (1, .int .i64 s1.1), (2, .int .i64 s1.2.1), (3, .int .i64 s1.2.2.1), (4, .func (.func 53) #[] #[]), (10, .bool s1.2.2.2.1), (11, .bool s1.2.2.2.2)] [Val (Kd.osl KLease) v1 a1] a w → G a w) hl (fun s1 p1 H i1 => ?_) fun I_ => ?_
 ·intro  a w g1 g2 g3 h
  refine Go.block ?_
  obtain ⟨o2, H, G2⟩ := bindE H
  refine Go.seq ?_
  refine Go.reg ?_
  refine mv h rfl rfl fun h => ?_
  refine mv h rfl rfl fun h => ?_
  refine ga h (o_bin rfl rfl rfl) rfl fun h => ?_
  obtain ⟨y1, ey1, H⟩ := ltE H
  refine ga h (o_assign' rfl (congrArg (fun z => Value.int .i64 z) ey1)) rfl fun h => ?_
  refine GoR.done ?_
  refine Go.seq ?_
  refine Go.seq ?_
  refine Go.reg ?_
  refine mv h rfl rfl fun h => ?_
  refine ga h (o_bin rfl rfl rfl) rfl fun h => ?_
  refine GoR.done ?_
  by_cases c1 : decide (y1 ≤ 12) = true
  ·have H := ifT c1 H
   refine g_t h rfl c1 ?_
   refine Go.seq ?_
   refine Go.reg ?_
   iterate 4 (refine ga h (o_move rfl) rfl fun h => ?_)
   obtain ⟨r1, er1, H⟩ := bindE H
   refine ga h (o_call (slices_insertionSortCmpFunc_api_Lease_at_lease_server_request_2.spc v1 a1 s1.1 g1 s1.2.1 g2 r1 er1) rfl [] [0] (by decide) rfl rfl) rfl fun h => ?_
   refine GoR.done ?_
   rw [← som H] at G2
   have H := G2
   have e_ := som H; subst e_
   rw [← nx_out i1] at G1
   have H := G1
   rw [← som H]
   exact g_ret (vs := []) h Try.func64 trivial ⟨(), rfl, (h.mem.pick [0] (by decide) rfl)⟩
  ·have H := ifF c1 H
   refine g_f h rfl c1 ?_
   refine Go.skip ?_
   refine Go.seq ?_
   refine Go.seq ?_
   cases H
 ·exact I_ _ _ ha2 ha3 ha4 (h.wr [0])
def slices_pdqsortCmpFunc_api_Lease_at_lease_server_request_2.g (k_ : Nat) (a1 : List TLease) (a2 : Int) (a3 : Int) (a4 : Int) : Option ((List TLease)) :=
  (loopK k_ (fun s1 => (lt (IntKind.i64.wrap (s1.2.1 - s1.1)) fun y1 => (if decide (y1 ≤ 12) = true then (slices_insertionSortCmpFunc_api_Lease_at_lease_server_request_2.g k_ a1 s1.1 s1.2.1).bind fun r1 => some (r1) else none)).bind (fun z_ => some (.inr (z_)))) (a2, a3, a4, true, true)).bind (fun z_ => some (z_))
theorem slices_pdqsortCmpFunc_api_Lease_at_lease_server_request_2.le (k_ : Nat) (a1 : List TLease) (a2 : Int) (a3 : Int) (a4 : Int) : Le (slices_pdqsortCmpFunc_api_Lease_at_lease_server_request_2.g k_ a1 a2 a3 a4) (slices_pdqsortCmpFunc_api_Lease_at_lease_server_request_2.f a1 a2 a3 a4) := by
 unfold slices_pdqsortCmpFunc_api_Lease_at_lease_server_request_2.g slices_pdqsortCmpFunc_api_Lease_at_lease_server_request_2.f
 repeat' (first | with_reducible refine le_loop fun _ => ?_ | with_reducible refine le_bind ?_ fun _ => ?_ | with_reducible refine le_ite ?_ ?_ | with_reducible refine le_lt fun _ => ?_ | with_reducible refine le_elim (fun _ => ?_) (fun _ => ?_) _ | with_reducible apply slices_insertionSortCmpFunc_api_Lease_at_lease_server_request_2.le | with_reducible exact le_refl _)
/-! slices.SortFunc[[]drawbridge/api.Lease,drawbridge/api.Lease] -/
noncomputable def slices_SortFunc_s_api_Lease_api_Lease_at_lease_server_request_2.f (a1 : List TLease) : Option ((List TLease)) :=
  lt (a1.length : Int) fun y1 => (math_bits_Len.f (IntKind.u64.wrap y1)).bind fun r1 => (slices_pdqsortCmpFunc_api_Lease_at_lease_server_request_2.f a1 0 y1 r1).bind fun r2 => some (r2)
set_option maxRecDepth 100000 in
set_option maxHeartbeats 4000000 in
theorem slices_SortFunc_s_api_Lease_api_Lease_at_lease_server_request_2.spc (v1 : Value) (a1 : List TLease) (r : (List TLease)) (H : slices_SortFunc_s_api_Lease_api_Lease_at_lease_server_request_2.f a1 = some r) : Spc Try.prog 52 [v1, .func (.func 53) #[] #[]] [] [Val (Kd.osl KLease) v1 a1] (fun (s : Unit) => .tuple #[]) (fun s => [Val (Kd.osl KLease) v1 r]) := by
 unfold slices_SortFunc_s_api_Lease_api_Lease_at_lease_server_request_2.f at H
 refine Spc.go Try.func52 rfl (by kernel_rfl) rfl rfl all_nil fun F a w h => ?_
 refine Go.seq ?_
 refine Go.reg ?_
 refine mv h rfl rfl fun h => ?_
 have g1 := (len_own 0 rfl h.mem)
 refine ga h (o_ln rfl (rd_own 0 rfl) t_v26) rfl fun h => ?_
 obtain ⟨y1, ey1, H⟩ := ltE H
 refine ga h (o_assign' rfl (congrArg (fun z => Value.int .i64 z) ey1)) rfl fun h => ?_
 refine GoR.done ?_
 refine Go.reg ?_
 iterate 3 (refine ga h (o_move rfl) rfl fun h => ?_)
 refine ga h (o_conv rfl t_q3 t_u94) rfl fun h => ?_
 obtain ⟨r1, er1, H⟩ := bindE H
 refine ga h (o_call (math_bits_Len.spc (IntKind.u64.wrap y1) (wrap_in _ _) r1 er1) rfl [] [] (by decide) rfl rfl) rfl fun h => ?_
 have g2 := h.mem.pur 0 rfl
 refine mv h rfl rfl fun h => ?_
 obtain ⟨r2, er2, H⟩ := bindE H
 refine ga h (o_call (slices_pdqsortCmpFunc_api_Lease_at_lease_server_request_2.spc v1 a1 0 (show InR .i64 0 by decide) y1 (ey1 ▸ g1) r1 g2 r2 er2) rfl [] [1] (by decide) rfl rfl) rfl fun h => ?_
 refine GoR.done ?_
 rw [← som H]
 exact g_fin (vs := []) h Try.func52 trivial ⟨(), rfl, (h.mem.pick [0] (by decide) rfl)⟩
def slices_SortFunc_s_api_Lease_api_Lease_at_lease_server_request_2.g (k_ : Nat) (a1 : List TLease) : Option ((List TLease)) :=
  lt (a1.length : Int) fun y1 => (math_bits_Len.g k_ (IntKind.u64.wrap y1)).bind fun r1 => (slices_pdqsortCmpFunc_api_Lease_at_lease_server_request_2.g k_ a1 0 y1 r1).bind fun r2 => some (r2)
theorem slices_SortFunc_s_api_Lease_api_Lease_at_lease_server_request_2.le (k_ : Nat) (a1 : List TLease) : Le (slices_SortFunc_s_api_Lease_api_Lease_at_lease_server_request_2.g k_ a1) (slices_SortFunc_s_api_Lease_api_Lease_at_lease_server_request_2.f a1) := by
 unfold slices_SortFunc_s_api_Lease_api_Lease_at_lease_server_request_2.g slices_SortFunc_s_api_Lease_api_Lease_at_lease_server_request_2.f
 repeat' (first | with_reducible refine le_loop fun _ => ?_ | with_reducible refine le_bind ?_ fun _ => ?_ | with_reducible refine le_ite ?_ ?_ | with_reducible refine le_lt fun _ => ?_ | with_reducible refine le_elim (fun _ => ?_) (fun _ => ?_) _ | with_reducible apply math_bits_Len.le | with_reducible apply slices_pdqsortCmpFunc_api_Lease_at_lease_server_request_2.le | with_reducible exact le_refl _)
end Go.Proofs.Ytmmaojclfggioaa.S
