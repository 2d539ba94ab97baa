/- Contracts, printed by a program of this session. -/
import Derived.Test.YtjjceikmimhpnaaDoorT0
namespace Go.Proofs.YtjjceikmimhpnaaDoor.S
open Go Go.SL Go.RowKit
set_option linter.unusedVariables false
set_option linter.unusedSimpArgs false
/-! internal/stringslite.HasSuffix -/
noncomputable def stringslite_HasSuffix.f (a1 : List Int) (a2 : List Int) : Option (Bool) :=
  ((if decide ((a2.length : Int) ≤ (a1.length : Int)) = true then (cut a1 (IntKind.i64.wrap ((a1.length : Int) - (a2.length : Int))) (a1.length : Int)).bind fun x1 => lt (decide (x1 = a2)) fun y1 => some (y1) else some (false))).bind (fun j1 => some (j1))
set_option maxRecDepth 100000 in
set_option maxHeartbeats 4000000 in
theorem stringslite_HasSuffix.spc (a1 : List Int) (ha1 : Bs a1) (a2 : List Int) (ha2 : Bs a2) (r : Bool) (H : stringslite_HasSuffix.f a1 a2 = some r) : Spc Tryd.prog 67 [.string (mkS a1), .string (mkS a2)] [] [] (fun (s : Unit) => .bool r) (fun s => []) := by
 unfold stringslite_HasSuffix.f at H
 refine Spc.go Tryd.func67 rfl (by kernel_rfl) rfl rfl all_nil fun F a w h => ?_
 refine Go.seq ?_
 refine Go.reg ?_
 refine ga h (o_assign rfl) rfl fun h => ?_
 refine GoR.done ?_
 refine Go.seq ?_
 obtain ⟨o1, H, G1⟩ := bindE H
 refine g_cut (fun G => ∀ j1 (a : Act) (w : World), o1 = j1 → St Tryd.f67.ntmps F [(4, .bool j1)] [] a w → G a w) 1 ?_ fun J1 => ?_
 ·intro j1 a w ho_ h
  rw [ho_] at G1
  have H := G1
  rw [← som H]
  exact g_ret (vs := [.bool j1]) h Tryd.func67 ⟨rfl, trivial⟩ ⟨(), rfl, (h.mem.pick [] (by decide) rfl)⟩
 refine Go.reg ?_
 refine mv h rfl rfl fun h => ?_
 refine ga h (o_lens rfl t_u9) rfl fun h => ?_
 refine mv h rfl rfl fun h => ?_
 refine ga h (o_lens rfl t_u9) rfl fun h => ?_
 refine ga h (o_bin rfl rfl rfl) rfl fun h => ?_
 refine mv h rfl rfl fun h => ?_
 by_cases c1 : decide ((a2.length : Int) ≤ (a1.length : Int)) = true
 ·have H := ifT c1 H
  refine gg h rfl rfl c1 (o_move rfl) rfl fun _ _ _ h => ?_
  refine gg h rfl rfl c1 (o_move rfl) rfl fun _ _ _ h => ?_
  refine gg h rfl rfl c1 (o_lens rfl t_u9) rfl fun _ _ _ h => ?_
  refine gg h rfl rfl c1 (o_move rfl) rfl fun _ _ _ h => ?_
  refine gg h rfl rfl c1 (o_lens rfl t_u9) rfl fun _ _ _ h => ?_
  refine gg h rfl rfl c1 (o_bin rfl rfl rfl) rfl fun _ _ _ h => ?_
  obtain ⟨x1, ex1, H⟩ := bindE H
  refine gg h rfl rfl c1 (o_slsl rfl rfl ex1 t_u9) rfl fun _ _ _ h => ?_
  refine gg h rfl rfl c1 (o_move rfl) rfl fun _ _ _ h => ?_
  refine gg h rfl rfl c1 (o_eqs rfl rfl (Bs.cut ha1 ex1) ha2) rfl fun _ _ _ h => ?_
  refine ga h (o_pickT rfl rfl c1) rfl fun h => ?_
  obtain ⟨y1, ey1, H⟩ := ltE H
  refine ga h (o_assign' rfl (congrArg Value.bool ey1)) rfl fun h => ?_
  refine GoR.done ?_
  exact J1 y1 _ _ (som H).symm (h.wr [])
 ·have H := ifF c1 H
  iterate 9 (refine gk h rfl rfl (nb_f c1) rfl fun _ h => ?_)
  refine ga h (o_pickF rfl rfl c1) rfl fun h => ?_
  refine ga h (o_assign rfl) rfl fun h => ?_
  refine GoR.done ?_
  exact J1 false _ _ (som H).symm (h.wr [])
def stringslite_HasSuffix.g (k_ : Nat) (a1 : List Int) (a2 : List Int) : Option (Bool) :=
  ((if decide ((a2.length : Int) ≤ (a1.length : Int)) = true then (cut a1 (IntKind.i64.wrap ((a1.length : Int) - (a2.length : Int))) (a1.length : Int)).bind fun x1 => lt (decide (x1 = a2)) fun y1 => some (y1) else some (false))).bind (fun j1 => some (j1))
theorem stringslite_HasSuffix.le (k_ : Nat) (a1 : List Int) (a2 : List Int) : Le (stringslite_HasSuffix.g k_ a1 a2) (stringslite_HasSuffix.f a1 a2) := by
 unfold stringslite_HasSuffix.g stringslite_HasSuffix.f
 repeat' (first | with_reducible refine le_loop fun _ => ?_ | with_reducible refine le_bind ?_ fun _ => ?_ | with_reducible refine le_ite ?_ ?_ | with_reducible refine le_lt fun _ => ?_ | with_reducible refine le_elim (fun _ => ?_) (fun _ => ?_) _ | with_reducible exact le_refl _)
/-! internal/stringslite.TrimSuffix -/
noncomputable def stringslite_TrimSuffix.f (a1 : List Int) (a2 : List Int) : Option ((List Int)) :=
  (stringslite_HasSuffix.f a1 a2).bind fun r1 => (if r1 = true then (cut a1 0 (IntKind.i64.wrap ((a1.length : Int) - (a2.length : Int)))).bind fun x1 => some (x1) else some (a1))
set_option maxRecDepth 100000 in
set_option maxHeartbeats 4000000 in
theorem stringslite_TrimSuffix.spc (a1 : List Int) (ha1 : Bs a1) (a2 : List Int) (ha2 : Bs a2) (r : (List Int)) (H : stringslite_TrimSuffix.f a1 a2 = some r) : Spc Tryd.prog 58 [.string (mkS a1), .string (mkS a2)] [] [] (fun (s : Unit) => .string (mkS r)) (fun s => [Ent.pur (Bs r)]) := by
 unfold stringslite_TrimSuffix.f at H
 refine Spc.go Tryd.func58 rfl (by kernel_rfl) rfl rfl all_nil fun F a w h => ?_
 refine Go.seq ?_
 refine Go.reg ?_
 refine ga h (o_assign rfl) rfl fun h => ?_
 refine GoR.done ?_
 refine Go.seq ?_
 refine Go.seq ?_
 refine Go.reg ?_
 refine mv h rfl rfl fun h => ?_
 refine mv h rfl rfl fun h => ?_
 obtain ⟨r1, er1, H⟩ := bindE H
 refine ga h (o_call (stringslite_HasSuffix.spc a1 ha1 a2 ha2 r1 er1) rfl [] [] (by decide) rfl rfl) rfl fun h => ?_
 refine GoR.done ?_
 by_cases c1 : r1 = true
 ·have H := ifT c1 H
  refine g_t h rfl c1 ?_
  refine Go.seq ?_
  refine Go.reg ?_
  refine mv h rfl rfl fun h => ?_
  refine mv h rfl rfl fun h => ?_
  refine ga h (o_lens rfl t_u9) rfl fun h => ?_
  refine mv h rfl rfl fun h => ?_
  refine ga h (o_lens rfl t_u9) rfl fun h => ?_
  refine ga h (o_bin rfl rfl rfl) rfl fun h => ?_
  obtain ⟨x1, ex1, H⟩ := bindE H
  refine ga h (o_slsh rfl rfl ex1 t_u9) rfl fun h => ?_
  refine ga h (o_assign rfl) rfl fun h => ?_
  refine GoR.done ?_
  rw [← som H]
  exact g_ret (vs := [.string (mkS x1)]) h Tryd.func58 ⟨rfl, trivial⟩ ⟨(), rfl, ((h.mem.pick [] (by decide) rfl).addpur (Bs.cut ha1 ex1))⟩
 ·have H := ifF c1 H
  refine g_f h rfl c1 ?_
  refine Go.skip ?_
  refine Go.seq ?_
  refine Go.reg ?_
  refine mv h rfl rfl fun h => ?_
  refine ga h (o_assign rfl) rfl fun h => ?_
  refine GoR.done ?_
  rw [← som H]
  exact g_ret (vs := [.string (mkS a1)]) h Tryd.func58 ⟨rfl, trivial⟩ ⟨(), rfl, ((h.mem.pick [] (by decide) rfl).addpur ha1)⟩
def stringslite_TrimSuffix.g (k_ : Nat) (a1 : List Int) (a2 : List Int) : Option ((List Int)) :=
  (stringslite_HasSuffix.g k_ a1 a2).bind fun r1 => (if r1 = true then (cut a1 0 (IntKind.i64.wrap ((a1.length : Int) - (a2.length : Int)))).bind fun x1 => some (x1) else some (a1))
theorem stringslite_TrimSuffix.le (k_ : Nat) (a1 : List Int) (a2 : List Int) : Le (stringslite_TrimSuffix.g k_ a1 a2) (stringslite_TrimSuffix.f a1 a2) := by
 unfold stringslite_TrimSuffix.g stringslite_TrimSuffix.f
 repeat' (first | with_reducible refine le_loop fun _ => ?_ | with_reducible refine le_bind ?_ fun _ => ?_ | with_reducible refine le_ite ?_ ?_ | with_reducible refine le_lt fun _ => ?_ | with_reducible refine le_elim (fun _ => ?_) (fun _ => ?_) _ | with_reducible apply stringslite_HasSuffix.le | with_reducible exact le_refl _)
/-! strings.TrimSuffix -/
noncomputable def strings_TrimSuffix.f (a1 : List Int) (a2 : List Int) : Option ((List Int)) :=
  (stringslite_TrimSuffix.f a1 a2).bind fun r1 => some (r1)
set_option maxRecDepth 100000 in
set_option maxHeartbeats 4000000 in
theorem strings_TrimSuffix.spc (a1 : List Int) (ha1 : Bs a1) (a2 : List Int) (ha2 : Bs a2) (r : (List Int)) (H : strings_TrimSuffix.f a1 a2 = some r) : Spc Tryd.prog 41 [.string (mkS a1), .string (mkS a2)] [] [] (fun (s : Unit) => .string (mkS r)) (fun s => [Ent.pur (Bs r)]) := by
 unfold strings_TrimSuffix.f at H
 refine Spc.go Tryd.func41 rfl (by kernel_rfl) rfl rfl all_nil fun F a w h => ?_
 refine Go.seq ?_
 refine Go.reg ?_
 refine ga h (o_assign rfl) rfl fun h => ?_
 refine GoR.done ?_
 refine Go.seq ?_
 refine Go.reg ?_
 refine mv h rfl rfl fun h => ?_
 refine mv h rfl rfl fun h => ?_
 obtain ⟨r1, er1, H⟩ := bindE H
 refine ga h (o_call (stringslite_TrimSuffix.spc a1 ha1 a2 ha2 r1 er1) rfl [] [] (by decide) rfl rfl) rfl fun h => ?_
 have g1 := h.mem.pur 0 rfl
 refine ga h (o_assign rfl) rfl fun h => ?_
 refine GoR.done ?_
 rw [← som H]
 exact g_ret (vs := [.string (mkS r1)]) h Tryd.func41 ⟨rfl, trivial⟩ ⟨(), rfl, ((h.mem.pick [] (by decide) rfl).addpur g1)⟩
def strings_TrimSuffix.g (k_ : Nat) (a1 : List Int) (a2 : List Int) : Option ((List Int)) :=
  (stringslite_TrimSuffix.g k_ a1 a2).bind fun r1 => some (r1)
theorem strings_TrimSuffix.le (k_ : Nat) (a1 : List Int) (a2 : List Int) : Le (strings_TrimSuffix.g k_ a1 a2) (strings_TrimSuffix.f a1 a2) := by
 unfold strings_TrimSuffix.g strings_TrimSuffix.f
 repeat' (first | with_reducible refine le_loop fun _ => ?_ | with_reducible refine le_bind ?_ fun _ => ?_ | with_reducible refine le_ite ?_ ?_ | with_reducible refine le_lt fun _ => ?_ | with_reducible refine le_elim (fun _ => ?_) (fun _ => ?_) _ | with_reducible apply stringslite_TrimSuffix.le | with_reducible exact le_refl _)
end Go.Proofs.YtjjceikmimhpnaaDoor.S
