/- Contracts, printed by a program of this session. -/
import Derived.Test.YtplkiompmjhdlaaT0
import Derived.WalkKit
import Derived.LaidEql
import Derived.Stop.Asserts
import Derived.RowKitTokens
namespace Go.Proofs.Ytplkiompmjhdlaa.S
open Go Go.SL Go.RowKit
set_option linter.unusedVariables false
set_option linter.unusedSimpArgs false
/-! errors.Is -/
open Go.Extern.Stop Go.Stop Go.Extern

theorem isx_typeOf (v : Value) (w : World) : (Extern.ReflectliteType.typeOf #[.iface 72 v]).run Try.prog w = .ok (.iface 85 (.agg #[.pointer (some ⟨0, 72, none⟩)])) w := by kernel_rfl
theorem isx_comparable (w : World) : ((Extern.ReflectliteType.method fun t => do Rtype.noPackHeld "Comparable" t; (fun a => Value.bool a.comparable) <$> typeInfo t) #[.agg #[.pointer (some ⟨0, 72, none⟩)]]).run Try.prog w = .ok (.bool true) w := by kernel_rfl
theorem isx_methodComparable (v : Value) (w : World) : (Go.method 228 85 v "Comparable").run Try.prog w = .ok (63, v) w := by kernel_rfl
theorem isx_noIsO (v : Value) (xT : TypeId) (w : World) : (Instr.typeAssert (.iface 72 v) xT 87 true).run Try.prog w = .ok (.tuple #[.nilIface, .bool false]) w := run_typeAssert_lacksB Try.underlying87 (by kernel_rfl) (by kernel_rfl) v xT w
theorem isx_noUnwrapO (v : Value) (xT : TypeId) (w : World) : (Instr.typeAssert (.iface 72 v) xT 90 true).run Try.prog w = .ok (.tuple #[.nilIface, .bool false]) w := run_typeAssert_lacksB Try.underlying90 (by kernel_rfl) (by kernel_rfl) v xT w
theorem isx_noUnwrapsO (v : Value) (xT : TypeId) (w : World) : (Instr.typeAssert (.iface 72 v) xT 92 true).run Try.prog w = .ok (.tuple #[.nilIface, .bool false]) w := run_typeAssert_lacksB Try.underlying92 (by kernel_rfl) (by kernel_rfl) v xT w
theorem isx_noIsE (v : Value) (xT : TypeId) (w : World) : (Instr.typeAssert (.iface 71 v) xT 87 true).run Try.prog w = .ok (.tuple #[.nilIface, .bool false]) w := run_typeAssert_lacksB Try.underlying87 (by kernel_rfl) (by kernel_rfl) v xT w
theorem isx_hasUnwrapE (v : Value) (xT : TypeId) (w : World) : (Instr.typeAssert (.iface 71 v) xT 90 true).run Try.prog w = .ok (.tuple #[.iface 71 v, .bool true]) w := run_typeAssert_hasB Try.underlying90 (by kernel_rfl) v xT w
theorem isx_methodUnwrap (v : Value) (w : World) : (Go.method 228 71 v "Unwrap").run Try.prog w = .ok (58, v) w := by kernel_rfl
theorem isx_eqEO (u v : Value) (w : World) : (binOp .eql 55 (.iface 71 u) (.iface 72 v)).run Try.prog w = .ok (.bool false) w := by kernel_rfl
theorem isx_eqOO (y c : Int) (w : World) : (binOp .eql 55 (.iface 72 (.int .i64 y)) (.iface 72 (.int .i64 c))).run Try.prog w = .ok (.bool (y == c)) w := by kernel_rfl
/-- errors.Is(nil, x). -/
theorem is_nil0 (c : Int) (w : World) :
    Calls Try.prog 34 #[.nilIface, .iface 72 (.int .i64 c)] w fun e w' => e = .returned (.bool false) ∧ w' = w := by
  have hn := run_eql_iface_nil_left (P := Try.prog) w 72 (.int .i64 c) Try.underlying55
  go_enter Try.func34, Try.ntmps34
  go_wp2
  go_ret
  exact ⟨rfl, rfl⟩
set_option maxRecDepth 100000 in
set_option maxHeartbeats 4000000 in
theorem is_hit0 (e : Nat) (c : Int) (w : World) (h1 : w.cell? ⟨e, 1, none⟩ = some (.int .i64 c)) :
    Calls Try.prog 34 #[.iface 71 (.pointer (some ⟨e, 0, none⟩)), .iface 72 (.int .i64 c)] w fun ev w' => ev = .returned (.bool true) ∧ w' = w := by
  have h8 := @run_callFunc_extern Try.prog 40 _ Extern.ReflectliteType.typeOf Try.func40 (by kernel_rfl) (by kernel_rfl) (by kernel_rfl) (by kernel_rfl)
  have h32 := @run_callFunc_extern Try.prog 63 _ (Extern.ReflectliteType.method fun t => do Rtype.noPackHeld "Comparable" t; pure (.bool (← typeInfo t).comparable)) Try.func63 (by kernel_rfl) (by kernel_rfl) (by kernel_rfl) (by kernel_rfl)
  have tT := isx_typeOf
  have cT := isx_comparable
  have mR := isx_methodComparable
  have nE := isx_noIsE
  have uE := isx_hasUnwrapE
  have mU := isx_methodUnwrap
  have q1 := isx_eqEO (.pointer (some ⟨e, 0, none⟩)) (.int .i64 c) w
  have q2 : (binOp .eql 55 (.iface 72 (.int .i64 c)) (.iface 72 (.int .i64 c))).run Try.prog w = .ok (.bool true) w := by rw [isx_eqOO]; simp
  go_enter Try.func34, Try.ntmps34
  go_wp2
  refine wp_loop_rounds 2 ?_
  rw [rounds_succ]
  go_wp2
  rw [rounds_succ]
  go_wp2
  go_ret
  exact ⟨rfl, rfl⟩
set_option maxRecDepth 100000 in
set_option maxHeartbeats 4000000 in
theorem is_miss0 (e : Nat) (y c : Int) (hy : y ≠ c) (w : World) (h1 : w.cell? ⟨e, 1, none⟩ = some (.int .i64 y)) :
    Calls Try.prog 34 #[.iface 71 (.pointer (some ⟨e, 0, none⟩)), .iface 72 (.int .i64 c)] w fun ev w' => ev = .returned (.bool false) ∧ w' = w := by
  have h8 := @run_callFunc_extern Try.prog 40 _ Extern.ReflectliteType.typeOf Try.func40 (by kernel_rfl) (by kernel_rfl) (by kernel_rfl) (by kernel_rfl)
  have h32 := @run_callFunc_extern Try.prog 63 _ (Extern.ReflectliteType.method fun t => do Rtype.noPackHeld "Comparable" t; pure (.bool (← typeInfo t).comparable)) Try.func63 (by kernel_rfl) (by kernel_rfl) (by kernel_rfl) (by kernel_rfl)
  have tT := isx_typeOf
  have cT := isx_comparable
  have mR := isx_methodComparable
  have nE := isx_noIsE
  have uE := isx_hasUnwrapE
  have nO := isx_noIsO
  have uO := isx_noUnwrapO
  have vO := isx_noUnwrapsO
  have mU := isx_methodUnwrap
  have q1 := isx_eqEO (.pointer (some ⟨e, 0, none⟩)) (.int .i64 c) w
  have q2 : (binOp .eql 55 (.iface 72 (.int .i64 y)) (.iface 72 (.int .i64 c))).run Try.prog w = .ok (.bool false) w := by rw [isx_eqOO]; simp [hy]
  go_enter Try.func34, Try.ntmps34
  go_wp2
  refine wp_loop_rounds 2 ?_
  rw [rounds_succ]
  go_wp2
  rw [rounds_succ]
  go_wp2
  go_ret
  exact ⟨rfl, rfl⟩
noncomputable def errors_Is.f (a1 : Option Trefusal) (a2 : Int) : Option Bool := some (match a1 with | none => false | some c => decide (c.why = a2))
theorem errors_Is.spc (v1 : Value) (a1 : Option Trefusal) (a2 : Int) (r : Bool) (H : errors_Is.f a1 a2 = some r) : Spc Try.prog 34 [v1, .iface 72 (.int .i64 a2)] [Val (Kd.erp 71 Krefusal) v1 a1] [] (fun (s : Unit) => .bool r) (fun s => []) := by
  obtain rfl := Option.some.inj H
  refine ⟨all_cons (Val.per Per_erp) all_nil, ⟨_, Try.func34, by kernel_rfl, rfl⟩, fun F w hm => ?_⟩
  have hm : Mem F [Val (Kd.erp 71 Krefusal) v1 a1] w := hm
  obtain ⟨m0, φ0, hm0, hf0, he⟩ := hm.get (i := 0) rfl
  rcases Val_erp he with ⟨rfl, rfl⟩ | ⟨c, e, rfl, rfl, hp⟩
  · exact (is_nil0 a2 w).mono fun ev w' ⟨h1, h2⟩ => ⟨(), h1, by subst h2; exact hm.drop⟩
  · obtain ⟨cs, hc, hC⟩ := hp
    obtain ⟨_, f, _, hS⟩ := srefusal_why _ _ _ _ hC
    obtain ⟨hcs, _⟩ := hS
    have h1 : cs[1]? = some (.int .i64 c.why) := by
      have := congrArg (fun l => l[0]?) hcs
      simpa [Kd.int] using this
    obtain ⟨fz, hfz⟩ := hc 1 _ h1
    have hcell := (hp_cell (hm0 _ _ _ hfz)).1
    rw [Nat.zero_add] at hcell
    by_cases hy : c.why = a2
    · rw [hy] at hcell
      refine (is_hit0 e a2 w hcell).mono fun ev w' ⟨h1, h2⟩ => ⟨(), by rw [h1]; simp [hy], by subst h2; exact hm.drop⟩
    · refine (is_miss0 e _ a2 hy w hcell).mono fun ev w' ⟨h1, h2⟩ => ⟨(), by rw [h1]; simp [hy], by subst h2; exact hm.drop⟩
def errors_Is.g (k_ : Nat) (a1 : Option Trefusal) (a2 : Int) : Option Bool := some (match a1 with | none => false | some c => decide (c.why = a2))
theorem errors_Is.le (k_ : Nat) (a1 : Option Trefusal) (a2 : Int) : Le (errors_Is.g k_ a1 a2) (errors_Is.f a1 a2) := le_refl _
end Go.Proofs.Ytplkiompmjhdlaa.S
