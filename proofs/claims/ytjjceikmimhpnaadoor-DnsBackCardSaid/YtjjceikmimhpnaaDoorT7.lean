/- Contracts, printed by a program of this session. -/
import Derived.Test.YtjjceikmimhpnaaDoorT0
import Derived.WalkKit
import Derived.LaidEql
import Derived.Stop.Asserts
import Derived.RowKitTokens
namespace Go.Proofs.YtjjceikmimhpnaaDoor.S
open Go Go.SL Go.RowKit
set_option linter.unusedVariables false
set_option linter.unusedSimpArgs false
/-! drawbridge/dns.errno -/
open Go.Extern.Stop Go.Stop Go.Extern

/-- errors.As(nil, target). -/
theorem as_nil0 (t : Value) (w : World) :
    Calls Tryd.prog 36 #[.nilIface, t] w fun e w' => e = .returned (.bool false) ∧ w' = w := by
  go_enter Tryd.func36, Tryd.ntmps36
  go_wp2
  go_ret
  exact ⟨rfl, rfl⟩

theorem asx_valueOf27 (t : Addr) (w : World) : (ReflectliteValue.unpack (.iface 66 (.pointer (some t)))).run Tryd.prog w
    = .ok (.agg #[.pointer (some ⟨4, 66, none⟩), .pointer (some ⟨w.heap.size, 0, none⟩), .int .u64 150]) (w.alloc (.cells #[.pointer (some t)] 66)) := by kernel_rfl
theorem asx_type27 (a : Addr) (w : World) : (ReflectliteValue.methodAny (ReflectliteValue.valueError "reflectlite.Value.Type" 0) (fun t _ _ _ => ReflectliteType.toType t) #[.agg #[.pointer (some ⟨4, 66, none⟩), .pointer (some a), .int .u64 150]]).run Tryd.prog w
    = .ok (.iface 106 (.agg #[.pointer (some ⟨4, 66, none⟩)])) w := by kernel_rfl
theorem asx_methodKind (h : Value) (w : World) : (Go.method 261 106 (.agg #[h]) "Kind").run Tryd.prog w = .ok (93, h) w := by kernel_rfl
theorem asx_kind27 (w : World) : ((ReflectliteType.abiMethod fun t => (fun a : Nat => Value.int IntKind.u8 (a : Int)) <$> Rtype.kind t) #[.pointer (some ⟨4, 66, none⟩)]).run Tryd.prog w = .ok (.int .u8 22) w := by kernel_rfl
theorem asx_kind25 (w : World) : ((ReflectliteType.abiMethod fun t => (fun a : Nat => Value.int IntKind.u8 (a : Int)) <$> Rtype.kind t) #[.pointer (some ⟨4, 64, none⟩)]).run Tryd.prog w = .ok (.int .u8 22) w := by kernel_rfl

theorem asx_rlm (z : Sem Value) (f : TypeId → Addr → Nat → Nat → Sem Value) (v : Value) :
    ReflectliteValue.method z f #[v] = (do match ← ReflectliteValue.parts v with | none => z | some (t, a, fl) => f t a fl (fl % 32)) := rfl
theorem asx_parts27 (a : Addr) (w : World) : (ReflectliteValue.parts (.agg #[.pointer (some ⟨4, 66, none⟩), .pointer (some a), .int .u64 150])).run Tryd.prog w = .ok (some (66, a, 150)) w := by kernel_rfl
/-- (Value).IsNil at the Value of a **p.E that is not nil. -/
theorem asx_isNil27 (a p : Addr) (W : World) (ha : W.cell? a = some (.pointer (some p))) :
    (ReflectliteValue.method (ReflectliteValue.valueError "reflectlite.Value.IsNil" 0) ReflectliteValue.isNil #[.agg #[.pointer (some ⟨4, 66, none⟩), .pointer (some a), .int .u64 150]]).run Tryd.prog W = .ok (.bool false) W := by
  rw [asx_rlm]
  simp only [Sem.run_bind, asx_parts27, Result.andThen]
  simp [ReflectliteValue.isNil, loadVar, isAgg, underlying, Tryd.underlying66, ha, Result.andThen]

theorem asx_methodElem (h : Value) (w : World) : (Go.method 261 106 (.agg #[h]) "Elem").run Tryd.prog w = .ok (104, .agg #[h]) w := by kernel_rfl
theorem asx_methodImplements (h : Value) (w : World) : (Go.method 261 106 (.agg #[h]) "Implements").run Tryd.prog w = .ok (105, .agg #[h]) w := by kernel_rfl
theorem asx_methodAssignableTo (h : Value) (w : World) : (Go.method 261 106 (.agg #[h]) "AssignableTo").run Tryd.prog w = .ok (102, .agg #[h]) w := by kernel_rfl
theorem asx_elem27 (w : World) : (ReflectliteType.method ReflectliteType.elem #[.agg #[.pointer (some ⟨4, 66, none⟩)]]).run Tryd.prog w = .ok (.iface 106 (.agg #[.pointer (some ⟨4, 64, none⟩)])) w := by kernel_rfl
theorem asx_implements25 (w : World) : (ReflectliteType.relation "Implements" ReflectliteType.implements_ #[.agg #[.pointer (some ⟨4, 64, none⟩)], .iface 106 (.agg #[.pointer (some ⟨4, 48, none⟩)])]).run Tryd.prog w = .ok (.bool true) w := by kernel_rfl
theorem asx_typeOf25 (v : Value) (w : World) : (ReflectliteType.typeOf #[.iface 64 v]).run Tryd.prog w = .ok (.iface 106 (.agg #[.pointer (some ⟨4, 64, none⟩)])) w := by kernel_rfl
theorem asx_assignable25 (w : World) : (ReflectliteType.relation "AssignableTo" ReflectliteType.assignableTo #[.agg #[.pointer (some ⟨4, 64, none⟩)], .iface 106 (.agg #[.pointer (some ⟨4, 64, none⟩)])]).run Tryd.prog w = .ok (.bool true) w := by kernel_rfl
theorem asx_valueOf25 (e : Addr) (w : World) : (ReflectliteValue.unpack (.iface 64 (.pointer (some e)))).run Tryd.prog w
    = .ok (.agg #[.pointer (some ⟨4, 64, none⟩), .pointer (some ⟨w.heap.size, 0, none⟩), .int .u64 150]) (w.alloc (.cells #[.pointer (some e)] 64)) := by kernel_rfl

theorem asx_elemOf27 (w : World) : (Rtype.elem? 66).run Tryd.prog w = .ok (some 64) w := by kernel_rfl
theorem asx_mk25 (p : Addr) (w : World) : (ReflectliteValue.mk 64 p ReflectliteValue.flagAddr).run Tryd.prog w = .ok (.agg #[.pointer (some ⟨4, 64, none⟩), .pointer (some p), .int .u64 406]) w := by kernel_rfl
/-- (Value).Elem at the Value of a **p.E that is not nil: the Value of the *p.E variable that it points to, addressable. -/
theorem asx_elemV27 (a p : Addr) (W : World) (ha : W.cell? a = some (.pointer (some p))) :
    (ReflectliteValue.method (ReflectliteValue.valueError "reflectlite.Value.Elem" 0) ReflectliteValue.elem #[.agg #[.pointer (some ⟨4, 66, none⟩), .pointer (some a), .int .u64 150]]).run Tryd.prog W
      = .ok (.agg #[.pointer (some ⟨4, 64, none⟩), .pointer (some p), .int .u64 406]) W := by
  rw [asx_rlm]
  simp only [Sem.run_bind, asx_parts27, Result.andThen]
  simp [ReflectliteValue.elem, loadVar, isAgg, underlying, Tryd.underlying66, ha, Result.andThen, asx_elemOf27, asx_mk25]
theorem asx_rls (v x : Value) : ReflectliteValue.set #[v, x] = (do
    let (some (dst, a, fl), some (src, b, _)) := (← ReflectliteValue.parts v, ← ReflectliteValue.parts x)
      | unsupported (.noEntry "extern/(internal/reflectlite.Value).Set.zeroValue")
    if fl / ReflectliteValue.flagAddr % 2 == 0 then unsupported (.noEntry "extern/(internal/reflectlite.Value).Set.unaddressable")
    let val ← loadVar src b
    if ← Rtype.directlyAssignable dst src then storeVar dst a val
    else if ← Rtype.implements dst src then
      if (← Rtype.kind src) == 20 then
        match val with
        | .nilIface => unsupported (.noEntry "extern/reflectlite: a nil value of one interface type handed on as a value of another")
        | _ => storeVar dst a val
      else storeVar dst a (.iface src val)
    else panicString ("reflectlite.Set: value of type " ++ (← Rtype.spelt src) ++ " is not assignable to type " ++ (← Rtype.spelt dst))
    pure (.tuple #[])) := rfl
theorem asx_parts25a (a : Addr) (w : World) : (ReflectliteValue.parts (.agg #[.pointer (some ⟨4, 64, none⟩), .pointer (some a), .int .u64 406])).run Tryd.prog w = .ok (some (64, a, 406)) w := by kernel_rfl
theorem asx_parts25 (a : Addr) (w : World) : (ReflectliteValue.parts (.agg #[.pointer (some ⟨4, 64, none⟩), .pointer (some a), .int .u64 150])).run Tryd.prog w = .ok (some (64, a, 150)) w := by kernel_rfl
theorem asx_direct25 (w : World) : (Rtype.directlyAssignable 64 64).run Tryd.prog w = .ok true w := by kernel_rfl
theorem asx_size25 (w : World) : (sizeOf 64).run Tryd.prog w = .ok 1 w := by kernel_rfl
/-- (Value).Set: the *p.E variable at 'ta' gets what the Value's own variable 'b' holds. -/
theorem asx_set25 (ta b e : Addr) (old : Value) (W : World) (hb : W.cell? b = some (.pointer (some e))) (ht : W.cell? ta = some old) (hf : W.frozen? ta = false) :
    (ReflectliteValue.set #[.agg #[.pointer (some ⟨4, 64, none⟩), .pointer (some ta), .int .u64 406], .agg #[.pointer (some ⟨4, 64, none⟩), .pointer (some b), .int .u64 150]]).run Tryd.prog W
      = .ok (.tuple #[]) (W.setCell ta (.pointer (some e))) := by
  rw [asx_rls]
  simp only [Sem.run_bind, asx_parts25a, asx_parts25, Result.andThen]
  simp [ReflectliteValue.flagAddr, loadVar, isAgg, underlying, Tryd.underlying64, hb, Result.andThen, asx_direct25, storeVar, Value.cells, storeCells, Addr.add]
  rw [run_store Tryd.prog W ta _ _ (by rfl)]
  simp [ht, hf]

set_option maxHeartbeats 4000000 in
theorem as_hit0 (e t : Addr) (old : Value) (w : World) (hg : w.cell? ⟨0, 0, none⟩ = some (.iface 106 (.agg #[.pointer (some ⟨4, 48, none⟩)]))) (ht0 : w.cell? t = some old) (hf0 : w.frozen? t = false) :
    Calls Tryd.prog 36 #[.iface 64 (.pointer (some e)), .iface 66 (.pointer (some t))] w fun ev w' => ev = .returned (.bool true) ∧ w' = ((((w.alloc (.cells #[.pointer (some t)] 66)).alloc (.cells #[.pointer (some ⟨4, 66, none⟩), .pointer (some ⟨w.heap.size, 0, none⟩), .int .u64 150] 92)).alloc (.cells #[.pointer (some ⟨4, 66, none⟩), .pointer (some ⟨w.heap.size, 0, none⟩), .int .u64 150] 92)).alloc (.cells #[.pointer (some e)] 64)).setCell t (.pointer (some e)) := by
  have h6 := @run_callFunc_extern Tryd.prog 52 _ (fun args => ReflectliteValue.unpack (args.getD 0 (.tuple #[]))) Tryd.func52 (by kernel_rfl) (by kernel_rfl) (by kernel_rfl) (by kernel_rfl)
  have h7 := @run_callFunc_extern Tryd.prog 53 _ (ReflectliteValue.methodAny (ReflectliteValue.valueError "reflectlite.Value.Type" 0) (fun t _ _ _ => ReflectliteType.toType t)) Tryd.func53 (by kernel_rfl) (by kernel_rfl) (by kernel_rfl) (by kernel_rfl)
  have h8 := @run_callFunc_extern Tryd.prog 54 _ (ReflectliteValue.method (ReflectliteValue.valueError "reflectlite.Value.IsNil" 0) ReflectliteValue.isNil) Tryd.func54 (by kernel_rfl) (by kernel_rfl) (by kernel_rfl) (by kernel_rfl)
  have h27 := @run_callFunc_extern Tryd.prog 93 _ (ReflectliteType.abiMethod fun t => do pure (.int .u8 (← Rtype.kind t))) Tryd.func93 (by kernel_rfl) (by kernel_rfl) (by kernel_rfl) (by kernel_rfl)
  have h37 := @run_callFunc_extern Tryd.prog 104 _ (ReflectliteType.method ReflectliteType.elem) Tryd.func104 (by kernel_rfl) (by kernel_rfl) (by kernel_rfl) (by kernel_rfl)
  have h38 := @run_callFunc_extern Tryd.prog 105 _ (ReflectliteType.relation "Implements" ReflectliteType.implements_) Tryd.func105 (by kernel_rfl) (by kernel_rfl) (by kernel_rfl) (by kernel_rfl)
  have h10 := @run_callFunc_extern Tryd.prog 62 _ ReflectliteType.typeOf Tryd.func62 (by kernel_rfl) (by kernel_rfl) (by kernel_rfl) (by kernel_rfl)
  have h35 := @run_callFunc_extern Tryd.prog 102 _ (ReflectliteType.relation "AssignableTo" ReflectliteType.assignableTo) Tryd.func102 (by kernel_rfl) (by kernel_rfl) (by kernel_rfl) (by kernel_rfl)
  have h11 := @run_callFunc_extern Tryd.prog 63 _ (ReflectliteValue.method (ReflectliteValue.valueError "reflectlite.Value.Elem" 0) ReflectliteValue.elem) Tryd.func63 (by kernel_rfl) (by kernel_rfl) (by kernel_rfl) (by kernel_rfl)
  have h12 := @run_callFunc_extern Tryd.prog 64 _ ReflectliteValue.set Tryd.func64 (by kernel_rfl) (by kernel_rfl) (by kernel_rfl) (by kernel_rfl)
  have tO := asx_typeOf25
  have mA := asx_methodAssignableTo
  have a25 := asx_assignable25
  have v25 := asx_valueOf25
  have f6 := asx_valueOf27
  have f7 := asx_type27
  have mK := asx_methodKind
  have mE := asx_methodElem
  have mI := asx_methodImplements
  have k27 := asx_kind27
  have k25 := asx_kind25
  have e27 := asx_elem27
  have i25 := asx_implements25
  have n8 := asx_isNil27 ⟨w.heap.size, 0, none⟩ t ((w.alloc (.cells #[.pointer (some t)] 66)).alloc (.cells #[.pointer (some ⟨4, 66, none⟩), .pointer (some ⟨w.heap.size, 0, none⟩), .int .u64 150] 92)) (by simp)
  have hlt : 0 < w.heap.size := by
    rcases Nat.eq_zero_or_pos w.heap.size with h0 | h
    · simp [World.cell?, h0] at hg
    · exact h
  have hg2 : ((w.alloc (.cells #[.pointer (some t)] 66)).alloc (.cells #[.pointer (some ⟨4, 66, none⟩), .pointer (some ⟨w.heap.size, 0, none⟩), .int .u64 150] 92)).cell? ⟨0, 0, none⟩ = some (.iface 106 (.agg #[.pointer (some ⟨4, 48, none⟩)])) := by
    rw [World.cell?_alloc_lt _ _ ⟨0, 0, none⟩ (by simp), World.cell?_alloc_lt _ _ ⟨0, 0, none⟩ hlt]; exact hg
  have htl : t.block < w.heap.size := by
    rcases Nat.lt_or_ge t.block w.heap.size with h | h
    · exact h
    · simp [World.cell?, Array.getElem?_eq_none h] at ht0
  have el := asx_elemV27 ⟨w.heap.size, 0, none⟩ t (((w.alloc (.cells #[.pointer (some t)] 66)).alloc (.cells #[.pointer (some ⟨4, 66, none⟩), .pointer (some ⟨w.heap.size, 0, none⟩), .int .u64 150] 92)).alloc (.cells #[.pointer (some ⟨4, 66, none⟩), .pointer (some ⟨w.heap.size, 0, none⟩), .int .u64 150] 92)) (by rw [World.cell?_alloc_lt _ _ ⟨w.heap.size, 0, none⟩ (by simp; omega)]; simp)
  have st := asx_set25 t ⟨w.heap.size + 1 + 1 + 1, 0, none⟩ e old ((((w.alloc (.cells #[.pointer (some t)] 66)).alloc (.cells #[.pointer (some ⟨4, 66, none⟩), .pointer (some ⟨w.heap.size, 0, none⟩), .int .u64 150] 92)).alloc (.cells #[.pointer (some ⟨4, 66, none⟩), .pointer (some ⟨w.heap.size, 0, none⟩), .int .u64 150] 92)).alloc (.cells #[.pointer (some e)] 64))
    (by rw [World.cell?_alloc_at _ _ _ _ (by simp)]; rfl)
    (by rw [World.cell?_alloc_lt _ _ t (by simp; omega), World.cell?_alloc_lt _ _ t (by simp; omega), World.cell?_alloc_lt _ _ t (by simp; omega), World.cell?_alloc_lt _ _ t htl]; exact ht0)
    (by rw [World.frozen?_alloc_old _ _ t (by simp; omega), World.frozen?_alloc_old _ _ t (by simp; omega), World.frozen?_alloc_old _ _ t (by simp; omega), World.frozen?_alloc_old _ _ t (Nat.ne_of_lt htl)]; exact hf0)
  go_enter Tryd.func36, Tryd.ntmps36
  go_wp2
  refine wp_loop_rounds 1 ?_
  rw [rounds_succ]
  go_wp2
  go_ret
  exact ⟨rfl, rfl⟩
theorem as_nil.spc (t : Value) : Spc Tryd.prog 36 [.nilIface, t] [] [] (fun (_ : Unit) => .bool false) (fun _ => []) :=
  ⟨all_nil, ⟨_, Tryd.func36, by kernel_rfl, rfl⟩, fun F w hm => (as_nil0 t w).mono fun e w' ⟨he, hw⟩ => ⟨(), he, hw ▸ hm⟩⟩
theorem as_hit.spc (e b : Nat) : Spc Tryd.prog 36 [.iface 64 (.pointer (some ⟨e, 0, none⟩)), .iface 66 (.pointer (some ⟨b, 0, none⟩))] [Pfl (Kd.eq gv0) 0 0 ()] [Fld (Kd.eq (.pointer none)) b 0 ()] (fun (_ : Unit) => .bool true) (fun _ => [Fld (Kd.eq (.pointer (some ⟨e, 0, none⟩))) b 0 ()]) :=
  ⟨all_cons Per_pfl all_nil, ⟨_, Tryd.func36, by kernel_rfl, rfl⟩, fun F w hm => by
    have hm : Mem F [Pfl (Kd.eq gv0) 0 0 (), Fld (Kd.eq (.pointer none)) b 0 ()] w := hm
    obtain ⟨h1, h2⟩ := hm.fldc 1 rfl
    refine (as_hit0 ⟨e, 0, none⟩ ⟨b, 0, none⟩ _ w (hm.pflc 0 rfl) h1 h2).mono fun ev w' ⟨he, hw⟩ => ⟨(), he, ?_⟩
    subst hw
    exact (((((hm.alloc' [_] _).alloc' [_, _, _] _).alloc' [_, _, _] _).alloc' [_] _).setc 1 rfl rfl).drop⟩
/-! ### what reads the code -/
noncomputable def dns_errno.f (a1 : Option Tfault) : Option Int := some (match a1 with | none => 0 | some c => c.code)
set_option maxRecDepth 100000 in
set_option maxHeartbeats 4000000 in
theorem dns_errno.spc (v1 : Value) (a1 : Option Tfault) (r : Int) (H : dns_errno.f a1 = some r) : Spc Tryd.prog 23 [v1] [Val (Kd.erp 64 Kfault) v1 a1, Pfl (Kd.eq gv0) 0 0 ()] [] (fun (s : Unit) => .int .i64 r) (fun s => [Ent.pur (InR .i64 r)]) := by
 obtain rfl := Option.some.inj H
 refine Spc.go Tryd.func23 rfl (by kernel_rfl) rfl rfl (all_cons (Val.per Per_erp) (all_cons Per_pfl all_nil)) fun F a w h => ?_
 have h : St Tryd.f23.ntmps F (slots0 0 [v1]) [Val (Kd.erp 64 Kfault) v1 a1, Pfl (Kd.eq gv0) 0 0 ()] a w := h
 obtain ⟨m0, φ0, hm0, hf0, he⟩ := h.mem.get (i := 0) rfl
 rcases Val_erp he with ⟨rfl, rfl⟩ | ⟨c, e, rfl, rfl, _⟩
 · repeat (first | refine Go.seq ?_ | refine Go.block ?_ | refine Go.scope ?_)
   refine Go.reg ?_
   refine ga h (o_assign rfl) rfl fun h => ?_
   refine GoR.done ?_
   repeat (first | refine Go.seq ?_ | refine Go.block ?_ | refine Go.scope ?_)
   refine Go.reg ?_
   refine gs h (o_alloc (K := Kd.eq (.pointer none)) (z := .pointer none) (y := ()) rfl (fun _ => ⟨rfl, rfl⟩)) rfl fun b _ _ h => ?_
   refine GoR.done ?_
   repeat (first | refine Go.seq ?_ | refine Go.block ?_ | refine Go.scope ?_)
   refine Go.reg ?_
   refine mv h rfl rfl fun h => ?_
   refine ga h (o_ifc rfl (by kernel_rfl)) rfl fun h => ?_
   refine ga h (o_call (as_nil.spc _) rfl [] [] (by decide) rfl rfl) rfl fun h => ?_
   refine GoR.done ?_
   repeat (first | refine Go.seq ?_ | refine Go.block ?_ | refine Go.scope ?_)
   refine g_f h rfl (by decide) ?_
   repeat (first | refine Go.skip ?_ | refine Go.seq ?_ | refine Go.inScope ?_)
   refine Go.reg ?_
   refine ga h (o_assign rfl) rfl fun h => ?_
   refine GoR.done ?_
   exact g_ret (vs := [_]) h Tryd.func23 ⟨rfl, trivial⟩ ⟨(), rfl, (h.mem.pick [] (by decide) rfl).addpur (by decide)⟩
 · replace h := h.mm fun m => m.erp_open 0 rfl
   have hc : InR .i64 c.code := in2 (pf_sub sfault_code 0 rfl h.mem)
   repeat (first | refine Go.seq ?_ | refine Go.block ?_ | refine Go.scope ?_)
   refine Go.reg ?_
   refine ga h (o_assign rfl) rfl fun h => ?_
   refine GoR.done ?_
   repeat (first | refine Go.seq ?_ | refine Go.block ?_ | refine Go.scope ?_)
   refine Go.reg ?_
   refine gs h (o_alloc (K := Kd.eq (.pointer none)) (z := .pointer none) (y := ()) rfl (fun _ => ⟨rfl, rfl⟩)) rfl fun b _ _ h => ?_
   refine GoR.done ?_
   repeat (first | refine Go.seq ?_ | refine Go.block ?_ | refine Go.scope ?_)
   refine Go.reg ?_
   refine mv h rfl rfl fun h => ?_
   refine ga h (o_ifc rfl (by kernel_rfl)) rfl fun h => ?_
   refine ga h (o_call (as_hit.spc e b) rfl [3] [0] (by decide) rfl rfl) rfl fun h => ?_
   refine GoR.done ?_
   repeat (first | refine Go.seq ?_ | refine Go.block ?_ | refine Go.scope ?_)
   refine g_t h rfl rfl ?_
   repeat (first | refine Go.skip ?_ | refine Go.seq ?_ | refine Go.inScope ?_)
   refine Go.reg ?_
   refine ga h (o_ldx 0 rfl rfl X_eq (by kernel_rfl)) rfl fun h => ?_
   refine ga h (o_nilc rfl) rfl fun h => ?_
   refine ga h (o_fa rfl (show fldI Tryd.prog 68 0 = some (0, false, 1) by kernel_rfl) rfl rfl) rfl fun h => ?_
   refine ga h (p_lfx 2 rfl rfl sfault_code rfl X_int (by kernel_rfl)) rfl fun h => ?_
   refine ga h (o_assign rfl) rfl fun h => ?_
   refine GoR.done ?_
   exact g_ret (vs := [_]) h Tryd.func23 ⟨rfl, trivial⟩ ⟨(), rfl, (h.mem.pick [] (by decide) rfl).addpur hc⟩
def dns_errno.g (k_ : Nat) (a1 : Option Tfault) : Option Int := some (match a1 with | none => 0 | some c => c.code)
theorem dns_errno.le (k_ : Nat) (a1 : Option Tfault) : Le (dns_errno.g k_ a1) (dns_errno.f a1) := le_refl _
end Go.Proofs.YtjjceikmimhpnaaDoor.S
