/- Errors: nil, or a pointer to what nobody turns any more; each rule states its own conditions. -/
import Derived.Test.YthjaancddmecpaaSlW
namespace Go.SL
open Go Go.RowKit
set_option linter.unusedVariables false
set_option linter.unusedSimpArgs false
section
variable {α β : Type} {P : Program} {E : List (Nat × Value)} {L : List Ent} {d : Option Nat} {ty : TypeId} {pos : String} {aft : Array Edge} {g : Option (Nat × Bool)}
/-- An error: nil, or (of type T) a pointer to a struct that nobody turns any more. -/
def Kd.erp (T : TypeId) (K : Kd α) : Kd (Option α) where
  n := 1
  agg := false
  C := fun m φ x cs => match x with
    | none => cs = [.nilIface]
    | some a => ∃ b, cs = [.iface T (.pointer (some ⟨b, 0, none⟩))] ∧ (Pfl K b 0 a).H m Frag.emp
  len := fun {m φ x cs} h => by
    cases x with
    | none => rw [show cs = _ from h]; rfl
    | some a => obtain ⟨b, rfl, _⟩ := h; rfl
  one := fun {m φ x cs} h c hc => by
    cases x with
    | none => rw [show cs = _ from h] at hc; simp at hc; subst hc; rfl
    | some a => obtain ⟨b, rfl, _⟩ := h; simp at hc; subst hc; rfl
  mono := fun {m m' φ φ' x cs} hm hf h => by
    cases x with
    | none => exact h
    | some a => obtain ⟨b, e, k⟩ := h; exact ⟨b, e, (Pfl K b 0 a).mono hm .rfl k⟩
  sgl := fun _ => rfl
theorem Per_erp {T : TypeId} {K : Kd α} : (Kd.erp T K).Per := fun m φ x cs h => by
  cases x with
  | none => exact h
  | some a => exact h
theorem z_erp {T : TypeId} {K : Kd α} : ZC (Kd.erp T K) none [.nilIface] := fun _ => rfl
theorem pv_ern {T : TypeId} {K : Kd α} : PV (Kd.erp T K) .nilIface none L := fun _ _ _ => ⟨_, rfl, rfl⟩
theorem pv_ers {T : TypeId} {K : Kd α} {b : Nat} {x : α} (i : Nat) (hi : L[i]? = some (Pfl K b 0 x)) : PV (Kd.erp T K) (.iface T (.pointer (some ⟨b, 0, none⟩))) (some x) L := fun m φ ho => by
  obtain ⟨f, _, h⟩ := ho.get hi
  exact ⟨_, ⟨b, rfl, h⟩, rfl⟩
theorem Val_erp {T : TypeId} {K : Kd α} {m φ : Frag} {v : Value} {x : Option α} (h : (Val (Kd.erp T K) v x).H m φ) : (x = none ∧ v = .nilIface) ∨ ∃ a b, x = some a ∧ v = .iface T (.pointer (some ⟨b, 0, none⟩)) ∧ (Pfl K b 0 a).H m Frag.emp := by
  obtain ⟨cs, h, rfl⟩ := h
  cases x with
  | none => exact .inl ⟨rfl, by rw [show cs = _ from h]; rfl⟩
  | some a => obtain ⟨b, rfl, k⟩ := h; exact .inr ⟨a, b, rfl, rfl, k⟩
def isIf (P : Program) (t : TypeId) : Bool := match P.underlying t with | some (.interface _) => true | _ => false
theorem isIf_spec {t : TypeId} (h : isIf P t = true) : ∃ ms, P.underlying t = some (.interface ms) := by
  unfold isIf at h
  split at h
  · rename_i ms hm; exact ⟨ms, hm⟩
  · cases h
theorem run_eqi_nn (d : Nat) {t : TypeId} {ms} (ht : P.underlying t = some (.interface ms)) (w : World) : (Op.equalIn (d + 1) t .nilIface .nilIface).run P w = .ok true w := by
  simp [Op.equalIn, run_underlying ht]
theorem run_eqi_sn (d : Nat) {t T : TypeId} {x : Value} {ms} (ht : P.underlying t = some (.interface ms)) (w : World) : (Op.equalIn (d + 1) t (.iface T x) .nilIface).run P w = .ok false w := by
  simp [Op.equalIn, run_underlying ht]
theorem run_eq_nn {t : TypeId} {ms} (ht : P.underlying t = some (.interface ms)) (w : World) : (Op.equal t .nilIface .nilIface).run P w = .ok true w := run_eqi_nn 9999 ht w
theorem run_eq_sn {t T : TypeId} {x : Value} {ms} (ht : P.underlying t = some (.interface ms)) (w : World) : (Op.equal t (.iface T x) .nilIface).run P w = .ok false w := run_eqi_sn 9999 ht w
/-- err == nil, err != nil -/
theorem o_erz {t u T : TypeId} {x : Operand} {K : Kd α} {v : Value} {y : Option α} (i : Nat) (hx : opv E x = some v) (hi : L[i]? = some (Val (Kd.erp T K) v y)) (ht : isIf P t = true) :
    OpS (σ := Unit) P E L ⟨d, .binOp .eql t x (.const .nilIface) u, ty, pos, aft, g⟩ (fun _ => .bool y.isNone) (fun _ => L) :=
  .run fun n F a w hs hm => by
    obtain ⟨ms, ht⟩ := isIf_spec ht
    obtain ⟨m, φ, hm1, hf1, he⟩ := hm.get hi
    have hc : a.eval (.const .nilIface) = .nilIface := rfl
    refine ⟨(), w, ?_, hm⟩
    rcases Val_erp he with ⟨rfl, rfl⟩ | ⟨a', b, rfl, rfl, _⟩
    · simp [execOp, hs.eval hx, hc, eqGuard, binOp, run_eq_nn ht]
    · simp [execOp, hs.eval hx, hc, eqGuard, binOp, run_eq_sn ht]
theorem o_ern {t u T : TypeId} {x : Operand} {K : Kd α} {v : Value} {y : Option α} (i : Nat) (hx : opv E x = some v) (hi : L[i]? = some (Val (Kd.erp T K) v y)) (ht : isIf P t = true) :
    OpS (σ := Unit) P E L ⟨d, .binOp .neq t x (.const .nilIface) u, ty, pos, aft, g⟩ (fun _ => .bool (!y.isNone)) (fun _ => L) :=
  .run fun n F a w hs hm => by
    obtain ⟨ms, ht⟩ := isIf_spec ht
    obtain ⟨m, φ, hm1, hf1, he⟩ := hm.get hi
    have hc : a.eval (.const .nilIface) = .nilIface := rfl
    refine ⟨(), w, ?_, hm⟩
    rcases Val_erp he with ⟨rfl, rfl⟩ | ⟨a', b, rfl, rfl, _⟩
    · simp [execOp, hs.eval hx, hc, eqGuard, binOp, run_eq_nn ht]
    · simp [execOp, hs.eval hx, hc, eqGuard, binOp, run_eq_sn ht]
end
end Go.SL
