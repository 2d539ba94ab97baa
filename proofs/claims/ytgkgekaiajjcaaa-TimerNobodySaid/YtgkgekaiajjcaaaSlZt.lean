/- The walk in short words; each rule states its own conditions. -/
import Derived.Test.YtgkgekaiajjcaaaSlZc
namespace Go.SL
open Go Go.RowKit
set_option linter.unusedVariables false
set_option linter.unusedSimpArgs false

/-! ### Operations that look at no world, one by one -/
section
variable {P : Program} {E : List (Nat × Value)} {L : List Ent}
def OpV {σ : Type} (P : Program) (E : List (Nat × Value)) (L : List Ent) (o : Oper) (ret : σ → Value) (out : σ → List Ent) : Prop :=
  ∀ (n : Nat) (F : Fr) (a : Act) (w : World), Sl n E a → Mem F L w → ∃ s, (∀ w', (execOp a.eval o).run P w' = .ok (.value (ret s)) w') ∧ Mem F (out s) w
theorem OpV.pure {o : Oper} {v : Value} (h : ∀ n a w, Sl n E a → (execOp a.eval o).run P w = .ok (.value v) w) : OpV (σ := Unit) P E L o (fun _ => v) (fun _ => L) := fun n F a w hs hm => ⟨(), fun w' => h n a w' hs, hm⟩
variable {d : Option Tmp} {ty : TypeId} {pos : String} {aft : Array Edge} {g : Option (Nat × Bool)}
theorem v_bin {op : BinOp} {t u : TypeId} {x y : Operand} {k : IntKind} {p q : Int} {v : Value} (hx : opv E x = some (.int k p)) (hy : opv E y = some (.int k q)) (h : ibin op k p q = some v) :
    OpV (σ := Unit) P E L ⟨d, .binOp op t x y u, ty, pos, aft, g⟩ (fun _ => v) (fun _ => L) :=
  .pure fun n a w hs => by
    have e1 := hs.eval hx
    have e2 := hs.eval hy
    cases op <;> simp only [ibin, Option.some.injEq, reduceCtorEq] at h <;> subst h <;> simp [execOp, e1, e2, eqGuard, binOp, Op.intArith, Op.intCmp, intBits_and, intBits_or, intBits_xor, intBits_andNot]
    all_goals first | rfl | (by_cases hpq : p = q <;> simp [hpq])
theorem v_shl {t u : TypeId} {x y : Operand} {k yk : IntKind} {p q : Int} (hx : opv E x = some (.int k p)) (hy : opv E y = some (.int yk q)) (h : 0 ≤ q) :
    OpV (σ := Unit) P E L ⟨d, .binOp .shl t x y u, ty, pos, aft, g⟩ (fun _ => .int k (ishl k p q)) (fun _ => L) :=
  .pure fun n a w hs => by
    have hn : ¬ q < 0 := by omega
    simp [execOp, hs.eval hx, hs.eval hy, eqGuard, binOp, Op.shift, hn, ishl]
theorem v_shr {t u : TypeId} {x y : Operand} {k yk : IntKind} {p q : Int} (hx : opv E x = some (.int k p)) (hy : opv E y = some (.int yk q)) (h : 0 ≤ q) :
    OpV (σ := Unit) P E L ⟨d, .binOp .shr t x y u, ty, pos, aft, g⟩ (fun _ => .int k (ishr k p q)) (fun _ => L) :=
  .pure fun n a w hs => by
    have hn : ¬ q < 0 := by omega
    have hp : (0 : Int) ≤ 2 ^ min q.toNat k.bits := Int.pow_nonneg (by decide)
    simp [execOp, hs.eval hx, hs.eval hy, eqGuard, binOp, Op.shift, hn, ishr, Int.fdiv_eq_ediv_of_nonneg _ hp]
theorem v_quo {t u : TypeId} {x y : Operand} {k : IntKind} {p q : Int} (hx : opv E x = some (.int k p)) (hy : opv E y = some (.int k q)) (h : q ≠ 0) :
    OpV (σ := Unit) P E L ⟨d, .binOp .quo t x y u, ty, pos, aft, g⟩ (fun _ => .int k (k.wrap (p.tdiv q))) (fun _ => L) :=
  .pure fun n a w hs => by simp [execOp, hs.eval hx, hs.eval hy, eqGuard, binOp, Op.intDiv, h]
theorem v_rem {t u : TypeId} {x y : Operand} {k : IntKind} {p q : Int} (hx : opv E x = some (.int k p)) (hy : opv E y = some (.int k q)) (h : q ≠ 0) :
    OpV (σ := Unit) P E L ⟨d, .binOp .rem t x y u, ty, pos, aft, g⟩ (fun _ => .int k (p.tmod q)) (fun _ => L) :=
  .pure fun n a w hs => by simp [execOp, hs.eval hx, hs.eval hy, eqGuard, binOp, Op.intDiv, h]
theorem v_conv {s t : TypeId} {x : Operand} {k k' : IntKind} {p : Int} (hx : opv E x = some (.int k p)) (hs : (P.underlying s).isSome = true) (ht : P.underlying t = some (.int k')) :
    OpV (σ := Unit) P E L ⟨d, .convert s t x, ty, pos, aft, g⟩ (fun _ => .int k' (k'.wrap p)) (fun _ => L) :=
  .pure fun n a w hS => by
    obtain ⟨u, hu⟩ := Option.isSome_iff_exists.mp hs
    simp [execOp, hS.eval hx, convert, run_underlying hu, run_underlying ht, Conv.intToInt]
theorem v_convw {s t : TypeId} {x : Operand} {k k' : IntKind} {p : Int} (hx : opv E x = some (.int k p)) (hs : (P.underlying s).isSome = true) (ht : P.underlying t = some (.int k')) (hp : InR k p) (hw : wid k k' = true) :
    OpV (σ := Unit) P E L ⟨d, .convert s t x, ty, pos, aft, g⟩ (fun _ => .int k' p) (fun _ => L) := by
  have := v_conv (P := P) (L := L) (d := d) (ty := ty) (pos := pos) (aft := aft) (g := g) hx hs ht
  rw [show k'.wrap p = p from inr_wid hp hw] at this
  exact this
theorem v_eqb {t u : TypeId} {x y : Operand} {p q : Bool} (hx : opv E x = some (.bool p)) (hy : opv E y = some (.bool q)) (ht : P.underlying t = some .bool) :
    OpV (σ := Unit) P E L ⟨d, .binOp .eql t x y u, ty, pos, aft, g⟩ (fun _ => .bool (p == q)) (fun _ => L) :=
  .pure fun n a w hs => by simp [execOp, hs.eval hx, hs.eval hy, eqGuard, binOp, run_equal_bool _ _ _ _ ht]
theorem v_neb {t u : TypeId} {x y : Operand} {p q : Bool} (hx : opv E x = some (.bool p)) (hy : opv E y = some (.bool q)) (ht : P.underlying t = some .bool) :
    OpV (σ := Unit) P E L ⟨d, .binOp .neq t x y u, ty, pos, aft, g⟩ (fun _ => .bool (!(p == q))) (fun _ => L) :=
  .pure fun n a w hs => by simp [execOp, hs.eval hx, hs.eval hy, eqGuard, binOp, run_equal_bool _ _ _ _ ht]
theorem v_eqs {t u : TypeId} {x y : Operand} {p q : List Int} (hx : opv E x = some (.string (mkS p))) (hy : opv E y = some (.string (mkS q))) (hp : Bs p) (hq : Bs q) :
    OpV (σ := Unit) P E L ⟨d, .binOp .eql t x y u, ty, pos, aft, g⟩ (fun _ => .bool (decide (p = q))) (fun _ => L) :=
  .pure fun n a w hs => by simp [execOp, hs.eval hx, hs.eval hy, eqGuard, binOp, Op.stringOp, mkS_beq hp hq]
theorem v_nes {t u : TypeId} {x y : Operand} {p q : List Int} (hx : opv E x = some (.string (mkS p))) (hy : opv E y = some (.string (mkS q))) (hp : Bs p) (hq : Bs q) :
    OpV (σ := Unit) P E L ⟨d, .binOp .neq t x y u, ty, pos, aft, g⟩ (fun _ => .bool (!decide (p = q))) (fun _ => L) :=
  .pure fun n a w hs => by simp [execOp, hs.eval hx, hs.eval hy, eqGuard, binOp, Op.stringOp, mkS_beq hp hq]
theorem v_erz {α : Type} {t u T : TypeId} {x : Operand} {K : Kd α} {v : Value} {y : Option α} (i : Nat) (hx : opv E x = some v) (hi : L[i]? = some (Val (Kd.erp T K) v y)) (ht : isIf P t = true) :
    OpV (σ := Unit) P E L ⟨d, .binOp .eql t x (.const .nilIface) u, ty, pos, aft, g⟩ (fun _ => .bool y.isNone) (fun _ => L) :=
  fun n F a w hs hm => by
    obtain ⟨ms, ht⟩ := isIf_spec ht
    obtain ⟨m, φ, hm1, hf1, he⟩ := hm.get hi
    have hc : a.eval (.const .nilIface) = .nilIface := rfl
    refine ⟨(), fun w' => ?_, hm⟩
    rcases Val_erp he with ⟨rfl, rfl⟩ | ⟨a', b, rfl, rfl, _⟩
    · simp [execOp, hs.eval hx, hc, eqGuard, binOp, run_eq_nn ht]
    · simp [execOp, hs.eval hx, hc, eqGuard, binOp, run_eq_sn ht]
theorem v_ern {α : Type} {t u T : TypeId} {x : Operand} {K : Kd α} {v : Value} {y : Option α} (i : Nat) (hx : opv E x = some v) (hi : L[i]? = some (Val (Kd.erp T K) v y)) (ht : isIf P t = true) :
    OpV (σ := Unit) P E L ⟨d, .binOp .neq t x (.const .nilIface) u, ty, pos, aft, g⟩ (fun _ => .bool (!y.isNone)) (fun _ => L) :=
  fun n F a w hs hm => by
    obtain ⟨ms, ht⟩ := isIf_spec ht
    obtain ⟨m, φ, hm1, hf1, he⟩ := hm.get hi
    have hc : a.eval (.const .nilIface) = .nilIface := rfl
    refine ⟨(), fun w' => ?_, hm⟩
    rcases Val_erp he with ⟨rfl, rfl⟩ | ⟨a', b, rfl, rfl, _⟩
    · simp [execOp, hs.eval hx, hc, eqGuard, binOp, run_eq_nn ht]
    · simp [execOp, hs.eval hx, hc, eqGuard, binOp, run_eq_sn ht]
end
section
variable {P : Program} {E : List (Nat × Value)} {L : List Ent} {d : Option Tmp} {ty : TypeId} {pos : String} {aft : Array Edge} {g : Option (Nat × Bool)}
theorem fa {t : TypeId} {x : Operand} {i off b o n : Nat} {bb : Bool} (hx : opv E x = some (.pointer (some ⟨b, o, none⟩))) (hf : fldI P t i = some (off, bb, n)) (hn : Nat.beq n 0 = false := by rfl) :
    OpS (σ := Unit) P E L ⟨d, .fieldAddr t x i, ty, pos, aft, g⟩ (fun _ => .pointer (some ⟨b, o + off, none⟩)) (fun _ => L) := o_fa hx hf hn rfl
end
/-! ### The walk -/
/-- An operation that needs no proof of its own that it looks at no world. -/
class NV (m : Bool) (op : Op) : Prop where
  h : (m && isV op) = false
instance nv_false {op : Op} : NV false op := ⟨rfl⟩
instance {m x} : NV m (.move x) := ⟨by cases m <;> rfl⟩
instance {m x} : NV m (.assign x) := ⟨by cases m <;> rfl⟩
instance {m x y z} : NV m (.pick x y z) := ⟨by cases m <;> rfl⟩
instance {m x} : NV m (.alloc x) := ⟨by cases m <;> rfl⟩
instance {m x y} : NV m (.box x y) := ⟨by cases m <;> rfl⟩
instance {m x y} : NV m (.build x y) := ⟨by cases m <;> rfl⟩
instance {m x y z} : NV m (.buildSlice x y z) := ⟨by cases m <;> rfl⟩
instance {m x y} : NV m (.load x y) := ⟨by cases m <;> rfl⟩
instance {m x y z} : NV m (.store x y z) := ⟨by cases m <;> rfl⟩
instance {m x} : NV m (.nilCheck x) := ⟨by cases m <;> rfl⟩
instance {m x y z} : NV m (.unOp x y z) := ⟨by cases m <;> rfl⟩
instance {m x y} : NV m (.makeInterface x y) := ⟨by cases m <;> rfl⟩
instance {m x y z} : NV m (.makeFunc x y z) := ⟨by cases m <;> rfl⟩
instance {m x y} : NV m (.makeMap x y) := ⟨by cases m <;> rfl⟩
instance {m x y z} : NV m (.makeSlice x y z) := ⟨by cases m <;> rfl⟩
instance {m x y z u v} : NV m (.slice x y z u v) := ⟨by cases m <;> rfl⟩
instance {m x y z} : NV m (.fieldAddr x y z) := ⟨by cases m <;> rfl⟩
instance {m x y z} : NV m (.field x y z) := ⟨by cases m <;> rfl⟩
instance {m x y z} : NV m (.indexAddr x y z) := ⟨by cases m <;> rfl⟩
instance {m x y z} : NV m (.index x y z) := ⟨by cases m <;> rfl⟩
instance {m x y z u} : NV m (.lookup x y z u) := ⟨by cases m <;> rfl⟩
instance {m x y z u} : NV m (.mapUpdate x y z u) := ⟨by cases m <;> rfl⟩
instance {m x y z u} : NV m (.typeAssert x y z u) := ⟨by cases m <;> rfl⟩
instance {m x y} : NV m (.extract x y) := ⟨by cases m <;> rfl⟩
instance {m x} : NV m (.call x) := ⟨by cases m <;> rfl⟩
/-- Each one's slot is there. -/
def dsts (n : Nat) : List Oper → Bool
  | [] => true
  | o :: os => (match o.dst with | some d => Nat.blt d n | none => true) && dsts n os
/-- The rest of a region: 'false': one that is walked in the text's order; 'true': one whose order is drawn. -/
def GoM (m : Bool) (n : Nat) (P : Program) (f : Bas) (ops : Array Oper) (i : Nat) (os : List Oper) (k : List Item) (a : Act) (w : World) (R : Ending → World → Prop) : Prop := dsts n os = true → match m with
  | false => GoR P f ops i os k a w R
  | true => GoC P f ops i os k a w R
def T (n : Nat) (F : Fr) (E : List (Nat × Value)) (L : List Ent) (Φ : Act → World → Prop) : Prop := ∀ a w, St n F E L a w → Φ a w
section
variable {P : Program} {f : Bas} {k : List Item} {R : Ending → World → Prop} {n : Nat} {F : Fr} {E : List (Nat × Value)} {L : List Ent} {m : Bool} {ops : Array Oper} {i : Nat} {os : List Oper}
theorem T.go {Φ : Act → World → Prop} {a : Act} {w : World} (h : St n F E L a w) (t : T n F E L Φ) : Φ a w := t a w h
theorem T.gg {a : Act} {w : World} (h : St n F E L a w) (t : T n F E L fun a w => Go P f k a w R) : Go P f k a w R := t a w h
theorem T.gr {a : Act} {w : World} (h : St n F E L a w) (t : T n F E L fun a w => GoR P f ops i os k a w R) : GoR P f ops i os k a w R := t a w h
theorem T.gm {a : Act} {w : World} (h : St n F E L a w) (t : T n F E L fun a w => GoM m n P f ops i os k a w R) : GoM m n P f ops i os k a w R := t a w h
theorem GoC.op {o : Oper} {a : Act} {w : World} (h : ops[i]? = some o → stC P ops (fun e a w => e = .normal ∧ Go P f k a w R) i (fun a w => GoC P f ops (i + 1) os k a w R) a w) : GoC P f ops i (o :: os) k a w R := by
  intro hd
  have ho : ops[i]? = some o := by
    have := congrArg (fun l => l[0]?) hd
    simpa using this
  have hd2 : ops.toList.drop (i + 1) = os := by
    rw [← List.drop_drop, hd]; rfl
  rw [List.length_cons, List.range'_succ]
  exact stC.mono (fun a w h => h hd2) (h ho)
theorem GoM.wp {o : Oper} {a : Act} {w : World} (hv : (m && isV o.op) = false) (hw : Region.wanted o (yielded ops a.tmps) = true) (h : dsts n (o :: os) = true → Oper.wp P o a w (fun a' w' => GoM m n P f ops (i + 1) os k a' w' R) (fun _ _ _ => False)) : GoM m n P f ops i (o :: os) k a w R := by
  intro hd
  have h := h hd
  have hd2 : dsts n os = true := by simp only [dsts, Bool.and_eq_true] at hd; exact hd.2
  cases m with
  | false => exact GoR.oper hw (Oper.wp_mono (fun a w h => h hd2) h)
  | true =>
    refine GoC.op fun ho => .of_wp ho (by simpa using hv) ?_
    unfold wpOp
    rw [ho]
    dsimp only
    rw [if_pos hw]
    exact .inl (wp_mono2 (fun a w h => h hd2) (fun _ _ _ h => h.elim) h)
theorem GoM.skip {o : Oper} {a : Act} {w : World} (hw : Region.wanted o (yielded ops a.tmps) = false) (h : dsts n (o :: os) = true → GoM m n P f ops (i + 1) os k (a.put o.dst undef) w R) : GoM m n P f ops i (o :: os) k a w R := by
  intro hd
  have h := h hd
  have hd2 : dsts n os = true := by simp only [dsts, Bool.and_eq_true] at hd; exact hd.2
  cases m with
  | false => exact GoR.skip hw (h hd2)
  | true =>
    refine GoC.op fun ho => ?_
    unfold stC
    rw [ho]
    dsimp only
    split
    · exact ⟨undef, .inr ⟨hw, rfl⟩, h hd2⟩
    · unfold wpOp
      rw [ho]
      dsimp only
      rw [if_neg (by rw [hw]; exact Bool.false_ne_true)]
      exact h hd2
theorem GoM.yi {o : Oper} {a : Act} {w : World} {v : Value} (hw : Region.wanted o (yielded ops a.tmps) = true) (hy : ∀ w, (execOp a.eval o).run P w = .ok (.value v) w) (h : dsts n (o :: os) = true → GoM m n P f ops (i + 1) os k (a.put o.dst v) w R) : GoM m n P f ops i (o :: os) k a w R := by
  intro hd
  have h := h hd
  have hd2 : dsts n os = true := by simp only [dsts, Bool.and_eq_true] at hd; exact hd.2
  cases m with
  | false => exact GoR.oper hw (by unfold Oper.wp; rw [hy w]; exact h hd2)
  | true =>
    refine GoC.op fun ho => ?_
    unfold stC
    rw [ho]
    dsimp only
    split
    · exact ⟨v, .inl ⟨hw, hy⟩, h hd2⟩
    · exact YAt.wpOp ho (.inl ⟨hw, hy w⟩) (h hd2)
theorem dsts_d {d : Nat} {o : Oper} (hd : dsts n (o :: os) = true) (ho : o.dst = some d) : d < n := by
  simp only [dsts, ho, Bool.and_eq_true] at hd
  exact Nat.le_of_ble_eq_true hd.1
/-- One operation. -/
theorem T.s {σ : Type} {d : Nat} {op : Op} {ty : TypeId} {pos : String} {aft : Array Edge} {ret : σ → Value} {out : σ → List Ent} [v : NV m op] (hop : OpS P E L ⟨some d, op, ty, pos, aft, none⟩ ret out) (K : ∀ s, T n F ((d, ret s) :: E) (out s) fun a w => GoM m n P f ops (i + 1) os k a w R) : T n F E L fun a w => GoM m n P f ops i (⟨some d, op, ty, pos, aft, none⟩ :: os) k a w R := fun a w h =>
  GoM.wp v.h rfl fun hd => (Oper.wp_mono (fun a' w' ⟨s, ha, hm⟩ => by subst ha; exact K s _ _ ⟨h.sl.put (dsts_d hd rfl) _, hm⟩) (hop n F a w h.sl h.mem))
theorem T.a {σ : Type} {d : Nat} {op : Op} {ty : TypeId} {pos : String} {aft : Array Edge} {ret : σ → Value} {out : σ → List Ent} [v : NV m op] (hop : OpS P E L ⟨some d, op, ty, pos, aft, none⟩ ret out) (K : ∀ {s}, T n F ((d, ret s) :: E) (out s) fun a w => GoM m n P f ops (i + 1) os k a w R) : T n F E L fun a w => GoM m n P f ops i (⟨some d, op, ty, pos, aft, none⟩ :: os) k a w R := T.s hop (fun _ => K)
/-- One that yields nothing. -/
theorem T.z {σ : Type} {op : Op} {ty : TypeId} {pos : String} {aft : Array Edge} {ret : σ → Value} {out : σ → List Ent} [v : NV m op] (hop : OpS P E L ⟨none, op, ty, pos, aft, none⟩ ret out) (K : ∀ {s}, T n F E (out s) fun a w => GoM m n P f ops (i + 1) os k a w R) : T n F E L fun a w => GoM m n P f ops i (⟨none, op, ty, pos, aft, none⟩ :: os) k a w R := fun a w h =>
  GoM.wp v.h rfl fun _ => (Oper.wp_mono (fun a' w' ⟨s, ha, hm⟩ => by subst ha; exact K _ _ ⟨h.sl, hm⟩) (hop n F a w h.sl h.mem))
theorem T.v {σ : Type} {d : Nat} {op : Op} {ty : TypeId} {pos : String} {aft : Array Edge} {ret : σ → Value} {out : σ → List Ent} (hop : OpV P E L ⟨some d, op, ty, pos, aft, none⟩ ret out) (K : ∀ {s}, T n F ((d, ret s) :: E) (out s) fun a w => GoM m n P f ops (i + 1) os k a w R) : T n F E L fun a w => GoM m n P f ops i (⟨some d, op, ty, pos, aft, none⟩ :: os) k a w R := fun a w h => by
  obtain ⟨s, hy, hm⟩ := hop n F a w h.sl h.mem
  exact GoM.yi rfl hy fun hd => K _ _ ⟨h.sl.put (dsts_d hd rfl) _, hm⟩
theorem T.mv {d : Nat} {ty : TypeId} {pos : String} {aft : Array Edge} {x : Operand} {v : Value} (hx : opv E x = some v) (K : T n F ((d, v) :: E) L fun a w => GoM m n P f ops (i + 1) os k a w R) : T n F E L fun a w => GoM m n P f ops i (⟨some d, .move x, ty, pos, aft, none⟩ :: os) k a w R := T.a (o_move hx) K
theorem wanted_of {o : Oper} {a : Act} {j dj : Nat} {want b : Bool} (h : Sl n E a) (hg : o.guard = some (j, want)) (hj : (ops[j]?).bind (·.dst) = some dj) (hb : look E dj = some (.bool b)) (hw : b = want) : Region.wanted o (yielded ops a.tmps) = true := by
  unfold Region.wanted
  rw [hg]
  dsimp only
  rw [yielded_of h hj hb, hw]
  simp [yB]
theorem unwanted_of {o : Oper} {a : Act} {j dj : Nat} {want : Bool} {v : Value} (h : Sl n E a) (hg : o.guard = some (j, want)) (hj : (ops[j]?).bind (·.dst) = some dj) (hb : look E dj = some v) (hw : notB v want = true) : Region.wanted o (yielded ops a.tmps) = false := by
  unfold Region.wanted
  rw [hg]
  dsimp only
  rw [yielded_of h hj hb]
  cases v <;> cases want <;> simp_all [notB, yB]
/-- One whose guard holds. -/
theorem T.gs {σ : Type} {d : Nat} {op : Op} {ty : TypeId} {pos : String} {aft : Array Edge} {ret : σ → Value} {out : σ → List Ent} {j dj : Nat} {want b : Bool} [v : NV m op] (hj : (ops[j]?).bind (·.dst) = some dj) (hb : look E dj = some (.bool b)) (hw : b = want) (hop : OpS P E L ⟨some d, op, ty, pos, aft, some (j, want)⟩ ret out) (K : ∀ s, T n F ((d, ret s) :: E) (out s) fun a w => GoM m n P f ops (i + 1) os k a w R) : T n F E L fun a w => GoM m n P f ops i (⟨some d, op, ty, pos, aft, some (j, want)⟩ :: os) k a w R := fun a w h =>
  GoM.wp v.h (wanted_of h.sl rfl hj hb hw) fun hd => (Oper.wp_mono (fun a' w' ⟨s, ha, hm⟩ => by subst ha; exact K s _ _ ⟨h.sl.put (dsts_d hd rfl) _, hm⟩) (hop n F a w h.sl h.mem))
theorem T.ga {σ : Type} {d : Nat} {op : Op} {ty : TypeId} {pos : String} {aft : Array Edge} {ret : σ → Value} {out : σ → List Ent} {j dj : Nat} {want b : Bool} [v : NV m op] (hj : (ops[j]?).bind (·.dst) = some dj) (hb : look E dj = some (.bool b)) (hw : b = want) (hop : OpS P E L ⟨some d, op, ty, pos, aft, some (j, want)⟩ ret out) (K : ∀ {s}, T n F ((d, ret s) :: E) (out s) fun a w => GoM m n P f ops (i + 1) os k a w R) : T n F E L fun a w => GoM m n P f ops i (⟨some d, op, ty, pos, aft, some (j, want)⟩ :: os) k a w R := T.gs hj hb hw hop (fun _ => K)
theorem T.gv {σ : Type} {d : Nat} {op : Op} {ty : TypeId} {pos : String} {aft : Array Edge} {ret : σ → Value} {out : σ → List Ent} {j dj : Nat} {want b : Bool} (hj : (ops[j]?).bind (·.dst) = some dj) (hb : look E dj = some (.bool b)) (hw : b = want) (hop : OpV P E L ⟨some d, op, ty, pos, aft, some (j, want)⟩ ret out) (K : ∀ {s}, T n F ((d, ret s) :: E) (out s) fun a w => GoM m n P f ops (i + 1) os k a w R) : T n F E L fun a w => GoM m n P f ops i (⟨some d, op, ty, pos, aft, some (j, want)⟩ :: os) k a w R := fun a w h => by
  obtain ⟨s, hy, hm⟩ := hop n F a w h.sl h.mem
  exact GoM.yi (wanted_of h.sl rfl hj hb hw) hy fun hd => K _ _ ⟨h.sl.put (dsts_d hd rfl) _, hm⟩
/-- One whose guard does not hold. -/
theorem T.gk {d : Nat} {op : Op} {ty : TypeId} {pos : String} {aft : Array Edge} {j dj : Nat} {want : Bool} {v : Value} (hj : (ops[j]?).bind (·.dst) = some dj) (hb : look E dj = some v) (hw : notB v want = true) (K : T n F ((d, undef) :: E) L fun a w => GoM m n P f ops (i + 1) os k a w R) : T n F E L fun a w => GoM m n P f ops i (⟨some d, op, ty, pos, aft, some (j, want)⟩ :: os) k a w R := fun a w h =>
  GoM.skip (unwanted_of h.sl rfl hj hb hw) fun hd => (K _ _ ⟨h.sl.put (dsts_d hd rfl) _, h.mem⟩)
theorem T.d (K : T n F E L fun a w => Go P f k a w R) : T n F E L fun a w => GoM m n P f ops i [] k a w R := fun a w h _ => by
  cases m with
  | false => exact GoR.done (K a w h)
  | true => exact fun _ => ⟨rfl, K a w h⟩
/-- Behind what was drawn. -/
theorem T.lo (hd : dsts n os = true) (K : T n F E L fun a w => GoM false n P f ops i os k a w R) : T n F E L fun a w => GoR P f ops i os k a w R := fun a w h => K a w h hd
/-- Regions. -/
theorem T.r {id : Nat} {os : List Oper} (hd : dsts n os = true) (K : T n F E L fun a w => GoM false n P f (List.toArray os) 0 os k a w R) : T n F E L fun a w => Go P f (.code (.region id (List.toArray os) false) :: k) a w R := fun a w h => Go.reg (K a w h hd)
theorem T.c {id : Nat} {os : List Oper} (hc : (SL.calm P os && dsts n os) = true) (hm : P.follows .mixedOrders = true) (K : T n F E L fun a w => GoM true n P f (List.toArray os) 0 os k a w R) : T n F E L fun a w => Go P f (.code (.region id (List.toArray os) true) :: k) a w R := fun a w h =>
  Go.calm (Bool.and_eq_true _ _ ▸ hc : _ ∧ _).1 hm fun e => K _ _ ⟨h.sl, by rw [e]; exact h.mem.drew'⟩ (Bool.and_eq_true _ _ ▸ hc : _ ∧ _).2
theorem T.q {x y : Code} (K : T n F E L fun a w => Go P f (.code x :: .code y :: k) a w R) : T n F E L fun a w => Go P f (.code (.seq x y) :: k) a w R := fun a w h => Go.seq (K a w h)
theorem T.qr {id : Nat} {os : List Oper} {y : Code} (hd : dsts n os = true) (K : T n F E L fun a w => GoM false n P f (List.toArray os) 0 os (.code y :: k) a w R) : T n F E L fun a w => Go P f (.code (.seq (.region id (List.toArray os) false) y) :: k) a w R := fun a w h => Go.seq (Go.reg (K a w h hd))
theorem T.qc {id : Nat} {os : List Oper} {y : Code} (hc : (SL.calm P os && dsts n os) = true) (hm : P.follows .mixedOrders = true) (K : T n F E L fun a w => GoM true n P f (List.toArray os) 0 os (.code y :: k) a w R) : T n F E L fun a w => Go P f (.code (.seq (.region id (List.toArray os) true) y) :: k) a w R := fun a w h => Go.seq (T.c hc hm K a w h)
theorem T.sk (K : T n F E L fun a w => Go P f k a w R) : T n F E L fun a w => Go P f (.code .skip :: k) a w R := fun a w h => Go.skip (K a w h)
theorem T.lb {l : Nat} (K : T n F E L fun a w => Go P f k a w R) : T n F E L fun a w => Go P f (.code (.label l) :: k) a w R := fun a w h => Go.label (K a w h)
theorem T.ib {id : Nat} (K : T n F E L fun a w => Go P f k a w R) : T n F E L fun a w => Go P f (.inBlock id :: k) a w R := fun a w h => Go.inBlock (K a w h)
theorem T.is {c : Code} (K : T n F E L fun a w => Go P f k a w R) : T n F E L fun a w => Go P f (.inScope c :: k) a w R := fun a w h => Go.inScope (K a w h)
theorem T.bl {id : Nat} {c : Code} (K : T n F E L fun a w => Go P f (.code c :: .inBlock id :: k) a w R) : T n F E L fun a w => Go P f (.code (.block id c) :: k) a w R := fun a w h => Go.block (K a w h)
theorem T.sc {c : Code} (K : T n F E L fun a w => Go P f (.code c :: .inScope c :: k) a w R) : T n F E L fun a w => Go P f (.code (.scope c) :: k) a w R := fun a w h => Go.scope (K a w h)
theorem T.ex {id : Nat} {k' : List Item} (hk : exitTo id k = some k') (K : T n F E L fun a w => Go P f k' a w R) : T n F E L fun a w => Go P f (.code (.exit id) :: k) a w R := fun a w h => Go.exit hk (K a w h)
theorem T.tt {c : Operand} {x y : Code} {b : Bool} (hx : opv E c = some (.bool b)) (hb : b = true) (K : T n F E L fun a w => Go P f (.code x :: k) a w R) : T n F E L fun a w => Go P f (.code (.cond c x y) :: k) a w R := fun a w h => g_t h hx hb (K a w h)
theorem T.ff {c : Operand} {x y : Code} {b : Bool} (hx : opv E c = some (.bool b)) (hb : ¬ b = true) (K : T n F E L fun a w => Go P f (.code y :: k) a w R) : T n F E L fun a w => Go P f (.code (.cond c x y) :: k) a w R := fun a w h => g_f h hx hb (K a w h)
end
section
variable {n : Nat} {F : Fr} {E : List (Nat × Value)} {L L' : List Ent} {Φ : Act → World → Prop}
/-- The entries turned over. -/
theorem T.mm (hm : ∀ {w}, Mem F L w → Mem F L' w) (K : T n F E L' Φ) : T n F E L Φ := fun a w h => K a w (h.mm hm)
/-- A fact out of the entries. -/
theorem T.u {p : Prop} (hp : ∀ {w}, Mem F L w → p) (K : p → T n F E L Φ) : T n F E L Φ := fun a w h => K (hp h.mem) a w h
theorem T.w (E' : List (Nat × Value)) (L' : List Ent) (is : List Nat) (hs : E'.map (fun p => look E p.1) = E'.map (fun p => some p.2)) (nd : is.Nodup) (hl : is.map (fun i => L[i]?) = L'.map some) (K : T n F E' L' Φ) : T n F E L Φ := fun a w h => K a w (h.wk hs is nd hl)
/-- At whatever state. -/
theorem T.at (K : ∀ {a w}, St n F E L a w → Φ a w) : T n F E L Φ := fun _ _ h => K h
end
section
variable {α β : Type} {Q : Prop}
theorem bE {e : Option α} {g : α → Option β} {r : β} (h : e.bind g = some r) (K : ∀ x, e = some x → g x = some r → Q) : Q := by
  obtain ⟨x, h1, h2⟩ := bindE h; exact K x h1 h2
theorem lE {e : α} {g : α → Option β} {r : β} (h : lt e g = some r) (K : ∀ x, e = x → g x = some r → Q) : Q := K _ rfl h
theorem sE {p : Prop} [Decidable p] {a : Option α} {r : α} (h : (if p then a else none) = some r) (K : p → a = some r → Q) : Q := by
  by_cases hp : p
  · rw [if_pos hp] at h; exact K hp h
  · rw [if_neg hp] at h; cases h
end
end Go.SL
