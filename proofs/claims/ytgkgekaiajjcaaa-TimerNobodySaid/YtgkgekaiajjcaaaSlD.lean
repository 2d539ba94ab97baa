/- Operations that look at no memory, or that only read; each rule states its own conditions. -/
import Derived.Test.YtgkgekaiajjcaaaSlC
import Derived.Laws.StructEq
import Derived.Laws.Strings
import Derived.Laws.Small
namespace Go.SL
open Go Go.RowKit
set_option linter.unusedVariables false
set_option linter.unusedSimpArgs false

section
variable {P : Program} {E : List (Nat × Value)} {L : List Ent}
theorem OpS.pure {o : Oper} {v : Value} (h : ∀ n a w, Sl n E a → (execOp a.eval o).run P w = .ok (.value v) w) : OpS (σ := Unit) P E L o (fun _ => v) (fun _ => L) := fun n F a w hs hm => by
  unfold Oper.wp
  rw [h n a w hs]
  exact ⟨(), rfl, hm⟩
theorem OpS.run {σ : Type} {o : Oper} {ret : σ → Value} {out : σ → List Ent} (h : ∀ n F a w, Sl n E a → Mem F L w → ∃ s w', (execOp a.eval o).run P w = .ok (.value (ret s)) w' ∧ Mem F (out s) w') : OpS P E L o ret out := fun n F a w hs hm => by
  obtain ⟨s, w', hr, hm'⟩ := h n F a w hs hm
  unfold Oper.wp
  rw [hr]
  exact ⟨s, rfl, hm'⟩
theorem OpS.skip {σ : Type} {o : Oper} {out : σ → List Ent} (h : ∀ n F a w, Sl n E a → Mem F L w → ∃ s w', (execOp a.eval o).run P w = .ok .skip w' ∧ Mem F (out s) w') : OpS P E L o (fun _ => undef) out := fun n F a w hs hm => by
  obtain ⟨s, w', hr, hm'⟩ := h n F a w hs hm
  unfold Oper.wp
  rw [hr]
  exact ⟨s, rfl, hm'⟩
variable {d : Option Tmp} {ty : TypeId} {pos : String} {aft : Array Edge} {g : Option (Nat × Bool)}
theorem o_move {x : Operand} {v : Value} (hx : opv E x = some v) : OpS (σ := Unit) P E L ⟨d, .move x, ty, pos, aft, g⟩ (fun _ => v) (fun _ => L) :=
  .pure fun n a w hs => by simp [execOp, hs.eval hx]
theorem o_assign {x : Operand} {v : Value} (hx : opv E x = some v) : OpS (σ := Unit) P E L ⟨d, .assign x, ty, pos, aft, g⟩ (fun _ => v) (fun _ => L) :=
  .pure fun n a w hs => by simp [execOp, hs.eval hx]
/-- An assignment, the value under another spelling. -/
theorem o_assign' {x : Operand} {v v' : Value} (hx : opv E x = some v) (he : v = v') : OpS (σ := Unit) P E L ⟨d, .assign x, ty, pos, aft, g⟩ (fun _ => v') (fun _ => L) :=
  he ▸ o_assign hx
def ibin (op : BinOp) (k : IntKind) (p q : Int) : Option Value :=
  match op with
  | .add => some (.int k (k.wrap (p + q)))
  | .sub => some (.int k (k.wrap (p - q)))
  | .mul => some (.int k (k.wrap (p * q)))
  | .and => some (.int k (bits .and k p q))
  | .or => some (.int k (bits .or k p q))
  | .xor => some (.int k (bits .xor k p q))
  | .andNot => some (.int k (bits .andNot k p q))
  | .eql => some (.bool (decide (p = q)))
  | .neq => some (.bool (!decide (p = q)))
  | .lss => some (.bool (decide (p < q)))
  | .leq => some (.bool (decide (p ≤ q)))
  | .gtr => some (.bool (decide (q < p)))
  | .geq => some (.bool (decide (q ≤ p)))
  | _ => none
theorem o_bin {op : BinOp} {t u : TypeId} {x y : Operand} {k : IntKind} {p q : Int} {v : Value} (hx : opv E x = some (.int k p)) (hy : opv E y = some (.int k q)) (h : ibin op k p q = some v) :
    OpS (σ := Unit) P E L ⟨d, .binOp op t x y u, ty, pos, aft, g⟩ (fun _ => v) (fun _ => L) :=
  .pure fun n a w hs => by
    have e1 := hs.eval hx
    have e2 := hs.eval hy
    cases op <;> simp only [ibin, Option.some.injEq, reduceCtorEq] at h <;> subst h <;> simp [execOp, e1, e2, eqGuard, binOp, Op.intArith, Op.intCmp, intBits_and, intBits_or, intBits_xor, intBits_andNot]
    all_goals first | rfl | (by_cases hpq : p = q <;> simp [hpq])
def ishl (k : IntKind) (p q : Int) : Int := k.wrap (p * 2 ^ min q.toNat k.bits)
def ishr (k : IntKind) (p q : Int) : Int := p / 2 ^ min q.toNat k.bits
theorem o_shl {t u : TypeId} {x y : Operand} {k yk : IntKind} {p q : Int} (hx : opv E x = some (.int k p)) (hy : opv E y = some (.int yk q)) (h : 0 ≤ q) :
    OpS (σ := Unit) P E L ⟨d, .binOp .shl t x y u, ty, pos, aft, g⟩ (fun _ => .int k (ishl k p q)) (fun _ => L) :=
  .pure fun n a w hs => by
    have hn : ¬ q < 0 := by omega
    simp [execOp, hs.eval hx, hs.eval hy, eqGuard, binOp, Op.shift, hn, ishl]
theorem o_shr {t u : TypeId} {x y : Operand} {k yk : IntKind} {p q : Int} (hx : opv E x = some (.int k p)) (hy : opv E y = some (.int yk q)) (h : 0 ≤ q) :
    OpS (σ := Unit) P E L ⟨d, .binOp .shr t x y u, ty, pos, aft, g⟩ (fun _ => .int k (ishr k p q)) (fun _ => L) :=
  .pure fun n a w hs => by
    have hn : ¬ q < 0 := by omega
    have hp : (0 : Int) ≤ 2 ^ min q.toNat k.bits := Int.pow_nonneg (by decide)
    simp [execOp, hs.eval hx, hs.eval hy, eqGuard, binOp, Op.shift, hn, ishr, Int.fdiv_eq_ediv_of_nonneg _ hp]
theorem o_quo {t u : TypeId} {x y : Operand} {k : IntKind} {p q : Int} (hx : opv E x = some (.int k p)) (hy : opv E y = some (.int k q)) (h : q ≠ 0) :
    OpS (σ := Unit) P E L ⟨d, .binOp .quo t x y u, ty, pos, aft, g⟩ (fun _ => .int k (k.wrap (p.tdiv q))) (fun _ => L) :=
  .pure fun n a w hs => by simp [execOp, hs.eval hx, hs.eval hy, eqGuard, binOp, Op.intDiv, h]
theorem o_rem {t u : TypeId} {x y : Operand} {k : IntKind} {p q : Int} (hx : opv E x = some (.int k p)) (hy : opv E y = some (.int k q)) (h : q ≠ 0) :
    OpS (σ := Unit) P E L ⟨d, .binOp .rem t x y u, ty, pos, aft, g⟩ (fun _ => .int k (p.tmod q)) (fun _ => L) :=
  .pure fun n a w hs => by simp [execOp, hs.eval hx, hs.eval hy, eqGuard, binOp, Op.intDiv, h]
theorem o_not {t : TypeId} {x : Operand} {b : Bool} (hx : opv E x = some (.bool b)) : OpS (σ := Unit) P E L ⟨d, .unOp .not t x, ty, pos, aft, g⟩ (fun _ => .bool (!b)) (fun _ => L) :=
  .pure fun n a w hs => by simp [execOp, hs.eval hx, Op.unary]
theorem o_neg {t : TypeId} {x : Operand} {k : IntKind} {p : Int} (hx : opv E x = some (.int k p)) : OpS (σ := Unit) P E L ⟨d, .unOp .neg t x, ty, pos, aft, g⟩ (fun _ => .int k (k.wrap (0 - p))) (fun _ => L) :=
  .pure fun n a w hs => by simp [execOp, hs.eval hx, Op.unary, Op.intArith]
theorem o_cnot {t : TypeId} {x : Operand} {k : IntKind} {p : Int} (hx : opv E x = some (.int k p)) : OpS (σ := Unit) P E L ⟨d, .unOp .xor t x, ty, pos, aft, g⟩ (fun _ => .int k (bits .xor k (if k.signed then -1 else k.max) p)) (fun _ => L) :=
  .pure fun n a w hs => by simp [execOp, hs.eval hx, Op.unary, intBits_xor]
theorem o_conv {s t : TypeId} {x : Operand} {k k' : IntKind} {p : Int} (hx : opv E x = some (.int k p)) (hs : (P.underlying s).isSome = true) (ht : P.underlying t = some (.int k')) :
    OpS (σ := Unit) P E L ⟨d, .convert s t x, ty, pos, aft, g⟩ (fun _ => .int k' (k'.wrap p)) (fun _ => L) :=
  .pure fun n a w hS => by
    obtain ⟨u, hu⟩ := Option.isSome_iff_exists.mp hs
    simp [execOp, hS.eval hx, convert, run_underlying hu, run_underlying ht, Conv.intToInt]
theorem o_pick {c x y : Operand} {b : Bool} {u v : Value} (hc : opv E c = some (.bool b)) (hx : opv E x = some u) (hy : opv E y = some v) :
    OpS (σ := Unit) P E L ⟨d, .pick c x y, ty, pos, aft, g⟩ (fun _ => if b then u else v) (fun _ => L) :=
  .pure fun n a w hs => by cases b <;> simp [execOp, hs.eval hc, hs.eval hx, hs.eval hy, asBool]
theorem o_extract {x : Operand} {i : Nat} {vs : Array Value} {v : Value} (hx : opv E x = some (.tuple vs)) (hi : vs[i]? = some v) :
    OpS (σ := Unit) P E L ⟨d, .extract x i, ty, pos, aft, g⟩ (fun _ => v) (fun _ => L) :=
  .pure fun n a w hs => by simp [execOp, hs.eval hx, Instr.extract, hi]
theorem o_makeFunc {fn : Go.Fn} {caps : Array Operand} {vs : List Value} (hc : caps.toList.map (opv E) = vs.map some) :
    OpS (σ := Unit) P E L ⟨d, Op.makeFunc fn #[] caps, ty, pos, aft, g⟩ (fun _ => .func fn #[] vs.toArray) (fun _ => L) :=
  .pure fun n a w hs => by
    have : caps.map a.eval = vs.toArray := by
      apply Array.ext'
      simp only [Array.toList_map]
      generalize caps.toList = cl at hc
      induction cl generalizing vs with
      | nil => cases vs with | nil => rfl | cons _ _ => cases hc
      | cons x cl ih =>
        cases vs with
        | nil => cases hc
        | cons v vs =>
          simp only [List.map_cons, List.cons.injEq] at hc
          simp only [List.map_cons, hs.eval hc.1, ih hc.2]
    simp [execOp, Instr.makeFunc, this]
theorem o_iface {t : TypeId} {x : Operand} {v : Value} {u : TypeDesc} (hx : opv E x = some v) (ht : P.underlying t = some u) (hu : (match u with | .interface _ => false | _ => true) = true) :
    OpS (σ := Unit) P E L ⟨d, .makeInterface t x, ty, pos, aft, g⟩ (fun _ => .iface t v) (fun _ => L) :=
  .pure fun n a w hs => by
    cases u <;> simp_all [execOp, hs.eval hx, Instr.makeInterface, run_underlying ht]
theorem o_eqb {t u : TypeId} {x y : Operand} {p q : Bool} (hx : opv E x = some (.bool p)) (hy : opv E y = some (.bool q)) (ht : P.underlying t = some .bool) :
    OpS (σ := Unit) P E L ⟨d, .binOp .eql t x y u, ty, pos, aft, g⟩ (fun _ => .bool (p == q)) (fun _ => L) :=
  .pure fun n a w hs => by simp [execOp, hs.eval hx, hs.eval hy, eqGuard, binOp, run_equal_bool _ _ _ _ ht]
theorem o_neb {t u : TypeId} {x y : Operand} {p q : Bool} (hx : opv E x = some (.bool p)) (hy : opv E y = some (.bool q)) (ht : P.underlying t = some .bool) :
    OpS (σ := Unit) P E L ⟨d, .binOp .neq t x y u, ty, pos, aft, g⟩ (fun _ => .bool (!(p == q))) (fun _ => L) :=
  .pure fun n a w hs => by simp [execOp, hs.eval hx, hs.eval hy, eqGuard, binOp, run_equal_bool _ _ _ _ ht]
/-! Strings -/
theorem toNat_inR {b : Int} (h : InR .u8 b) : 0 ≤ b ∧ b < 256 := by
  unfold InR at h
  simp only [IntKind.wrap, IntKind.bits, IntKind.signed] at h
  simp at h
  omega
theorem mkS_list {x : List Int} : (mkS x).toList = x.map fun b => UInt8.ofNat b.toNat := by
  rw [ByteArray.toList_eq]; simp [mkS]
theorem mkS_size {x : List Int} : (mkS x).size = x.length := by simp [mkS, ByteArray.size]
theorem byte_inj {a b : Int} (ha : InR .u8 a) (hb : InR .u8 b) (h : UInt8.ofNat a.toNat = UInt8.ofNat b.toNat) : a = b := by
  have h1 := toNat_inR ha
  have h2 := toNat_inR hb
  have := congrArg UInt8.toNat h
  simp at this
  omega
theorem mkS_inj {x y : List Int} (hx : Bs x) (hy : Bs y) (h : (mkS x).toList = (mkS y).toList) : x = y := by
  rw [mkS_list, mkS_list] at h
  induction x generalizing y with
  | nil => cases y with | nil => rfl | cons _ _ => simp at h
  | cons a x ih =>
    cases y with
    | nil => simp at h
    | cons b y =>
      simp only [List.map_cons, List.cons.injEq] at h
      rw [byte_inj (hx a (by simp)) (hy b (by simp)) h.1, ih (fun c hc => hx c (by simp [hc])) (fun c hc => hy c (by simp [hc])) h.2]
theorem mkS_beq {x y : List Int} (hx : Bs x) (hy : Bs y) : ((mkS x).toList == (mkS y).toList) = decide (x = y) := by
  by_cases h : x = y
  · subst h; simp
  · have : (mkS x).toList ≠ (mkS y).toList := fun e => h (mkS_inj hx hy e)
    simp [h, this]
theorem o_eqs {t u : TypeId} {x y : Operand} {p q : List Int} (hx : opv E x = some (.string (mkS p))) (hy : opv E y = some (.string (mkS q))) (hp : Bs p) (hq : Bs q) :
    OpS (σ := Unit) P E L ⟨d, .binOp .eql t x y u, ty, pos, aft, g⟩ (fun _ => .bool (decide (p = q))) (fun _ => L) :=
  .pure fun n a w hs => by simp [execOp, hs.eval hx, hs.eval hy, eqGuard, binOp, Op.stringOp, mkS_beq hp hq]
theorem o_nes {t u : TypeId} {x y : Operand} {p q : List Int} (hx : opv E x = some (.string (mkS p))) (hy : opv E y = some (.string (mkS q))) (hp : Bs p) (hq : Bs q) :
    OpS (σ := Unit) P E L ⟨d, .binOp .neq t x y u, ty, pos, aft, g⟩ (fun _ => .bool (!decide (p = q))) (fun _ => L) :=
  .pure fun n a w hs => by
    simp [execOp, hs.eval hx, hs.eval hy, eqGuard, binOp, Op.stringOp, mkS_beq hp hq]
theorem o_lens {t : TypeId} {x : Operand} {p : List Int} (hx : opv E x = some (.string (mkS p))) (ht : P.underlying t = some .string) :
    OpS (σ := Unit) P E L ⟨d, .call { callee := .builtin .len, args := #[x], argTypes := #[t] }, ty, pos, aft, g⟩ (fun _ => .int .i64 (p.length : Int)) (fun _ => L) :=
  .pure fun n a w hs => by simp [execOp, hs.eval hx, resolve, invoke, builtin, Builtin.len_, run_underlying ht, goInt, mkS_size]
end
end Go.SL
