/- Rows of pointers to things of one's own, methods called through an interface, deletions from a map; each rule states its own conditions. -/
import Derived.Test.YtgkgekaiajjcaaaSlZt
import Derived.Test.YtgkgekaiajjcaaaSlHeap
namespace Go.SL
open Go Go.RowKit
set_option linter.unusedVariables false
set_option linter.unusedSimpArgs false
variable {α β κ : Type}
/-- A pointer, known by its block. -/
def Kd.adr : Kd Nat where
  n := 1
  agg := false
  C := fun _ _ x cs => cs = [pt x]
  len := fun h => by rw [h]; rfl
  one := fun h c hc => by rw [h] at hc; simp at hc; subst hc; rfl
  mono := fun _ _ h => h
  sgl := fun _ => rfl
theorem Per_adr : Kd.adr.Per := fun _ _ _ _ h => h
theorem X_adr : Kd.adr.X pt := fun _ _ _ _ h => ⟨h, rfl⟩
def pz : Option Nat → Value
  | none => .pointer none
  | some a => pt a
/-- A pointer, nil or known by its block. -/
def Kd.adrz : Kd (Option Nat) where
  n := 1
  agg := false
  C := fun _ _ x cs => cs = [pz x]
  len := fun h => by rw [h]; rfl
  one := fun {m φ x cs} h c hc => by rw [h] at hc; simp at hc; subst hc; cases x <;> rfl
  mono := fun _ _ h => h
  sgl := fun _ => rfl
theorem X_adrz : Kd.adrz.X pz := fun _ _ _ _ h => ⟨h, rfl⟩
section
variable {L : List Ent}
theorem pv_adr {a : Nat} : PV Kd.adr (pt a) a L := fun _ _ _ => ⟨_, rfl, rfl⟩
theorem pv_adrz {a : Option Nat} : PV Kd.adrz (pz a) a L := fun _ _ _ => ⟨_, rfl, rfl⟩
/-- Many entries, as one. -/
def Big (es : List Ent) : Ent := ⟨fun m φ => Own es m φ, fun a b h => h.mono a b⟩
theorem Mem.btake {F : Fr} {w : World} {es : List Ent} {e : Ent} (q i : Nat) (hq : L[q]? = some (Big es)) (hi : es[i]? = some e) (h : Mem F L w) : Mem F (e :: L.set q (Big (es.set i Ent.nul))) w := h.map fun m φ o => by
  obtain ⟨f1, f2, a, b, d, hB, _, hset⟩ := o.split hq
  obtain ⟨g1, g2, a', b', d', he, _, hset2⟩ := (show Own es m f1 from hB).split hi
  have dg : g2.dj f2 := d.mono b' .rfl
  exact ⟨g1, g2.un f2, a'.trans a, Frag.un_le (b'.trans a) b, Frag.dj_un d' (d.mono a' .rfl), he,
    hset m g2 (g2.un f2) _ .rfl Frag.le_un_left (Frag.le_un_right dg) dg (hset2 m Frag.emp g2 Ent.nul .rfl Frag.emp_le .rfl Frag.emp_dj trivial)⟩
theorem Mem.bput {F : Fr} {w : World} {es : List Ent} {e : Ent} (q i : Nat) (hq : L[q]? = some (Big es)) (hi : es[i]? = some Ent.nul) (h : Mem F (e :: L) w) : Mem F (L.set q (Big (es.set i e))) w := h.map fun m φ o => by
  obtain ⟨f1, f2, a, b, d, he, ho⟩ := o
  obtain ⟨g1, g2, a', b', d', hB, _, hset⟩ := ho.split hq
  obtain ⟨k1, k2, c1, c2, d2, _, _, hset2⟩ := (show Own es m g1 from hB).split hi
  have d1 : f1.dj g1 := d.mono .rfl a'
  have dk : f1.dj k2 := d1.mono .rfl c2
  have dq : (f1.un g1).dj g2 := Frag.un_dj (d.mono .rfl b') d'
  exact hset m (f1.un g1) φ (Big (es.set i e)) .rfl (Frag.un_le a (a'.trans b)) (b'.trans b) dq (hset2 m f1 (f1.un g1) e .rfl Frag.le_un_left (c2.trans (Frag.le_un_right d1)) dk he)
theorem Mem.bmap {F : Fr} {w : World} {es es' : List Ent} (q : Nat) (hq : L[q]? = some (Big es)) (k : ∀ m φ, Own es m φ → Own es' m φ) (h : Mem F L w) : Mem F (L.set q (Big es')) w := h.map fun m φ o => by
  obtain ⟨f1, f2, a, b, d, hB, _, hset⟩ := o.split hq
  exact hset m f1 φ (Big es') .rfl a b d (k m f1 hB)
theorem Mem.eqL {F : Fr} {w : World} {L' : List Ent} (e : L = L') (h : Mem F L w) : Mem F L' w := e ▸ h
/-- Things at blocks. -/
theorem Own.apart {α β : Type} {K : Kd α} {K' : Kd β} {b : Nat} {x : α} {y : β} {m φ : Frag} {es : List Ent} (hK : 0 < K.n) (hK' : 0 < K'.n) {i j : Nat} (hij : i ≠ j) (hi : es[i]? = some (Fld K b 0 x)) (hj : es[j]? = some (Fld K' b 0 y)) (h : Own es m φ) : False := by
  obtain ⟨f1, f2, a, b', d, he, hoth, _⟩ := h.split hi
  obtain ⟨g, hg, hj⟩ := hoth j _ (Ne.symm hij) hj
  obtain ⟨cs, k1, k2, l1, l2, d2, hc, hC⟩ := he
  obtain ⟨cs', k1', k2', l1', l2', d2', hc', hC'⟩ := hj
  have e1 : cs[0]? = some (cs[0]'(by rw [K.len hC]; exact hK)) := List.getElem?_eq_getElem _
  have e2 : cs'[0]? = some (cs'[0]'(by rw [K'.len hC']; exact hK')) := List.getElem?_eq_getElem _
  have h1 := l1 _ _ _ (hc _ _ e1)
  have h2 := hg _ _ _ (l1' _ _ _ (hc' _ _ e2))
  rcases d b (0 + 0) with h | h
  · rw [h1] at h; cases h
  · rw [h2] at h; cases h
end
section
variable {P : Program} {E : List (Nat × Value)} {L : List Ent} {d : Option Tmp} {ty : TypeId} {pos : String} {aft : Array Edge} {g : Option (Nat × Bool)}
/-- A part of one of many. -/
theorem o_lfb {x : Operand} {b o o' off t : Nat} {K : Kd α} {A : Kd β} {pr : α → β} {y : α} {ex : β → Value} {es : List Ent} (q i : Nat) (hx : opv E x = some (.pointer (some ⟨b, o', none⟩))) (hq : L[q]? = some (Big es)) (hi : es[i]? = some (Fld K b o y)) (hs : Sub K off A pr) (he : o + off = o') (hA : A.X ex) (ht : tyI P t = some (A.agg, A.n)) :
    OpS (σ := Unit) P E L ⟨d, .load t x, ty, pos, aft, g⟩ (fun _ => ex (pr y)) (fun _ => L) :=
  .run fun n F a w hS hm => by
    obtain ⟨m, φ, hm1, hf1, h⟩ := hm.get hq
    obtain ⟨f0, hf0, h⟩ := (show Own es m φ from h).get hi
    obtain ⟨cs, f, _, hk, hr⟩ := fld_sub (P := P) hs he ht h (hf0.trans hf1)
    obtain ⟨rfl, ha⟩ := hA _ _ _ _ hk
    rw [ha] at hr
    exact ⟨(), w, by simp [execOp, hS.eval hx, hr, pack], hm⟩
theorem o_lfbv {x : Operand} {b o o' off t : Nat} {K : Kd α} {A : Kd β} {pr : α → β} {y : α} {es : List Ent} (q i : Nat) (hx : opv E x = some (.pointer (some ⟨b, o', none⟩))) (hq : L[q]? = some (Big es)) (hi : es[i]? = some (Fld K b o y)) (hs : Sub K off A pr) (he : o + off = o') (hA : A.Per) (ht : tyI P t = some (A.agg, A.n)) :
    OpS P E L ⟨d, .load t x, ty, pos, aft, g⟩ (fun v => v) (fun v => Val A v (pr y) :: L) :=
  .run fun n F a w hS hm => by
    obtain ⟨m, φ, ho, hh, hp, hk⟩ := hm
    obtain ⟨f0, hf0, h⟩ := ho.get hq
    obtain ⟨f1, hf1, h⟩ := (show Own es m f0 from h).get hi
    obtain ⟨cs, f, _, hC, hr⟩ := fld_sub (P := P) (w := w) hs he ht h ((hf1.trans hf0).trans hh.l1)
    exact ⟨pack A.agg cs, w, by simp [execOp, hS.eval hx, hr], m, φ, ⟨Frag.emp, φ, Frag.emp_le, .rfl, Frag.emp_dj, ⟨cs, hA _ _ _ _ hC, rfl⟩, ho⟩, hh, hp, hk⟩
/-! ### Methods through an interface -/
theorem call_coreM {σ : Type} {o : Oper} {f : FuncId} {vs : List Value} {Lp Lo : List Ent} {ret : σ → Value} {out : σ → List Ent} (hc : Spc P f vs Lp Lo ret out) (ps os : List Nat) (nd : os.Nodup) (hps : ps.map (fun i => L[i]?) = Lp.map some) (hos : os.map (fun i => L[i]?) = Lo.map some)
    (hrun : ∀ n F a w, Sl n E a → Mem F L w → (execOp a.eval o).run P w = .ok (.enter f vs.toArray) w) : OpS P E L o ret (fun s => out s ++ holes os L) := fun n F a w hS hm => by
  obtain ⟨F', hm', hback⟩ := Mem.hand ps os hc.per nd hps hos hm
  unfold Oper.wp
  rw [hrun n F a w hS hm]
  refine Calls.mono (hc.run F' w hm') ?_
  rintro e w' ⟨s, rfl, hm2⟩
  exact ⟨s, rfl, hback _ _ hm2⟩
/-- A type's method of its own: the function, and whether it takes the pointer; the pointer's element. -/
def mRow (P : Program) (t : TypeId) (name : String) : Option (FuncId × Bool × TypeId) := (P.info? t).bind fun i => (i.methods.find? (·.name == name)).bind fun m => if m.path.isEmpty then m.func.bind fun fp => match P.underlying t with
  | some (.pointer e) => some (fp.1, fp.2, e)
  | _ => none else none
theorem run_chk {xt : TypeId} {ad : Addr} {s m : ByteArray} {w : World} : (Builtin.ssaWrapNilChk_ #[xt] xt #[.pointer (some ad), .string s, .string m]).run P w = .ok (.pointer (some ad)) w := rfl
theorem run_method {t e : TypeId} {name : String} {f : FuncId} {pr : Bool} {b o : Nat} {v : Value} {w : World} (n : Nat) (h : mRow P t name = some (f, pr, e)) (hv : if pr then v = .pointer (some ⟨b, o, none⟩) else (loadVar e ⟨b, o, none⟩).run P w = .ok v w) :
    (method (n + 1) t (.pointer (some ⟨b, o, none⟩)) name).run P w = .ok (f, v) w := by
  unfold mRow at h
  obtain ⟨i, hi, h⟩ := Option.bind_eq_some_iff.1 h
  obtain ⟨m, hm, h⟩ := Option.bind_eq_some_iff.1 h
  split at h
  · rename_i hp
    obtain ⟨fp, hf, h⟩ := Option.bind_eq_some_iff.1 h
    split at h
    · rename_i e' hu
      simp only [Option.some.injEq, Prod.mk.injEq] at h
      obtain ⟨rfl, rfl, rfl⟩ := h
      have hpath : m.path.toList = [] := by simpa using hp
      obtain ⟨f, pr⟩ := fp
      cases pr with
      | true =>
        simp only [if_true] at hv
        subst hv
        simp [method, typeInfo, hi, hm, hpath, follow, hf, receiverAt, run_underlying hu, Place.get]
      | false =>
        simp only [Bool.false_eq_true, if_false] at hv
        have hp2 : m.path = #[] := by simpa using hp
        simp [method, typeInfo, hi, hm, hp2, follow, hf, receiverAt, run_underlying hu, Place.get, strVal, run_chk, asAddr, hv]
    · cases h
  · cases h
theorem o_invp {σ : Type} {f : FuncId} {t e : TypeId} {x : Operand} {name : String} {b o : Nat} {vs : List Value} {Lp Lo : List Ent} {ret : σ → Value} {out : σ → List Ent} {args : Array Operand} {ts : Array TypeId} (hx : opv E x = some (.iface t (.pointer (some ⟨b, o, none⟩)))) (hm : mRow P t name = some (f, true, e)) (ha : args.toList.map (opv E) = vs.map some) (hc : Spc P f (.pointer (some ⟨b, o, none⟩) :: vs) Lp Lo ret out) (ps os : List Nat) (nd : os.Nodup) (hps : ps.map (fun i => L[i]?) = Lp.map some) (hos : os.map (fun i => L[i]?) = Lo.map some) :
    OpS P E L ⟨d, .call { callee := .invoke x name, args := args, argTypes := ts }, ty, pos, aft, g⟩ ret (fun s => out s ++ holes os L) :=
  call_coreM hc ps os nd hps hos fun n F a w hS _ => by
    obtain ⟨fn, hf, hn, hb⟩ := hc.fn
    have e1 : args.map a.eval = vs.toArray := by apply Array.ext'; simpa using map_evals hS ha
    have e2 := run_method (P := P) (w := w) (b := b) (o := o) (v := .pointer (some ⟨b, o, none⟩)) (P.types.size + Made.depth - 1) hm (by simp)
    rw [show P.types.size + Made.depth - 1 + 1 = P.types.size + Made.depth from by have : 0 < Made.depth := by decide
                                                                                   omega] at e2
    simp [execOp, resolve, hS.eval hx, invoke, e1, callMethod, e2, run_enter hf hn hb]
theorem o_invv {σ : Type} {f : FuncId} {t e : TypeId} {x : Operand} {name : String} {b o : Nat} {v : Value} {vs : List Value} {Lp Lo : List Ent} {ret : σ → Value} {out : σ → List Ent} {args : Array Operand} {ts : Array TypeId} (q : Nat) (hx : opv E x = some (.iface t (.pointer (some ⟨b, o, none⟩)))) (hq : L[q]? = some (Fld (Kd.eq v) b o ())) (hm : mRow P t name = some (f, false, e)) (ht : tyI P e = some (false, 1)) (ha : args.toList.map (opv E) = vs.map some) (hc : Spc P f (v :: vs) Lp Lo ret out) (ps os : List Nat) (nd : os.Nodup) (hps : ps.map (fun i => L[i]?) = Lp.map some) (hos : os.map (fun i => L[i]?) = Lo.map some) :
    OpS P E L ⟨d, .call { callee := .invoke x name, args := args, argTypes := ts }, ty, pos, aft, g⟩ ret (fun s => out s ++ holes os L) :=
  call_coreM hc ps os nd hps hos fun n F a w hS hmm => by
    obtain ⟨fn, hf, hn, hb⟩ := hc.fn
    have e1 : args.map a.eval = vs.toArray := by apply Array.ext'; simpa using map_evals hS ha
    obtain ⟨m, φ, _, hf1, he⟩ := hmm.get hq
    obtain ⟨cs, f', _, hC, hcell⟩ := Fld.cells he hf1
    obtain ⟨rfl, _⟩ := hC
    have hl := run_loadVar' (P := P) (t := e) (ag := false) (n := 1) ht w ⟨b, o, none⟩ (cs := [v]) rfl (fun _ => rfl) hcell
    have e2 := run_method (P := P) (w := w) (v := v) (P.types.size + Made.depth - 1) hm (by simpa [pack] using hl)
    rw [show P.types.size + Made.depth - 1 + 1 = P.types.size + Made.depth from by have : 0 < Made.depth := by decide
                                                                                   omega] at e2
    simp [execOp, resolve, hS.eval hx, invoke, e1, callMethod, e2, run_enter hf hn hb]
/-- x.(T) of what holds just T. -/
theorem o_ta {x : Operand} {t xt : TypeId} {v : Value} (hx : opv E x = some (.iface t v)) (ht : (match P.underlying t with | some (.interface _) => false | some _ => true | none => false) = true) :
    OpS (σ := Unit) P E L ⟨d, .typeAssert x xt t false, ty, pos, aft, g⟩ (fun _ => v) (fun _ => L) :=
  .pure fun n a w hs => by
    cases hu : P.underlying t with
    | none => rw [hu] at ht; cases ht
    | some dd =>
      rw [hu] at ht
      have e1 : (underlying t).run P w = .ok dd w := run_underlying hu w
      cases dd <;> simp [execOp, hs.eval hx, Instr.typeAssert, e1] at ht ⊢
/-! ### nil -/
theorem o_ptn {x : Operand} {t u e : TypeId} {v : Option Addr} (hx : opv E x = some (.pointer v)) (ht : P.underlying t = some (.pointer e)) :
    OpS (σ := Unit) P E L ⟨d, .binOp .eql t x (.const (.pointer none)) u, ty, pos, aft, g⟩ (fun _ => .bool v.isNone) (fun _ => L) :=
  .pure fun n a w hs => by
    have hc : a.eval (.const (.pointer none)) = .pointer none := rfl
    have q : ∀ dd : Nat, (Op.equalIn (dd + 1) t (.pointer v) (.pointer none)).run P w = .ok v.isNone w := fun dd => by cases v <;> simp [Op.equalIn, run_underlying ht]
    have : (Op.equal t (.pointer v) (.pointer none)).run P w = .ok v.isNone w := q 9999
    simp [execOp, hs.eval hx, hc, eqGuard, binOp, this]
theorem o_mpn {x : Operand} {t u kt et : TypeId} {v : Option Nat} (hx : opv E x = some (.map v)) (ht : P.underlying t = some (.map kt et)) :
    OpS (σ := Unit) P E L ⟨d, .binOp .eql t x (.const (.map none)) u, ty, pos, aft, g⟩ (fun _ => .bool v.isNone) (fun _ => L) :=
  .pure fun n a w hs => by
    have hc : a.eval (.const (.map none)) = .map none := rfl
    have q : ∀ dd : Nat, (Op.equalIn (dd + 1) t (.map v) (.map none)).run P w = .ok v.isNone w := fun dd => by cases v <;> simp [Op.equalIn, run_underlying ht]
    have : (Op.equal t (.map v) (.map none)).run P w = .ok v.isNone w := q 9999
    simp [execOp, hs.eval hx, hc, eqGuard, binOp, this]
end
end Go.SL
