/- Slices of one's own inside structs, boxes handed back, method values with their receivers; each rule states its own conditions. -/
import Derived.Test.YtgkgekaiajjcaaaSlY
namespace Go.SL
open Go Go.RowKit
set_option linter.unusedVariables false
set_option linter.unusedSimpArgs false
variable {α β : Type}
/-- A pointer: nil, or to a variable of one's own. -/
def Kd.obx (K : Kd α) : Kd (Option α) where
  n := 1
  agg := false
  C := fun m φ x cs => match x with
    | none => cs = [.pointer none]
    | some a => ∃ b, cs = [.pointer (some ⟨b, 0, none⟩)] ∧ (Fld K b 0 a).H m φ
  len := fun {m φ x cs} h => by
    cases x with
    | none => rw [show cs = _ from h]; rfl
    | some a => obtain ⟨b, rfl, _⟩ := h; rfl
  one := fun {m φ x cs} h c hc => by
    cases x with
    | none => rw [show cs = _ from h] at hc; simp at hc; subst hc; rfl
    | some a => obtain ⟨b, rfl, _⟩ := h; simp at hc; subst hc; rfl
  mono := fun {m m' φ φ' x cs} hm hf h => by
    cases x with
    | none => exact h
    | some a => obtain ⟨b, e, k⟩ := h; exact ⟨b, e, (Fld K b 0 a).mono hm hf k⟩
  sgl := fun _ => rfl
theorem z_obx {K : Kd α} : ZC (Kd.obx K) none [.pointer none] := fun _ => rfl
section
variable {P : Program} {E : List (Nat × Value)} {L : List Ent}
variable {d : Option Tmp} {ty : TypeId} {pos : String} {aft : Array Edge} {g : Option (Nat × Bool)}
theorem Mem.subst1 {F : Fr} {w : World} {e e' : Ent} (i : Nat) (hi : L[i]? = some e) (k : ∀ m φ, e.H m φ → e'.H m φ) (h : Mem F L w) : Mem F (L.set i e') w := h.map fun m φ o => by
  obtain ⟨f1, f2, a, b, dd, he, _, hset⟩ := o.split hi
  exact hset m f1 φ e' .rfl a b dd (k _ _ he)
theorem Mem.nilb {F : Fr} {w : World} (K : Kd α) (h : Mem F L w) : Mem F (Val (Kd.obx K) (.pointer none) none :: L) w := h.addP fun m _ _ => ⟨_, z_obx m, rfl⟩
theorem Mem.pkb {F : Fr} {w : World} {K : Kd α} {b : Nat} {x : α} (i : Nat) (hi : L[i]? = some (Fld K b 0 x)) (h : Mem F L w) : Mem F (L.set i (Val (Kd.obx K) (.pointer (some ⟨b, 0, none⟩)) (some x))) w :=
  h.subst1 i hi fun m φ k => ⟨_, ⟨b, rfl, k⟩, rfl⟩
theorem Mem.unb {F : Fr} {w : World} {K : Kd α} {v : Value} {o : Option α} {x : α} (i : Nat) (hi : L[i]? = some (Val (Kd.obx K) v o)) (ho : o = some x) (h : Mem F L w) : ∃ b, v = .pointer (some ⟨b, 0, none⟩) ∧ Mem F (L.set i (Fld K b 0 x)) w := by
  subst ho
  obtain ⟨m, φ, hm, hf, he⟩ := h.get hi
  obtain ⟨cs, ⟨b, rfl, _⟩, e⟩ := he
  refine ⟨b, e, h.subst1 i hi fun m φ k => ?_⟩
  obtain ⟨cs', ⟨b', rfl, k'⟩, e'⟩ := k
  have e2 : Value.pointer (some ⟨b, 0, none⟩) = .pointer (some ⟨b', 0, none⟩) := e.symm.trans e'
  injection e2 with e2
  injection e2 with e2
  injection e2 with e2
  subst e2
  exact k'
theorem St.unb {n : Nat} {F : Fr} {K : Kd α} {v : Value} {o : Option α} {x : α} {a : Act} {w : World} (h : St n F E L a w) (i : Nat) (hi : L[i]? = some (Val (Kd.obx K) v o)) (ho : o = some x) : ∃ b, v = .pointer (some ⟨b, 0, none⟩) ∧ St n F E (L.set i (Fld K b 0 x)) a w := by
  obtain ⟨b, e, hm⟩ := h.mem.unb i hi ho
  exact ⟨b, e, h.sl, hm⟩
/-- A slice of one's own in a field: what the cell holds, and the slice. -/
theorem Mem.unp {F : Fr} {w : World} {K : Kd α} {b o : Nat} {x : List α} (i : Nat) (hi : L[i]? = some (Fld (Kd.osl K) b o x)) (h : Mem F L w) : ∃ v, Mem F (Fld (Kd.eq v) b o () :: L.set i (Val (Kd.osl K) v x)) w := by
  obtain ⟨m, φ, ho, r⟩ := h
  obtain ⟨f1, f2, a, b', dd, he, _, hset⟩ := ho.split hi
  obtain ⟨cs, g1, g2, l1, l2, d2, hc, hC⟩ := he
  obtain ⟨ad, cap, rfl, h1, h2, h3⟩ := hC
  have dg : g1.dj f2 := dd.mono l1 .rfl
  have dg2 : g2.dj f2 := dd.mono l2 .rfl
  have := hset m g2 (g2.un f2) (Val (Kd.osl K) (.slice ad x.length cap) x) .rfl Frag.le_un_left (Frag.le_un_right dg2) dg2 ⟨_, ⟨ad, cap, rfl, h1, h2, h3⟩, rfl⟩
  exact ⟨.slice ad x.length cap, m, φ, ⟨g1, g2.un f2, l1.trans a, Frag.un_le (l2.trans a) b', Frag.dj_un d2 dg, ⟨_, g1, Frag.emp, .rfl, Frag.emp_le, Frag.dj_emp, hc, rfl, rfl⟩, this⟩, r⟩
theorem St.unp {n : Nat} {F : Fr} {K : Kd α} {b o : Nat} {x : List α} {a : Act} {w : World} (h : St n F E L a w) (i : Nat) (hi : L[i]? = some (Fld (Kd.osl K) b o x)) : ∃ v, St n F E (Fld (Kd.eq v) b o () :: L.set i (Val (Kd.osl K) v x)) a w := by
  obtain ⟨v, hm⟩ := h.mem.unp i hi
  exact ⟨v, h.sl, hm⟩
theorem Mem.pck {F : Fr} {w : World} {K : Kd α} {b o : Nat} {v : Value} {x : List α} (h : Mem F (Fld (Kd.eq v) b o () :: Val (Kd.osl K) v x :: L) w) : Mem F (Fld (Kd.osl K) b o x :: L) w := h.map fun m φ ho => by
  obtain ⟨f1, f2, a, b', dd, ⟨cs, g1, g2, l1, l2, d2, hc, hC⟩, k1, k2, c1, c2, d3, ⟨ds, hD, e⟩, hL⟩ := ho
  obtain ⟨rfl, _⟩ := hC
  obtain ⟨ad, cap, rfl, h1, h2, h3⟩ := hD
  have e' : v = .slice ad x.length cap := e
  subst e'
  have dk1 : g1.dj k1 := dd.mono l1 c1
  have dk2 : g1.dj k2 := dd.mono l1 c2
  exact ⟨g1.un k1, k2, Frag.un_le (l1.trans a) (c1.trans b'), c2.trans b', Frag.un_dj dk2 d3, ⟨_, g1, k1, Frag.le_un_left, Frag.le_un_right dk1, dk1, hc, ad, cap, rfl, h1, h2, h3⟩, hL⟩
theorem pv_eqo {K : Kd α} {v : Value} {x : List α} (i : Nat) (hi : L[i]? = some (Val (Kd.osl K) v x)) : PV (Kd.eq v) v () L := fun m φ ho => by
  obtain ⟨f, _, he⟩ := ho.get hi
  obtain ⟨cs, ⟨ad, cap, rfl, _⟩, e⟩ := he
  have e' : v = .slice ad x.length cap := e
  exact ⟨_, ⟨rfl, by rw [e']; rfl⟩, rfl⟩
theorem pv_eqp {ad : Addr} : PV (Kd.eq (.pointer (some ad))) (.pointer (some ad)) () L := fun m φ ho => ⟨_, ⟨rfl, rfl⟩, rfl⟩
theorem pv_eqf {fn : Go.Fn} {x y : Array Value} : PV (Kd.eq (.func fn x y)) (.func fn x y) () L := fun m φ ho => ⟨_, ⟨rfl, rfl⟩, rfl⟩
/-- A box for a value that is one's own. -/
theorem Mem.boxedO {F : Fr} {w : World} {K : Kd α} {v : Value} {y : α} {t : TypeId} (h : Mem F (Val K v y :: L) w) : Mem F (Fld K w.heap.size 0 y :: L) (w.alloc (.cells v.cells t)) := by
  obtain ⟨m, φ, ⟨f1, f2, l1, l2, dd, ⟨cs, hC, e⟩, o⟩, hh, hp, hk⟩ := h
  have ec : v.cells = cs.toArray := by
    apply Array.ext'
    rw [e]; simpa using cells_pack hC
  rw [ec]
  have hh2 := hh.alloc (cs := cs) (t := t)
  have hn : ∀ (f : Frag), f.le φ → ∀ j, f w.heap.size (0 + j) = none := fun f hf j => by
    cases e : f w.heap.size (0 + j) with
    | none => rfl
    | some c => have := hh.l1 _ _ _ (hf _ _ _ e); rw [hp_none (Nat.le_refl _)] at this; cases this
  have d1 : (SL.fset Frag.emp w.heap.size 0 cs).dj f1 := (dj_fset Frag.dj_emp fun j _ => hn f1 l1 j).symm
  have d2 : (SL.fset Frag.emp w.heap.size 0 cs).dj f2 := (dj_fset Frag.dj_emp fun j _ => hn f2 l2 j).symm
  have lz : (SL.fset Frag.emp w.heap.size 0 cs).le (SL.fset φ w.heap.size 0 cs) := fset_mono Frag.emp_le
  have lf : ∀ f : Frag, f.le φ → f.le (SL.fset φ w.heap.size 0 cs) := fun f hf => le_fset hf fun j _ => hn f hf j
  exact ⟨m, SL.fset φ w.heap.size 0 cs, ⟨(SL.fset Frag.emp w.heap.size 0 cs).un f1, f2, Frag.un_le lz (lf f1 l1), lf f2 l2, Frag.un_dj d2 dd, ⟨cs, SL.fset Frag.emp w.heap.size 0 cs, f1, Frag.le_un_left, Frag.le_un_right d1, d1, fun j c hj => fset_at hj, hC⟩, o⟩, hh2, hp, hk.trans (Ok.alloc w _)⟩
theorem o_boxo {x : Operand} {t : TypeId} {K : Kd α} {v : Value} {y : α} (p : Nat) (hx : opv E x = some v) (hp : L[p]? = some (Val K v y)) :
    OpS P E L ⟨d, .box t x, ty, pos, aft, g⟩ (fun b => .pointer (some ⟨b, 0, none⟩)) (fun b => Fld K b 0 y :: L.set p Ent.nul) :=
  .run fun n F a w hs hm => ⟨w.heap.size, w.alloc (.cells v.cells t), by simp [execOp, hs.eval hx, Instr.box, newVar, newRow], (hm.take hp).boxedO⟩
/-! ### Method values with their receivers -/
theorem o_makeFuncB {fn : Go.Fn} {first caps : Array Operand} {us vs : List Value} (hf : first.toList.map (opv E) = us.map some) (hc : caps.toList.map (opv E) = vs.map some) :
    OpS (σ := Unit) P E L ⟨d, Op.makeFunc fn first caps, ty, pos, aft, g⟩ (fun _ => .func fn us.toArray vs.toArray) (fun _ => L) :=
  .pure fun n a w hs => by
    have e1 : first.map a.eval = us.toArray := by apply Array.ext'; simpa using map_evals hs hf
    have e2 : caps.map a.eval = vs.toArray := by apply Array.ext'; simpa using map_evals hs hc
    simp [execOp, Instr.makeFunc, e1, e2]
theorem o_callw {σ : Type} {f : FuncId} {t : Operand} {us vs caps : List Value} {Lp Lo : List Ent} {ret : σ → Value} {out : σ → List Ent} {args : Array Operand} {ts : Array TypeId} (ht : opv E t = some (.func (.func f) us.toArray caps.toArray)) (hx : args.toList.map (opv E) = vs.map some) (hc : Spc P f (us ++ vs ++ caps) Lp Lo ret out) (ps os : List Nat) (nd : os.Nodup) (hps : ps.map (fun i => L[i]?) = Lp.map some) (hos : os.map (fun i => L[i]?) = Lo.map some) :
    OpS P E L ⟨d, .call { callee := .value t, args := args, argTypes := ts }, ty, pos, aft, g⟩ ret (fun s => out s ++ holes os L) :=
  call_core hc ps os nd hps hos fun n a w hS => by
    obtain ⟨fn, hf, hn, hb⟩ := hc.fn
    have : args.map a.eval = vs.toArray := by apply Array.ext'; simpa using map_evals hS hx
    simp [execOp, resolve, hS.eval ht, Deferred.ofValue, invoke, this, run_enter hf hn hb]
/-! ### A part of an element stored -/
def Upd (K : Kd α) (off : Nat) (A : Kd β) (u : α → β → α) : Prop := ∀ m φ x cs y ds, K.C m φ x cs → A.C m Frag.emp y ds → off + ds.length ≤ cs.length ∧ K.C m φ (u x y) (Go.splice cs off ds)
theorem upd_self {K : Kd α} : Upd K 0 K (fun _ y => y) := fun m φ x cs y ds h k => by
  have e : ds.length = cs.length := (K.len k).trans (K.len h).symm
  refine ⟨by omega, ?_⟩
  have : Go.splice cs 0 ds = ds := by unfold Go.splice; simp [e]
  rw [this]; exact K.mono .rfl Frag.emp_le k
theorem upd_last {A : Kd α} {B : Kd β} {off : Nat} {u : α → β → α} (h : Upd A off B u) : Upd (Kd.last A) off B u := h
theorem upd_fst {γ : Type} {A : Kd α} {C : Kd γ} {B : Kd β} {off : Nat} {u : α → β → α} (h : Upd A off B u) : Upd (Kd.pair A C) off B (fun x y => (u x.1 y, x.2)) := fun m φ x cs y ds ⟨c1, c2, f1, f2, e, l1, l2, dd, h1, h2⟩ k => by
  obtain ⟨q1, q2⟩ := h m f1 x.1 c1 y ds h1 k
  subst e
  refine ⟨by rw [List.length_append]; omega, Go.splice c1 off ds, c2, f1, f2, ?_, l1, l2, dd, q2, h2⟩
  unfold Go.splice
  rw [List.take_append_of_le_length (by omega), List.drop_append_of_le_length (by omega)]
  simp
theorem upd_snd {γ : Type} {A : Kd γ} {C : Kd α} {B : Kd β} {off : Nat} {u : α → β → α} (h : Upd C off B u) : Upd (Kd.pair A C) (A.n + off) B (fun x y => (x.1, u x.2 y)) := fun m φ x cs y ds ⟨c1, c2, f1, f2, e, l1, l2, dd, h1, h2⟩ k => by
  obtain ⟨q1, q2⟩ := h m f2 x.2 c2 y ds h2 k
  subst e
  have hl := A.len h1
  refine ⟨by rw [List.length_append]; omega, c1, Go.splice c2 off ds, f1, f2, ?_, l1, l2, dd, h1, q2⟩
  unfold Go.splice
  rw [← hl, List.take_length_add_append, show c1.length + off + ds.length = c1.length + (off + ds.length) by omega, List.drop_length_add_append]
  simp
theorem upd_iso {γ : Type} {A : Kd α} {B : Kd β} {off : Nat} {u : α → β → α} (k : γ → α) (k' : α → γ) (hk : ∀ a, k (k' a) = a) (h : Upd A off B u) : Upd (Kd.iso A k) off B (fun x y => k' (u (k x) y)) := fun m φ x cs y ds hx hy => by
  obtain ⟨q1, q2⟩ := h m φ (k x) cs y ds hx hy
  refine ⟨q1, ?_⟩
  show A.C m φ (k (k' (u (k x) y))) _
  rw [hk]; exact q2
theorem fset_part {f : Frag} {b o off : Nat} {cz ds : List Value} (hf : ∀ (j : Nat) (c : Value), cz[j]? = some c → f b (o + j) = some (.cell c false)) (h : off + ds.length ≤ cz.length) : SL.fset f b (o + off) ds = SL.fset f b o (Go.splice cz off ds) := by
  funext b' o'
  have hlen : (Go.splice cz off ds).length = cz.length := length_splice _ _ _ h
  by_cases hr : b' = b ∧ o ≤ o' ∧ o' < o + cz.length
  · obtain ⟨rfl, h1, h2⟩ := hr
    obtain ⟨j, rfl⟩ : ∃ j, o' = o + j := ⟨o' - o, by omega⟩
    have hj : j < (Go.splice cz off ds).length := by omega
    rw [fset_at (List.getElem?_eq_getElem hj)]
    exact fset_splice hf h j _ (List.getElem?_eq_getElem hj)
  · rw [fset_off (fun ⟨e, h1, h2⟩ => hr ⟨e, by omega, by omega⟩), fset_off (fun ⟨e, h1, h2⟩ => hr ⟨e, by omega, by omega⟩)]
theorem o_stes {x xv : Operand} {t : TypeId} {K : Kd α} {A : Kd β} {u : α → β → α} {off k : Nat} {v uv : Value} {xs : List α} {i : Int} {z : α} {y : β} (p : Nat) (hU : Upd K off A u) (hx : opv E x = some (elemP v k)) (hk : k = i.toNat * K.n + off) (hxv : opv E xv = some uv) (hp : L[p]? = some (Val (Kd.osl K) v xs)) (hv : PV A uv y L) (h : idx xs i = some z) (ht : (P.info? t).map (·.size) = some A.n) (hz : 0 < K.n) :
    OpS (σ := Unit) P E L ⟨d, .store t x xv, ty, pos, aft, g⟩ (fun _ => undef) (fun _ => L.set p (Val (Kd.osl K) v (xs.set i.toNat (u z y)))) :=
  .skip fun n F a w hs hm => by
    subst hk
    obtain ⟨m, φ, ho, hh, hpp, hkk⟩ := hm
    obtain ⟨h0, h1, h2⟩ := idx_spec h
    obtain ⟨cs, hC, hvc⟩ := hv m φ ho
    have hcells : uv.cells.toList = cs := by rw [hvc]; exact cells_pack hC
    have hlen := A.len hC
    obtain ⟨ti, hti, hsz⟩ := Option.map_eq_some_iff.1 ht
    obtain ⟨f1, hf1, he⟩ := ho.get hp
    obtain ⟨ad, cap, rfl, hl, hm, hr⟩ := Val_osl he
    rcases hr with ⟨_, h, h'⟩ | ⟨b, o, all, rfl, hal, hc, hEn⟩
    · subst h'; simp at h1; omega
    · have hle : (i.toNat + 1) * K.n ≤ cap * K.n := Nat.mul_le_mul_right _ (by omega)
      have hle2 : (i.toNat + 1) * K.n ≤ xs.length * K.n := Nat.mul_le_mul_right _ (by omega)
      rw [Nat.add_mul, Nat.one_mul] at hle hle2
      have hZ := hEn.at_ _ _ h2
      obtain ⟨q1, q2⟩ := hU m Frag.emp z _ y cs hZ hC
      have hzl := K.len hZ
      obtain ⟨w', hrun, hw, hok⟩ := run_storeCells' (P := P) (b := b) (o := o + (i.toNat * K.n + off)) cs 0 w (fun j hj => by
        have : i.toNat * K.n + off + j < all.length := by omega
        refine ⟨all[i.toNat * K.n + off + j], (hf1.trans hh.l1) _ _ _ ?_⟩
        rw [Nat.add_zero, Nat.add_assoc]
        exact hc _ _ (List.getElem?_eq_getElem this)) (A.one hC)
      rw [Nat.add_zero, ← Nat.add_assoc, fset_part (f := SL.hp w) (b := b) (o := o + i.toNat * K.n) (fun j c hj => by
        have hj2 := (List.getElem?_eq_some_iff.1 hj).1
        rw [hzl] at hj2
        rw [List.getElem?_take_of_lt hj2, List.getElem?_drop, List.getElem?_take_of_lt (by omega)] at hj
        refine (hf1.trans hh.l1) _ _ _ ?_
        rw [Nat.add_assoc]
        exact hc _ _ hj) q1] at hw
      obtain ⟨φ', ho', hh'⟩ := Own.write (ys := [u z y]) (k := i.toNat) ho hh hp (by simp only [List.length_singleton]; omega) (Enc.one q2) rfl hw
      refine ⟨(), w', ?_, m, φ', ?_, hh', hpp, hkk.trans hok⟩
      · have hl2 : uv.cells.size = A.n := by rw [← hlen, ← hcells]; simp
        simp [execOp, hs.eval hx, hs.eval hxv, elemP, Instr.storeAt, Instr.sureAddr, storeVar, sizeOf, typeInfo, hti, hsz, hl2, hcells, addr_add, hrun]
      · rw [set_splice (xs := xs) (by omega) (u z y)]; exact ho'
/-! ### Lent to who only looks, beside what is handed over -/
theorem OpS.lendO {σ : Type} {Lp Lo T : List Ent} {o : Oper} {ret : σ → Value} {out : σ → List Ent} (is : List Nat) (nd : is.Nodup) (hos : is.map (fun i => L[i]?) = Lo.map some) (hl : ∀ m φ, φ.dj m → Own (holes is L) m φ → Own Lp (m.un φ) Frag.emp) (h : OpS P E (Lp ++ Lo) o ret (fun s => out s ++ T)) (hc : ∀ s m φ, Own (out s) m φ → Own (out s) Frag.emp φ) : OpS P E L o ret (fun s => out s ++ holes is L) := fun n F a w hS hm => by
  obtain ⟨m, φ, ho, hh, hp, hk⟩ := hm.pull is nd hos
  obtain ⟨f1, f2, q1, q2, dd0, o1, o2⟩ := ho.append
  have d2m : f2.dj m := hh.d1.mono q2 .rfl
  have l1 : m.le (m.un f2) := Frag.le_un_left
  have l2 : f2.le (m.un f2) := Frag.le_un_right d2m.symm
  have h0 : Mem ⟨F.own, m.un f2, F.w0⟩ (Lp ++ Lo) w := ⟨m.un f2, f1, Own.join Frag.emp_le .rfl Frag.emp_dj (hl m f2 d2m o2) (o1.mono l1 .rfl), ⟨Frag.dj_un (hh.d1.mono q1 .rfl) dd0, hh.d2.mono q1 .rfl, Frag.un_dj hh.d3 (hh.d2.mono q2 .rfl), q1.trans hh.l1, Frag.un_le hh.l2 (q2.trans hh.l1), hh.l3⟩, .rfl, hk⟩
  refine wp_mono2 ?_ (fun _ _ _ h => h) (h n _ a w hS h0)
  rintro a' w' ⟨s, e, m', φ', ho', hh', hp', hk'⟩
  refine ⟨s, e, ?_⟩
  obtain ⟨g1, g2, k1, k2, dd, oo, _⟩ := ho'.append
  have dm : g1.dj (m.un f2) := (hh'.d1.mono k1 .rfl).mono .rfl hp'
  have d1 : g1.dj m := dm.mono .rfl l1
  have d2 : g1.dj f2 := dm.mono .rfl l2
  have hpm : (m.un f2).le (SL.hp w') := hp'.trans hh'.l2
  refine ⟨m, g1.un f2, ?_, ⟨Frag.un_dj d1 d2m, Frag.un_dj (hh'.d2.mono k1 .rfl) (hh.d2.mono q2 .rfl), hh.d3, Frag.un_le (k1.trans hh'.l1) (l2.trans hpm), l1.trans hpm, hh'.l3⟩, hp, hk'⟩
  exact Own.join Frag.le_un_left (Frag.le_un_right d2) d2 ((hc s _ _ oo).mono Frag.emp_le .rfl) o2
/-- A kind for who only looks. -/
def RO (K KR : Kd α) : Prop := ∀ m φ x cs, φ.dj m → K.C m φ x cs → KR.C (m.un φ) Frag.emp x cs
theorem ro_per {K : Kd α} (h : K.Per) : RO K K := fun m φ x cs d k => K.mono Frag.le_un_left .rfl (h _ _ _ _ k)
theorem ro_osl {K : Kd α} : RO (Kd.osl K) (Kd.sl K) := fun m φ x cs d ⟨a, cap, e, h1, h2, h3⟩ => ⟨a, cap, e, ⟨h1, h2⟩, h3.row.mono Frag.le_un_left (Frag.le_un_right d.symm)⟩
theorem ro_pair {A A' : Kd α} {B B' : Kd β} (a : RO A A') (b : RO B B') : RO (Kd.pair A B) (Kd.pair A' B') := fun m φ x cs d ⟨c1, c2, f1, f2, e, l1, l2, dd, h1, h2⟩ =>
  ⟨c1, c2, Frag.emp, Frag.emp, e, .rfl, .rfl, Frag.emp_dj, A'.mono (Frag.un_le Frag.le_un_left (l1.trans (Frag.le_un_right d.symm))) .rfl (a m f1 _ _ (d.mono l1 .rfl) h1), B'.mono (Frag.un_le Frag.le_un_left (l2.trans (Frag.le_un_right d.symm))) .rfl (b m f2 _ _ (d.mono l2 .rfl) h2)⟩
theorem ro_last {A A' : Kd α} (a : RO A A') : RO (Kd.last A) (Kd.last A') := fun m φ x cs d h => a m φ x cs d h
theorem ro_iso {A A' : Kd α} {k : β → α} (a : RO A A') : RO (Kd.iso A k) (Kd.iso A' k) := fun m φ x cs d h => a m φ _ cs d h
theorem lent_fld {K KR : Kd α} {b o : Nat} {x : α} (hr : RO K KR) (i : Nat) (hi : L[i]? = some (Fld K b o x)) : Lent L (Pfl KR b o x) := fun m φ d ho => by
  obtain ⟨f, hf, cs, g1, g2, l1, l2, dd, hc, hC⟩ := ho.get hi
  have lr : φ.le (m.un φ) := Frag.le_un_right d.symm
  exact ⟨cs, fun j c hj => ⟨false, lr _ _ _ (hf _ _ _ (l1 _ _ _ (hc j c hj)))⟩, KR.mono (Frag.un_le Frag.le_un_left ((l2.trans hf).trans lr)) .rfl (hr m g2 _ _ (d.mono (l2.trans hf) .rfl) hC)⟩
/-! ### Ways that meet, and values of several parts in drawn regions -/
theorem eInl {γ δ ε : Type} {f : γ → Option ε} {k : δ → Option ε} {x : γ} {r : Option ε} (h : Sum.elim f k (.inl x) = r) : f x = r := h
theorem eInr {γ δ ε : Type} {f : γ → Option ε} {k : δ → Option ε} {x : δ} {r : Option ε} (h : Sum.elim f k (.inr x) = r) : k x = r := h
def tpv : Value → Nat → Value
  | .tuple vs, i => vs.getD i undef
  | _, _ => undef
theorem pur_d {σ : Type} {o : Oper} {ret : σ → Value} {out : σ → List Ent} {p : σ → Prop} (h : OpS P E L o ret out) (hp : ∀ s, p s) : OpS P E L o ret (fun s => Ent.pur (p s) :: out s) := fun n F a w hS hm =>
  wp_mono2 (fun a' w' ⟨s, e, hm'⟩ => ⟨s, e, hm'.addpur (hp s)⟩) (fun _ _ _ h => h) (h n F a w hS hm)
theorem ptr_do {L' : List Ent} {o : Oper} {α : Type} {K : Kd α} {y : α} (h : OpS P E L o (fun b : Nat => .pointer (some ⟨b, 0, none⟩)) (fun b => Fld K b 0 y :: L')) : OpS P E L o (fun b : Nat => .pointer (some ⟨b, 0, none⟩)) (fun b => Ent.pur (Value.pointer (some ⟨b, 0, none⟩) = .pointer (some ⟨blk (.pointer (some ⟨b, 0, none⟩)), 0, none⟩)) :: Fld K (blk (.pointer (some ⟨b, 0, none⟩))) 0 y :: L') := fun n F a w hS hm =>
  wp_mono2 (fun a' w' ⟨s, e, hm'⟩ => ⟨s, e, hm'.addpur rfl⟩) (fun _ _ _ h => h) (h n F a w hS hm)
/-- A part of a variable stored. -/
theorem o_stp {x xv : Operand} {b o o' off : Nat} {t : TypeId} {K : Kd α} {A : Kd β} {u : α → β → α} {v : Value} {x0 : α} {y : β} (i : Nat) (hU : Upd K off A u) (hx : opv E x = some (.pointer (some ⟨b, o', none⟩))) (he : o + off = o') (hxv : opv E xv = some v) (hi : L[i]? = some (Fld K b o x0)) (hv : PV A v y L) (ht : (P.info? t).map (·.size) = some A.n) :
    OpS (σ := Unit) P E L ⟨d, .store t x xv, ty, pos, aft, g⟩ (fun _ => undef) (fun _ => L.set i (Fld K b o (u x0 y))) :=
  .skip fun n F a w hs hm => by
    subst he
    obtain ⟨m, φ, ho, hh, hp, hk⟩ := hm
    obtain ⟨f1, f2, l1, l2, d12, ⟨cs2, q1, q2, r1, r2, dq, hc2, hC2⟩, _, hset⟩ := ho.split hi
    obtain ⟨ds, hD, hv2⟩ := hv m φ ho
    have hcells : v.cells.toList = ds := by rw [hv2]; exact cells_pack hD
    have hlen := A.len hD
    obtain ⟨z1, z2⟩ := hU m q2 x0 cs2 y ds hC2 hD
    obtain ⟨ti, hti, hsz⟩ := Option.map_eq_some_iff.1 ht
    have own : ∀ j, j < ds.length → ∃ c, q1 b (o + off + j) = some (.cell c false) := fun j hj => by
      have : off + j < cs2.length := by omega
      exact ⟨cs2[off + j], by rw [Nat.add_assoc]; exact hc2 _ _ (List.getElem?_eq_getElem this)⟩
    have own2 : ∀ j, j < ds.length → ∃ c, φ b (o + off + j) = some (.cell c false) := fun j hj => by
      obtain ⟨c, hc⟩ := own j hj
      exact ⟨c, l1 _ _ _ (r1 _ _ _ hc)⟩
    obtain ⟨w', hr, hw, hok⟩ := run_storeCells' (P := P) (b := b) (o := o + off) ds 0 w (fun j hj => by
      obtain ⟨c, hc⟩ := own2 j hj
      exact ⟨c, by rw [Nat.add_zero]; exact hh.l1 _ _ _ hc⟩) (A.one hD)
    have hq2 : ∀ j, j < ds.length → q2 b (o + off + j) = none := fun j hj => by
      obtain ⟨c, hc⟩ := own j hj
      rcases dq b (o + off + j) with e | e
      · rw [hc] at e; cases e
      · exact e
    have hf2 : ∀ j, j < ds.length → f2 b (o + off + j) = none := fun j hj => by
      obtain ⟨c, hc⟩ := own j hj
      rcases d12 b (o + off + j) with e | e
      · rw [r1 _ _ _ hc] at e; cases e
      · exact e
    have hl2 : v.cells.size = A.n := by rw [← hlen, ← hcells]; simp
    have dn : (SL.fset q1 b (o + off) ds).dj q2 := (dj_fset dq.symm hq2).symm
    exact ⟨(), w', by simp [execOp, hs.eval hx, hs.eval hxv, Instr.storeAt, Instr.sureAddr, storeVar, sizeOf, typeInfo, hti, hsz, hl2, hcells, hr], m, SL.fset φ b (o + off) ds,
      hset m ((SL.fset q1 b (o + off) ds).un q2) _ _ .rfl (Frag.un_le (fset_mono (r1.trans l1)) (le_fset (r2.trans l1) hq2)) (le_fset l2 hf2) (Frag.un_dj (dj_fset (d12.mono r1 .rfl).symm hf2).symm (d12.mono r2 .rfl)) ⟨Go.splice cs2 off ds, SL.fset q1 b (o + off) ds, q2, Frag.le_un_left, Frag.le_un_right dn, dn, fset_splice hc2 z1, z2⟩,
      hh.fset own2 (by simpa using hw), hp, hk.trans hok⟩
end

section
/-- A variable of one's own is only looked at from now on. -/
theorem Mem.rofrz {F : Fr} {L : List Ent} {w : World} {K KR : Kd α} {b o : Nat} {x : α} (h : Mem F L w) (hr : RO K KR) (i : Nat) (hi : L[i]? = some (Fld K b o x)) : Mem F (L.set i (Pfl KR b o x)) w :=
  h.upd i hi (fun m φ fr hh he _ => ⟨m.un φ, Frag.emp, Frag.le_un_left, ⟨Frag.emp_dj, Frag.emp_dj, Frag.un_dj hh.d3 hh.d2, Frag.emp_le, Frag.un_le hh.l2 hh.l1, hh.l3⟩,
    lent_fld (L := [Fld K b o x]) hr 0 rfl m φ hh.d1 ⟨φ, Frag.emp, .rfl, Frag.emp_le, Frag.dj_emp, he, trivial⟩⟩) (Ok.refl w)
end
section
variable {P : Program} {E : List (Nat × Value)} {L : List Ent} {d : Option Tmp} {ty : TypeId} {pos : String} {aft : Array Edge} {g : Option (Nat × Bool)}
/-- A part read as a value. -/
theorem p_ldv {α : Type} {x : Operand} {b o t : Nat} {K : Kd α} {y : α} (i : Nat) (hx : opv E x = some (.pointer (some ⟨b, o, none⟩))) (hi : L[i]? = some (Pfl K b o y)) (ht : tyI P t = some (K.agg, K.n)) :
    OpS P E L ⟨d, .load t x, ty, pos, aft, g⟩ (fun v => v) (fun v => Val K v y :: L) := p_lfv (K := K) (A := K) (pr := fun x => x) (off := 0) i hx hi sub_self (Nat.add_zero o) ht
/-- A store of a value that is one's own. -/
theorem o_sto {α β : Type} {x xv : Operand} {b o : Nat} {t : TypeId} {K : Kd α} {K' : Kd β} {v : Value} {y : α} {y' : β} (i p : Nat) (hx : opv E x = some (.pointer (some ⟨b, o, none⟩))) (hxv : opv E xv = some v) (hi : L[i]? = some (Fld K' b o y')) (hp : L[p]? = some (Val K v y)) (hne : Nat.beq p i = false) (hn : K'.n = K.n) (ht : (P.info? t).map (·.size) = some K.n) :
    OpS (σ := Unit) P E L ⟨d, .store t x xv, ty, pos, aft, g⟩ (fun _ => undef) (fun _ => (L.set p Ent.nul).set i (Fld K b o y)) :=
  .skip fun n F a w hs hm => by
    have hne' : p ≠ i := fun e => by subst e; simp at hne
    have hi' : (L.set p Ent.nul)[i]? = some (Fld K' b o y') := by rw [List.getElem?_set_ne hne']; exact hi
    have hm1 := hm.take hp
    obtain ⟨m, φ, ⟨fA, fB, la, lb, dAB, ⟨cs, hC, ev⟩, ho⟩, hh, hp', hk⟩ := hm1
    have hcells : v.cells.toList = cs := by rw [ev]; exact cells_pack hC
    have hlen := K.len hC
    have h1 := K.one hC
    obtain ⟨f1, f2, l1, l2, d12, ⟨cs2, q1, q2, r1, r2, dq, hc2, hC2⟩, _, hset⟩ := ho.split hi'
    have hl2' := K'.len hC2
    obtain ⟨ti, hti, hsz⟩ := Option.map_eq_some_iff.1 ht
    have own : ∀ j, j < cs.length → ∃ c, q1 b (o + j) = some (.cell c false) := fun j hj => by
      have : j < cs2.length := by omega
      exact ⟨cs2[j], hc2 j _ (List.getElem?_eq_getElem this)⟩
    obtain ⟨w', hr, hw, hok⟩ := run_storeCells' (P := P) (b := b) (o := o) cs 0 w (fun j hj => by
      obtain ⟨c, hc⟩ := own j (by simpa using hj)
      exact ⟨c, by simpa using hh.l1 _ _ _ (lb _ _ _ (l1 _ _ _ (r1 _ _ _ hc)))⟩) h1
    refine ⟨(), w', ?_, ?_⟩
    · have hl2 : v.cells.size = K.n := by rw [← hlen, ← hcells]; simp
      simp [execOp, hs.eval hx, hs.eval hxv, Instr.storeAt, Instr.sureAddr, storeVar, sizeOf, typeInfo, hti, hsz, hl2, hcells, hr]
    · have own2 : ∀ j, j < cs.length → ∃ c, φ b (o + j) = some (.cell c false) := fun j hj => by
        obtain ⟨c, hc⟩ := own j hj
        exact ⟨c, lb _ _ _ (l1 _ _ _ (r1 _ _ _ hc))⟩
      have hf2 : ∀ j, j < cs.length → f2 b (o + j) = none := fun j hj => by
        obtain ⟨c, hc⟩ := own j hj
        rcases d12 b (o + j) with e | e
        · rw [r1 _ _ _ hc] at e; cases e
        · exact e
      have hfA : ∀ j, j < cs.length → fA b (o + j) = none := fun j hj => by
        obtain ⟨c, hc⟩ := own j hj
        rcases dAB b (o + j) with e | e
        · exact e
        · rw [l1 _ _ _ (r1 _ _ _ hc)] at e; cases e
      have dA : (SL.fset q1 b o cs).dj fA := (dj_fset (dAB.mono .rfl (r1.trans l1)) hfA).symm
      refine ⟨m, SL.fset φ b o cs, hset m ((SL.fset q1 b o cs).un fA) _ _ .rfl (Frag.un_le (fset_mono (r1.trans (l1.trans lb))) (le_fset la hfA)) (le_fset (l2.trans lb) hf2) (Frag.un_dj (dj_fset (d12.mono r1 .rfl).symm hf2).symm (dAB.mono .rfl l2)) ⟨cs, SL.fset q1 b o cs, fA, Frag.le_un_left, Frag.le_un_right dA, dA, fun j c hj => fset_at hj, hC⟩, hh.fset own2 (by simpa using hw), hp', hk.trans hok⟩
end
end Go.SL
