/- Errors: nil, or a pointer to what nobody turns any more; each rule states its own conditions. -/
import Derived.Test.YtgkgekaiajjcaaaSlW
namespace Go.SL
open Go Go.RowKit
set_option linter.unusedVariables false
set_option linter.unusedSimpArgs false
section
variable {α β : Type} {P : Program} {E : List (Nat × Value)} {L : List Ent} {d : Option Nat} {ty : TypeId} {pos : String} {aft : Array Edge} {g : Option (Nat × Bool)}
/-- An error: nil, or (of type T) a pointer to a struct that nobody turns any more. -/
def Kd.erp (T : TypeId) (K : Kd α) : Kd (Option α) where
  n := 1
  agg := false
  C := fun m φ x cs => match x with
    | none => cs = [.nilIface]
    | some a => ∃ b, cs = [.iface T (.pointer (some ⟨b, 0, none⟩))] ∧ (Pfl K b 0 a).H m Frag.emp
  len := fun {m φ x cs} h => by
    cases x with
    | none => rw [show cs = _ from h]; rfl
    | some a => obtain ⟨b, rfl, _⟩ := h; rfl
  one := fun {m φ x cs} h c hc => by
    cases x with
    | none => rw [show cs = _ from h] at hc; simp at hc; subst hc; rfl
    | some a => obtain ⟨b, rfl, _⟩ := h; simp at hc; subst hc; rfl
  mono := fun {m m' φ φ' x cs} hm hf h => by
    cases x with
    | none => exact h
    | some a => obtain ⟨b, e, k⟩ := h; exact ⟨b, e, (Pfl K b 0 a).mono hm .rfl k⟩
  sgl := fun _ => rfl
theorem Per_erp {T : TypeId} {K : Kd α} : (Kd.erp T K).Per := fun m φ x cs h => by
  cases x with
  | none => exact h
  | some a => exact h
theorem z_erp {T : TypeId} {K : Kd α} : ZC (Kd.erp T K) none [.nilIface] := fun _ => rfl
theorem pv_ern {T : TypeId} {K : Kd α} : PV (Kd.erp T K) .nilIface none L := fun _ _ _ => ⟨_, rfl, rfl⟩
theorem pv_ers {T : TypeId} {K : Kd α} {b : Nat} {x : α} (i : Nat) (hi : L[i]? = some (Pfl K b 0 x)) : PV (Kd.erp T K) (.iface T (.pointer (some ⟨b, 0, none⟩))) (some x) L := fun m φ ho => by
  obtain ⟨f, _, h⟩ := ho.get hi
  exact ⟨_, ⟨b, rfl, h⟩, rfl⟩
theorem Val_erp {T : TypeId} {K : Kd α} {m φ : Frag} {v : Value} {x : Option α} (h : (Val (Kd.erp T K) v x).H m φ) : (x = none ∧ v = .nilIface) ∨ ∃ a b, x = some a ∧ v = .iface T (.pointer (some ⟨b, 0, none⟩)) ∧ (Pfl K b 0 a).H m Frag.emp := by
  obtain ⟨cs, h, rfl⟩ := h
  cases x with
  | none => exact .inl ⟨rfl, by rw [show cs = _ from h]; rfl⟩
  | some a => obtain ⟨b, rfl, k⟩ := h; exact .inr ⟨a, b, rfl, rfl, k⟩
def isIf (P : Program) (t : TypeId) : Bool := match P.underlying t with | some (.interface _) => true | _ => false
theorem isIf_spec {t : TypeId} (h : isIf P t = true) : ∃ ms, P.underlying t = some (.interface ms) := by
  unfold isIf at h
  split at h
  · rename_i ms hm; exact ⟨ms, hm⟩
  · cases h
theorem run_eqi_nn (d : Nat) {t : TypeId} {ms} (ht : P.underlying t = some (.interface ms)) (w : World) : (Op.equalIn (d + 1) t .nilIface .nilIface).run P w = .ok true w := by
  simp [Op.equalIn, run_underlying ht]
theorem run_eqi_sn (d : Nat) {t T : TypeId} {x : Value} {ms} (ht : P.underlying t = some (.interface ms)) (w : World) : (Op.equalIn (d + 1) t (.iface T x) .nilIface).run P w = .ok false w := by
  simp [Op.equalIn, run_underlying ht]
theorem run_eq_nn {t : TypeId} {ms} (ht : P.underlying t = some (.interface ms)) (w : World) : (Op.equal t .nilIface .nilIface).run P w = .ok true w := run_eqi_nn 9999 ht w
theorem run_eq_sn {t T : TypeId} {x : Value} {ms} (ht : P.underlying t = some (.interface ms)) (w : World) : (Op.equal t (.iface T x) .nilIface).run P w = .ok false w := run_eqi_sn 9999 ht w
/-- err == nil, err != nil -/
theorem o_erz {t u T : TypeId} {x : Operand} {K : Kd α} {v : Value} {y : Option α} (i : Nat) (hx : opv E x = some v) (hi : L[i]? = some (Val (Kd.erp T K) v y)) (ht : isIf P t = true) :
    OpS (σ := Unit) P E L ⟨d, .binOp .eql t x (.const .nilIface) u, ty, pos, aft, g⟩ (fun _ => .bool y.isNone) (fun _ => L) :=
  .run fun n F a w hs hm => by
    obtain ⟨ms, ht⟩ := isIf_spec ht
    obtain ⟨m, φ, hm1, hf1, he⟩ := hm.get hi
    have hc : a.eval (.const .nilIface) = .nilIface := rfl
    refine ⟨(), w, ?_, hm⟩
    rcases Val_erp he with ⟨rfl, rfl⟩ | ⟨a', b, rfl, rfl, _⟩
    · simp [execOp, hs.eval hx, hc, eqGuard, binOp, run_eq_nn ht]
    · simp [execOp, hs.eval hx, hc, eqGuard, binOp, run_eq_sn ht]
theorem o_ern {t u T : TypeId} {x : Operand} {K : Kd α} {v : Value} {y : Option α} (i : Nat) (hx : opv E x = some v) (hi : L[i]? = some (Val (Kd.erp T K) v y)) (ht : isIf P t = true) :
    OpS (σ := Unit) P E L ⟨d, .binOp .neq t x (.const .nilIface) u, ty, pos, aft, g⟩ (fun _ => .bool (!y.isNone)) (fun _ => L) :=
  .run fun n F a w hs hm => by
    obtain ⟨ms, ht⟩ := isIf_spec ht
    obtain ⟨m, φ, hm1, hf1, he⟩ := hm.get hi
    have hc : a.eval (.const .nilIface) = .nilIface := rfl
    refine ⟨(), w, ?_, hm⟩
    rcases Val_erp he with ⟨rfl, rfl⟩ | ⟨a', b, rfl, rfl, _⟩
    · simp [execOp, hs.eval hx, hc, eqGuard, binOp, run_eq_nn ht]
    · simp [execOp, hs.eval hx, hc, eqGuard, binOp, run_eq_sn ht]
/-! ### Arrays in parts -/
theorem o_bar {t : TypeId} {parts : Array (Nat × Operand)} {K : Kd α} {vs : List Value} {xs : List α} {zc : List Value} {len : Nat} (hp : parts.toList.map (fun p => (p.1, opv E p.2)) = (vs.zipIdx 0).map (fun p => (p.2, some p.1))) (hl : vs.length = len) (hv : PVs K vs xs L) (hz : zeroC P t = some zc) (hzl : zc.length = len * K.n) (ht : arTy P t len K.n = true) :
    OpS P E L ⟨d, .build t parts, ty, pos, aft, g⟩ (fun v => v) (fun v => Val (Kd.arr K len) v xs :: L) := by
  obtain ⟨e, ei, h1, h2, h3, _⟩ := arTy_spec ht
  exact .run fun n F a w hS hm => by
    subst hl
    have hpe : parts.toList.map (fun x => (x.fst, a.eval x.snd)) = (vs.zipIdx 0).map (fun p => (p.2, p.1)) := by
      generalize parts.toList = pl at hp
      generalize 0 = s at hp ⊢
      clear hv hzl ht h1
      induction pl generalizing vs s with
      | nil => cases vs with | nil => rfl | cons _ _ => cases hp
      | cons p pl ih =>
        cases vs with
        | nil => cases hp
        | cons v vs =>
          simp only [List.map_cons, List.zipIdx_cons, List.cons.injEq, Prod.mk.injEq] at hp ⊢
          exact ⟨⟨hp.1.1, hS.eval hp.1.2⟩, ih _ hp.2⟩
    obtain ⟨i, hi, hzz⟩ := Option.map_eq_some_iff.1 hz
    obtain ⟨ti, hti, hzv⟩ := Option.bind_eq_some_iff.1 hi
    have hcells : i.cells = zc.toArray := by apply Array.ext'; simpa using hzz
    have key : ∀ m φ, Own L m φ → ∃ cs, Enc K m xs cs ∧ Instr.fill (fun i => some (i * K.n, K.n)) zc.toArray ((vs.zipIdx 0).map fun p => (p.2, p.1)) = some cs.toArray := fun m φ ho => by
      obtain ⟨cs, hE, hf⟩ := fill_seq (K := K) ho vs xs [] zc 0 hv (by simp) hzl
      exact ⟨cs, hE, by simpa using hf⟩
    have hxl : xs.length = vs.length := by
      clear hp hpe key hz hzl hzz hcells hti hzv hi ht h1
      induction vs generalizing xs with
      | nil => cases xs with | nil => rfl | cons _ _ => cases hv
      | cons v vs ih => cases xs with | nil => cases hv | cons x xs => simp [ih hv.2]
    obtain ⟨m0, φ0, ho0, _⟩ := id hm
    obtain ⟨cs, hE, hf⟩ := key m0 φ0 ho0
    refine ⟨.agg cs.toArray, w, ?_, hm.map fun m φ ho => ?_⟩
    · simp [execOp, Instr.build, zeroValue, typeInfo, hti, hzv, run_underlying h1, sizeOf, h2, h3, hcells, hpe, hf]
    · obtain ⟨cs', hE', hf'⟩ := key m φ ho
      have : cs' = cs := by
        have e := hf'.symm.trans hf
        simpa using e
      subst this
      exact ⟨Frag.emp, φ, Frag.emp_le, .rfl, Frag.emp_dj, ⟨cs', ⟨hxl, by rw [hE'.len, hxl], hE'.oneCell, hE'.at_⟩, rfl⟩, ho⟩
/-- An element of an array's value. -/
theorem arr_el {K : Kd α} {len : Nat} {m φ : Frag} {v : Value} {xs : List α} (h : (Val (Kd.arr K len) v xs).H m φ) {i : Int} {z : α} (hi : idx xs i = some z) : ∃ cs : List Value, v = .agg cs.toArray ∧ xs.length = len ∧ i.toNat * K.n + K.n ≤ cs.length ∧ K.C m Frag.emp z ((cs.drop (i.toNat * K.n)).take K.n) := by
  obtain ⟨cs, ⟨h1, h2, h3, h4⟩, rfl⟩ := h
  obtain ⟨h0, hlt, hz⟩ := idx_spec hi
  refine ⟨cs, rfl, h1, ?_, h4 _ _ hz⟩
  have : (i.toNat + 1) * K.n ≤ len * K.n := Nat.mul_le_mul_right _ (by omega)
  rw [Nat.add_mul, Nat.one_mul] at this
  omega
theorem o_ixx {x y : Operand} {t e : TypeId} {K : Kd α} {v : Value} {xs : List α} {k : IntKind} {i : Int} {z : α} {len : Nat} {ex : α → Value} (p : Nat) (hx : opv E x = some v) (hy : opv E y = some (.int k i)) (hp : L[p]? = some (Val (Kd.arr K len) v xs)) (h : idx xs i = some z) (ht : P.underlying t = some (.array len e)) (he : tyI P e = some (K.agg, K.n)) (hK : K.X ex) :
    OpS (σ := Unit) P E L ⟨d, .index t x y, ty, pos, aft, g⟩ (fun _ => ex z) (fun _ => L) :=
  .run fun n F a w hs hm => by
    obtain ⟨m, φ, _, _, hv⟩ := hm.get hp
    obtain ⟨cs, rfl, hl, hle, hC⟩ := arr_el hv h
    obtain ⟨h0, hlt, hz⟩ := idx_spec h
    obtain ⟨dd, ii, hd, hi, hb, hn⟩ := tyI_spec he
    have hpart := run_part' (P := P) (A := K) (m := m) (φ := Frag.emp) (y := z) (w := w) he hle
    obtain ⟨e1, ha⟩ := hK _ _ _ _ hC
    rw [e1, ha] at hpart
    have hlt' : i < (len : Int) := by omega
    exact ⟨(), w, by simp [execOp, hs.eval hx, hs.eval hy, Instr.index, asIntOf, run_underlying ht, h0, hlt', sizeOf, typeInfo, hi, hn, hpart, pack], hm⟩
theorem o_ixv {x y : Operand} {t e : TypeId} {K : Kd α} {v : Value} {xs : List α} {k : IntKind} {i : Int} {z : α} {len : Nat} (p : Nat) (hx : opv E x = some v) (hy : opv E y = some (.int k i)) (hp : L[p]? = some (Val (Kd.arr K len) v xs)) (h : idx xs i = some z) (ht : P.underlying t = some (.array len e)) (he : tyI P e = some (K.agg, K.n)) :
    OpS P E L ⟨d, .index t x y, ty, pos, aft, g⟩ (fun u => u) (fun u => Val K u z :: L) :=
  .run fun n F a w hs hm => by
    obtain ⟨m0, φ0, _, _, hv⟩ := hm.get hp
    obtain ⟨cs, rfl, hl, hle, hC⟩ := arr_el hv h
    obtain ⟨h0, hlt, hz⟩ := idx_spec h
    obtain ⟨dd, ii, hd, hi, hb, hn⟩ := tyI_spec he
    have hpart := run_part' (P := P) (A := K) (m := m0) (φ := Frag.emp) (y := z) (w := w) he hle
    have hlt' : i < (len : Int) := by omega
    refine ⟨pack K.agg ((cs.drop (i.toNat * K.n)).take K.n), w, by simp [execOp, hs.eval hx, hs.eval hy, Instr.index, asIntOf, run_underlying ht, h0, hlt', sizeOf, typeInfo, hi, hn, hpart], hm.map fun m φ ho => ?_⟩
    obtain ⟨f, _, hv'⟩ := ho.get hp
    obtain ⟨cs', e, _, _, hC'⟩ := arr_el hv' h
    have : cs' = cs := by simpa using e.symm
    subst this
    exact ⟨Frag.emp, φ, Frag.emp_le, .rfl, Frag.emp_dj, ⟨_, hC', rfl⟩, ho⟩
theorem arr_inr {k : IntKind} {len : Nat} {v : Value} {xs : List Int} (p : Nat) (hp : L[p]? = some (Val (Kd.arr (Kd.int k) len) v xs)) {i z : Int} (h : idx xs i = some z) {F : Fr} {w : World} (hm : Mem F L w) : InR k z := by
  obtain ⟨m, φ, _, _, hv⟩ := hm.get hp
  obtain ⟨cs, _, _, _, hC⟩ := arr_el hv h
  exact hC.2
theorem arr_bs {len : Nat} {v : Value} {xs : List (List Int)} (p : Nat) (hp : L[p]? = some (Val (Kd.arr Kd.str len) v xs)) {i : Int} {z : List Int} (h : idx xs i = some z) {F : Fr} {w : World} (hm : Mem F L w) : Bs z := by
  obtain ⟨m, φ, _, _, hv⟩ := hm.get hp
  obtain ⟨cs, _, _, _, hC⟩ := arr_el hv h
  exact hC.2
/-! ### Elements of an array in memory -/
theorem fld_arr {K : Kd α} {b o l : Nat} {xs : List α} {m φ : Frag} (h : (Fld (Kd.arr K l) b o xs).H m φ) {i : Int} {z : α} (hi : idx xs i = some z) : xs.length = l ∧ ∃ cs, K.C m Frag.emp z cs ∧ ∀ (j : Nat) (c : Value), cs[j]? = some c → φ b (o + i.toNat * K.n + j) = some (.cell c false) := by
  obtain ⟨cs, f1, f2, l1, l2, dd, hc, h1, h2, h3, h4⟩ := h
  obtain ⟨h0, hlt, hz⟩ := idx_spec hi
  have hC := h4 _ _ hz
  refine ⟨h1, _, K.mono .rfl Frag.emp_le hC, fun j c hj => ?_⟩
  have hj2 := (List.getElem?_eq_some_iff.1 hj).1
  rw [List.length_take] at hj2
  rw [List.getElem?_take_of_lt (by omega), List.getElem?_drop] at hj
  have := l1 _ _ _ (hc _ c hj)
  rwa [← Nat.add_assoc] at this
theorem o_ixf {x y : Operand} {t : TypeId} {K : Kd α} {b o l : Nat} {xs : List α} {k : IntKind} {i : Int} {z : α} (p : Nat) (hx : opv E x = some (.pointer (some ⟨b, o, none⟩))) (hy : opv E y = some (.int k i)) (hp : L[p]? = some (Fld (Kd.arr K l) b o xs)) (h : idx xs i = some z) (ht : arTy P t l K.n = true) :
    OpS (σ := Unit) P E L ⟨d, .indexAddr t x y, ty, pos, aft, g⟩ (fun _ => .pointer (some ⟨b, o + i.toNat * K.n, none⟩)) (fun _ => L) := by
  obtain ⟨e, ei, h1, h2, h3, _⟩ := arTy_spec ht
  exact .run fun n F a w hs hm => by
    obtain ⟨m, φ, _, _, he⟩ := hm.get hp
    obtain ⟨hl, _⟩ := fld_arr he h
    obtain ⟨h0, h1', h2'⟩ := idx_spec h
    have hlt : i < (l : Int) := by omega
    refine ⟨(), w, ?_, hm⟩
    simp [execOp, hs.eval hx, hs.eval hy, Instr.indexAt, Instr.sureAddr, run_underlying h1, asIntOf, h0, hlt, sizeOf, typeInfo, h2, h3, addr_add]
theorem run_lar {K : Kd α} {b o l t : Nat} {xs : List α} {m φ : Frag} {w : World} {i : Int} {z : α} (ht : tyI P t = some (K.agg, K.n)) (he : (Fld (Kd.arr K l) b o xs).H m φ) (h : idx xs i = some z) (hw : φ.le (hp w)) : ∃ cs, K.C m Frag.emp z cs ∧ (Instr.loadAt t (.pointer (some ⟨b, o + i.toNat * K.n, none⟩))).run P w = .ok (pack K.agg cs) w := by
  obtain ⟨hl, cs, hC, hc⟩ := fld_arr he h
  exact ⟨cs, hC, by simp [Instr.loadAt, Instr.sureAddr, run_loadVar' ht w _ (K.len hC) K.sgl (fun j c hj => hp_cell_add (hw _ _ _ (hc j c hj)))]⟩
theorem o_lar {x : Operand} {t : TypeId} {K : Kd α} {b o l : Nat} {xs : List α} {i : Int} {z : α} {ex : α → Value} (p : Nat) (hx : opv E x = some (.pointer (some ⟨b, o + i.toNat * K.n, none⟩))) (hp : L[p]? = some (Fld (Kd.arr K l) b o xs)) (h : idx xs i = some z) (hK : K.X ex) (ht : tyI P t = some (K.agg, K.n)) :
    OpS (σ := Unit) P E L ⟨d, .load t x, ty, pos, aft, g⟩ (fun _ => ex z) (fun _ => L) :=
  .run fun n F a w hs hm => by
    obtain ⟨m, φ, hm1, hf1, he⟩ := hm.get hp
    obtain ⟨cs, hC, hr⟩ := run_lar (P := P) ht he h hf1
    obtain ⟨rfl, ha⟩ := hK _ _ _ _ hC
    rw [ha] at hr
    exact ⟨(), w, by simp [execOp, hs.eval hx, hr, pack], hm⟩
theorem o_lav {x : Operand} {t : TypeId} {K : Kd α} {b o l : Nat} {xs : List α} {i : Int} {z : α} (p : Nat) (hx : opv E x = some (.pointer (some ⟨b, o + i.toNat * K.n, none⟩))) (hp : L[p]? = some (Fld (Kd.arr K l) b o xs)) (h : idx xs i = some z) (ht : tyI P t = some (K.agg, K.n)) :
    OpS P E L ⟨d, .load t x, ty, pos, aft, g⟩ (fun u => u) (fun u => Val K u z :: L) :=
  .run fun n F a w hs hm => by
    obtain ⟨m, φ, ho, hh, hp', hk⟩ := hm
    obtain ⟨f, hf, he⟩ := ho.get hp
    obtain ⟨cs, hC, hr⟩ := run_lar (P := P) (w := w) ht he h (hf.trans hh.l1)
    exact ⟨pack K.agg cs, w, by simp [execOp, hs.eval hx, hr], m, φ, ⟨Frag.emp, φ, Frag.emp_le, .rfl, Frag.emp_dj, ⟨cs, hC, rfl⟩, ho⟩, hh, hp', hk⟩
theorem fd_ari {k : IntKind} {b o l : Nat} {xs : List Int} (p : Nat) (hp : L[p]? = some (Fld (Kd.arr (Kd.int k) l) b o xs)) {i z : Int} (h : idx xs i = some z) {F : Fr} {w : World} (hm : Mem F L w) : InR k z := by
  obtain ⟨m, φ, _, _, he⟩ := hm.get hp
  obtain ⟨_, cs, hC, _⟩ := fld_arr he h
  exact hC.2
theorem fd_arb {b o l : Nat} {xs : List (List Int)} (p : Nat) (hp : L[p]? = some (Fld (Kd.arr Kd.str l) b o xs)) {i : Int} {z : List Int} (h : idx xs i = some z) {F : Fr} {w : World} (hm : Mem F L w) : Bs z := by
  obtain ⟨m, φ, _, _, he⟩ := hm.get hp
  obtain ⟨_, cs, hC, _⟩ := fld_arr he h
  exact hC.2
/-- A store into an element of an array. -/
theorem o_sar {x xv : Operand} {t : TypeId} {K : Kd α} {b o l : Nat} {xs : List α} {i : Int} {z y : α} {v : Value} (p : Nat) (hx : opv E x = some (.pointer (some ⟨b, o + i.toNat * K.n, none⟩))) (hxv : opv E xv = some v) (hp : L[p]? = some (Fld (Kd.arr K l) b o xs)) (hv : PV K v y L) (h : idx xs i = some z) (ht : (P.info? t).map (·.size) = some K.n) :
    OpS (σ := Unit) P E L ⟨d, .store t x xv, ty, pos, aft, g⟩ (fun _ => undef) (fun _ => L.set p (Fld (Kd.arr K l) b o (xs.set i.toNat y))) :=
  .skip fun n F a w hs hm => by
    obtain ⟨h0, hlt, hz⟩ := idx_spec h
    obtain ⟨m0, φ0, o0, hh0, _⟩ := id hm
    obtain ⟨cs, hC0, hvc⟩ := hv m0 φ0 o0
    have hcells : v.cells.toList = cs := by rw [hvc]; exact cells_pack hC0
    have hlen := K.len hC0
    have h1 := K.one hC0
    obtain ⟨f0, hf0, he0⟩ := o0.get hp
    obtain ⟨ti, hti, hsz⟩ := Option.map_eq_some_iff.1 ht
    have own : ∀ {m φ : Frag}, (Fld (Kd.arr K l) b o xs).H m φ → ∀ j, j < cs.length → ∃ c, φ b (o + i.toNat * K.n + j) = some (.cell c false) := fun {m φ} he j hj => by
      obtain ⟨_, cs', hC', hc'⟩ := fld_arr he h
      have : j < cs'.length := by rw [K.len hC']; omega
      exact ⟨cs'[j], hc' j _ (List.getElem?_eq_getElem this)⟩
    obtain ⟨w', hr, hw, hok⟩ := run_storeCells' (P := P) (b := b) (o := o + i.toNat * K.n) cs 0 w (fun j hj => by
      obtain ⟨c, hc⟩ := own he0 j hj
      exact ⟨c, (hf0.trans hh0.l1) _ _ _ hc⟩) h1
    rw [Nat.add_zero] at hw
    refine ⟨(), w', ?_, ?_⟩
    · have hl2 : v.cells.size = K.n := by rw [← hlen, ← hcells]; simp
      simp [execOp, hs.eval hx, hs.eval hxv, Instr.storeAt, Instr.sureAddr, storeVar, sizeOf, typeInfo, hti, hsz, hl2, hcells, hr]
    · obtain ⟨m, φ, ho, hh, hpp, hkk⟩ := hm
      obtain ⟨f1, f2, l1, l2, d12, he, _, hset⟩ := ho.split hp
      have own1 := own he
      obtain ⟨all, q1, q2, r1, r2, dq, hca, ha1, ha2, ha3, ha4⟩ := he
      obtain ⟨cs3, hC3, hv3⟩ := hv m φ ho
      have e3 : cs3 = cs := by rw [← hcells, hv3]; exact (cells_pack hC3).symm
      subst e3
      have hf2 : ∀ j, j < cs3.length → f2 b (o + i.toNat * K.n + j) = none := fun j hj => by
        obtain ⟨c, hc⟩ := own1 j hj
        rcases d12 b (o + i.toNat * K.n + j) with e | e
        · rw [hc] at e; cases e
        · exact e
      have hmul : (i.toNat + 1) * K.n ≤ l * K.n := Nat.mul_le_mul_right _ (by omega)
      rw [Nat.add_mul, Nat.one_mul] at hmul
      have hfit : i.toNat * K.n + cs3.length ≤ all.length := by omega
      have hE : Enc K m xs all := ⟨by rw [ha2, ha1], ha4⟩
      have hE2 : Enc K m (xs.set i.toNat y) (Go.splice all (i.toNat * K.n) cs3) := by
        rw [set_splice (by omega) y]
        exact hE.splice (Enc.one hC3)
      refine ⟨m, SL.fset φ b (o + i.toNat * K.n) cs3, hset m (SL.fset q1 b (o + i.toNat * K.n) cs3) _ _ .rfl (fset_mono (r1.trans l1)) (le_fset l2 hf2) (dj_fset (d12.mono r1 .rfl).symm hf2).symm ?_, hh.fset (fun j hj => by obtain ⟨c, hc⟩ := own1 j hj; exact ⟨c, l1 _ _ _ hc⟩) hw, hpp, hkk.trans hok⟩
      exact ⟨Go.splice all (i.toNat * K.n) cs3, SL.fset q1 b (o + i.toNat * K.n) cs3, Frag.emp, .rfl, Frag.emp_le, Frag.dj_emp, fset_splice hca hfit, by simp [ha1], by rw [length_splice _ _ _ hfit]; exact ha2, hE2.oneCell, hE2.at_⟩
/-! ### clear -/
theorem zeroCells_list {zc : Array Value} (n : Nat) (hz : 0 < zc.size) : (Builtin.zeroCells zc n).toList = (List.replicate n zc.toList).flatten := by
  have := range_flat (zc := zc) n (.inl hz)
  unfold Builtin.zeroCells
  simpa using this
/-- clear(v[lo:hi]) -/
theorem o_clr {x : Operand} {t : TypeId} {K : Kd α} {v : Value} {xs : List α} {lo hi : Int} {z : α} (p : Nat) (hx : opv E x = some (subV v lo.toNat hi.toNat K.n)) (hp : L[p]? = some (Val (Kd.osl K) v xs)) (hb : inB xs lo hi) (ht : appTy P t K.n = true) (hz : 0 < K.n) (hzc : ∀ e, P.underlying t = some (.slice e) → ∃ zc, zeroC P e = some zc ∧ ∀ m, K.C m Frag.emp z zc) :
    OpS (σ := Unit) P E L ⟨d, .call { callee := .builtin .clear, args := #[x], argTypes := #[t] }, ty, pos, aft, g⟩ (fun _ => .tuple #[]) (fun _ => L.set p (Val (Kd.osl K) v (Go.splice xs lo.toNat (List.replicate (hi.toNat - lo.toNat) z)))) :=
  .run fun n F a w hS hm => by
    obtain ⟨h0, h1, h2⟩ := hb
    obtain ⟨e, ei, zv, hte, hei, hsz, hby, hze, hzs⟩ := appTy_spec ht
    obtain ⟨zc, hzc1, hC⟩ := hzc e hte
    have ezc : zc = zv.cells.toList := by
      unfold zeroC at hzc1
      simp [hei, hze] at hzc1
      exact hzc1.symm
    subst ezc
    obtain ⟨m, φ, ho, hh, hpp, hkk⟩ := hm
    have hE := Enc.replicate (hC m) (hi.toNat - lo.toNat)
    obtain ⟨w', φ', hrun, ho', hh', hok⟩ := over_core (P := P) (F := F) ho hh hp hE (lo := lo.toNat) (hi := hi.toNat) (by simp; omega) (by omega)
    refine ⟨(), w', ?_, m, φ', ho', hh', hpp, hkk.trans hok⟩
    obtain ⟨f1, hf1, he⟩ := ho.get hp
    obtain ⟨ad, cap, hve, hl, hmx, _⟩ := Val_osl he
    subst hve
    simp only [subV] at hrun hx
    generalize (if cap = lo.toNat then ad else ad.map (·.add (lo.toNat * K.n))) = A at hrun hx
    have hzl := zeroCells_list (zc := zv.cells) (hi.toNat - lo.toNat) (by omega)
    cases A with
    | none =>
      have hrun' : w = w' := by simpa using hrun
      subst hrun'
      simp [execOp, hS.eval hx, resolve, invoke, builtin, Builtin.clear_, run_underlying hte]
    | some a =>
      dsimp only at hrun
      by_cases hz0 : hi.toNat - lo.toNat = 0
      · rw [hz0] at hrun hx
        have hrun' : w = w' := by simpa [storeCells] using hrun
        subst hrun'
        simp [execOp, hS.eval hx, resolve, invoke, builtin, Builtin.clear_, run_underlying hte]
      · obtain ⟨q, hq⟩ := Nat.exists_eq_succ_of_ne_zero hz0
        rw [hq] at hrun hx hzl
        simp [execOp, hS.eval hx, resolve, invoke, builtin, Builtin.clear_, run_underlying hte, zeroValue, typeInfo, hei, hze, hzl, hrun]
theorem X_eq {u : Value} : (Kd.eq u).X (fun _ => u) := fun _ _ _ _ h => ⟨h.1, rfl⟩
theorem Mem.erp_open {F : Fr} {w : World} {T : TypeId} {K : Kd α} {b : Nat} {a : α} (i : Nat) (hi : L[i]? = some (Val (Kd.erp T K) (.iface T (.pointer (some ⟨b, 0, none⟩))) (some a))) (h : Mem F L w) : Mem F (Pfl K b 0 a :: L) w :=
  h.addP fun m _ ho => by
    obtain ⟨g, _, he⟩ := ho i _ hi
    rcases Val_erp he with ⟨e, _⟩ | ⟨a', b', e1, e2, k⟩
    · cases e
    · cases e1; cases e2; exact k
/-! ### Memory that others made -/
theorem Mem.alloc' {F : Fr} {w : World} (h : Mem F L w) (cs : List Value) (t : TypeId) : Mem F L (w.alloc (.cells cs.toArray t)) := by
  obtain ⟨m, φ, o, hh, hp, hk⟩ := h
  have hn : ∀ j, φ w.heap.size (0 + j) = none := fun j => by
    cases e : φ w.heap.size (0 + j) with
    | none => rfl
    | some c => have := hh.l1 _ _ _ e; rw [hp_none (Nat.le_refl _)] at this; cases this
  exact ⟨m, SL.fset φ w.heap.size 0 cs, o.mono .rfl (le_fset .rfl fun j _ => hn j), hh.alloc, hp, hk.trans (Ok.alloc w _)⟩
theorem Mem.setc {F : Fr} {w : World} {u v : Value} {b o : Nat} (i : Nat) (hi : L[i]? = some (Fld (Kd.eq u) b o ())) (hv : v.oneCell' = true) (h : Mem F L w) : Mem F (L.set i (Fld (Kd.eq v) b o ())) (w.setCell ⟨b, o, none⟩ v) := by
  obtain ⟨m0, φ0, hm0, hf0, cs0, g1, g2, k1, k2, _, hc0, e0, _⟩ := h.get hi
  subst e0
  have hcell := hf0 _ _ _ (k1 _ _ _ (hc0 0 u rfl))
  rw [Nat.add_zero] at hcell
  obtain ⟨e1, ok⟩ := hp_setCell (v := v) hcell
  refine h.upd i hi (fun m φ fr hh ⟨cs, f1, f2, l1, l2, dd, hc, e, _⟩ _ => ?_) ok
  subst e
  have hq : φ b (o + 0) = some (.cell u false) := l1 _ _ _ (hc 0 u rfl)
  exact ⟨m, SL.fset φ b o [v], .rfl, hh.fset (fun j hj => by
    have : j = 0 := by simpa using hj
    subst this; exact ⟨u, hq⟩) e1, [v], SL.fset f1 b o [v], Frag.emp, fset_mono l1, Frag.emp_le, Frag.dj_emp, fun j c hj => fset_at hj, rfl, hv⟩
theorem Mem.fldc {F : Fr} {w : World} {u : Value} {b o : Nat} (i : Nat) (hi : L[i]? = some (Fld (Kd.eq u) b o ())) (h : Mem F L w) : w.cell? ⟨b, o, none⟩ = some u ∧ w.frozen? ⟨b, o, none⟩ = false := by
  obtain ⟨m0, φ0, hm0, hf0, cs0, g1, g2, k1, k2, _, hc0, e0, _⟩ := h.get hi
  subst e0
  exact hp_cell (hf0 _ _ _ (k1 _ _ _ (hc0 0 u rfl)))
theorem Mem.pflc {F : Fr} {w : World} {u : Value} {b o : Nat} (i : Nat) (hi : L[i]? = some (Pfl (Kd.eq u) b o ())) (h : Mem F L w) : w.cell? ⟨b, o, none⟩ = some u := by
  obtain ⟨m0, φ0, hm0, hf0, cs0, hc0, e0, _⟩ := h.get hi
  subst e0
  obtain ⟨fz, hfz⟩ := hc0 0 u rfl
  exact (hp_cell (hm0 _ _ _ hfz)).1
/-! ### []byte("..") -/
theorem hp_allocfz {w : World} {cs : List Value} {t : TypeId} : hp (w.alloc (.cells cs.toArray t (cs.length, cs.length + 1))) = hp (w.alloc (.cells cs.toArray t)) := by
  funext b o
  by_cases hb : b = w.heap.size
  · subst hb
    have e1 : (w.alloc (.cells cs.toArray t (cs.length, cs.length + 1))).heap[w.heap.size]? = some (.cells cs.toArray t (cs.length, cs.length + 1)) := by
      show (w.heap.push _)[w.heap.size]? = _
      simp
    have e2 : (w.alloc (.cells cs.toArray t)).heap[w.heap.size]? = some (.cells cs.toArray t) := by
      show (w.heap.push _)[w.heap.size]? = _
      simp
    simp only [hp, e1, e2]
    by_cases ho : o < cs.length
    · have : ¬ cs.length ≤ o := by omega
      simp [ho, this]
    · simp [List.getElem?_eq_none (Nat.le_of_not_lt ho)]
  · have e1 : (w.alloc (.cells cs.toArray t (cs.length, cs.length + 1))).heap[b]? = w.heap[b]? := by
      show (w.heap.push _)[b]? = _
      rw [Array.getElem?_push, if_neg hb]
    have e2 : (w.alloc (.cells cs.toArray t)).heap[b]? = w.heap[b]? := by
      show (w.heap.push _)[b]? = _
      rw [Array.getElem?_push, if_neg hb]
    simp only [hp, e1, e2]
theorem run_mark {w : World} {cs : List Value} {t : TypeId} : (markStringish ⟨w.heap.size, 0, none⟩).run P (w.alloc (.cells cs.toArray t)) = .ok () (w.alloc (.cells cs.toArray t (cs.length, cs.length + 1))) := by
  have e2 : (w.alloc (.cells cs.toArray t)).heap[w.heap.size]? = some (.cells cs.toArray t) := by
    show (w.heap.push _)[w.heap.size]? = _
    simp
  have hs : (w.alloc (.cells cs.toArray t)).shape? w.heap.size = some (t, cs.length) := by
    unfold World.shape?
    rw [e2]; simp
  simp only [markStringish, Sem.run_bind, run_shape, Result.andThen_ok, hs, run_freeze]
  congr 1
  unfold World.freeze
  rw [if_neg (by decide)]
  unfold World.alloc
  congr 1
  apply Array.ext
  · simp
  · intro i h1 h2
    rw [Array.getElem_modify]
    by_cases hi : i = w.heap.size
    · subst hi; simp
    · have : i < w.heap.size := by simp at h2; omega
      simp [Array.getElem_push, this, Ne.symm hi]
theorem bs_run {t : TypeId} {len : Nat} {parts : Array (Nat × Operand)} {K : Kd α} {vs : List Value} {xs : List α} (hp : parts.toList.map (fun p => (p.1, opv E p.2)) = (vs.zipIdx 0).map (fun p => (p.2, some p.1))) (hl : vs.length = len) (hv : PVs K vs xs L) (ht : appTy P t K.n = true) (hz : 0 < K.n) (hs : len * K.n ≤ 16777216)
    {n : Nat} {F : Fr} {a : Act} {w : World} (hS : Sl n E a) (hm : Mem F L w) : ∃ (e : TypeId) (cs : List Value), P.underlying t = some (.slice e) ∧ (execOp a.eval ⟨d, .buildSlice t len parts, ty, pos, aft, g⟩).run P w = .ok (.value (.slice (some ⟨w.heap.size, 0, none⟩) len len)) (w.alloc (.cells cs.toArray e)) ∧ Mem F (Val (Kd.osl K) (.slice (some ⟨w.heap.size, 0, none⟩) len len) xs :: L) (w.alloc (.cells cs.toArray e)) := by
    obtain ⟨e, ei, zv, hte, hei, hsz, hby, hze, hzs⟩ := appTy_spec ht
    have hpe : parts.toList.map (fun x => (x.fst, a.eval x.snd)) = (vs.zipIdx 0).map (fun p => (p.2, p.1)) := by
      generalize parts.toList = pl at hp
      generalize 0 = s at hp ⊢
      clear hl hv
      induction pl generalizing vs s with
      | nil => cases vs with | nil => rfl | cons _ _ => cases hp
      | cons p pl ih =>
        cases vs with
        | nil => cases hp
        | cons v vs =>
          simp only [List.map_cons, List.zipIdx_cons, List.cons.injEq, Prod.mk.injEq] at hp ⊢
          exact ⟨⟨hp.1.1, hS.eval hp.1.2⟩, ih _ hp.2⟩
    obtain ⟨m, φ, ho, hh, hpp, hkk⟩ := id hm
    subst hl
    have hrange : ∀ zero : Array Value, ((Array.range (vs.length * K.n)).map (fun i => zero[i % zero.size]!)).toList.length = vs.length * K.n := fun zero => by simp
    obtain ⟨cs, hE, hf⟩ := fill_seq (K := K) ho vs xs [] ((Array.range (vs.length * K.n)).map (fun i => (if vs.length * K.n = 0 then #[] else zv.cells)[i % (if vs.length * K.n = 0 then #[] else zv.cells).size]!)).toList 0 hv (by simp) (hrange _)
    have hxl : xs.length = vs.length := by
      clear hp hpe hf hE hrange hs
      induction vs generalizing xs with
      | nil => cases xs with | nil => rfl | cons _ _ => cases hv
      | cons v vs ih => cases xs with | nil => cases hv | cons x xs => simp [ih hv.2]
    refine ⟨e, cs, hte, ?_, ?_⟩
    · have q1 : ¬ (16777216 < vs.length * K.n) := by omega
      simp only [List.nil_append, Array.toArray_toList] at hf
      by_cases h0 : vs.length * K.n = 0
      · simp [h0] at hf
        simp [execOp, Instr.buildSlice, run_underlying hte, sizeOf, typeInfo, hei, hsz, h0, hpe, hf, newRow]
      · simp only [h0, if_false] at hf
        simp [execOp, Instr.buildSlice, run_underlying hte, sizeOf, typeInfo, hei, hsz, q1, h0, hpe, zeroValue, hze, hf, newRow]
    · have hcl := hE.len
      have := hm.made (K := K) (xs := xs) (cap := vs.length) (cs := cs) (t := e) (by omega) (by simp only [maxLen]; have := Nat.le_mul_of_pos_right vs.length hz; omega) (by rw [hcl, hxl]) (fun m' φ' ho' => by
        obtain ⟨cs', hE', hf'⟩ := fill_seq (K := K) ho' vs xs [] ((Array.range (vs.length * K.n)).map (fun i => (if vs.length * K.n = 0 then #[] else zv.cells)[i % (if vs.length * K.n = 0 then #[] else zv.cells).size]!)).toList 0 hv (by simp) (hrange _)
        have : cs' = cs := by
          have e := hf'.symm.trans hf
          simpa using e
        subst this
        rw [List.take_of_length_le (by rw [hE'.len]; exact Nat.le_refl _)]; exact hE')
      rw [hxl] at this
      exact this
/-- A slice of bytes, built and marked as a string's. -/
theorem gs_bytes {f : Bas} {k : List Item} {R : Ending → World → Prop} {n : Nat} {F : Fr} {a : Act} {w : World} {ops : Array Oper} {i : Nat} {os : List Oper} {t len d1 d2 ty1 ty2 : Nat} {pos1 pos2 : String} {aft1 aft2 : Array Edge} {parts : Array (Nat × Operand)} {vs : List Value} {xs : List Int}
    (h : St n F E L a w) (hp : parts.toList.map (fun p => (p.1, opv E p.2)) = (vs.zipIdx 0).map (fun p => (p.2, some p.1))) (hl : vs.length = len) (hv : PVs (Kd.int .u8) vs xs L) (ht : appTy P t 1 = true) (hs : Nat.ble len 16777216 = true) (he : ∀ e, P.underlying t = some (.slice e) → P.underlying e = some (.int .u8)) (hd1 : Nat.blt d1 n = true) (hd2 : Nat.blt d2 n = true)
    (K : ∀ v a w, St n F ((d2, v) :: (d1, v) :: E) (Val (Kd.osl (Kd.int .u8)) v xs :: L) a w → GoR P f ops (i + 1 + 1) os k a w R) :
    GoR P f ops i (⟨some d1, .buildSlice t len parts, ty1, pos1, aft1, none⟩ :: ⟨some d2, .convert t t (.tmp d1), ty2, pos2, aft2, none⟩ :: os) k a w R := by
  refine GoR.oper rfl ?_
  obtain ⟨e, cs, hte, hrun, hm⟩ := bs_run (P := P) (K := Kd.int .u8) (d := some d1) (ty := ty1) (pos := pos1) (aft := aft1) (g := none) hp hl hv ht (by decide) (by have := Nat.le_of_ble_eq_true hs; show len * 1 ≤ _; omega) h.sl h.mem
  unfold Oper.wp
  rw [hrun]
  simp only [Oper.upon]
  have hs1 := h.sl.put (Nat.le_of_ble_eq_true hd1) (.slice (some ⟨w.heap.size, 0, none⟩) len len)
  refine GoR.oper rfl ?_
  have hev : (a.put (some d1) (.slice (some ⟨w.heap.size, 0, none⟩) len len)).eval (.tmp d1) = .slice (some ⟨w.heap.size, 0, none⟩) len len := hs1.eval (by simp [opv, look])
  have hrun2 : (execOp (a.put (some d1) (.slice (some ⟨w.heap.size, 0, none⟩) len len)).eval ⟨some d2, .convert t t (.tmp d1), ty2, pos2, aft2, none⟩).run P (w.alloc (.cells cs.toArray e)) = .ok (.value (.slice (some ⟨w.heap.size, 0, none⟩) len len)) (w.alloc (.cells cs.toArray e (cs.length, cs.length + 1))) := by
    simp [execOp, hev, convert, run_underlying hte, run_underlying (he e hte), run_mark]
  unfold Oper.wp
  rw [hrun2]
  simp only [Oper.upon]
  refine K _ _ _ ⟨hs1.put (Nat.le_of_ble_eq_true hd2) _, ?_⟩
  obtain ⟨m, φ, ho, hh, hpp, hkk⟩ := hm
  obtain ⟨_, _, _, _, _, hk0⟩ := h.mem
  exact ⟨m, φ, ho, ⟨hh.d1, hh.d2, hh.d3, hp_allocfz ▸ hh.l1, hp_allocfz ▸ hh.l2, hp_allocfz ▸ hh.l3⟩, hpp, hk0.trans (Ok.alloc w _)⟩
end
end Go.SL
