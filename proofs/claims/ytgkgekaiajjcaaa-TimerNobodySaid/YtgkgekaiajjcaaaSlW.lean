/- Structs that are compared; nil slices; arrays; own slices that are cut. -/
import Derived.Test.YtgkgekaiajjcaaaSlU
namespace Go.SL
open Go Go.RowKit
set_option linter.unusedVariables false
set_option linter.unusedSimpArgs false
section
variable {α β γ : Type} {P : Program} {E : List (Nat × Value)} {L : List Ent} {d : Option Nat} {ty : TypeId} {pos : String} {aft : Array Edge} {g : Option (Nat × Bool)}
theorem run_part' {ft : TypeId} {off : Nat} {A : Kd β} {m φ : Frag} {y : β} {cs : List Value} {w : World} (hty : tyI P ft = some (A.agg, A.n)) (hl : off + A.n ≤ cs.length) :
    (part ft cs.toArray off).run P w = .ok (pack A.agg ((cs.drop off).take A.n)) w := by
  obtain ⟨dd, ii, hd, hi, hb, hn⟩ := tyI_spec hty
  cases ha : A.agg with
  | true =>
    rw [ha] at hb
    have : cs.toArray.extract off (off + A.n) = ((cs.drop off).take A.n).toArray := by
      apply Array.ext'; simp [List.drop_take]
    simp [part, run_isAgg' hd, hb, sizeOf, typeInfo, hi, hn, this, pack]
  | false =>
    rw [ha] at hb
    have h1 := A.sgl ha
    have hlt : off < cs.length := by omega
    have e : cs[off]? = some cs[off] := List.getElem?_eq_getElem hlt
    have e2 : (cs.drop off).take A.n = [cs[off]] := by
      rw [h1, List.drop_eq_getElem_cons hlt]; rfl
    simp [part, run_isAgg' hd, hb, hlt, e2, pack]
def EqT (P : Program) (t : TypeId) (A : Kd β) [DecidableEq β] : Prop := ∀ (d : Nat) (w : World) (m φ : Frag) (x : β) (cs : List Value) (m' φ' : Frag) (y : β) (ds : List Value), A.C m φ x cs → A.C m' φ' y ds → (Op.equalIn (d + 1) t (pack A.agg cs) (pack A.agg ds)).run P w = .ok (decide (x = y)) w
theorem eq_int {t : TypeId} {k : IntKind} (h : P.underlying t = some (.int k)) : EqT P t (Kd.int k) := fun d w m φ x cs m' φ' y ds h1 h2 => by
  obtain ⟨rfl, -⟩ := h1; obtain ⟨rfl, -⟩ := h2
  show (Op.equalIn (d + 1) t (.int k x) (.int k y)).run P w = _
  rw [run_equalIn_int w d t k k x y h]; rfl
theorem eq_bool {t : TypeId} (h : P.underlying t = some .bool) : EqT P t Kd.bool := fun d w m φ x cs m' φ' y ds h1 h2 => by
  have e1 : cs = [.bool x] := h1; have e2 : ds = [.bool y] := h2
  subst e1; subst e2
  show (Op.equalIn (d + 1) t (.bool x) (.bool y)).run P w = _
  rw [run_equalIn_bool' w d t x y h]; congr 1
theorem eq_str {t : TypeId} (h : P.underlying t = some .string) : EqT P t Kd.str := fun d w m φ x cs m' φ' y ds h1 h2 => by
  obtain ⟨rfl, b1⟩ := h1; obtain ⟨rfl, b2⟩ := h2
  show (Op.equalIn (d + 1) t (.string (mkS x)) (.string (mkS y))).run P w = _
  rw [run_equalIn_string w d t _ _ h, mkS_beq b1 b2]
def eqI (P : Program) (t : TypeId) : Option (List (Nat × TypeId × Bool × Nat)) := match P.underlying t with
  | some (.struct fs) => if P.stoodInHeld t = false ∧ P.eqGuardType P.depth t = false then fs.toList.mapM fun f => if f.name ≠ "_" then (tyI P f.type).map fun p => (f.offset, f.type, p.1, p.2) else none else none
  | _ => none
inductive EqL (P : Program) (K : Kd α) : List (Nat × TypeId × Bool × Nat) → (α → α → Bool) → Prop
  | last {β : Type} [DecidableEq β] {off : Nat} {t : TypeId} {A : Kd β} {pr : α → β} (hs : Sub K off A pr) (h : EqT P t A) : EqL P K [(off, t, A.agg, A.n)] (fun x y => decide (pr x = pr y))
  | cons {β : Type} [DecidableEq β] {off : Nat} {t : TypeId} {A : Kd β} {pr : α → β} {l : List (Nat × TypeId × Bool × Nat)} {r : α → α → Bool} (hs : Sub K off A pr) (h : EqT P t A) (hr : EqL P K l r) : EqL P K ((off, t, A.agg, A.n) :: l) (fun x y => decide (pr x = pr y) && r x y)
theorem run_eqFields' {K : Kd α} {l : List (Nat × TypeId × Bool × Nat)} {r : α → α → Bool} (he : EqL P K l r) (d : Nat) (w : World) {m φ m' φ' : Frag} {x y : α} {cs ds : List Value} (h1 : K.C m φ x cs) (h2 : K.C m' φ' y ds) : ∀ {fs : List Field}, fs.mapM (fun f => if f.name ≠ "_" then (tyI P f.type).map fun p => (f.offset, f.type, p.1, p.2) else none) = some l → (Op.eqFields (d + 1) cs.toArray ds.toArray fs).run P w = .ok (r x y) w := by
  have one : ∀ {β : Type} [DecidableEq β] {off : Nat} {t : TypeId} {A : Kd β} {pr : α → β} (hs : Sub K off A pr) (h : EqT P t A) {f : Field} {fs : List Field} {q : Bool}, (if f.name ≠ "_" then (tyI P f.type).map fun p => (f.offset, f.type, p.1, p.2) else none) = some (off, t, A.agg, A.n) → (Op.eqFields (d + 1) cs.toArray ds.toArray fs).run P w = .ok q w → (Op.eqFields (d + 1) cs.toArray ds.toArray (f :: fs)).run P w = .ok (decide (pr x = pr y) && q) w := by
    intro β _ off t A pr hs h f fs q hf hq
    split at hf
    · rename_i hn
      obtain ⟨p, hp, e⟩ := Option.map_eq_some_iff.1 hf
      simp only [Prod.mk.injEq] at e
      obtain ⟨e1, e2, e3, e4⟩ := e
      obtain ⟨l1, f1, _, c1⟩ := hs _ _ _ _ h1
      obtain ⟨l2, f2, _, c2⟩ := hs _ _ _ _ h2
      have hty : tyI P f.type = some (A.agg, A.n) := by rw [hp, ← e3, ← e4]
      subst e1; subst e2
      have p1 := run_part' (P := P) (A := A) (m := m) (φ := φ) (y := pr x) (w := w) (off := f.offset) (cs := cs) hty l1
      have p2 := run_part' (P := P) (A := A) (m := m) (φ := φ) (y := pr x) (w := w) (off := f.offset) (cs := ds) hty l2
      have p3 := h d w _ _ _ _ _ _ _ _ c1 c2
      simp only [Op.eqFields, ne_eq, hn, not_false_eq_true, if_true, Sem.run_bind, p1, p2, p3, Result.andThen_ok]
      cases hd : decide (pr x = pr y) with
      | true => simp only [Bool.not_true, Bool.false_eq_true, if_false, Bool.true_and]; exact hq
      | false => simp
    · cases hf
  induction he with
  | last hs h =>
    intro fs hm
    match fs, hm with
    | [], hm => simp at hm
    | f :: fs, hm =>
      simp only [List.mapM_cons] at hm
      obtain ⟨p, hp, hm⟩ := Option.bind_eq_some_iff.1 hm
      obtain ⟨q, hq, hm⟩ := Option.bind_eq_some_iff.1 hm
      have e : p :: q = [_] := Option.some.inj hm
      obtain ⟨rfl, rfl⟩ := List.cons.inj e
      have : fs = [] := by
        match fs, hq with
        | [], _ => rfl
        | g :: gs, hq =>
          simp only [List.mapM_cons] at hq
          obtain ⟨p', hp', hq⟩ := Option.bind_eq_some_iff.1 hq
          obtain ⟨q', hq', hq⟩ := Option.bind_eq_some_iff.1 hq
          cases hq
      subst this
      have := one hs h (q := true) hp (fs := []) (by simp [Op.eqFields])
      simpa using this
  | cons hs h hr ih =>
    intro fs hm
    match fs, hm with
    | [], hm => simp at hm
    | f :: fs, hm =>
      simp only [List.mapM_cons] at hm
      obtain ⟨p, hp, hm⟩ := Option.bind_eq_some_iff.1 hm
      obtain ⟨q, hq, hm⟩ := Option.bind_eq_some_iff.1 hm
      have e : p :: q = _ :: _ := Option.some.inj hm
      obtain ⟨rfl, rfl⟩ := List.cons.inj e
      exact one hs h hp (ih hq)
theorem run_eqv {t : TypeId} {K : Kd α} {l : List (Nat × TypeId × Bool × Nat)} {r : α → α → Bool} (ht : eqI P t = some l) (he : EqL P K l r) {w : World} {m φ m' φ' : Frag} {x y : α} {cs ds : List Value} (h1 : K.C m φ x cs) (h2 : K.C m' φ' y ds) : P.eqGuardType P.depth t = false ∧ (Op.equal t (.agg cs.toArray) (.agg ds.toArray)).run P w = .ok (r x y) w := by
  unfold eqI at ht
  split at ht
  · rename_i fs hfs
    split at ht
    · rename_i hg
      refine ⟨hg.2, ?_⟩
      have hff : P.fieldsOf t = fs := by simp [Program.fieldsOf, hfs]
      have := run_equalIn_struct w 9999 t cs.toArray ds.toArray (by rw [hff]; exact hfs) hg.1
      show (Op.equalIn (9999 + 1) t _ _).run P w = _
      rw [this, hff]
      exact run_eqFields' he 9998 w h1 h2 ht
    · cases ht
  · cases ht
theorem o_eqv {t u : TypeId} {x y : Operand} {K : Kd α} {l : List (Nat × TypeId × Bool × Nat)} {r : α → α → Bool} {p q : α} {v v' : Value} (hx : opv E x = some v) (hy : opv E y = some v') (hv : PV K v p L) (hv' : PV K v' q L) (hK : K.agg = true) (ht : eqI P t = some l) (he : EqL P K l r) :
    OpS (σ := Unit) P E L ⟨d, .binOp .eql t x y u, ty, pos, aft, g⟩ (fun _ => .bool (r p q)) (fun _ => L) :=
  .run fun n F a w hS hm => by
    obtain ⟨m, φ, ho, hh, _⟩ := id hm
    obtain ⟨cs, hC, rfl⟩ := hv m φ ho
    obtain ⟨ds, hD, rfl⟩ := hv' m φ ho
    obtain ⟨h1, h2⟩ := run_eqv (w := w) ht he hC hD
    exact ⟨(), w, by simp [execOp, hS.eval hx, hS.eval hy, hK, pack, eqGuard, h1, binOp, h2], hm⟩
theorem o_nev {t u : TypeId} {x y : Operand} {K : Kd α} {l : List (Nat × TypeId × Bool × Nat)} {r : α → α → Bool} {p q : α} {v v' : Value} (hx : opv E x = some v) (hy : opv E y = some v') (hv : PV K v p L) (hv' : PV K v' q L) (hK : K.agg = true) (ht : eqI P t = some l) (he : EqL P K l r) :
    OpS (σ := Unit) P E L ⟨d, .binOp .neq t x y u, ty, pos, aft, g⟩ (fun _ => .bool (!(r p q))) (fun _ => L) :=
  .run fun n F a w hS hm => by
    obtain ⟨m, φ, ho, hh, _⟩ := id hm
    obtain ⟨cs, hC, rfl⟩ := hv m φ ho
    obtain ⟨ds, hD, rfl⟩ := hv' m φ ho
    obtain ⟨h1, h2⟩ := run_eqv (w := w) ht he hC hD
    exact ⟨(), w, by simp [execOp, hS.eval hx, hS.eval hy, hK, pack, eqGuard, h1, binOp, h2], hm⟩
/-! ### A slice of one's own, cut -/
theorem osl_sub {K : Kd α} {m φ : Frag} {v : Value} {xs ys : List α} {lo hi : Int} (hc : cut xs lo hi = some ys) (h : (Val (Kd.osl K) v xs).H m φ) : (Val (Kd.osl K) (subV v lo.toNat hi.toNat K.n) ys).H m φ := by
  obtain ⟨h0, h1, h2, rfl⟩ := cut_spec hc
  obtain ⟨cs, ⟨a, cap, rfl, h3, h4, h5⟩, rfl⟩ := h
  have hlen : ((xs.take hi.toNat).drop lo.toNat).length = hi.toNat - lo.toNat := by simp; omega
  refine ⟨_, ⟨(if cap = lo.toNat then a else a.map (·.add (lo.toNat * K.n))), cap - lo.toNat, rfl, by rw [hlen]; omega, by omega, ?_⟩, by rw [hlen]; rfl⟩
  rcases h5 with ⟨rfl, rfl, rfl⟩ | ⟨b, o, all, rfl, h6, h7, h8⟩
  · left
    have : hi.toNat = 0 := by simp at h2; omega
    refine ⟨by split <;> rfl, by omega, by simp⟩
  · right
    have e8 := (h8.take hi.toNat).drop lo.toNat
    by_cases e : cap = lo.toNat
    · refine ⟨b, o, [], by rw [if_pos e], by simp [e], fun j c hj => by simp at hj, ?_⟩
      have e0 : (xs.take hi.toNat).drop lo.toNat = [] := List.eq_nil_of_length_eq_zero (by rw [hlen]; omega)
      rw [e0]; simpa using Enc.nil
    · refine ⟨b, o + lo.toNat * K.n, all.drop (lo.toNat * K.n), by rw [if_neg e]; simp [Addr.add], by rw [List.length_drop, h6, Nat.sub_mul], fun j c hj => ?_, ?_⟩
      · rw [List.getElem?_drop] at hj
        rw [Nat.add_assoc]; exact h7 _ c hj
      · rw [hlen]
        have : (all.drop (lo.toNat * K.n)).take ((hi.toNat - lo.toNat) * K.n) = (((all.take (xs.length * K.n)).take (hi.toNat * K.n)).drop (lo.toNat * K.n)) := by
          rw [List.take_take, List.drop_take, Nat.min_eq_left (Nat.mul_le_mul_right _ (by omega)), Nat.sub_mul]
        rw [this]; exact e8
theorem Mem.turn {F : Fr} {w : World} {e e' : Ent} (i : Nat) (hi : L[i]? = some e) (ht : ∀ m φ, e.H m φ → e'.H m φ) (h : Mem F L w) : Mem F (L.set i e') w :=
  h.upd i hi (fun m φ fr hh he _ => ⟨m, φ, .rfl, hh, ht _ _ he⟩) (Ok.refl w)
theorem o_sub {x l h : Operand} {t : TypeId} {K : Kd α} {v : Value} {xs ys : List α} {k k2 : IntKind} {lo hi : Int} (p : Nat) (hx : opv E x = some v) (hp : L[p]? = some (Val (Kd.osl K) v xs)) (hl : opv E l = some (.int k lo)) (hh : opv E h = some (.int k2 hi)) (hc : cut xs lo hi = some ys) (ht : slTy P t K.n = true) :
    OpS (σ := Unit) P E L ⟨d, .slice t x (some l) (some h) none, ty, pos, aft, g⟩ (fun _ => subV v lo.toNat hi.toNat K.n) (fun _ => L.set p (Val (Kd.osl K) (subV v lo.toNat hi.toNat K.n) ys)) :=
  .mm (o_own p hx hp hl hh (by obtain ⟨a, b, c, _⟩ := cut_spec hc; exact ⟨a, b, c⟩) ht) fun _ _ _ m => m.turn p hp fun _ _ => osl_sub hc
theorem o_subl {x l : Operand} {t : TypeId} {K : Kd α} {v : Value} {xs ys : List α} {k : IntKind} {lo : Int} (p : Nat) (hx : opv E x = some v) (hp : L[p]? = some (Val (Kd.osl K) v xs)) (hl : opv E l = some (.int k lo)) (hc : cut xs lo xs.length = some ys) (ht : slTy P t K.n = true) :
    OpS (σ := Unit) P E L ⟨d, .slice t x (some l) none none, ty, pos, aft, g⟩ (fun _ => subV v lo.toNat (xs.length : Int).toNat K.n) (fun _ => L.set p (Val (Kd.osl K) (subV v lo.toNat (xs.length : Int).toNat K.n) ys)) :=
  .mm (o_ownl p hx hp hl (by obtain ⟨a, b, c, _⟩ := cut_spec hc; exact ⟨a, b, c⟩) ht) fun _ _ _ m => m.turn p hp fun _ _ => osl_sub hc
theorem o_subh {x h : Operand} {t : TypeId} {K : Kd α} {v : Value} {xs ys : List α} {k2 : IntKind} {hi : Int} (p : Nat) (hx : opv E x = some v) (hp : L[p]? = some (Val (Kd.osl K) v xs)) (hh : opv E h = some (.int k2 hi)) (hc : cut xs 0 hi = some ys) (ht : slTy P t K.n = true) :
    OpS (σ := Unit) P E L ⟨d, .slice t x none (some h) none, ty, pos, aft, g⟩ (fun _ => subV v (0 : Int).toNat hi.toNat K.n) (fun _ => L.set p (Val (Kd.osl K) (subV v (0 : Int).toNat hi.toNat K.n) ys)) := by
  obtain ⟨e, ei, h1, h2, h3, _⟩ := slTy_spec ht
  exact .mm (o_slo (vlo := none) (vhi := some _) p hx hp rfl (congrArg some hh) (.inl ⟨rfl, rfl⟩) (.inr ⟨k2, rfl⟩) (by obtain ⟨a, b, c, _⟩ := cut_spec hc; exact ⟨a, b, c⟩) h1 h2 h3) fun _ _ _ m => m.turn p hp fun _ _ => osl_sub hc
/-! ### nil -/
theorem o_capn {x : Operand} {t n : TypeId} (hx : opv E x = some (.slice none 0 0)) (ht : slTy P t n = true) :
    OpS (σ := Unit) P E L ⟨d, .call { callee := .builtin .cap, args := #[x], argTypes := #[t] }, ty, pos, aft, g⟩ (fun _ => .int .i64 0) (fun _ => L) := by
  obtain ⟨e, ei, h1, h2, h3, _⟩ := slTy_spec ht
  exact .pure fun n a w hs => by simp [execOp, hs.eval hx, resolve, invoke, builtin, Builtin.cap_, run_underlying h1, goInt]
theorem o_nilh {x h : Operand} {t n : TypeId} {k2 : IntKind} (hx : opv E x = some (.slice none 0 0)) (hh : opv E h = some (.int k2 0)) (ht : slTy P t n = true) :
    OpS (σ := Unit) P E L ⟨d, .slice t x none (some h) none, ty, pos, aft, g⟩ (fun _ => .slice none 0 0) (fun _ => L) := by
  obtain ⟨e, ei, h1, h2, h3, _⟩ := slTy_spec ht
  exact .pure fun n a w hs => by simp [execOp, hs.eval hx, hs.eval hh, Instr.sliceAt, Instr.slice, Instr.sliceBounds, Instr.sliceBound, asIntOf, run_underlying h1, sizeOf, typeInfo, h2]
/-! ### Arrays -/
def arTy (P : Program) (t : TypeId) (l n : Nat) : Bool := match P.underlying t with
  | some (.array l' e) => match P.info? e with
    | some ei => ei.size == n && decide (0 < n) && l' == l
    | none => false
  | _ => false
theorem arTy_spec {t : TypeId} {l n : Nat} (h : arTy P t l n = true) : ∃ e ei, P.underlying t = some (.array l e) ∧ P.info? e = some ei ∧ ei.size = n ∧ 0 < n := by
  unfold arTy at h
  split at h
  · rename_i e he
    split at h
    · rename_i ei hei
      simp only [Bool.and_eq_true, beq_iff_eq, decide_eq_true_eq] at h
      obtain ⟨⟨h1, h2⟩, rfl⟩ := h
      exact ⟨_, ei, he, hei, h1, h2⟩
    · cases h
  · cases h
theorem Mem.arr_o {F : Fr} {w : World} {K : Kd α} {b o l : Nat} {xs : List α} (i : Nat) (hi : L[i]? = some (Fld (Kd.arr K l) b o xs)) (hl : l ≤ maxLen) (h : Mem F L w) : Mem F (L.set i (Val (Kd.osl K) (.slice (some ⟨b, o, none⟩) l l) xs)) w :=
  h.turn i hi fun m φ ⟨cs, f1, f2, l1, l2, dd, hc, h1, h2, h3, h4⟩ =>
    ⟨_, ⟨some ⟨b, o, none⟩, l, rfl, by omega, hl, .inr ⟨b, o, cs, rfl, h2, fun j c hj => l1 _ _ _ (hc j c hj), by
      rw [h1, ← h2, List.take_length]
      exact ⟨by rw [h2, h1], h4⟩⟩⟩, by rw [h1]; rfl⟩
theorem Mem.o_arr {F : Fr} {w : World} {K : Kd α} {b o l : Nat} {xs : List α} (i : Nat) (hi : L[i]? = some (Val (Kd.osl K) (.slice (some ⟨b, o, none⟩) l l) xs)) (h : Mem F L w) : Mem F (L.set i (Fld (Kd.arr K l) b o xs)) w :=
  h.turn i hi fun m φ ⟨cs, ⟨a, cap, e1, h2, h3, h4⟩, e2⟩ => by
    subst e1
    have e3 : Value.slice (some ⟨b, o, none⟩) l l = .slice a xs.length cap := e2
    simp only [Value.slice.injEq] at e3
    obtain ⟨rfl, rfl, rfl⟩ := e3
    rcases h4 with ⟨h, _⟩ | ⟨b', o', all, h5, h6, h7, h8⟩
    · cases h
    · cases h5
      rw [← h6, List.take_length] at h8
      exact ⟨all, φ, Frag.emp, .rfl, Frag.emp_le, Frag.dj_emp, h7, rfl, h6, h8.oneCell, h8.at_⟩
theorem o_slar {x : Operand} {t : TypeId} {K : Kd α} {b o l : Nat} (hx : opv E x = some (.pointer (some ⟨b, o, none⟩))) (ht : arTy P t l K.n = true) :
    OpS (σ := Unit) P E L ⟨d, .slice t x none none none, ty, pos, aft, g⟩ (fun _ => .slice (some ⟨b, o, none⟩) l l) (fun _ => L) := by
  obtain ⟨e, ei, h1, h2, h3, _⟩ := arTy_spec ht
  exact .pure fun n a w hs => by
    by_cases hl : l = 0
    · subst hl; simp [execOp, hs.eval hx, Instr.sliceAt, Instr.sureAddr, Instr.sliceBounds, run_underlying h1, sizeOf, typeInfo, h2]
    · simp [execOp, hs.eval hx, Instr.sliceAt, Instr.sureAddr, Instr.sliceBounds, run_underlying h1, sizeOf, typeInfo, h2, hl, Addr.add]
theorem o_ixar {x y : Operand} {t : TypeId} {K : Kd α} {b o l : Nat} {xs : List α} {k : IntKind} {i : Int} {z : α} (hx : opv E x = some (.pointer (some ⟨b, o, none⟩))) (hy : opv E y = some (.int k i)) (hr : RD K (.slice (some ⟨b, o, none⟩) l l) xs L) (h : idx xs i = some z) (ht : arTy P t l K.n = true) :
    OpS (σ := Unit) P E L ⟨d, .indexAddr t x y, ty, pos, aft, g⟩ (fun _ => elemP (.slice (some ⟨b, o, none⟩) l l) (i.toNat * K.n)) (fun _ => L) := by
  obtain ⟨e, ei, h1, h2, h3, _⟩ := arTy_spec ht
  exact .run fun n F a w hs hm => by
    obtain ⟨m, ad, cap, _, he, hl, hrow⟩ := hr.hp hm
    obtain ⟨h0, h1', h2'⟩ := idx_spec h
    simp only [Value.slice.injEq] at he
    obtain ⟨rfl, rfl, rfl⟩ := he
    refine ⟨(), w, ?_, hm⟩
    simp [execOp, hs.eval hx, hs.eval hy, Instr.indexAt, Instr.sureAddr, run_underlying h1, asIntOf, h0, h1', sizeOf, typeInfo, h2, h3, elemP]
/-- An array's zero, built. -/
theorem o_bz {t : TypeId} {K : Kd α} {z : α} {zc : List Value} {l n : Nat} (hz : zeroC P t = some zc) (ht : arTy P t l n = true) (hK : K.agg = true) (h0 : ZC K z zc) :
    OpS P E L ⟨d, .build t #[], ty, pos, aft, g⟩ (fun v => v) (fun v => Val K v z :: L) := by
  obtain ⟨e, ei, h1, h2, h3, _⟩ := arTy_spec ht
  exact .run fun n F a w hS hm => by
    obtain ⟨i, hi, hzz⟩ := Option.map_eq_some_iff.1 hz
    obtain ⟨ti, hti, hzv⟩ := Option.bind_eq_some_iff.1 hi
    have hcells : i.cells = zc.toArray := by apply Array.ext'; simpa using hzz
    refine ⟨.agg zc.toArray, w, ?_, hm.addP fun m _ _ => ⟨zc, h0 m, by rw [hK]; rfl⟩⟩
    simp [execOp, Instr.build, zeroValue, typeInfo, hti, hzv, run_underlying h1, sizeOf, h2, Instr.fill, hcells]
/-! ### A cut that only looks at the slice's length -/
def IsSl (v : Value) (n : Nat) : Prop := ∃ a cap, v = .slice a n cap ∧ n ≤ cap
theorem Mem.isl {F : Fr} {w : World} {K : Kd α} {v : Value} {xs : List α} (i : Nat) (hi : L[i]? = some (Val (Kd.osl K) v xs)) (h : Mem F L w) : Mem F (Ent.pur (IsSl v xs.length) :: L) w := by
  obtain ⟨m, φ, _, _, he⟩ := h.get hi
  obtain ⟨ad, cap, rfl, hl, _, _⟩ := Val_osl he
  exact h.addpur ⟨ad, cap, rfl, hl⟩
theorem o_slp {x : Operand} {t e : TypeId} {ei : TypeInfo} {v : Value} {N n : Nat} {lo hi : Option Operand} {vlo vhi : Option Value} {ilo ihi : Int} (hv : IsSl v N)
    (hx : opv E x = some v) (hlo : lo.map (opv E) = vlo.map some) (hhi : hi.map (opv E) = vhi.map some)
    (elo : (vlo = none ∧ ilo = 0) ∨ ∃ k, vlo = some (.int k ilo)) (ehi : (vhi = none ∧ ihi = N) ∨ ∃ k, vhi = some (.int k ihi)) (h : 0 ≤ ilo ∧ ilo ≤ ihi ∧ ihi ≤ N)
    (ht : P.underlying t = some (.slice e)) (hei : P.info? e = some ei) (hn : ei.size = n) :
    OpS (σ := Unit) P E L ⟨d, .slice t x lo hi none, ty, pos, aft, g⟩ (fun _ => subV v ilo.toNat ihi.toNat n) (fun _ => L) :=
  .run fun nn F a w hs hm => by
    obtain ⟨c0, c1, c2⟩ := h
    obtain ⟨ad, cap, rfl, hl⟩ := hv
    have hlo' : lo.map a.eval = vlo := by
      cases lo with
      | none => cases vlo with | none => rfl | some _ => cases hlo
      | some l => cases vlo with | none => cases hlo | some u => simp only [Option.map_some, Option.some.injEq] at hlo ⊢; exact hs.eval hlo
    have hhi' : hi.map a.eval = vhi := by
      cases hi with
      | none => cases vhi with | none => rfl | some _ => cases hhi
      | some l => cases vhi with | none => cases hhi | some u => simp only [Option.map_some, Option.some.injEq] at hhi ⊢; exact hs.eval hhi
    have hr : (Instr.sliceAt t (.slice ad N cap) vlo vhi none).run P w = .ok (subV (.slice ad N cap) ilo.toNat ihi.toNat n) w := by
      have q0 : ihi ≤ cap := by omega
      rcases elo with ⟨rfl, rfl⟩ | ⟨k1, rfl⟩ <;> rcases ehi with ⟨rfl, rfl⟩ | ⟨k2, rfl⟩
      · simp [Instr.sliceAt, run_underlying ht, Instr.slice, Instr.sliceBounds, sizeOf, typeInfo, hei, hn, subV]
      · simp [Instr.sliceAt, run_underlying ht, Instr.slice, Instr.sliceBounds, Instr.sliceBound, asIntOf, sizeOf, typeInfo, hei, hn, c1, q0, subV]
      · have q1 : ilo ≤ (N : Int) := by omega
        simp [Instr.sliceAt, run_underlying ht, Instr.slice, Instr.sliceBounds, Instr.sliceBound, asIntOf, sizeOf, typeInfo, hei, hn, c0, q1, subV]
      · have q2 : 0 ≤ ihi := by omega
        have q3 : ilo ≤ max ihi 0 := by omega
        simp [Instr.sliceAt, run_underlying ht, Instr.slice, Instr.sliceBounds, Instr.sliceBound, asIntOf, sizeOf, typeInfo, hei, hn, c0, q0, q2, q3, subV]
    exact ⟨(), w, by simp [execOp, hs.eval hx, hlo', hhi', hr], hm⟩
theorem o_ownp {x l h : Operand} {t : TypeId} {n N : Nat} {v : Value} {k k2 : IntKind} {lo hi : Int} (hv : IsSl v N) (hx : opv E x = some v) (hl : opv E l = some (.int k lo)) (hh : opv E h = some (.int k2 hi)) (hc : 0 ≤ lo ∧ lo ≤ hi ∧ hi ≤ N) (ht : slTy P t n = true) :
    OpS (σ := Unit) P E L ⟨d, .slice t x (some l) (some h) none, ty, pos, aft, g⟩ (fun _ => subV v lo.toNat hi.toNat n) (fun _ => L) := by
  obtain ⟨e, ei, h1, h2, h3, _⟩ := slTy_spec ht
  exact o_slp (vlo := some _) (vhi := some _) hv hx (congrArg some hl) (congrArg some hh) (.inr ⟨k, rfl⟩) (.inr ⟨k2, rfl⟩) hc h1 h2 h3
theorem o_ownlp {x l : Operand} {t : TypeId} {n N : Nat} {v : Value} {k : IntKind} {lo : Int} (hv : IsSl v N) (hx : opv E x = some v) (hl : opv E l = some (.int k lo)) (hc : 0 ≤ lo ∧ lo ≤ N ∧ (N : Int) ≤ N) (ht : slTy P t n = true) :
    OpS (σ := Unit) P E L ⟨d, .slice t x (some l) none none, ty, pos, aft, g⟩ (fun _ => subV v lo.toNat (N : Int).toNat n) (fun _ => L) := by
  obtain ⟨e, ei, h1, h2, h3, _⟩ := slTy_spec ht
  exact o_slp (vlo := some _) (vhi := none) hv hx (congrArg some hl) rfl (.inr ⟨k, rfl⟩) (.inl ⟨rfl, rfl⟩) hc h1 h2 h3
/-! ### What is one's own, lent to who only looks -/
theorem OpS.lend {σ : Type} {Lp : List Ent} {o : Oper} {ret : σ → Value} {out : σ → List Ent} (hl : ∀ m φ, φ.dj m → Own L m φ → Own Lp (m.un φ) Frag.emp) (h : OpS P E Lp o ret (fun s => out s ++ Lp)) (hc : ∀ s m φ, Own (out s) m φ → Own (out s) Frag.emp φ) : OpS P E L o ret (fun s => out s ++ L) := fun n F a w hS hm => by
  obtain ⟨m, φ, ho, hh, hp, hk⟩ := hm
  have l1 : m.le (m.un φ) := Frag.le_un_left
  have l2 : φ.le (m.un φ) := Frag.le_un_right hh.d1.symm
  have h0 : Mem ⟨F.own, m.un φ, F.w0⟩ Lp w := ⟨m.un φ, Frag.emp, hl m φ hh.d1 ho, ⟨Frag.emp_dj, Frag.emp_dj, Frag.un_dj hh.d3 hh.d2, Frag.emp_le, Frag.un_le hh.l2 hh.l1, hh.l3⟩, .rfl, hk⟩
  refine wp_mono2 ?_ (fun _ _ _ h => h) (h n _ a w hS h0)
  rintro a' w' ⟨s, e, m', φ', ho', hh', hp', hk'⟩
  refine ⟨s, e, ?_⟩
  obtain ⟨g1, g2, k1, k2, dd, oo, _⟩ := ho'.append
  have dm : g1.dj (m.un φ) := (hh'.d1.mono k1 .rfl).mono .rfl hp'
  have d1 : g1.dj m := dm.mono .rfl l1
  have d2 : g1.dj φ := dm.mono .rfl l2
  have hpm : (m.un φ).le (SL.hp w') := hp'.trans hh'.l2
  refine ⟨m, g1.un φ, ?_, ⟨Frag.un_dj d1 hh.d1, Frag.un_dj (hh'.d2.mono k1 .rfl) hh.d2, hh.d3, Frag.un_le (k1.trans hh'.l1) (l2.trans hpm), l1.trans hpm, hh'.l3⟩, hp, hk'⟩
  exact Own.join Frag.le_un_left (Frag.le_un_right d2) d2 ((hc s _ _ oo).mono Frag.emp_le .rfl) ho
def Lent (L : List Ent) (e : Ent) : Prop := ∀ m φ, φ.dj m → Own L m φ → e.H (m.un φ) Frag.emp
theorem lent_nil (m φ : Frag) (_ : φ.dj m) (_ : Own L m φ) : Own [] (m.un φ) Frag.emp := trivial
theorem lent_cons {e : Ent} {Lp : List Ent} (he : Lent L e) (hl : ∀ m φ, φ.dj m → Own L m φ → Own Lp (m.un φ) Frag.emp) (m φ : Frag) (d : φ.dj m) (o : Own L m φ) : Own (e :: Lp) (m.un φ) Frag.emp :=
  ⟨Frag.emp, Frag.emp, .rfl, .rfl, Frag.emp_dj, he m φ d o, hl m φ d o⟩
theorem lent_per {e : Ent} (he : e.Per) (i : Nat) (hi : L[i]? = some e) : Lent L e := fun m φ d o => by
  obtain ⟨f, hf, h⟩ := o.get hi
  exact e.mono Frag.le_un_left .rfl (he _ _ h)
theorem lent_own {K : Kd α} {v : Value} {xs : List α} (i : Nat) (hi : L[i]? = some (Val (Kd.osl K) v xs)) : Lent L (Val (Kd.sl K) v xs) := fun m φ d o => by
  obtain ⟨f, hf, cs, ⟨a, cap, rfl, h1, hm1, h2⟩, e⟩ := o.get hi
  exact ⟨_, ⟨a, cap, rfl, ⟨h1, hm1⟩, h2.row.mono Frag.le_un_left (hf.trans (Frag.le_un_right d.symm))⟩, e⟩
def Ent.Cl (e : Ent) : Prop := ∀ m φ, e.H m φ → e.H Frag.emp φ
def Kd.Cl (K : Kd α) : Prop := ∀ m φ x cs, K.C m φ x cs → K.C Frag.emp φ x cs
theorem cl_int {k : IntKind} : (Kd.int k).Cl := fun _ _ _ _ h => h
theorem cl_bool : Kd.bool.Cl := fun _ _ _ _ h => h
theorem cl_str : Kd.str.Cl := fun _ _ _ _ h => h
theorem cl_pair {A : Kd α} {B : Kd β} (a : A.Cl) (b : B.Cl) : (Kd.pair A B).Cl := fun m φ x cs ⟨c1, c2, f1, f2, h, p, q, r, h1, h2⟩ => ⟨c1, c2, f1, f2, h, p, q, r, a _ _ _ _ h1, b _ _ _ _ h2⟩
theorem cl_last {A : Kd α} (a : A.Cl) : (Kd.last A).Cl := fun m φ x cs h => a m φ x cs h
theorem cl_iso {A : Kd α} {k : β → α} (a : A.Cl) : (Kd.iso A k).Cl := fun m φ x cs h => a _ _ _ _ h
theorem cl_osl {K : Kd α} (a : K.Cl) : (Kd.osl K).Cl := fun m φ x cs ⟨ad, cap, e, h1, h2, h3⟩ => ⟨ad, cap, e, h1, h2, by
  rcases h3 with h | ⟨b, o, all, h4, h5, h6, h7⟩
  · exact .inl h
  · exact .inr ⟨b, o, all, h4, h5, h6, h7.len, fun i x hx => a _ _ _ _ (h7.at_ i x hx)⟩⟩
theorem cl_arr {K : Kd α} {n : Nat} (a : K.Cl) : (Kd.arr K n).Cl := fun m φ x cs ⟨h1, h2, h3, h4⟩ => ⟨h1, h2, h3, fun i x hx => a _ _ _ _ (h4 i x hx)⟩
theorem cl_val {K : Kd α} {v : Value} {x : α} (a : K.Cl) : (Val K v x).Cl := fun m φ ⟨cs, h, e⟩ => ⟨cs, a _ _ _ _ h, e⟩
theorem cl_pur {p : Prop} : (Ent.pur p).Cl := fun _ _ h => h
theorem clo_nil (m φ : Frag) (_ : Own [] m φ) : Own [] Frag.emp φ := trivial
theorem clo_cons {e : Ent} {Lo : List Ent} (he : e.Cl) (h : ∀ m φ, Own Lo m φ → Own Lo Frag.emp φ) (m φ : Frag) : Own (e :: Lo) m φ → Own (e :: Lo) Frag.emp φ := fun ⟨f1, f2, a, b, d, h1, h2⟩ => ⟨f1, f2, a, b, d, he _ _ h1, h _ _ h2⟩
/-! ### append(nil, make(n)...) -/
theorem o_appz {s x : Operand} {t t2 : TypeId} {K : Kd α} {k k2 : IntKind} {n : Int} {z : α} {xs : List α} (hs : opv E s = some (.slice none 0 0)) (hx : opv E x = some (.int k n)) (h : mk n z = some xs) (ht : appTy P t K.n = true) (h2 : P.underlying t2 = some (.int k2)) (hz : 0 < K.n) (hzc : ∀ e, P.underlying t = some (.slice e) → ∃ zc, zeroC P e = some zc ∧ ∀ m, K.C m Frag.emp z zc) :
    OpS P E L ⟨d, .call { callee := .builtin .append, args := #[s, x], argTypes := #[t, t2] }, ty, pos, aft, g⟩ (fun v => v) (fun v => Val (Kd.osl K) v xs :: L) :=
  .run fun nn F a w hS hm => by
    obtain ⟨h0, h1, rfl⟩ := mk_spec h
    obtain ⟨e, ei, zv, hte, hei, hsz, hby, hze, hzs⟩ := appTy_spec ht
    obtain ⟨zc, hzc1, hC⟩ := hzc e hte
    have ezc : zc = zv.cells.toList := by
      unfold zeroC at hzc1
      simp [hei, hze] at hzc1
      exact hzc1.symm
    subst ezc
    have hbb : n * (ei.bytes : Int) ≤ 281474976710656 := by
      have := Int.le_trans (Int.mul_le_mul (show (ei.bytes : Int) ≤ 2048 by omega) h1 h0 (by decide)) (show (2048 : Int) * 68719476736 ≤ 281474976710656 by decide)
      rw [Int.mul_comm]; exact this
    have hw : IntKind.i64.wrap n = n := by simp [IntKind.wrap, IntKind.bits, IntKind.signed]; omega
    by_cases hn0 : n.toNat = 0
    · have : n = 0 := by omega
      subst this
      refine ⟨.slice none 0 0, w, ?_, hm.nilo K⟩
      simp [execOp, hS.eval hs, hS.eval hx, resolve, invoke, builtin, Builtin.append_, run_underlying hte, run_underlying h2, sizeOf, typeInfo, hei, asInt, asIntOf, hw]
    · have hcells : ∀ q : Nat, (Builtin.zeroCells zv.cells q).toList = (List.replicate q zv.cells.toList).flatten := fun q => by
        have := range_flat (zc := zv.cells) q (.inl (by omega))
        exact this
      have hcp := grownCap_ge w n.toNat 0 e
      have hcm : grownCap w n.toNat 0 e ≤ maxLen := grownCap_le_maxLen w _ _ _ (by simp only [maxLen]; omega)
      have h48 : Builtin.nextslicecap n.toNat 0 * ei.bytes ≤ 281474976710656 := growslice_fits (by omega) (by
        have := Nat.mul_le_mul (show n.toNat ≤ 68719476736 by omega) hby
        omega)
      have h48' : ¬ (281474976710656 < Builtin.nextslicecap n.toNat 0 * ei.bytes) := by omega
      have q1 : ¬ (n < 0) := by omega
      have q2 : ¬ (281474976710656 < n * (ei.bytes : Int)) := by omega
      have q3 : ¬ (9223372036854775807 < (n.toNat : Int)) := by omega
      have q4 : ¬ (n ≤ 0) := by omega
      have q5 : ¬ (K.n = 0) := by omega
      have q6 : ¬ (9223372036854775807 < max n 0) := by omega
      have hq : (Question.appendCap n.toNat 0 e).forced = false := rfl
      have e0 : ({ w with drawn := w.drawn + 1 } : World) = w.drew := rfl
      refine ⟨.slice (some ⟨w.heap.size, 0, none⟩) n.toNat (grownCap w n.toNat 0 e), w.drew.alloc (.cells ((List.replicate n.toNat zv.cells.toList).flatten ++ (List.replicate (grownCap w n.toNat 0 e - n.toNat) zv.cells.toList).flatten).toArray e), ?_, ?_⟩
      · rw [← hcells, ← hcells]
        simp [execOp, hS.eval hs, hS.eval hx, resolve, invoke, builtin, Builtin.append_, run_underlying hte, run_underlying h2, sizeOf, typeInfo, hei, asInt, asIntOf, hw, q1, q2, q3, q4, q5, q6, hn0, h48', hq, e0, Builtin.firstCells, zeroValue, hze, newRow, grownCap, hsz]
        rw [if_neg (Nat.mul_ne_zero hn0 q5)]
        congr 3
        apply Array.ext'; simp
      · have := hm.drew.made (K := K) (xs := List.replicate n.toNat z) (cap := grownCap w n.toNat 0 e) (cs := (List.replicate n.toNat zv.cells.toList).flatten ++ (List.replicate (grownCap w n.toNat 0 e - n.toNat) zv.cells.toList).flatten) (t := e) (by simpa using hcp) hcm (by
          have e1 := (Enc.replicate (hC Frag.emp) n.toNat).len
          have e2 := (Enc.replicate (hC Frag.emp) (grownCap w n.toNat 0 e - n.toNat)).len
          rw [List.length_replicate] at e1 e2
          rw [List.length_append, e1, e2, ← Nat.add_mul]; congr 1; omega) (fun m φ _ => by
          have := Enc.replicate (hC m) n.toNat
          rw [List.take_append_of_le_length (by rw [this.len]; exact Nat.le_refl _), List.take_of_length_le (by rw [this.len]; exact Nat.le_refl _)]; exact this)
        simpa using this
/-- append(own, make(n)...) -/
theorem o_appm {s x : Operand} {t t2 : TypeId} {K : Kd α} {k k2 : IntKind} {n : Int} {z : α} {v : Value} {xs ys zs : List α} (p : Nat) (hs : opv E s = some v) (hx : opv E x = some (.int k n)) (hp : L[p]? = some (Val (Kd.osl K) v xs)) (h : mk n z = some ys) (ha : app xs ys = some zs) (ht : appTy P t K.n = true) (h2 : P.underlying t2 = some (.int k2)) (hz : 0 < K.n) (hzc : ∀ e, P.underlying t = some (.slice e) → ∃ zc, zeroC P e = some zc ∧ ∀ m, K.C m Frag.emp z zc) :
    OpS P E L ⟨d, .call { callee := .builtin .append, args := #[s, x], argTypes := #[t, t2] }, ty, pos, aft, g⟩ (fun v' => v') (fun v' => L.set p (Val (Kd.osl K) v' zs)) :=
  .run fun nn F a w hS hm => by
    obtain ⟨h0, h1, rfl⟩ := mk_spec h
    obtain ⟨hb, rfl⟩ := app_spec ha
    obtain ⟨e, ei, zv, hte, hei, hsz, hby, hze, hzs⟩ := appTy_spec ht
    obtain ⟨zc, hzc1, hC⟩ := hzc e hte
    have ezc : zc = zv.cells.toList := by
      unfold zeroC at hzc1
      simp [hei, hze] at hzc1
      exact hzc1.symm
    subst ezc
    have hbb : n * (ei.bytes : Int) ≤ 281474976710656 := by
      have := Int.le_trans (Int.mul_le_mul (show (ei.bytes : Int) ≤ 2048 by omega) h1 h0 (by decide)) (show (2048 : Int) * 68719476736 ≤ 281474976710656 by decide)
      rw [Int.mul_comm]; exact this
    have hw : IntKind.i64.wrap n = n := by simp [IntKind.wrap, IntKind.bits, IntKind.signed]; omega
    have q1 : ¬ (n < 0) := by omega
    have q2 : ¬ (281474976710656 < n * (ei.bytes : Int)) := by omega
    have q5 : ¬ (K.n = 0) := by omega
    rw [List.length_replicate] at hb
    have hcells : ∀ q : Nat, (Builtin.zeroCells zv.cells q).toList = (List.replicate q zv.cells.toList).flatten := fun q => range_flat (zc := zv.cells) q (.inl (by omega))
    have hcz : (if n.toNat * K.n = 0 then (#[] : Array Value) else Builtin.zeroCells zv.cells n.toNat) = (List.replicate n.toNat zv.cells.toList).flatten.toArray := by
      split
      · rename_i h0
        have : n.toNat = 0 := by rcases Nat.mul_eq_zero.1 h0 with h | h <;> omega
        simp [this]
      · apply Array.ext'; rw [hcells]
    obtain ⟨v', w', hrun, hm'⟩ := app_core (P := P) (ty := ty) (t2 := t2) (x := .int k n) (ys := List.replicate n.toNat z) hm hp ht (by rw [List.length_replicate]; exact hb) (fun m φ o hh => by
      have hE := Enc.replicate (hC m) n.toNat
      refine ⟨_, hE, hE.oneCell, ?_, ?_⟩
      · intro base sLen sCap hroom
        rw [List.length_replicate] at hroom ⊢
        rw [← hcells]
        by_cases hn0 : n.toNat = 0
        · have q4 : n ≤ 0 := by omega
          cases base <;> simp [Builtin.append_, run_underlying hte, run_underlying h2, sizeOf, typeInfo, hei, asInt, asIntOf, hw, q1, q2, hroom, hn0, hsz, Builtin.zeroCells, storeCells]
          all_goals (intro hh; exact absurd hh (by omega))
        · cases base <;> simp [Builtin.append_, run_underlying hte, run_underlying h2, sizeOf, typeInfo, hei, asInt, asIntOf, hw, q1, q2, hroom, zeroValue, hze, hsz, hn0, q5, Nat.mul_eq_zero]
          all_goals (intro hh; exact absurd hh (by omega))
      · intro e' z' base sLen sCap olds hte' hz' ho hroom hb'
        rw [List.length_replicate] at hroom hb' ⊢
        rw [hte] at hte'
        cases hte'
        rw [hei] at hz'
        have hz'' : ei.zero = some z' := hz'
        rw [hze] at hz''
        cases hz''
        rw [← hcells]
        have g0 : ¬ (sLen + n.toNat ≤ sCap) := by omega
        have g1 : ¬ (9223372036854775807 < ((sLen : Int) + (n.toNat : Int))) := by omega
        have h48 : Builtin.nextslicecap (sLen + n.toNat) sCap * ei.bytes ≤ 281474976710656 := growslice_fits (by omega) (Nat.le_trans (Nat.mul_le_mul hb' hby) (by decide))
        have h48' : ¬ (281474976710656 < Builtin.nextslicecap (sLen + n.toNat) sCap * ei.bytes) := by omega
        have g2 : ¬ (9223372036854775807 < (sLen : Int) + max n 0) := by omega
        have hq : (Question.appendCap (sLen + n.toNat) sCap e).forced = false := rfl
        have e0 : ({ w with drawn := w.drawn + 1 } : World) = w.drew := rfl
        have q6 : n.toNat * K.n = 0 → Builtin.zeroCells zv.cells n.toNat = #[] := fun h0 => by
          have : n.toNat = 0 := by rcases Nat.mul_eq_zero.1 h0 with h | h <;> omega
          rw [this]; simp [Builtin.zeroCells]
        by_cases hn0 : n.toNat * K.n = 0
        · simp [Builtin.append_, run_underlying hte, run_underlying h2, sizeOf, typeInfo, hei, asInt, asIntOf, hw, q1, q2, g0, g1, g2, h48', hq, e0, ho, zeroValue, hze, newRow, grownCap, hsz, hn0, q6 hn0]
          all_goals (congr 2; apply Array.ext'; simp)
        · simp [Builtin.append_, run_underlying hte, run_underlying h2, sizeOf, typeInfo, hei, asInt, asIntOf, hw, q1, q2, g0, g1, g2, h48', hq, e0, ho, zeroValue, hze, newRow, grownCap, hsz, hn0]
          all_goals (congr 2; apply Array.ext'; simp))
    exact ⟨v', w', by simp [execOp, hS.eval hs, hS.eval hx, resolve, invoke, builtin, hrun], hm'⟩
theorem o_nilc {x : Operand} {ad : Addr} (hx : opv E x = some (.pointer (some ad))) :
    OpS (σ := Unit) P E L ⟨d, .nilCheck x, ty, pos, aft, g⟩ (fun _ => .pointer (some ad)) (fun _ => L) :=
  .pure fun n a w hs => by simp [execOp, hs.eval hx]
theorem o_ifc {x : Operand} {t : TypeId} {u : Value} (hx : opv E x = some u) (ht : (match P.underlying t with | some (.interface _) => false | some _ => true | none => false) = true) :
    OpS (σ := Unit) P E L ⟨d, .makeInterface t x, ty, pos, aft, g⟩ (fun _ => .iface t u) (fun _ => L) :=
  .pure fun n a w hs => by
    split at ht
    · cases ht
    · rename_i d' h1 h2
      cases d' <;> first | (exact absurd rfl (h1 _)) | simp [execOp, hs.eval hx, Instr.makeInterface, run_underlying h2]
    · cases ht
/-! ### Is it nil? -/
theorem o_eqn {x y : Operand} {t u : TypeId} {K : Kd α} {v : Value} {xs : List α} (hx : opv E x = some v) (hy : opv E y = some (.slice none 0 0)) (hr : RD K v xs L) (ht : slTy P t K.n = true) :
    OpS P E L ⟨d, .binOp .eql t x y u, ty, pos, aft, g⟩ (fun b : Bool => .bool b) (fun b => Ent.pur (b = true → xs = []) :: L) :=
  .run fun nn F a w hS hm => by
    obtain ⟨e, ei, h1, h2, h3, h4⟩ := slTy_spec ht
    obtain ⟨m, ad, cap, _, rfl, hl, cs, hE, hrow⟩ := hr.hp hm
    refine ⟨ad.isNone, w, ?_, hm.addpur fun hb => ?_⟩
    · have : (Op.equal t (.slice ad xs.length cap) (.slice none 0 0)).run P w = .ok ad.isNone w := by
        have q : ∀ d : Nat, (Op.equalIn (d + 1) t (.slice ad xs.length cap) (.slice none 0 0)).run P w = .ok ad.isNone w := fun d => by cases ad <;> simp [Op.equalIn, run_underlying h1]
        exact q 9999
      simp [execOp, hS.eval hx, hS.eval hy, eqGuard, binOp, this]
    · cases ad with
      | some _ => cases hb
      | none =>
        have : cs = [] := by
          cases cs with
          | nil => rfl
          | cons c cs => obtain ⟨b, o, fz, e, _⟩ := hrow 0 c rfl; cases e
        subst this
        have hlen : 0 = xs.length * K.n := hE.len
        rcases Nat.mul_eq_zero.1 hlen.symm with h | h
        · exact List.eq_nil_of_length_eq_zero h
        · omega
end
/-! ### Counted rounds, for values that are told -/
section
def Le {α : Type} (a b : Option α) : Prop := ∀ r, a = some r → b = some r
def loopK {σ ρ : Type} (k : Nat) (B : σ → Option (σ ⊕ ρ)) (s : σ) : Option ρ := loopN B k s
theorem le_refl {α : Type} (a : Option α) : Le a a := fun _ h => h
theorem le_bind {α β : Type} {a b : Option α} {f g : α → Option β} (h : Le a b) (k : ∀ x, Le (f x) (g x)) : Le (a.bind f) (b.bind g) := fun r hr => by
  obtain ⟨x, h1, h2⟩ := Option.bind_eq_some_iff.1 hr
  rw [h x h1]; exact k x r h2
theorem le_ite {α : Type} {c : Prop} [Decidable c] {a b a' b' : Option α} (h : Le a a') (k : Le b b') : Le (if c then a else b) (if c then a' else b') := fun r hr => by
  split
  · rename_i hc; rw [if_pos hc] at hr; exact h r hr
  · rename_i hc; rw [if_neg hc] at hr; exact k r hr
theorem le_lt {α β : Type} {e : α} {f g : α → Option β} (k : ∀ x, Le (f x) (g x)) : Le (lt e f) (lt e g) := k e
theorem le_elim {α β γ : Type} {f f' : α → Option γ} {g g' : β → Option γ} (h : ∀ x, Le (f x) (f' x)) (k : ∀ x, Le (g x) (g' x)) (o : α ⊕ β) : Le (Sum.elim f g o) (Sum.elim f' g' o) := by
  cases o
  · exact h _
  · exact k _
theorem le_loop {σ ρ : Type} {k : Nat} {B B' : σ → Option (σ ⊕ ρ)} {s : σ} (h : ∀ s, Le (B s) (B' s)) : Le (loopK k B s) (loop B' s) := fun r hr => by
  have : ∀ (n : Nat) (s : σ), loopN B n s = some r → loopN B' n s = some r := by
    intro n
    induction n with
    | zero => intro s h; cases h
    | succ n ih =>
      intro s h1
      unfold loopN at h1 ⊢
      obtain ⟨o, h2, h3⟩ := Option.bind_eq_some_iff.1 h1
      rw [h s o h2]
      cases o with
      | inl s' => exact ih s' h3
      | inr r' => exact h3
  exact loop_of (this k s hr)
end
end Go.SL
