/- Conditions, returns, guards, rounds; each rule states its own conditions. -/
import Derived.Test.YtgkgekaiajjcaaaSlQ
import Derived.Laws.BytesString
namespace Go.SL
open Go Go.RowKit
set_option linter.unusedVariables false
set_option linter.unusedSimpArgs false

/-! ### What a plain function says -/
theorem bindE {α β : Type} {e : Option α} {f : α → Option β} {r : β} (h : e.bind f = some r) : ∃ x, e = some x ∧ f x = some r := Option.bind_eq_some_iff.1 h
theorem ifT {p : Prop} [Decidable p] {α : Type} {a b : α} {r : α} (h : p) (H : (if p then a else b) = r) : a = r := by rw [if_pos h] at H; exact H
theorem ifF {p : Prop} [Decidable p] {α : Type} {a b : α} {r : α} (h : ¬ p) (H : (if p then a else b) = r) : b = r := by rw [if_neg h] at H; exact H
theorem som {α : Type} {a b : α} (h : some a = some b) : a = b := Option.some.inj h
/-- A thing by name. -/
def lt {α β : Type} (e : α) (f : α → Option β) : Option β := f e
theorem ltE {α β : Type} {e : α} {f : α → Option β} {r : β} (h : lt e f = some r) : ∃ x, e = x ∧ f x = some r := ⟨e, rfl, h⟩
/-! ### Rounds -/
section
variable {σ ρ : Type}
def loopN (B : σ → Option (σ ⊕ ρ)) : Nat → σ → Option ρ
  | 0, _ => none
  | n + 1, s => (B s).bind fun o => match o with
    | .inl s' => loopN B n s'
    | .inr r => some r
theorem loopN_mono {B : σ → Option (σ ⊕ ρ)} : ∀ {n : Nat} {s : σ} {r : ρ}, loopN B n s = some r → ∀ m, n ≤ m → loopN B m s = some r
  | 0, s, r, h, _, _ => by cases h
  | n + 1, s, r, h, 0, hm => by omega
  | n + 1, s, r, h, m + 1, hm => by
    simp only [loopN] at h ⊢
    obtain ⟨o, ho, h⟩ := bindE h
    rw [ho, Option.bind_some]
    cases o with
    | inl s' => exact loopN_mono h m (by omega)
    | inr r' => exact h
open Classical in
noncomputable def loop (B : σ → Option (σ ⊕ ρ)) (s : σ) : Option ρ := if h : ∃ n r, loopN B n s = some r then loopN B (Classical.choose h) s else none
theorem loop_of {B : σ → Option (σ ⊕ ρ)} {n : Nat} {s : σ} {r : ρ} (h : loopN B n s = some r) : loop B s = some r := by
  have hx : ∃ n r, loopN B n s = some r := ⟨n, r, h⟩
  unfold loop
  rw [dif_pos hx]
  obtain ⟨r', hr'⟩ := Classical.choose_spec hx
  have h1 := loopN_mono h (max n (Classical.choose hx)) (by omega)
  have h2 := loopN_mono hr' (max n (Classical.choose hx)) (by omega)
  rw [hr', ← h2, h1]
theorem loop_some {B : σ → Option (σ ⊕ ρ)} {s : σ} {r : ρ} (h : loop B s = some r) : ∃ n, loopN B n s = some r := by
  unfold loop at h
  split at h
  · exact ⟨_, h⟩
  · cases h
theorem loop_eq (B : σ → Option (σ ⊕ ρ)) (s : σ) : loop B s = (B s).bind fun o => match o with | .inl s' => loop B s' | .inr r => some r := by
  cases hb : B s with
  | none =>
    cases hl : loop B s with
    | none => rfl
    | some r =>
      obtain ⟨n, hn⟩ := loop_some hl
      cases n with
      | zero => cases hn
      | succ n => simp [loopN, hb] at hn
  | some o =>
    rw [Option.bind_some]
    cases o with
    | inr r => exact loop_of (n := 1) (by simp [loopN, hb])
    | inl s' =>
      dsimp only
      cases hl : loop B s' with
      | some r =>
        obtain ⟨n, hn⟩ := loop_some hl
        exact loop_of (n := n + 1) (by simp [loopN, hb, hn])
      | none =>
        cases hl2 : loop B s with
        | none => rfl
        | some r =>
          obtain ⟨n, hn⟩ := loop_some hl2
          cases n with
          | zero => cases hn
          | succ n =>
            simp only [loopN, hb, Option.bind_some] at hn
            rw [loop_of hn] at hl; cases hl
theorem loop_in {B : σ → Option (σ ⊕ ρ)} {s s' : σ} (h : B s = some (.inl s')) : loop B s = loop B s' := by rw [loop_eq, h]; rfl
theorem loop_out {B : σ → Option (σ ⊕ ρ)} {s : σ} {r : ρ} (h : B s = some (.inr r)) : loop B s = some r := by rw [loop_eq, h]; rfl
def Nx (M : σ → Prop) (r : ρ) : σ ⊕ ρ → Prop
  | .inl s' => M s'
  | .inr r' => r' = r
theorem loop_ind {B : σ → Option (σ ⊕ ρ)} {r : ρ} {M : σ → Prop} (step : ∀ s o, B s = some o → Nx M r o → M s) {s : σ} (h : loop B s = some r) : M s := by
  obtain ⟨n, hn⟩ := loop_some h
  clear h
  induction n generalizing s with
  | zero => cases hn
  | succ n ih =>
    simp only [loopN] at hn
    obtain ⟨o, ho, hn⟩ := bindE hn
    refine step s o ho ?_
    cases o with
    | inl s' => exact ih hn
    | inr r' => cases hn; rfl
end
section
variable {P : Program} {f : Bas} {k : List Item} {a : Act} {w : World} {R : Ending → World → Prop} {n : Nat} {F : Fr} {E : List (Nat × Value)} {L : List Ent}
theorem g_t {c : Operand} {x y : Code} {b : Bool} (h : St n F E L a w) (hx : opv E c = some (.bool b)) (hb : b = true) (K : Go P f (.code x :: k) a w R) : Go P f (.code (.cond c x y) :: k) a w R := Go.ifT (by rw [h.sl.eval hx, hb]) K
theorem g_f {c : Operand} {x y : Code} {b : Bool} (h : St n F E L a w) (hx : opv E c = some (.bool b)) (hb : ¬ b = true) (K : Go P f (.code y :: k) a w R) : Go P f (.code (.cond c x y) :: k) a w R := Go.ifF (by rw [h.sl.eval hx]; cases b <;> simp_all) K
/-! ### Results -/
def tup : List Value → Value
  | [v] => v
  | vs => .tuple vs.toArray
def RV (P : Program) (w : World) (E : List (Nat × Value)) : List ResultVar → List Value → Prop
  | [], [] => True
  | .tmp t :: rs, v :: vs => look E t = some v ∧ RV P w E rs vs
  | .cell t ty :: rs, v :: vs => (∃ ad, look E t = some (.pointer (some ad)) ∧ (loadVar ty ad).run P w = .ok v w) ∧ RV P w E rs vs
  | _, _ => False
def rv1 (a : Act) : ResultVar → Sem Value
  | .tmp t => Pure.pure (a.tmps.getD t undef)
  | .cell b t => do loadVar t (← asAddr (a.tmps.getD b undef))
theorem RV.run (hS : Sl n E a) : ∀ {rs : List ResultVar} {vs : List Value}, RV P w E rs vs → (rs.mapM (rv1 a)).run P w = .ok vs w
  | [], [], _ => by simp
  | [], v :: vs, h => by cases h
  | .tmp t :: rs, [], h => by cases h
  | .cell t ty :: rs, [], h => by cases h
  | .tmp t :: rs, v :: vs, h => by
    have ih := RV.run hS h.2
    simp only [List.mapM_cons, Sem.run_bind, rv1, hS.at_ t v h.1]
    simp only [Sem.run_pure, Result.andThen_ok]
    rw [ih]; rfl
  | .cell t ty :: rs, v :: vs, h => by
    have ih := RV.run hS h.2
    obtain ⟨ad, h1, h2⟩ := h.1
    simp only [List.mapM_cons, Sem.run_bind, rv1, hS.at_ t _ h1, asAddr]
    simp only [Sem.run_pure, Result.andThen_ok, h2]
    rw [ih]; rfl
theorem run_results {fn : Func} {vs : List Value} (hS : Sl n E a) (h : RV P w E fn.results.toList vs) : (results fn a.tmps).run P w = .ok (tup vs) w := by
  have hr := RV.run hS h
  unfold results
  rw [Array.mapM_eq_mapM_toList]
  simp only [Sem.run_bind, Sem.run_map]
  have key : ∀ g : ResultVar → Sem Value, g = rv1 a → (List.mapM g fn.results.toList).run P w = .ok vs w := by rintro _ rfl; exact hr
  rw [key _ (by funext x; cases x <;> rfl)]
  simp only [Result.andThen_ok, Sem.run_pure]
  match vs with
  | [] => rfl
  | [v] => rfl
  | v :: u :: vs => rfl
theorem g_ret {fn : Func} {vs : List Value} (h : St n F E L a w) (hf : P.funcs[f.fn]? = some fn) (hv : RV P w E fn.results.toList vs) (hR : R (.returned (tup vs)) w) (hro : f.ro = none := by rfl) (hds : f.ds = [] := by rfl) : Go P f (.code .ret :: k) a w R := Go.ret hf h.sl.df (run_results h.sl hv) hR hro hds
theorem g_fin {fn : Func} {vs : List Value} (h : St n F E L a w) (hf : P.funcs[f.fn]? = some fn) (hv : RV P w E fn.results.toList vs) (hR : R (.returned (tup vs)) w) (hro : f.ro = none := by rfl) (hds : f.ds = [] := by rfl) : Go P f [] a w R := Go.fin hf h.sl.df (run_results h.sl hv) hR hro hds
/-- What lies in a field, as a value. -/
theorem St.peek {α : Type} {K : Kd α} {b o : Nat} {y : α} {t : TypeId} (h : St n F E L a w) (i : Nat) (hi : L[i]? = some (Fld K b o y)) (hK : K.Per) (ht : tyI P t = some (K.agg, K.n)) : ∃ v, St n F E (Val K v y :: L) a w ∧ (loadVar t ⟨b, o, none⟩).run P w = .ok v w := by
  obtain ⟨m, φ, ho, hh, hp, hk⟩ := h.mem
  obtain ⟨g, hg, he⟩ := ho.get hi
  obtain ⟨cs, f', _, hC, hc⟩ := Fld.cells he (hg.trans hh.l1)
  exact ⟨pack K.agg cs, ⟨h.sl, m, φ, ⟨Frag.emp, φ, Frag.emp_le, .rfl, Frag.emp_dj, ⟨cs, hK _ _ _ _ hC, rfl⟩, ho⟩, hh, hp, hk⟩, run_loadVar' ht w _ (K.len hC) K.sgl hc⟩
theorem Mem.inr {F : Fr} {w : World} {k : IntKind} {v : Value} {x : Int} (h : Mem F L w) (i : Nat) (hi : L[i]? = some (Val (Kd.int k) v x)) : v = .int k x ∧ InR k x := by
  obtain ⟨m, φ, _, _, he⟩ := h.get hi
  exact Val_int he
/-! ### Guards -/
/-- One operation whose guard holds. -/
theorem gg {σ : Type} {ops : Array Oper} {i : Nat} {os : List Oper} {d : Nat} {op : Op} {ty : TypeId} {pos : String} {aft : Array Edge} {ret : σ → Value} {out : σ → List Ent} {j dj : Nat} {want b : Bool}
    (h : St n F E L a w) (hj : (ops[j]?).bind (·.dst) = some dj) (hb : look E dj = some (.bool b)) (hw : b = want) (hop : OpS P E L ⟨some d, op, ty, pos, aft, some (j, want)⟩ ret out) (hd : Nat.blt d n = true) (K : ∀ s a w, St n F ((d, ret s) :: E) (out s) a w → GoR P f ops (i + 1) os k a w R) : GoR P f ops i (⟨some d, op, ty, pos, aft, some (j, want)⟩ :: os) k a w R := by
  refine GoR.oper ?_ (Oper.wp_mono (fun a' w' ⟨s, ha, hm⟩ => by subst ha; exact K s _ _ ⟨h.sl.put (Nat.le_of_ble_eq_true hd) _, hm⟩) (hop n F a w h.sl h.mem))
  unfold Region.wanted
  dsimp only
  rw [yielded_of h.sl hj hb, hw]
  simp [yB]
/-- One operation whose guard does not hold. -/
theorem gk {ops : Array Oper} {i : Nat} {os : List Oper} {d : Nat} {op : Op} {ty : TypeId} {pos : String} {aft : Array Edge} {j dj : Nat} {want : Bool} {v : Value}
    (h : St n F E L a w) (hj : (ops[j]?).bind (·.dst) = some dj) (hb : look E dj = some v) (hw : notB v want = true) (hd : Nat.blt d n = true) (K : ∀ a, St n F ((d, undef) :: E) L a w → GoR P f ops (i + 1) os k a w R) : GoR P f ops i (⟨some d, op, ty, pos, aft, some (j, want)⟩ :: os) k a w R := by
  refine GoR.skip ?_ (K _ ⟨h.sl.put (Nat.le_of_ble_eq_true hd) _, h.mem⟩)
  unfold Region.wanted
  dsimp only
  rw [yielded_of h.sl hj hb]
  cases v <;> cases want <;> simp_all [notB, yB]
end
section
variable {P : Program} {E : List (Nat × Value)} {L : List Ent} {α β : Type}
variable {d : Option Tmp} {ty : TypeId} {pos : String} {aft : Array Edge} {g : Option (Nat × Bool)}
/-! ### A field of a struct in memory, the struct not taken apart -/
theorem fld_sub {K : Kd α} {A : Kd β} {pr : α → β} {off b o o' : Nat} {y : α} {m φ : Frag} {w : World} {t : TypeId} (hs : Sub K off A pr) (he : o + off = o') (ht : tyI P t = some (A.agg, A.n)) (h : (Fld K b o y).H m φ) (hw : φ.le (hp w)) :
    ∃ cs f, f.le φ ∧ A.C m f (pr y) cs ∧ (Instr.loadAt t (.pointer (some ⟨b, o', none⟩))).run P w = .ok (pack A.agg cs) w := by
  obtain ⟨cs, f1, f2, l1, l2, dd, hc, hk⟩ := h
  obtain ⟨hl, f, hf, hA⟩ := hs m f2 y cs hk
  subst he
  refine ⟨_, f, hf.trans l2, hA, ?_⟩
  have := run_loadVar' ht w ⟨b, o + off, none⟩ (A.len hA) A.sgl (fun j c hj => by
    have hj2 := (List.getElem?_eq_some_iff.1 hj).1
    rw [List.length_take] at hj2
    rw [List.getElem?_take_of_lt (by omega), List.getElem?_drop] at hj
    refine hp_cell_add (hw _ _ _ (l1 _ _ _ ?_)) (fz := false)
    rw [Nat.add_assoc]; exact hc _ c hj)
  simp [Instr.loadAt, Instr.sureAddr, this]
theorem o_lfx {x : Operand} {b o o' off t : Nat} {K : Kd α} {A : Kd β} {pr : α → β} {y : α} {ex : β → Value} (i : Nat) (hx : opv E x = some (.pointer (some ⟨b, o', none⟩))) (hi : L[i]? = some (Fld K b o y)) (hs : Sub K off A pr) (he : o + off = o') (hA : A.X ex) (ht : tyI P t = some (A.agg, A.n)) :
    OpS (σ := Unit) P E L ⟨d, .load t x, ty, pos, aft, g⟩ (fun _ => ex (pr y)) (fun _ => L) :=
  .run fun n F a w hS hm => by
    obtain ⟨m, φ, hm1, hf1, h⟩ := hm.get hi
    obtain ⟨cs, f, _, hk, hr⟩ := fld_sub (P := P) hs he ht h hf1
    obtain ⟨rfl, ha⟩ := hA _ _ _ _ hk
    rw [ha] at hr
    exact ⟨(), w, by simp [execOp, hS.eval hx, hr, pack], hm⟩
theorem o_lfv {x : Operand} {b o o' off t : Nat} {K : Kd α} {A : Kd β} {pr : α → β} {y : α} (i : Nat) (hx : opv E x = some (.pointer (some ⟨b, o', none⟩))) (hi : L[i]? = some (Fld K b o y)) (hs : Sub K off A pr) (he : o + off = o') (hA : A.Per) (ht : tyI P t = some (A.agg, A.n)) :
    OpS P E L ⟨d, .load t x, ty, pos, aft, g⟩ (fun v => v) (fun v => Val A v (pr y) :: L) :=
  .run fun n F a w hS hm => by
    obtain ⟨m, φ, ho, hh, hp, hk⟩ := hm
    obtain ⟨f0, hf0, h⟩ := ho.get hi
    obtain ⟨cs, f, _, hC, hr⟩ := fld_sub (P := P) (w := w) hs he ht h (hf0.trans hh.l1)
    exact ⟨pack A.agg cs, w, by simp [execOp, hS.eval hx, hr], m, φ, ⟨Frag.emp, φ, Frag.emp_le, .rfl, Frag.emp_dj, ⟨cs, hA _ _ _ _ hC, rfl⟩, ho⟩, hh, hp, hk⟩
/-! ### Copies -/
def subV (v : Value) (lo hi n : Nat) : Value := match v with
  | .slice a len cap => .slice (if cap = lo then a else a.map (·.add (lo * n))) (hi - lo) (cap - lo)
  | u => u
/-- A cut of a slice of one's own. -/
theorem o_slo {x : Operand} {t e : TypeId} {ei : TypeInfo} {K : Kd α} {v : Value} {xs : List α} {lo hi : Option Operand} {vlo vhi : Option Value} {ilo ihi : Int} (p : Nat)
    (hx : opv E x = some v) (hp : L[p]? = some (Val (Kd.osl K) v xs)) (hlo : lo.map (opv E) = vlo.map some) (hhi : hi.map (opv E) = vhi.map some)
    (elo : (vlo = none ∧ ilo = 0) ∨ ∃ k, vlo = some (.int k ilo)) (ehi : (vhi = none ∧ ihi = xs.length) ∨ ∃ k, vhi = some (.int k ihi)) (h : 0 ≤ ilo ∧ ilo ≤ ihi ∧ ihi ≤ xs.length)
    (ht : P.underlying t = some (.slice e)) (hei : P.info? e = some ei) (hn : ei.size = K.n) :
    OpS (σ := Unit) P E L ⟨d, .slice t x lo hi none, ty, pos, aft, g⟩ (fun _ => subV v ilo.toNat ihi.toNat K.n) (fun _ => L) :=
  .run fun n F a w hs hm => by
    obtain ⟨c0, c1, c2⟩ := h
    obtain ⟨m, φ, _, _, he⟩ := hm.get hp
    obtain ⟨ad, cap, rfl, hl, _, _⟩ := Val_osl he
    have hlo' : lo.map a.eval = vlo := by
      cases lo with
      | none => cases vlo with | none => rfl | some _ => cases hlo
      | some l => cases vlo with | none => cases hlo | some u => simp only [Option.map_some, Option.some.injEq] at hlo ⊢; exact hs.eval hlo
    have hhi' : hi.map a.eval = vhi := by
      cases hi with
      | none => cases vhi with | none => rfl | some _ => cases hhi
      | some l => cases vhi with | none => cases hhi | some u => simp only [Option.map_some, Option.some.injEq] at hhi ⊢; exact hs.eval hhi
    have hr : (Instr.sliceAt t (.slice ad xs.length cap) vlo vhi none).run P w = .ok (subV (.slice ad xs.length cap) ilo.toNat ihi.toNat K.n) w := by
      have q0 : ihi ≤ cap := by omega
      rcases elo with ⟨rfl, rfl⟩ | ⟨k1, rfl⟩ <;> rcases ehi with ⟨rfl, rfl⟩ | ⟨k2, rfl⟩
      · simp [Instr.sliceAt, run_underlying ht, Instr.slice, Instr.sliceBounds, sizeOf, typeInfo, hei, hn, subV]
      · simp [Instr.sliceAt, run_underlying ht, Instr.slice, Instr.sliceBounds, Instr.sliceBound, asIntOf, sizeOf, typeInfo, hei, hn, c1, q0, subV]
      · have q1 : ilo ≤ (xs.length : Int) := by omega
        simp [Instr.sliceAt, run_underlying ht, Instr.slice, Instr.sliceBounds, Instr.sliceBound, asIntOf, sizeOf, typeInfo, hei, hn, c0, q1, subV]
      · have q2 : 0 ≤ ihi := by omega
        have q3 : ilo ≤ max ihi 0 := by omega
        simp [Instr.sliceAt, run_underlying ht, Instr.slice, Instr.sliceBounds, Instr.sliceBound, asIntOf, sizeOf, typeInfo, hei, hn, c0, q0, q2, q3, subV]
    exact ⟨(), w, by simp [execOp, hs.eval hx, hlo', hhi', hr], hm⟩
/-- Cells written over a part of a slice of one's own. -/
theorem over_core {K : Kd α} {v : Value} {xs ys : List α} {ds : List Value} {p lo hi : Nat} {F : Fr} {w : World} {m φ : Frag} (ho : Own L m φ) (hh : Has m φ F.own w) (hp : L[p]? = some (Val (Kd.osl K) v xs)) (hE : Enc K m ys ds) (hlo : lo + ys.length ≤ hi) (hhi : hi ≤ xs.length) :
    ∃ w' φ', (match (subV v lo hi K.n) with | .slice (some ad) _ _ => (storeCells ad ds).run P w | _ => .ok () w) = .ok () w' ∧ Own (L.set p (Val (Kd.osl K) v (Go.splice xs lo ys))) m φ' ∧ Has m φ' F.own w' ∧ Ok w w' := by
  obtain ⟨f1, hf1, he⟩ := ho.get hp
  obtain ⟨ad, cap, rfl, hl, hm, hr⟩ := Val_osl he
  have hdl := hE.len
  by_cases h0 : ys = []
  · subst h0
    have hd0 : ds = [] := List.eq_nil_of_length_eq_zero (by simpa using hdl)
    subst hd0
    have e1 : Go.splice xs lo [] = xs := by simp [Go.splice]
    have e2 : L.set p (Val (Kd.osl K) (.slice ad xs.length cap) xs) = L := by
      apply List.ext_getElem?
      intro j
      by_cases hj : p = j
      · subst hj
        have := (List.getElem?_eq_some_iff.1 hp).1
        rw [List.getElem?_set_self this, hp]
      · rw [List.getElem?_set_ne hj]
    refine ⟨w, φ, ?_, by rw [e1, e2]; exact ho, hh, Ok.refl w⟩
    simp only [subV]
    split <;> simp [storeCells]
  · have hpos : 0 < ys.length := List.length_pos_iff.2 h0
    rcases hr with ⟨rfl, rfl, rfl⟩ | ⟨b, o, all, rfl, hal, hc, hEn⟩
    · simp at hhi; omega
    · have hne : cap ≠ lo := by omega
      have hle : (lo + ys.length) * K.n ≤ cap * K.n := Nat.mul_le_mul_right _ (by omega)
      rw [Nat.add_mul] at hle
      obtain ⟨w', hrun, hw, hok⟩ := run_storeCells' (P := P) (b := b) (o := o + lo * K.n) ds 0 w (fun j hj => by
        have : lo * K.n + j < all.length := by omega
        refine ⟨all[lo * K.n + j], (hf1.trans hh.l1) _ _ _ ?_⟩
        rw [Nat.add_zero, Nat.add_assoc]
        exact hc _ _ (List.getElem?_eq_getElem this)) hE.oneCell
      obtain ⟨φ', ho', hh'⟩ := Own.write (ys := ys) (k := lo) ho hh hp (by omega) hE rfl hw
      refine ⟨w', φ', ?_, ho', hh', hok⟩
      simp only [subV, if_neg hne, Option.map_some, addr_add]
      exact hrun
/-- copy(v[lo:hi], u): the value may be the slice itself. -/
theorem o_cpy {x y : Operand} {t t2 : TypeId} {K : Kd α} {v u : Value} {xs ys : List α} {lo hi : Nat} (p : Nat) (hx : opv E x = some (subV v lo hi K.n)) (hy : opv E y = some u) (hp : L[p]? = some (Val (Kd.osl K) v xs)) (hr : RD K u ys L) (hlo : lo ≤ hi) (hhi : hi ≤ xs.length) (ht : appTy P t K.n = true) :
    OpS (σ := Unit) P E L ⟨d, .call { callee := .builtin .copy, args := #[x, y], argTypes := #[t, t2] }, ty, pos, aft, g⟩ (fun _ => .int .i64 ((min ys.length (hi - lo) : Nat) : Int)) (fun _ => L.set p (Val (Kd.osl K) v (Go.splice xs lo (ys.take (hi - lo))))) :=
  .run fun n F a w hS hm => by
    obtain ⟨e, ei, z, hte, hei, hsz, hby, hze, hzs⟩ := appTy_spec ht
    obtain ⟨m, φ, ho, hh, hpp, hkk⟩ := hm
    obtain ⟨f1, hf1, he⟩ := ho.get hp
    obtain ⟨ad, cap, hve, hl, hmx, _⟩ := Val_osl he
    obtain ⟨a2, c2, cs, hu, hl2, hE, hc⟩ := hr.cells ho hh
    have hE2 := hE.take (hi - lo)
    obtain ⟨w', φ', hrun, ho', hh', hok⟩ := over_core (P := P) (F := F) ho hh hp hE2 (lo := lo) (hi := hi) (by rw [List.length_take]; omega) hhi
    refine ⟨(), w', ?_, m, φ', ho', hh', hpp, hkk.trans hok⟩
    have hcl := hE.len
    have hfirst : (Builtin.firstCells K.n (min ys.length (hi - lo)) u).run P w = .ok (cs.take ((hi - lo) * K.n)).toArray w := by
      have hmin : cs.take ((hi - lo) * K.n) = cs.take (min ys.length (hi - lo) * K.n) := by
        rcases Nat.le_total ys.length (hi - lo) with h | h
        · rw [Nat.min_eq_left h, List.take_of_length_le (by rw [hcl]; exact Nat.mul_le_mul_right _ h), List.take_of_length_le (by rw [hcl]; exact Nat.le_refl _)]
        · rw [Nat.min_eq_right h]
      have hml : (cs.take (min ys.length (hi - lo) * K.n)).length = min ys.length (hi - lo) * K.n := by
        rw [List.length_take, hcl]; exact Nat.min_eq_left (Nat.mul_le_mul_right _ (Nat.min_le_left _ _))
      rw [hmin]
      subst hu
      cases a2 with
      | none =>
        have : cs = [] := by
          cases cs with
          | nil => rfl
          | cons c cs => obtain ⟨ad, e, _⟩ := hc 0 c rfl; cases e
        subst this
        simp [Builtin.firstCells]
      | some a2 =>
        have := run_loadCells_list (P := P) w a2 (cs.take (min ys.length (hi - lo) * K.n)) (fun j c hj => by
          have hj2 := (List.getElem?_eq_some_iff.1 hj).1
          rw [hml] at hj2
          rw [List.getElem?_take_of_lt hj2] at hj
          obtain ⟨ad', e, h⟩ := hc j c hj; cases e; exact h)
        rw [hml] at this
        simpa [Builtin.firstCells] using this
    subst hve
    have hmn : Nat.min ys.length (hi - lo) = min ys.length (hi - lo) := rfl
    subst hu
    simp only [subV] at hrun hx
    by_cases hcl : cap = lo
    · rw [if_pos hcl] at hrun hx
      cases ad with
      | none => simp [execOp, hS.eval hx, hS.eval hy, resolve, invoke, builtin, Builtin.copy_, run_underlying hte, Builtin.lenOf, sizeOf, typeInfo, hei, hsz, hmn, hfirst, goInt] ; simpa using hrun
      | some ad =>
        dsimp only at hrun
        simp [execOp, hS.eval hx, hS.eval hy, resolve, invoke, builtin, Builtin.copy_, run_underlying hte, Builtin.lenOf, sizeOf, typeInfo, hei, hsz, hmn, hfirst, goInt, hrun]
    · rw [if_neg hcl] at hrun hx
      cases ad with
      | none => simp [execOp, hS.eval hx, hS.eval hy, resolve, invoke, builtin, Builtin.copy_, run_underlying hte, Builtin.lenOf, sizeOf, typeInfo, hei, hsz, hmn, hfirst, goInt] ; simpa using hrun
      | some ad =>
        simp only [Option.map_some] at hrun hx
        simp [execOp, hS.eval hx, hS.eval hy, resolve, invoke, builtin, Builtin.copy_, run_underlying hte, Builtin.lenOf, sizeOf, typeInfo, hei, hsz, hmn, hfirst, goInt, hrun]
theorem subV_self {K : Kd α} {v : Value} {xs : List α} {p : Nat} {F : Fr} {w : World} (hm : Mem F L w) (hp : L[p]? = some (Val (Kd.osl K) v xs)) (hlen : 0 < xs.length) : subV v 0 xs.length K.n = v := by
  obtain ⟨m, φ, _, _, he⟩ := hm.get hp
  obtain ⟨ad, cap, rfl, hl, _, _⟩ := Val_osl he
  have : cap ≠ 0 := by omega
  cases ad <;> simp [subV, this, Addr.add]
end
end Go.SL
