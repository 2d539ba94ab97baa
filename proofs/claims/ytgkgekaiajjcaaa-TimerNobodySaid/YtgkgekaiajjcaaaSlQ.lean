/- Calls, and regions whose order is drawn; each rule states its own conditions. -/
import Derived.Test.YtgkgekaiajjcaaaSlN
import Derived.Orders
namespace Go.SL
open Go Go.RowKit
set_option linter.unusedVariables false
set_option linter.unusedSimpArgs false

theorem map_evals {E : List (Nat × Value)} {n : Nat} {a : Act} (hS : Sl n E a) : ∀ {xs : List Operand} {vs : List Value}, xs.map (opv E) = vs.map some → xs.map a.eval = vs
  | [], [], _ => rfl
  | [], v :: vs, h => by cases h
  | x :: xs, [], h => by cases h
  | x :: xs, v :: vs, h => by
    simp only [List.map_cons, List.cons.injEq] at h ⊢
    exact ⟨hS.eval h.1, map_evals hS h.2⟩
/-- The places of what is handed over, with nothing. -/
def holes (os : List Nat) (L : List Ent) : List Ent := os.foldl (fun l i => l.set i Ent.nul) L
section
variable {P : Program} {E : List (Nat × Value)} {L : List Ent}
variable {d : Option Tmp} {ty : TypeId} {pos : String} {aft : Array Edge} {g : Option (Nat × Bool)}
theorem call_core {σ : Type} {o : Oper} {f : FuncId} {vs : List Value} {Lp Lo : List Ent} {ret : σ → Value} {out : σ → List Ent} (hc : Spc P f vs Lp Lo ret out) (ps os : List Nat) (nd : os.Nodup) (hps : ps.map (fun i => L[i]?) = Lp.map some) (hos : os.map (fun i => L[i]?) = Lo.map some)
    (hrun : ∀ n a w, Sl n E a → (execOp a.eval o).run P w = .ok (.enter f vs.toArray) w) : OpS P E L o ret (fun s => out s ++ holes os L) := fun n F a w hS hm => by
  obtain ⟨F', hm', hback⟩ := Mem.hand ps os hc.per nd hps hos hm
  unfold Oper.wp
  rw [hrun n a w hS]
  refine Calls.mono (hc.run F' w hm') ?_
  rintro e w' ⟨s, rfl, hm2⟩
  exact ⟨s, rfl, hback _ _ hm2⟩
theorem run_enter {f : FuncId} {fn : Func} {args : Array Value} {w : World} (hf : P.funcs[f]? = some fn) (hn : (fn.name == "runtime.NumGoroutine") = false) (hb : fn.body.isSome = true) : (callFunc f args).run P w = .ok (.enter f args) w := by
  obtain ⟨c, hc⟩ := Option.isSome_iff_exists.1 hb
  have hn' : ¬ fn.name = "runtime.NumGoroutine" := by simpa using hn
  simp [callFunc, hf, hn', hc]
theorem o_call {σ : Type} {f : FuncId} {vs : List Value} {Lp Lo : List Ent} {ret : σ → Value} {out : σ → List Ent} {args : Array Operand} {ts : Array TypeId} (hc : Spc P f vs Lp Lo ret out) (hx : args.toList.map (opv E) = vs.map some) (ps os : List Nat) (nd : os.Nodup) (hps : ps.map (fun i => L[i]?) = Lp.map some) (hos : os.map (fun i => L[i]?) = Lo.map some) :
    OpS P E L ⟨d, .call { callee := .value (.func f), args := args, argTypes := ts }, ty, pos, aft, g⟩ ret (fun s => out s ++ holes os L) :=
  call_core hc ps os nd hps hos fun n a w hS => by
    obtain ⟨fn, hf, hn, hb⟩ := hc.fn
    have : args.map a.eval = vs.toArray := by apply Array.ext'; simpa using map_evals hS hx
    simp [execOp, resolve, Act.eval, Deferred.ofValue, invoke, this, run_enter hf hn hb]
/-- A call of a function value that is known, with what it captured. -/
theorem o_callv {σ : Type} {f : FuncId} {t : Operand} {vs caps : List Value} {Lp Lo : List Ent} {ret : σ → Value} {out : σ → List Ent} {args : Array Operand} {ts : Array TypeId} (ht : opv E t = some (.func (.func f) #[] caps.toArray)) (hx : args.toList.map (opv E) = vs.map some) (hc : Spc P f (vs ++ caps) Lp Lo ret out) (ps os : List Nat) (nd : os.Nodup) (hps : ps.map (fun i => L[i]?) = Lp.map some) (hos : os.map (fun i => L[i]?) = Lo.map some) :
    OpS P E L ⟨d, .call { callee := .value t, args := args, argTypes := ts }, ty, pos, aft, g⟩ ret (fun s => out s ++ holes os L) :=
  call_core hc ps os nd hps hos fun n a w hS => by
    obtain ⟨fn, hf, hn, hb⟩ := hc.fn
    have : args.map a.eval = vs.toArray := by apply Array.ext'; simpa using map_evals hS hx
    simp [execOp, resolve, hS.eval ht, Deferred.ofValue, invoke, this, run_enter hf hn hb]
/-! ### Guards -/
section
variable {n : Nat} {a : Act}
def notB : Value → Bool → Bool
  | .bool b, want => b != want
  | _, _ => true
def yB : Value → Option Bool
  | .bool b => some b
  | _ => none
theorem yielded_of {ops : Array Oper} {j dj : Nat} {v : Value} (h : Sl n E a) (hd : (ops[j]?).bind (·.dst) = some dj) (hv : look E dj = some v) : yielded ops a.tmps j = yB v := by
  have := h.at_ dj v hv
  unfold yielded
  rw [hd, Option.bind_some]
  cases hq : a.tmps[dj]? with
  | none =>
    rw [Array.getD_eq_getD_getElem?, hq] at this
    have hu : v = undef := this.symm
    subst hu; rfl
  | some u =>
    rw [Array.getD_eq_getD_getElem?, hq] at this
    have hu : v = u := this.symm
    subst hu
    cases v <;> rfl
theorem notB_yB {u : Value} {want : Bool} (h : notB u want = true) : (yB u == some want) = false := by cases u <;> cases want <;> simp_all [notB, yB]
end
/-! ### Regions whose order is drawn -/
/-- The block of a pointer. -/
def blk : Value → Nat
  | .pointer (some a) => a.block
  | _ => 0
inductive SF where
  | own
  | con (c : Value)
  | fn (f : Value → Value) (j : Nat)
structure RS where
  pre : List Nat
  lp : List Nat
  tk : List Nat
  skip : Bool
  form : SF
  eo : Option Nat
  ents : Value → List Ent
  od : List Nat
def RS.sv (s : RS) (i : Nat) (v : Nat → Value) : Value := match s.form with
  | .own => v i
  | .con c => c
  | .fn f j => f (v j)
/-- Whose value its entries are told of. -/
def RS.of (s : RS) (v : Nat → Value) (x : Value) : Value := match s.eo with | some j => v j | none => x
def RS.le (s : RS) (i : Nat) (v : Nat → Value) : List Ent := s.ents (s.of v (s.sv i v))
def dstOf (os : List Oper) (i : Nat) : Tmp := ((os[i]?).bind (·.dst)).getD 0
def gS (S : List RS) (i : Nat) : RS := (S[i]?).getD ⟨[], [], [], false, .own, none, fun _ => [], []⟩
/-- The entries that stay of those that an operation has. -/
def rest (S : List RS) (i : Nat) : List Nat := (gS S i).lp.filter fun j => !(gS S i).tk.contains j
def hasDst (os : List Oper) (i : Nat) : Bool := ((os[i]?).bind (·.dst)).isSome
def Eof (os : List Oper) (S : List RS) (js : List Nat) (v : Nat → Value) : List (Nat × Value) := js.flatMap fun j => bif hasDst os j then [(dstOf os j, (gS S j).sv j v)] else []
def Lof (S : List RS) (js : List Nat) (v : Nat → Value) : List Ent := js.flatMap fun j => (gS S j).le j v
/-- Slots as they were ahead, for who reads them before they are written. -/
def oldE (S : List RS) (Eo : List (Nat × Value)) (i : Nat) : List (Nat × Value) := Eo.filter fun p => (gS S i).od.contains p.1
def upd (v : Nat → Value) (i : Nat) (x : Value) : Nat → Value := fun j => if j = i then x else v j
theorem Own.perm {m : Frag} {L L' : List Ent} (h : L.Perm L') : ∀ {φ : Frag}, Own L m φ → Own L' m φ := by
  induction h with
  | nil => exact fun h => h
  | cons x _ ih => exact fun ⟨f1, f2, a, b, d, he, ho⟩ => ⟨f1, f2, a, b, d, he, ih ho⟩
  | swap x y l => exact fun h => h.swap
  | trans _ _ ih1 ih2 => exact fun h => ih2 (ih1 h)
theorem Mem.perm {F : Fr} {L L' : List Ent} {w : World} (hp : L.Perm L') (h : Mem F L w) : Mem F L' w := h.map fun _ _ o => o.perm hp
theorem sub_perm : ∀ {p js : List Nat}, p.Nodup → (∀ x ∈ p, x ∈ js) → ∃ rest, js.Perm (p ++ rest)
  | [], js, _, _ => ⟨js, .refl _⟩
  | a :: p, js, nd, hs => by
    have ha : a ∈ js := hs a (by simp)
    have h1 := List.perm_cons_erase ha
    obtain ⟨rest, hr⟩ := sub_perm (p := p) (js := js.erase a) (List.nodup_cons.1 nd).2 (fun x hx => by
      have hne : x ≠ a := fun e => (List.nodup_cons.1 nd).1 (e ▸ hx)
      exact (List.mem_erase_of_ne hne).2 (hs x (by simp [hx])))
    exact ⟨rest, h1.trans (hr.cons a)⟩
/-- The guard of operation i, those ahead of it being done: it holds; it does not. -/
def gOk (os : List Oper) (S : List RS) (i : Nat) (o : Oper) (v : Nat → Value) : Prop := ∀ j want, o.guard = some (j, want) → j ∈ (gS S i).pre ∧ hasDst os j = true ∧ (gS S j).sv j v = .bool want
def gNo (os : List Oper) (S : List RS) (i : Nat) (o : Oper) (v : Nat → Value) : Prop := ∃ j want, o.guard = some (j, want) ∧ j ∈ (gS S i).pre ∧ hasDst os j = true ∧ notB ((gS S j).sv j v) want = true
/-- What an operation of the body must do, those ahead of it being done. -/
def Ob (P : Program) (os : List Oper) (S : List RS) (E Eo : List (Nat × Value)) (L : List Ent) (i : Nat) (o : Oper) : Prop := ∀ v : Nat → Value,
  match (gS S i).skip with
  | true => gNo os S i o v ∧ (gS S i).form = .con undef ∧ (gS S i).eo = none ∧ (gS S i).ents undef = [] ∧ (gS S i).lp = []
  | false => gOk os S i o v ∧ match (gS S i).form with
    | .own => ∃ (σ : Type) (ret : σ → Value), OpS P (Eof os S (gS S i).pre v ++ (E ++ oldE S Eo i)) (Lof S (gS S i).lp v ++ L) o ret (fun s => (gS S i).ents ((gS S i).of v (ret s)) ++ (Lof S (rest S i) v ++ L))
    | .con c => OpS (σ := Unit) P (Eof os S (gS S i).pre v ++ (E ++ oldE S Eo i)) (Lof S (gS S i).lp v ++ L) o (fun _ => c) (fun _ => (gS S i).ents ((gS S i).of v c) ++ (Lof S (rest S i) v ++ L))
    | .fn f j => OpS (σ := Unit) P (Eof os S (gS S i).pre v ++ (E ++ oldE S Eo i)) (Lof S (gS S i).lp v ++ L) o (fun _ => f (v j)) (fun _ => (gS S i).ents ((gS S i).of v (f (v j))) ++ (Lof S (rest S i) v ++ L))
theorem gok_none {os : List Oper} {S : List RS} {i : Nat} {o : Oper} (h : o.guard = none) (v : Nat → Value) : gOk os S i o v := fun j want e => by rw [h] at e; cases e
theorem gok_some {os : List Oper} {S : List RS} {i : Nat} {o : Oper} {j : Nat} {want b : Bool} (h : o.guard = some (j, want)) (hp : (gS S i).pre.contains j = true) (hd : hasDst os j = true) (hv : ∀ v, (gS S j).sv j v = .bool b) (hb : b = want) (v : Nat → Value) : gOk os S i o v := fun j' want' e => by
  rw [h] at e; cases e; exact ⟨by simpa using hp, hd, by rw [hv, hb]⟩
theorem ob_skip {Eo : List (Nat × Value)} {os : List Oper} {S : List RS} {i : Nat} {o : Oper} {j : Nat} {want : Bool} {u : Value} (hs : (gS S i).skip = true) (h : o.guard = some (j, want)) (hp : (gS S i).pre.contains j = true) (hd : hasDst os j = true) (hv : ∀ v, (gS S j).sv j v = u) (hu : notB u want = true) (hf : (gS S i).form = .con undef) (heo : (gS S i).eo = none) (he : (gS S i).ents undef = []) (hl : (gS S i).lp = []) : Ob P os S E Eo L i o := fun v => by
  rw [hs]; exact ⟨⟨j, want, h, by simpa using hp, hd, by rw [hv]; exact hu⟩, hf, heo, he, hl⟩
theorem ob_own {Eo : List (Nat × Value)} {os : List Oper} {S : List RS} {i : Nat} {o : Oper} (hs : (gS S i).skip = false) (hg : ∀ v, gOk os S i o v) {σ : Type} {ret : σ → Value} (hf : (gS S i).form = .own) (h : ∀ v, OpS P (Eof os S (gS S i).pre v ++ (E ++ oldE S Eo i)) (Lof S (gS S i).lp v ++ L) o ret (fun s => (gS S i).ents ((gS S i).of v (ret s)) ++ (Lof S (rest S i) v ++ L))) : Ob P os S E Eo L i o := fun v => by
  rw [hs, hf]; exact ⟨hg v, σ, ret, h v⟩
theorem ob_con {Eo : List (Nat × Value)} {os : List Oper} {S : List RS} {i : Nat} {o : Oper} (hs : (gS S i).skip = false) (hg : ∀ v, gOk os S i o v) {c : Value} (hf : (gS S i).form = .con c) (h : ∀ v, OpS (σ := Unit) P (Eof os S (gS S i).pre v ++ (E ++ oldE S Eo i)) (Lof S (gS S i).lp v ++ L) o (fun _ => c) (fun _ => (gS S i).ents ((gS S i).of v c) ++ (Lof S (rest S i) v ++ L))) : Ob P os S E Eo L i o := fun v => by
  rw [hs, hf]; exact ⟨hg v, h v⟩
theorem ob_fn {Eo : List (Nat × Value)} {os : List Oper} {S : List RS} {i : Nat} {o : Oper} (hs : (gS S i).skip = false) (hg : ∀ v, gOk os S i o v) {f : Value → Value} {j : Nat} (hf : (gS S i).form = .fn f j) (h : ∀ v, OpS (σ := Unit) P (Eof os S (gS S i).pre v ++ (E ++ oldE S Eo i)) (Lof S (gS S i).lp v ++ L) o (fun _ => f (v j)) (fun _ => (gS S i).ents ((gS S i).of v (f (v j))) ++ (Lof S (rest S i) v ++ L))) : Ob P os S E Eo L i o := fun v => by
  rw [hs, hf]; exact ⟨hg v, h v⟩
def Obs (P : Program) (os : List Oper) (S : List RS) (E Eo : List (Nat × Value)) (L : List Ent) (i : Nat) : List Oper → Prop
  | [] => True
  | o :: rest => Ob P os S E Eo L i o ∧ Obs P os S E Eo L (i + 1) rest
theorem Obs.get {Eo : List (Nat × Value)} {os : List Oper} {S : List RS} : ∀ {rest : List Oper} {i : Nat}, Obs P os S E Eo L i rest → ∀ {j : Nat} {o : Oper}, rest[j]? = some o → Ob P os S E Eo L (i + j) o := by
  intro rest
  induction rest with
  | nil => intro i h j o hj; simp at hj
  | cons o' rest ih =>
    intro i h j o hj
    rw [Obs] at h
    cases j with
    | zero =>
      simp only [List.getElem?_cons_zero, Option.some.injEq] at hj
      subst hj
      exact h.1
    | succ j =>
      have := ih h.2 (j := j) (o := o) (by simpa using hj)
      rwa [show i + 1 + j = i + (j + 1) by omega] at this
theorem obs_nil {Eo : List (Nat × Value)} {os : List Oper} {S : List RS} {i : Nat} : Obs P os S E Eo L i [] := trivial
theorem obs_cons {Eo : List (Nat × Value)} {os : List Oper} {S : List RS} {i : Nat} {o : Oper} {rest : List Oper} (h : Ob P os S E Eo L i o) (k : Obs P os S E Eo L (i + 1) rest) : Obs P os S E Eo L i (o :: rest) := ⟨h, k⟩
/-! What binds -/
def dirs (o : Oper) : List Nat := (o.after.toList.filter fun e => Region.binds .any e).map (·.on)
inductive Rch (os : List Oper) : Nat → Nat → Prop
  | one {i j : Nat} {o : Oper} (h : os[i]? = some o) (hj : j ∈ dirs o) : Rch os i j
  | step {i j k : Nat} {o : Oper} (h : os[i]? = some o) (hj : k ∈ dirs o) (r : Rch os k j) : Rch os i j
/-- Which operations bind an operation, as bits of a number: the kernel reckons with these at once. -/
def ancs : List Oper → List Nat → List Nat
  | [], acc => acc
  | o :: rest, acc => ancs rest (acc ++ [(dirs o).foldl (fun m k => m ||| (2 ^ k ||| acc.getD k 0)) 0])
def tb (m j : Nat) : Bool := Nat.beq (Nat.land (Nat.shiftRight m j) 1) 1
theorem tb_iff {m j : Nat} : tb m j = m.testBit j := by
  have e : Nat.land (Nat.shiftRight m j) 1 = (m >>> j) % 2 := Nat.and_one_is_mod (m >>> j)
  unfold tb
  rw [e, Nat.testBit_eq_decide_div_mod_eq, Nat.shiftRight_eq_div_pow]
  cases h : Nat.beq (m / 2 ^ j % 2) 1 with
  | true => have := Nat.eq_of_beq_eq_true h; simp [this]
  | false =>
    have : m / 2 ^ j % 2 ≠ 1 := fun e => by rw [e] at h; simp at h
    simp [this]
theorem fold_tb {acc : List Nat} {j : Nat} : ∀ (l : List Nat) (m : Nat), (l.foldl (fun m k => m ||| (2 ^ k ||| acc.getD k 0)) m).testBit j = true → m.testBit j = true ∨ ∃ k ∈ l, j = k ∨ (acc.getD k 0).testBit j = true
  | [], m, h => .inl h
  | k :: l, m, h => by
    rw [List.foldl_cons] at h
    rcases fold_tb l _ h with h | ⟨k', hk, h⟩
    · rw [Nat.testBit_or, Nat.testBit_or, Bool.or_eq_true, Bool.or_eq_true] at h
      rcases h with h | h | h
      · exact .inl h
      · rw [Nat.testBit_two_pow] at h
        exact .inr ⟨k, by simp, .inl (by simpa using h : k = j).symm⟩
      · exact .inr ⟨k, by simp, .inr h⟩
    · exact .inr ⟨k', by simp [hk], h⟩
theorem ancs_sound {os : List Oper} : ∀ (rest : List Oper) (acc : List Nat), os.drop acc.length = rest → (∀ i l, acc[i]? = some l → ∀ j, l.testBit j = true → Rch os i j) → ∀ i l, (ancs rest acc)[i]? = some l → ∀ j, l.testBit j = true → Rch os i j
  | [], acc, _, h => h
  | o :: rest, acc, hd, h => by
    have ho : os[acc.length]? = some o := by
      have := congrArg (fun l => l[0]?) hd
      simpa using this
    refine ancs_sound rest _ (by rw [List.length_append, List.length_singleton, ← List.drop_drop, hd]; rfl) ?_
    intro i l hi j hj
    by_cases hlt : i < acc.length
    · rw [List.getElem?_append_left hlt] at hi
      exact h i l hi j hj
    · rw [List.getElem?_append_right (by omega)] at hi
      have : i - acc.length = 0 := by
        have := (List.getElem?_eq_some_iff.1 hi).1
        simp at this; omega
      rw [this] at hi
      simp only [List.getElem?_cons_zero, Option.some.injEq] at hi
      subst hi
      have hi2 : i = acc.length := by omega
      subst hi2
      rcases fold_tb _ _ hj with h0 | ⟨k, hk, rfl | hj⟩
      · simp at h0
      · exact .one ho hk
      · refine .step ho hk ?_
        cases hg : acc[k]? with
        | none => simp [List.getD, hg] at hj
        | some l => exact h k l hg j (by simpa [List.getD, hg] using hj)
def nodupB : List Nat → Bool
  | [] => true
  | x :: xs => !xs.contains x && nodupB xs
theorem nodupB_spec : ∀ {l : List Nat}, nodupB l = true → l.Nodup
  | [], _ => List.nodup_nil
  | x :: xs, h => by
    simp only [nodupB, Bool.and_eq_true, Bool.not_eq_true', List.contains_eq_mem, decide_eq_false_iff_not] at h
    exact List.nodup_cons.2 ⟨h.1, nodupB_spec h.2⟩
def preOf (S : List RS) (i : Nat) : List Nat := (gS S i).pre
def lpOf (S : List RS) (i : Nat) : List Nat := (gS S i).lp
def tkOf (S : List RS) (i : Nat) : List Nat := (gS S i).tk
def eoOf (S : List RS) (i : Nat) : Option Nat := (gS S i).eo
def odOf (S : List RS) (i : Nat) : List Nat := (gS S i).od
def isNil (S : List RS) (i : Nat) : Bool := match (gS S i).form, (gS S i).eo with | .con _, none => true | _, _ => false
def fnAt (S : List RS) (i : Nat) : Option Nat := match (gS S i).form with | .fn _ j => some j | _ => none
/-- May the body's operations (the first nb) be told so, and do the others follow one by one? -/
def chkD (os : List Oper) (nb n : Nat) (S : List RS) : Bool :=
  let A := ancs os []
  ((List.range os.length).all fun i => ((os[i]?).map fun o => (dirs o).all fun k => decide (k < i)).getD false) &&
  ((List.range nb).all fun i => (os[i]?).isSome && (!hasDst os i || decide (dstOf os i < n)) && nodupB (lpOf S i) && (preOf S i).all (fun j => tb (A.getD i 0) j && decide (j < nb)) && (lpOf S i).all (fun j => (tb (A.getD i 0) j && decide (j < nb)) || (decide (nb ≤ j) && decide (j < S.length))) && ((eoOf S i).map (fun j => (preOf S i).contains j)).getD true && (tkOf S i).all (fun j => (lpOf S i).contains j) && ((fnAt S i).map (fun j => (preOf S i).contains j)).getD true) &&
  ((List.range nb).all fun i' => (tkOf S i').all fun j => (List.range nb).all fun i => decide (i = i') || !(lpOf S i).contains j || tb (A.getD i' 0) i) &&
  nodupB (((List.range nb).filter (hasDst os)).map (dstOf os)) && decide (nb ≤ os.length) && decide (nb ≤ S.length) && ((List.range S.length).all fun j => decide (j < nb) || isNil S j) &&
  ((List.range os.length).all fun i => decide (i < nb) || (List.range i).all fun j => tb (A.getD i 0) j) &&
  ((List.range nb).all fun i => (odOf S i).all fun t => (List.range nb).any fun j => (hasDst os j && Nat.beq (dstOf os j) t) && tb (A.getD j 0) i)
def fresh (os : List Oper) (nb : Nat) (E : List (Nat × Value)) : Bool := (List.range nb).all fun i => !hasDst os i || (look E (dstOf os i)).isNone
/-- The operations whose entries nobody takes. -/
def keepL (S : List RS) (nb : Nat) : List Nat := (List.range S.length).filter fun j => (List.range nb).all fun i => !(tkOf S i).contains j
section
variable {os : List Oper} {nb n : Nat} {S : List RS}
structure Chk (os : List Oper) (nb n : Nat) (S : List RS) : Prop where
  less : ∀ i o, os[i]? = some o → ∀ k ∈ dirs o, k < i
  op : ∀ i, i < nb → ∃ o, os[i]? = some o ∧ o.dst = if hasDst os i then some (dstOf os i) else none
  lt : ∀ i, i < nb → hasDst os i = true → dstOf os i < n
  nd : ∀ i, i < nb → (lpOf S i).Nodup
  pre : ∀ i, i < nb → ∀ j ∈ preOf S i, Rch os i j ∧ j < nb
  lp : ∀ i, i < nb → ∀ j ∈ lpOf S i, (Rch os i j ∧ j < nb) ∨ (nb ≤ j ∧ j < S.length)
  eo : ∀ i j, i < nb → eoOf S i = some j → j ∈ preOf S i
  sl : nb ≤ S.length
  nil : ∀ j, nb ≤ j → j < S.length → isNil S j = true
  tk : ∀ i, i < nb → ∀ j ∈ tkOf S i, j ∈ lpOf S i
  ex : ∀ i i', i < nb → i' < nb → i ≠ i' → ∀ j ∈ lpOf S i, j ∈ tkOf S i' → Rch os i' i
  fn : ∀ i j, i < nb → fnAt S i = some j → j ∈ preOf S i
  inj : ∀ i j, i < nb → j < nb → hasDst os i = true → hasDst os j = true → dstOf os i = dstOf os j → i = j
  le : nb ≤ os.length
  tail : ∀ i, i < os.length → nb ≤ i → ∀ j, j < i → Rch os i j
  od : ∀ i, i < nb → ∀ t ∈ odOf S i, ∃ j, j < nb ∧ hasDst os j = true ∧ dstOf os j = t ∧ Rch os j i
theorem chkD_spec (h : chkD os nb n S = true) : Chk os nb n S := by
  unfold chkD at h
  simp only [Bool.and_eq_true, List.all_eq_true, List.mem_range, decide_eq_true_eq, Bool.or_eq_true, List.any_eq_true] at h
  obtain ⟨⟨⟨⟨⟨⟨⟨⟨h1, h2⟩, h6⟩, h3⟩, h4⟩, h7⟩, h8⟩, h5⟩, h9⟩ := h
  have hA : ∀ i j, tb ((ancs os []).getD i 0) j = true → Rch os i j := fun i j hj => by
    rw [tb_iff] at hj
    cases hg : (ancs os [])[i]? with
    | none => simp [List.getD, hg] at hj
    | some l => exact ancs_sound os [] rfl (fun i l h => by simp at h) i l hg j (by simpa [List.getD, hg] using hj)
  refine ⟨fun i o ho k hk => ?_, fun i hi => ?_, fun i hi hd => ?_, fun i hi => nodupB_spec (h2 i hi).1.1.1.1.1.2, fun i hi j hj => ?_, fun i hi j hj => ?_, fun i j hi he => ?_, h7, fun j hj hj2 => ?_, fun i hi j hj => ?_, fun i i' hi hi' hne j hj hj' => ?_, fun i j hi hf => ?_, fun i j hi hj hdi hdj he => ?_, h4, fun i hi hn j hj => ?_, fun i hi t ht => ?_⟩
  · have := h1 i (List.getElem?_eq_some_iff.1 ho).1
    simp only [ho, Option.map_some, Option.getD_some, List.all_eq_true, decide_eq_true_eq] at this
    exact this k hk
  · have := (h2 i hi).1.1.1.1.1.1.1
    cases ho : os[i]? with
    | none => simp [ho] at this
    | some o =>
      refine ⟨o, rfl, ?_⟩
      cases hd : o.dst with
      | none => simp [hasDst, ho, hd]
      | some d => simp [hasDst, dstOf, ho, hd]
  · have := (h2 i hi).1.1.1.1.1.1.2
    simpa [hd] using this
  · have := (h2 i hi).1.1.1.1.2 j hj
    exact ⟨hA i j this.1, this.2⟩
  · rcases (h2 i hi).1.1.1.2 j hj with this | this
    · exact .inl ⟨hA i j this.1, this.2⟩
    · exact .inr this
  · have := (h2 i hi).1.1.2
    rw [he] at this
    simpa using this
  · rcases h8 j hj2 with h | h
    · omega
    · exact h
  · have := (h2 i hi).1.2 j hj
    simpa using this
  · rcases h6 i' hi' j hj' i hi with (e | h) | h
    · exact absurd e hne
    · simp [hj] at h
    · exact hA i' i h
  · have := (h2 i hi).2
    rw [hf] at this
    simpa using this
  · have nd := nodupB_spec h3
    have hmem : ∀ k, k < nb → hasDst os k = true → k ∈ (List.range nb).filter (hasDst os) := fun k hk hd => by simp [hk, hd]
    have key : ∀ (l : List Nat), (l.map (dstOf os)).Nodup → ∀ i ∈ l, ∀ j ∈ l, dstOf os i = dstOf os j → i = j := by
      intro l
      induction l with
      | nil => intro _ i hi; cases hi
      | cons x l ih =>
        intro nd i hi j hj e
        have nd1 := nd
        rw [List.map_cons, List.nodup_cons] at nd1
        rcases List.mem_cons.1 hi with ei | hi2
        · rcases List.mem_cons.1 hj with ej | hj2
          · rw [ei, ej]
          · subst ei; exact absurd (List.mem_map.2 ⟨j, hj2, e.symm⟩) nd1.1
        · rcases List.mem_cons.1 hj with ej | hj2
          · subst ej; exact absurd (List.mem_map.2 ⟨i, hi2, e⟩) nd1.1
          · exact ih nd1.2 i hi2 j hj2 e
    exact key _ nd i (hmem i hi hdi) j (hmem j hj hdj) he
  · rcases h5 i hi with h | h
    · omega
    · exact hA i j (h j hj)
  · obtain ⟨j, hj, ⟨h1', h2'⟩, h3'⟩ := h9 i hi t ht
    exact ⟨j, hj, h1', Nat.eq_of_beq_eq_true h2', hA j i h3'⟩
theorem Rch.lt (c : Chk os nb n S) {i j : Nat} (r : Rch os i j) : j < i := by
  induction r with
  | one h hj => exact c.less _ _ h _ hj
  | step h hj r ih => have := c.less _ _ h _ hj; omega
/-- What is listed is listed with all that binds it. -/
def Dn (os : List Oper) (listed : Array Bool) : Prop := listed.size = os.length ∧ ∀ i o, os[i]? = some o → listed.getD i true = true → ∀ k ∈ dirs o, listed.getD k true = true
theorem ready_iff {listed : Array Bool} {i : Nat} : i ∈ Region.ready .any (List.toArray os) listed ↔ ∃ o, os[i]? = some o ∧ listed.getD i true = false ∧ ∀ k ∈ dirs o, listed.getD k false = true := by
  unfold Region.ready
  simp only [List.mem_filter, List.mem_range, List.size_toArray, Bool.and_eq_true, Bool.not_eq_true', List.getElem?_toArray]
  constructor
  · rintro ⟨hi, hl, h⟩
    have ho : os[i]? = some os[i] := List.getElem?_eq_getElem hi
    refine ⟨os[i], ho, hl, fun k hk => ?_⟩
    rw [ho] at h
    simp only [Option.map_some, Option.getD_some] at h
    obtain ⟨e, he, rfl⟩ := List.mem_map.1 hk
    simp only [List.mem_filter] at he
    have := Array.all_eq_true'.1 h e (by simpa using he.1)
    simpa [he.2] using this
  · rintro ⟨o, ho, hl, h⟩
    refine ⟨(List.getElem?_eq_some_iff.1 ho).1, hl, ?_⟩
    rw [ho]
    simp only [Option.map_some, Option.getD_some]
    refine Array.all_eq_true'.2 fun e he => ?_
    cases hb : Region.binds .any e with
    | false => simp
    | true => simpa using h e.on (List.mem_map.2 ⟨e, by simp [hb, Array.mem_toList_iff.2 he], rfl⟩)
theorem Rch.listed {listed : Array Bool} (hd : Dn os listed) {i j : Nat} (r : Rch os i j) : (∀ o, os[i]? = some o → ∀ k ∈ dirs o, listed.getD k true = true) → listed.getD j true = true := by
  induction r with
  | one h hj => exact fun k => k _ h _ hj
  | step h hj r ih => exact fun k => ih fun o ho => hd.2 _ o ho (k _ h _ hj)
theorem getD_set {listed : Array Bool} {i j : Nat} {b : Bool} (hi : i < listed.size) : (listed.setIfInBounds i true).getD j b = if i = j then true else listed.getD j b := by
  simp only [Array.getD_eq_getD_getElem?]
  by_cases h : i = j
  · subst h; simp [hi]
  · rw [Array.getElem?_setIfInBounds_ne h, if_neg h]
theorem getD_tf {listed : Array Bool} {i : Nat} (h : i < listed.size) {b b' : Bool} : listed.getD i b = listed.getD i b' := by
  simp [Array.getD, h]
theorem Dn.set {listed : Array Bool} (hd : Dn os listed) {i : Nat} {o : Oper} (ho : os[i]? = some o) (hk : ∀ k ∈ dirs o, listed.getD k false = true) : Dn os (listed.setIfInBounds i true) := by
  have hi : i < listed.size := by rw [hd.1]; exact (List.getElem?_eq_some_iff.1 ho).1
  refine ⟨by simp [hd.1], fun j o' ho' hl k hk' => ?_⟩
  rw [getD_set hi] at hl ⊢
  by_cases hik : i = k
  · simp [hik]
  · rw [if_neg hik]
    by_cases hij : i = j
    · subst hij
      rw [ho] at ho'
      cases ho'
      have := hk k hk'
      have hks : k < listed.size := by
        by_cases h : k < listed.size
        · exact h
        · simp [Array.getD, h] at this
      rw [getD_tf hks (b' := false)]; exact this
    · rw [if_neg hij] at hl
      exact hd.2 j o' ho' hl k hk'
/-- What follows the body, one by one. -/
theorem draw_tail {Q : Exit → Act → World → Prop} (c : Chk os nb n S) : ∀ (len t : Nat), nb ≤ t → t + len = os.length → ∀ (listed : Array Bool) (a : Act) (w : World), listed.size = os.length → (∀ j, j < os.length → listed.getD j true = decide (j < t)) → wpOps P (List.toArray os) Q (List.range' t len) a w → wpAny P .any (List.toArray os) Q len listed a w
  | 0, t, ht, hl, listed, a, w, hs, hj, h => by
    refine ⟨?_, h⟩
    rw [List.eq_nil_iff_forall_not_mem]
    intro i hi
    obtain ⟨o, ho, hl2, _⟩ := ready_iff.1 hi
    have hlt := (List.getElem?_eq_some_iff.1 ho).1
    rw [hj i hlt] at hl2
    simp at hl2; omega
  | len + 1, t, ht, hl, listed, a, w, hs, hj, h => by
    have htl : t < os.length := by omega
    have ho : os[t]? = some os[t] := List.getElem?_eq_getElem htl
    have hready : t ∈ Region.ready .any (List.toArray os) listed := ready_iff.2 ⟨os[t], ho, by rw [hj t htl]; simp, fun k hk => by
      have hk' := c.less t _ ho k hk
      rw [getD_tf (b' := true) (by omega), hj k (by omega)]; simpa using hk'⟩
    refine ⟨fun e => (by rw [e] at hready; cases hready), fun i hi => ?_⟩
    obtain ⟨o, ho', hl2, hk⟩ := ready_iff.1 hi
    have hlt := (List.getElem?_eq_some_iff.1 ho').1
    rw [hj i hlt] at hl2
    have hit : i = t := by
      rcases Nat.lt_trichotomy i t with h | h | h
      · simp [h] at hl2
      · exact h
      · exfalso
        have r := c.tail i hlt (by omega) t h
        have hd : Dn os listed := ⟨hs, fun j o hjo hjl k hk => by
          have hjlt := (List.getElem?_eq_some_iff.1 hjo).1
          rw [hj j hjlt] at hjl
          have := c.less j o hjo k hk
          rw [hj k (by omega)]
          simp at hjl ⊢; omega⟩
        have := r.listed hd (fun o2 ho2 k hk2 => by
          rw [ho'] at ho2; cases ho2
          have := hk k hk2
          have hks : k < listed.size := by
            by_cases h : k < listed.size
            · exact h
            · simp [Array.getD, h] at this
          rw [getD_tf hks (b' := false)]; exact this)
        rw [hj t htl] at this
        simp at this
    subst hit
    rw [List.range'_succ] at h
    have h2 : wpOp P (List.toArray os) Q i (wpOps P (List.toArray os) Q (List.range' (i + 1) len)) a w := by
      rw [← wpOps_cons]; exact h
    exact wpOp_mono (fun a w hh => draw_tail c len (i + 1) (by omega) (by omega) _ a w (by simp [hs]) (fun j hjl => by
      rw [getD_set (by omega), hj j hjl]
      by_cases h : i = j
      · simp [h]
      · rw [if_neg h]
        have : (j < i) ↔ (j < i + 1) := by omega
        simp [this]) hh) h2
theorem short (js : List Nat) (nd : js.Nodup) (hb : ∀ j ∈ js, j < nb) : js.length ≤ nb := by
  obtain ⟨rest, hr⟩ := sub_perm nd (js := List.range nb) (fun x hx => List.mem_range.2 (hb x hx))
  have := hr.length_eq
  simp at this; omega
theorem perm_of_mem {a b : List Nat} (na : a.Nodup) (nb : b.Nodup) (h : ∀ x, x ∈ a ↔ x ∈ b) : a.Perm b := by
  obtain ⟨rest, hr⟩ := sub_perm na (js := b) (fun x hx => (h x).1 hx)
  have nd2 : (a ++ rest).Nodup := hr.nodup_iff.1 nb
  cases rest with
  | nil => rw [List.append_nil] at hr; exact hr.symm
  | cons x rest =>
    exfalso
    have hx : x ∈ b := hr.mem_iff.2 (by simp)
    have := (List.nodup_append.1 nd2).2.2 x ((h x).2 hx) x (by simp)
    exact this rfl
/-- How the slots of some operations are looked up. -/
theorem look_Eof (c : Chk os nb n S) (hfr : fresh os nb E = true) (v : Nat → Value) : ∀ (l : List Nat) (t : Nat), (∀ j ∈ l, j < nb) →
    (∃ j ∈ l, hasDst os j = true ∧ dstOf os j = t ∧ look (Eof os S l v ++ E) t = some ((gS S j).sv j v)) ∨ ((∀ j ∈ l, hasDst os j = true → dstOf os j ≠ t) ∧ look (Eof os S l v ++ E) t = look E t) := by
  intro l t
  induction l with
  | nil => intro _; exact .inr ⟨fun j h => (by cases h), rfl⟩
  | cons j l ih =>
    intro hl
    have ih := ih fun j' hj' => hl j' (by simp [hj'])
    cases hd : hasDst os j with
    | false =>
      have e : Eof os S (j :: l) v = Eof os S l v := by simp [Eof, hd]
      rw [e]
      rcases ih with ⟨j', hj', h1, h2, h3⟩ | ⟨h1, h2⟩
      · exact .inl ⟨j', by simp [hj'], h1, h2, h3⟩
      · refine .inr ⟨fun j' hj' hd' => ?_, h2⟩
        rcases List.mem_cons.1 hj' with rfl | hj'
        · rw [hd] at hd'; cases hd'
        · exact h1 j' hj' hd'
    | true =>
      have e : Eof os S (j :: l) v = (dstOf os j, (gS S j).sv j v) :: Eof os S l v := by simp [Eof, hd]
      rw [e]
      simp only [List.cons_append, look]
      cases hb3 : Nat.beq (dstOf os j) t with
      | true => exact .inl ⟨j, by simp, hd, Nat.eq_of_beq_eq_true hb3, rfl⟩
      | false =>
        have hne : dstOf os j ≠ t := fun e => by rw [e] at hb3; simp at hb3
        rcases ih with ⟨j', hj', h1, h2, h3⟩ | ⟨h1, h2⟩
        · exact .inl ⟨j', by simp [hj'], h1, h2, h3⟩
        · refine .inr ⟨fun j' hj' hd' => ?_, h2⟩
          rcases List.mem_cons.1 hj' with rfl | hj'
          · exact hne
          · exact h1 j' hj' hd'
/-- Fewer operations' slots. -/
theorem Sl.fewer (c : Chk os nb n S) (hfr : fresh os nb E = true) {v : Nat → Value} {l l' : List Nat} {a : Act} (hl : ∀ j ∈ l, j < nb) (hs : ∀ j ∈ l', j ∈ l) (h : Sl n (Eof os S l v ++ E) a) : Sl n (Eof os S l' v ++ E) a := by
  refine ⟨h.sz, h.df, fun t u hu => h.at_ t u ?_⟩
  rcases look_Eof c hfr v l' t (fun j hj => hl j (hs j hj)) with ⟨j, hj, hd, e, hh⟩ | ⟨hh, e⟩
  · rw [hh] at hu; cases hu
    rcases look_Eof c hfr v l t hl with ⟨j', hj', hd', e', hh'⟩ | ⟨hh', e'⟩
    · have := c.inj j j' (hl j (hs j hj)) (hl j' hj') hd hd' (e.trans e'.symm)
      subst this; exact hh'
    · exact absurd e (hh' j (hs j hj) hd)
  · rw [e] at hu
    rcases look_Eof c hfr v l t hl with ⟨j', hj', hd', e', hh'⟩ | ⟨hh', e'⟩
    · exfalso
      have := List.all_eq_true.1 hfr j' (List.mem_range.2 (hl j' hj'))
      rw [hd', e', hu] at this
      simp at this
    · rw [e']; exact hu
theorem full {Q : Exit → Act → World → Prop} {F : Fr} (c : Chk os nb n S) (hfr : fresh os nb E = true) (K : ∀ (v : Nat → Value) (a : Act) (w : World), St n F (Eof os S (List.range nb) v ++ E) (Lof S (keepL S nb) v ++ L) a w → wpOps P (List.toArray os) Q (List.range' nb (os.length - nb)) a w)
    (js ls : List Nat) (listed : Array Bool) (v : Nat → Value) (a : Act) (w : World) (fuel : Nat) (hf : fuel + js.length = os.length) (nd : js.Nodup) (ndl : ls.Nodup) (hls : ∀ j, j ∈ ls ↔ (j ∈ js ∨ (nb ≤ j ∧ j < S.length)) ∧ ∀ i ∈ js, j ∉ tkOf S i) (hd : Dn os listed) (hl : ∀ j, j < os.length → (listed.getD j true = true ↔ j ∈ js)) (hb : ∀ j ∈ js, j < nb) (hS : Sl n (Eof os S js v ++ E) a) (hM : Mem F (Lof S ls v ++ L) w) (hfull : js.length = nb) : wpAny P .any (List.toArray os) Q fuel listed a w := by
  obtain ⟨rest, hr⟩ := sub_perm nd (js := List.range nb) (fun x hx => List.mem_range.2 (hb x hx))
  have h0 : rest = [] := List.eq_nil_of_length_eq_zero (by have := hr.length_eq; simp at this; omega)
  subst h0
  rw [List.append_nil] at hr
  have hmem : ∀ j, j ∈ js ↔ j < nb := fun j => by rw [← hr.mem_iff]; exact List.mem_range
  have hle := c.le
  have hfu : fuel = os.length - nb := by omega
  subst hfu
  have hkeep : ls.Perm (keepL S nb) := perm_of_mem ndl (List.nodup_range.filter _) fun x => by
    rw [hls x, hmem x]
    simp only [keepL, List.mem_filter, List.mem_range, List.all_eq_true, Bool.not_eq_true', List.contains_eq_mem, decide_eq_false_iff_not]
    have := c.sl
    exact ⟨fun ⟨h1, h2⟩ => ⟨by omega, fun i hi => h2 i ((hmem i).2 hi)⟩, fun ⟨h1, h2⟩ => ⟨by omega, fun i hi => h2 i ((hmem i).1 hi)⟩⟩
  refine draw_tail c (os.length - nb) nb (Nat.le_refl _) (by omega) listed a w hd.1 (fun j hj => ?_) (K v a w ⟨Sl.fewer c hfr hb (fun j hj => (hmem j).2 (List.mem_range.1 hj)) hS, hM.perm ?_⟩)
  · by_cases h : j < nb
    · rw [(hl j hj).2 ((hmem j).2 h)]; simp [h]
    · cases hb2 : listed.getD j true with
      | false => simp [h]
      | true => exact absurd ((hmem j).1 ((hl j hj).1 hb2)) h
  · exact (List.Perm.flatMap_right (fun j => (gS S j).le j v) hkeep).append_right L
theorem getD_put {a : Act} {d t : Nat} {x : Value} (h : d ≠ t) : (a.put (some d) x).tmps.getD t undef = a.tmps.getD t undef := by
  simp [Act.put, Array.getD_eq_getD_getElem?, Array.getElem?_setIfInBounds_ne h]
/-- The slots of an operation that reads some as they were. -/
theorem Sl.olds {Eo : List (Nat × Value)} (c : Chk os nb n S) {js : List Nat} {a : Act} {i : Nat} (hi : i < nb) (hin : i ∉ js) (hb : ∀ j ∈ js, j < nb) (hanc : ∀ {i2 j2 : Nat}, i2 ∈ js → Rch os i2 j2 → j2 ∈ js) {E1 : List (Nat × Value)} (h : Sl n E1 a) (hO : ∀ p ∈ Eo, (∀ j ∈ js, hasDst os j = true → dstOf os j ≠ p.1) → a.tmps.getD p.1 undef = p.2) : Sl n (E1 ++ oldE S Eo i) a := by
  have hl : ∀ (A B : List (Nat × Value)) (t : Nat) (u : Value), look (A ++ B) t = some u → look A t = some u ∨ ∃ p ∈ B, p.1 = t ∧ p.2 = u := by
    intro A
    induction A with
    | nil =>
      intro B t u hu
      right
      induction B with
      | nil => cases hu
      | cons p B ihB =>
        rw [List.nil_append] at hu
        simp only [look] at hu
        cases hp : Nat.beq p.1 t with
        | true =>
          rw [hp] at hu
          exact ⟨p, by simp, Nat.eq_of_beq_eq_true hp, by simpa using hu⟩
        | false =>
          rw [hp] at hu
          obtain ⟨q, hq, e⟩ := ihB (by simpa using hu)
          exact ⟨q, by simp [hq], e⟩
    | cons p A ih =>
      intro B t u hu
      rw [List.cons_append] at hu
      simp only [look] at hu ⊢
      cases hp : Nat.beq p.1 t with
      | true => rw [hp] at hu; left; exact hu
      | false => rw [hp] at hu; exact ih B t u hu
  refine ⟨h.sz, h.df, fun t u hu => ?_⟩
  rcases hl E1 _ t u hu with hu | ⟨p, hp, rfl, rfl⟩
  · exact h.at_ t u hu
  · simp only [oldE, List.mem_filter, List.contains_eq_mem, decide_eq_true_eq] at hp
    obtain ⟨j, hj, hd, he, r⟩ := c.od i hi p.1 hp.2
    refine hO p hp.1 fun j' hj' hd' e' => ?_
    have := c.inj j' j (hb j' hj') hj hd' hd (e'.trans he.symm)
    subst this
    exact hin (hanc hj' r)
theorem draw_body {Eo : List (Nat × Value)} {Q : Exit → Act → World → Prop} {F : Fr} (c : Chk os nb n S) (hfr : fresh os nb E = true) (ob : Obs P os S E Eo L 0 (os.take nb)) (K : ∀ (v : Nat → Value) (a : Act) (w : World), St n F (Eof os S (List.range nb) v ++ E) (Lof S (keepL S nb) v ++ L) a w → wpOps P (List.toArray os) Q (List.range' nb (os.length - nb)) a w) :
    ∀ (fuel : Nat) (js ls : List Nat) (listed : Array Bool) (v : Nat → Value) (a : Act) (w : World), fuel + js.length = os.length → js.Nodup → ls.Nodup → (∀ j, j ∈ ls ↔ (j ∈ js ∨ (nb ≤ j ∧ j < S.length)) ∧ ∀ i ∈ js, j ∉ tkOf S i) → Dn os listed → (∀ j, j < os.length → (listed.getD j true = true ↔ j ∈ js)) → (∀ j ∈ js, j < nb) → Sl n (Eof os S js v ++ E) a → Mem F (Lof S ls v ++ L) w → (∀ p ∈ Eo, (∀ j ∈ js, hasDst os j = true → dstOf os j ≠ p.1) → a.tmps.getD p.1 undef = p.2) → wpAny P .any (List.toArray os) Q fuel listed a w := by
  intro fuel
  induction fuel with
  | zero =>
    intro js ls listed v a w hf nd ndl hls hd hl hb hS hM hO
    exact full c hfr K js ls listed v a w 0 hf nd ndl hls hd hl hb hS hM (by have := c.le; have := short js nd hb; omega)
  | succ fuel ih =>
    intro js ls listed v a w hf nd ndl hls hd hl hb hS hM hO
    by_cases hfull : js.length = nb
    · exact full c hfr K js ls listed v a w (fuel + 1) hf nd ndl hls hd hl hb hS hM hfull
    have hlt : js.length < nb := by have := short js nd hb; omega
    -- some operation of the body is ready
    have hex : ∃ i, i < nb ∧ i ∉ js := by
      rcases Classical.em (∃ i, i < nb ∧ i ∉ js) with h | h
      · exact h
      · exfalso
        have hsub : ∀ x ∈ List.range nb, x ∈ js := fun x hx => by
          rcases Classical.em (x ∈ js) with h2 | h2
          · exact h2
          · exact absurd ⟨x, List.mem_range.1 hx, h2⟩ h
        obtain ⟨rest, hr⟩ := sub_perm List.nodup_range hsub
        have := hr.length_eq
        simp at this; omega
    have hmin : ∃ i, i < nb ∧ i ∉ js ∧ ∀ k, k < i → k ∈ js := by
      obtain ⟨i, hi, hn⟩ := hex
      induction i using Nat.strongRecOn with
      | _ i ih2 =>
        rcases Classical.em (∀ k, k < i → k ∈ js) with h | h
        · exact ⟨i, hi, hn, h⟩
        · simp only [Classical.not_forall] at h
          obtain ⟨k, hk, hkn⟩ := h
          exact ih2 k hk (by omega) hkn
    have hle := c.le
    refine ⟨fun e => ?_, fun i hi => ?_⟩
    · exfalso
      obtain ⟨i, hi, hn, hk⟩ := hmin
      have ho : os[i]? = some os[i] := List.getElem?_eq_getElem (by omega)
      have : i ∈ Region.ready .any (List.toArray os) listed := ready_iff.2 ⟨os[i], ho, by
        have := hl i (by omega)
        cases hb2 : listed.getD i true with
        | false => rfl
        | true => exact absurd (this.1 hb2) hn, fun k hkd => by
          have hki := c.less i _ ho k hkd
          rw [getD_tf (b' := true) (by rw [hd.1]; omega)]
          exact (hl k (by omega)).2 (hk k hki)⟩
      rw [e] at this; cases this
    · obtain ⟨o, ho, hl2, hk⟩ := ready_iff.1 hi
      have hilt := (List.getElem?_eq_some_iff.1 ho).1
      have hin : i ∉ js := fun h => by rw [(hl i hilt).2 h] at hl2; cases hl2
      have hkT : ∀ o2, os[i]? = some o2 → ∀ k ∈ dirs o2, listed.getD k true = true := fun o2 ho2 k hk2 => by
        rw [ho] at ho2; cases ho2
        have := hk k hk2
        have hks : k < listed.size := by
          by_cases h : k < listed.size
          · exact h
          · simp [Array.getD, h] at this
        rw [getD_tf hks (b' := false)]; exact this
      have hib : i < nb := by
        rcases Nat.lt_or_ge i nb with h | h
        · exact h
        · exfalso
          obtain ⟨k, hk1, hk2, _⟩ := hmin
          have := (c.tail i hilt h k (by omega)).listed hd hkT
          exact hk2 ((hl k (by omega)).1 this)
      obtain ⟨o', ho', hdst⟩ := c.op i hib
      rw [ho] at ho'; cases ho'
      have hpre : ∀ j ∈ preOf S i, j ∈ js := fun j hj => by
        obtain ⟨r, hjb⟩ := c.pre i hib j hj
        exact (hl j (by omega)).1 (r.listed hd hkT)
      have ancJ : ∀ {i2 j2 : Nat}, i2 ∈ js → Rch os i2 j2 → j2 ∈ js := fun {i2 j2} hi2 r => by
        have hlt2 := r.lt c
        have := hb i2 hi2
        exact (hl j2 (by omega)).1 (r.listed hd fun o2 ho2 k' hk' => hd.2 i2 o2 ho2 ((hl i2 (by omega)).2 hi2) k' hk')
      have hlp : ∀ j ∈ lpOf S i, j ∈ ls := fun j hj => by
        refine (hls j).2 ⟨?_, fun i2 hi2 ht => ?_⟩
        · rcases c.lp i hib j hj with ⟨r, hjb⟩ | h
          · exact .inl ((hl j (by omega)).1 (r.listed hd hkT))
          · exact .inr h
        have hne : i ≠ i2 := fun e => hin (e ▸ hi2)
        exact hin (ancJ hi2 (c.ex i i2 hib (hb i2 hi2) hne j hj ht))
      obtain ⟨R0, hperm⟩ := sub_perm (c.nd i hib) hlp
      have ndp : (lpOf S i ++ R0).Nodup := hperm.nodup_iff.1 ndl
      have hS' : Sl n (Eof os S (preOf S i) v ++ (E ++ oldE S Eo i)) a := by
        rw [← List.append_assoc]
        exact Sl.olds c hib hin hb ancJ (Sl.fewer c hfr hb hpre hS) hO
      have hM' : Mem F ((Lof S (lpOf S i) v ++ L) ++ Lof S R0 v) w := by
        refine hM.perm ?_
        have : (Lof S ls v).Perm (Lof S (lpOf S i) v ++ Lof S R0 v) := by
          have := hperm.flatMap_right (fun j => (gS S j).le j v)
          rwa [List.flatMap_append] at this
        exact (this.append_right L).trans (by rw [List.append_assoc, List.append_assoc]; exact List.Perm.append_left _ List.perm_append_comm)
      obtain ⟨F', hM2, hback⟩ := hM'.frame
      have hob := ob.get (j := i) (o := o) (by rw [List.getElem?_take_of_lt hib]; exact ho)
      rw [Nat.zero_add] at hob
      -- behind it
      have go : ∀ (x : Value) (w' : World) (v' : Nat → Value), (∀ j, j ≠ i → v' j = v j) → x = (gS S i).sv i v' → Mem F' ((gS S i).ents ((gS S i).of v x) ++ (Lof S (rest S i) v ++ L)) w' → wpAny P .any (List.toArray os) Q fuel (listed.setIfInBounds i true) (a.put o.dst x) w' := by
        intro x w' v' hv hx hm
        have hsz : i < listed.size := by rw [hd.1]; exact hilt
        have hvE : ∀ j ∈ js, (gS S j).sv j v' = (gS S j).sv j v := by
          intro j hj
          have hji : j ≠ i := fun e => hin (e ▸ hj)
          unfold RS.sv
          cases hfm : (gS S j).form with
          | own => exact hv j hji
          | con c => rfl
          | fn f k =>
            have hk2 : k ∈ preOf S j := c.fn j k (hb j hj) (by simp [fnAt, hfm])
            obtain ⟨r, hkb⟩ := c.pre j (hb j hj) k hk2
            dsimp only
            rw [hv k (fun e => hin (e ▸ ancJ hj r))]
        have hof : ∀ j ∈ js, ∀ y, (gS S j).of v' y = (gS S j).of v y := by
          intro j hj y
          unfold RS.of
          cases hfm : (gS S j).eo with
          | none => rfl
          | some k =>
            have hk2 : k ∈ preOf S j := c.eo j k (hb j hj) hfm
            obtain ⟨r, hkb⟩ := c.pre j (hb j hj) k hk2
            dsimp only
            rw [hv k (fun e => hin (e ▸ ancJ hj r))]
        have hofi : ∀ y, (gS S i).of v' y = (gS S i).of v y := by
          intro y
          unfold RS.of
          cases hfm : (gS S i).eo with
          | none => rfl
          | some k =>
            have hk2 : k ∈ preOf S i := c.eo i k hib hfm
            dsimp only
            rw [hv k (fun e => hin (e ▸ hpre k hk2))]
        have hvL : ∀ l : List Nat, (∀ j ∈ l, j ∈ js ∨ (nb ≤ j ∧ j < S.length)) → Lof S l v' = Lof S l v := by
          intro l hl2
          unfold Lof
          induction l with
          | nil => rfl
          | cons j l ih3 =>
            rw [List.flatMap_cons, List.flatMap_cons, ih3 (fun j' hj' => hl2 j' (by simp [hj']))]
            congr 1
            simp only [RS.le]
            rcases hl2 j (by simp) with hj | ⟨hj1, hj2⟩
            · rw [hvE j hj, hof j hj]
            · have hn := c.nil j hj1 hj2
              unfold isNil at hn
              unfold RS.of RS.sv
              cases hfm : (gS S j).form <;> cases hem : (gS S j).eo <;> simp_all
        have hlsjs : ∀ j ∈ ls, j ∈ js ∨ (nb ≤ j ∧ j < S.length) := fun j hj => ((hls j).1 hj).1
        have hini : ∀ j ∈ ls, j ≠ i := fun j hj e => by
          rcases hlsjs j hj with h | h
          · exact hin (e ▸ h)
          · omega
        have hrest : ∀ j ∈ rest S i, j ∈ lpOf S i ∧ j ∉ tkOf S i := fun j hj => by
          simpa [rest, lpOf, tkOf] using hj
        have hR0 : ∀ j ∈ R0, j ∈ ls := fun j hj => hperm.mem_iff.2 (by simp [hj])
        have hiRch : ∀ i2 ∈ js, i ∉ tkOf S i2 := fun i2 hi2 ht => by
          rcases c.lp i2 (hb i2 hi2) i (c.tk i2 (hb i2 hi2) i ht) with ⟨r, _⟩ | h
          · exact hin (ancJ hi2 r)
          · omega
        have hiself : i ∉ tkOf S i := fun ht => by
          rcases c.lp i hib i (c.tk i hib i ht) with ⟨r, _⟩ | h
          · have := r.lt c; omega
          · omega
        refine ih (i :: js) (i :: (rest S i ++ R0)) _ v' _ w' (by rw [List.length_cons]; omega) (List.nodup_cons.2 ⟨hin, nd⟩) (List.nodup_cons.2 ⟨fun h => ?_, ?_⟩) (fun j => ?_) (hd.set ho hk) (fun j hj => ?_) (fun j hj => ?_) ?_ ?_ (fun p hp hnj => ?_)
        · rcases List.mem_append.1 h with h | h
          · exact hini i (hlp i (hrest i h).1) rfl
          · exact hini i (hR0 i h) rfl
        · obtain ⟨n1, n2, n3⟩ := List.nodup_append.1 ndp
          exact List.nodup_append.2 ⟨n1.filter _, n2, fun x hx y hy => n3 x (hrest x hx).1 y hy⟩
        · constructor
          · intro h
            rcases List.mem_cons.1 h with rfl | h
            · exact ⟨by simp, fun i2 hi2 => by
                rcases List.mem_cons.1 hi2 with rfl | hi2
                · exact hiself
                · exact hiRch i2 hi2⟩
            · rcases List.mem_append.1 h with h | h
              · have h1 := hrest j h
                have h2 := (hls j).1 (hlp j h1.1)
                exact ⟨h2.1.imp (fun h => by simp [h]) id, fun i2 hi2 => by
                  rcases List.mem_cons.1 hi2 with rfl | hi2
                  · exact h1.2
                  · exact h2.2 i2 hi2⟩
              · have h2 := (hls j).1 (hR0 j h)
                refine ⟨h2.1.imp (fun h => by simp [h]) id, fun i2 hi2 ht => ?_⟩
                rcases List.mem_cons.1 hi2 with rfl | hi2
                · rename_i hR
                  exact (List.nodup_append.1 ndp).2.2 j (c.tk i2 hib j ht) j (by assumption) rfl
                · exact h2.2 i2 hi2 ht
          · rintro ⟨h1, h2⟩
            by_cases hji : j = i
            · subst hji; simp
            · have h1 : j ∈ js ∨ (nb ≤ j ∧ j < S.length) := h1.imp (fun h => (List.mem_cons.1 h).resolve_left hji) id
              have hjl : j ∈ ls := (hls j).2 ⟨h1, fun i2 hi2 => h2 i2 (by simp [hi2])⟩
              rcases List.mem_append.1 (hperm.mem_iff.1 hjl) with h | h
              · have : j ∈ rest S i := by
                  have := h2 i (by simp)
                  simp only [rest, List.mem_filter, Bool.not_eq_true', List.contains_eq_mem, decide_eq_false_iff_not]
                  exact ⟨h, this⟩
                simp [this]
              · simp [h]
        · rw [getD_set hsz]
          by_cases h : i = j
          · simp [h]
          · rw [if_neg h, hl j hj]
            simp [Ne.symm h]
        · rcases List.mem_cons.1 hj with rfl | hj
          · exact hib
          · exact hb j hj
        · have e00 : ∀ l : List Nat, (∀ j ∈ l, j ∈ js) → Eof os S l v' = Eof os S l v := by
            intro l hl2
            unfold Eof
            induction l with
            | nil => rfl
            | cons j l ih3 => rw [List.flatMap_cons, List.flatMap_cons, hvE j (hl2 j (by simp)), ih3 fun j' hj' => hl2 j' (by simp [hj'])]
          have e0 := e00 js fun j hj => hj
          cases hdd : hasDst os i with
          | true =>
            have e1 : Eof os S (i :: js) v' ++ E = (dstOf os i, x) :: (Eof os S js v ++ E) := by
              rw [← e0, hx]; simp [Eof, hdd]
            rw [e1, hdst, hdd]
            exact hS.put (c.lt i hib hdd) x
          | false =>
            have e1 : Eof os S (i :: js) v' ++ E = Eof os S js v ++ E := by rw [← e0]; simp [Eof, hdd]
            rw [e1, hdst, hdd]
            exact hS
        · have := hback _ _ hm
          refine this.perm ?_
          have e2 : Lof S (i :: (rest S i ++ R0)) v' = (gS S i).ents ((gS S i).of v x) ++ (Lof S (rest S i) v ++ Lof S R0 v) := by
            rw [← hvL (rest S i) (fun j hj => hlsjs j (hlp j (hrest j hj).1)), ← hvL R0 (fun j hj => hlsjs j (hR0 j hj)), ← hofi, hx]
            simp [Lof, RS.le]
          simp only [e2, List.append_assoc]
          refine List.Perm.append_left _ (List.Perm.append_left _ ?_)
          exact List.perm_append_comm
        · have h0 := hO p hp fun j hj hd' => hnj j (by simp [hj]) hd'
          rw [hdst]
          cases hdd : hasDst os i with
          | true => rw [if_pos rfl, getD_put (hnj i (by simp) hdd)]; exact h0
          | false => exact h0
      have hop : wpOp P (List.toArray os) Q i (wpAny P .any (List.toArray os) Q fuel (listed.setIfInBounds i true)) a w := by
        unfold wpOp
        have : (List.toArray os)[i]? = some o := by simpa using ho
        rw [this]
        dsimp only
        have hobv := hob v
        have hsl : ∀ j2, j2 ∈ (gS S i).pre → hasDst os j2 = true → yielded (List.toArray os) a.tmps j2 = yB ((gS S j2).sv j2 v) := fun j2 hj2 hd2 => by
          have hin2 := hpre j2 hj2
          refine yielded_of (dj := dstOf os j2) hS ?_ ?_
          · simp only [List.getElem?_toArray]
            cases hoj : os[j2]? with
            | none => simp [hasDst, hoj] at hd2
            | some oj =>
              cases hdj : oj.dst with
              | none => simp [hasDst, hoj, hdj] at hd2
              | some dj => simp [dstOf, hoj, hdj]
          · rcases look_Eof c hfr v js (dstOf os j2) hb with ⟨j', hj', hd', e', hh'⟩ | ⟨hh', e'⟩
            · have := c.inj j2 j' (hb j2 hin2) (hb j' hj') hd2 hd' e'.symm
              subst this; exact hh'
            · exact absurd rfl (hh' j2 hin2 hd2)
        cases hsk : (gS S i).skip with
        | true =>
          rw [hsk] at hobv
          obtain ⟨⟨j2, want, hg2, hp2, hd2, hn2⟩, hf2, heo2, he2, hl2'⟩ := hobv
          have hwant : ¬ Region.wanted o (yielded (List.toArray os) a.tmps) = true := by
            unfold Region.wanted
            rw [hg2]
            dsimp only
            rw [hsl j2 hp2 hd2]
            rw [notB_yB hn2]; exact Bool.false_ne_true
          rw [if_neg hwant]
          refine go undef w v (fun j hj => rfl) (by unfold RS.sv; rw [hf2]) ?_
          have hof0 : (gS S i).of v undef = undef := by unfold RS.of; rw [heo2]
          rw [hof0, he2]
          have hr0 : rest S i = [] := by unfold rest; rw [hl2']; rfl
          have hl0 : lpOf S i = [] := hl2'
          rw [hr0]
          rw [hl0] at hM2
          exact hM2
        | false =>
        rw [hsk] at hobv
        obtain ⟨hgk, hobv⟩ := hobv
        have hwant : Region.wanted o (yielded (List.toArray os) a.tmps) = true := by
          unfold Region.wanted
          cases hg2 : o.guard with
          | none => rfl
          | some p =>
            obtain ⟨j2, want⟩ := p
            obtain ⟨hp2, hd2, hv2⟩ := hgk j2 want hg2
            dsimp only
            rw [hsl j2 hp2 hd2, hv2]
            exact beq_self_eq_true _
        rw [if_pos hwant]
        left
        cases hfm : (gS S i).form with
        | own =>
          rw [hfm] at hobv
          obtain ⟨σ, ret, hop⟩ := hobv
          refine wp_mono2 ?_ (fun _ _ _ h => h.elim) (hop n F' a w hS' hM2)
          rintro a' w' ⟨s, rfl, hm⟩
          have hofu : (gS S i).of v (ret s) = (gS S i).of v (ret s) := rfl
          exact go (ret s) w' (upd v i (ret s)) (fun j hj => if_neg hj) (by unfold RS.sv; rw [hfm]; exact (if_pos rfl).symm) hm
        | con cc =>
          rw [hfm] at hobv
          refine wp_mono2 ?_ (fun _ _ _ h => h.elim) (hobv n F' a w hS' hM2)
          rintro a' w' ⟨s, rfl, hm⟩
          exact go cc w' v (fun j hj => rfl) (by unfold RS.sv; rw [hfm]) hm
        | fn ff jj =>
          rw [hfm] at hobv
          refine wp_mono2 ?_ (fun _ _ _ h => h.elim) (hobv n F' a w hS' hM2)
          rintro a' w' ⟨s, rfl, hm⟩
          exact go (ff (v jj)) w' v (fun j hj => rfl) (by unfold RS.sv; rw [hfm]) hm
      exact hop
end
/-- A region whose order is drawn: its first nb operations in whatever order, the others behind them. -/
theorem Go.draw {E0 : List (Nat × Value)} (Eo : List (Nat × Value)) {L0 : List Ent} {f : Bas} {k : List Item} {R : Ending → World → Prop} {id : Nat} {os : List Oper} {n : Nat} {F : Fr} {a : Act} {w : World} (h0 : St n F E0 L0 a w) (hE : E.map (fun p => look E0 p.1) = E.map (fun p => some p.2)) (hEo : Eo.map (fun p => look E0 p.1) = Eo.map (fun p => some p.2)) (nb : Nat) (S : List RS) (hL : Lof S (List.range' nb (S.length - nb)) (fun _ => undef) ++ L = L0) (hm : P.follows .mixedOrders = true) (hc : chkD os nb n S = true) (hfr : fresh os nb E = true) (ob : Obs P os S E Eo L 0 (os.take nb))
    (K : ∀ (v : Nat → Value) (a : Act) (w : World), St n F (Eof os S (List.range nb) v ++ E) (Lof S (keepL S nb) v ++ L) a w → GoR P f (List.toArray os) nb (os.drop nb) k a w R) : Go P f (.code (.region id (List.toArray os) true) :: k) a w R := by
  have c := chkD_spec hc
  have h : St n F E L0 a w := ⟨h0.sl.sub hE, h0.mem⟩
  have hO : ∀ p ∈ Eo, a.tmps.getD p.1 undef = p.2 := fun p hp => h0.sl.at_ _ _ (by
    have := List.map_inj_left.1 hEo p hp
    exact this)
  have h0 : Mem F (Lof S (List.range' nb (S.length - nb)) (fun _ => undef) ++ L) w := by rw [hL]; exact h.mem
  refine Go.any hm ?_
  have := draw_body (Q := fun e a w => e = .normal ∧ Go P f k a w R) c hfr ob (fun v a w hS => by
    have := K v a w hS rfl
    simpa using this) os.length [] (List.range' nb (S.length - nb)) (Array.replicate os.length false) (fun _ => undef) a _ (by simp) List.nodup_nil List.nodup_range' (fun j => by have := c.sl; simp [List.mem_range']; constructor <;> (intro h; first | (obtain ⟨k, hk, rfl⟩ := h; omega) | (exact ⟨j - nb, by omega, by omega⟩))) ⟨by simp, fun i o ho hl k hk => by
      have hi := (List.getElem?_eq_some_iff.1 ho).1
      simp [Array.getD, hi] at hl⟩ (fun j hj => by simp [Array.getD, hj]) (fun j hj => by cases hj) (by simpa [Eof] using h.sl) h0.drew' (fun p hp _ => hO p hp)
  simpa using this
end
end Go.SL
