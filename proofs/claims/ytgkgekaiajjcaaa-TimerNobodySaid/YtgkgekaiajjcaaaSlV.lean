/- Appends of single bytes without a bound but the machine's own; and what the data's weight tells of a value. Each lemma has its own conditions. -/
import Derived.Test.YtgkgekaiajjcaaaSlO
import Derived.SizedLaws
namespace Go.SL
open Go Go.RowKit
set_option linter.unusedVariables false
set_option linter.unusedSimpArgs false
section
variable {P : Program} {E : List (Nat × Value)} {L : List Ent} {α β : Type}
variable {d : Option Tmp} {ty : TypeId} {pos : String} {aft : Array Edge} {g : Option (Nat × Bool)}
def app1 (xs ys : List α) : Option (List α) := if xs.length + ys.length ≤ 140737488355328 then some (xs ++ ys) else none
theorem app1_spec {xs ys zs : List α} (h : app1 xs ys = some zs) : xs.length + ys.length ≤ 140737488355328 ∧ zs = xs ++ ys := by
  unfold app1 at h
  split at h
  · rename_i h0; cases h; exact ⟨h0, rfl⟩
  · cases h
theorem app1_ok (xs ys : List α) (h : xs.length + ys.length ≤ 140737488355328) : app1 xs ys = some (xs ++ ys) := if_pos h
def appTy1 (P : Program) (t : TypeId) : Bool := match P.underlying t with
  | some (.slice e) => match P.info? e with
    | some ei => decide (ei.bytes ≤ 1)
    | none => false
  | _ => false
theorem appTy1_spec {t e : TypeId} {ei : TypeInfo} (h : appTy1 P t = true) (ht : P.underlying t = some (.slice e)) (hi : P.info? e = some ei) : ei.bytes ≤ 1 := by
  unfold appTy1 at h
  rw [ht] at h
  dsimp only at h
  rw [hi] at h
  simpa using h
def AppGr1 (P : Program) (t t2 ty : TypeId) (k : Nat) (x : Value) (n : Nat) (ds : List Value) (w : World) : Prop := ∀ (e : TypeId) (z : Value) (base : Option Addr) (sLen sCap : Nat) (olds : List Value), P.underlying t = some (.slice e) → ((P.info? e).bind (·.zero)) = some z →
  (Builtin.firstCells k sLen (.slice base sLen sCap)).run P w.drew = .ok olds.toArray w.drew → sCap < sLen + n → sLen + n ≤ 140737488355328 →
  (Builtin.append_ #[t, t2] ty #[.slice base sLen sCap, x]).run P w = .ok (.slice (some ⟨w.heap.size, 0, none⟩) (sLen + n) (grownCap w (sLen + n) sCap e)) (w.drew.alloc (.cells (olds ++ ds ++ (Builtin.zeroCells z.cells (grownCap w (sLen + n) sCap e - (sLen + n))).toList).toArray e))
theorem appGr1_of {t t2 : TypeId} {k n : Nat} {x : Value} {ds : List Value} {w : World} (ht : appTy P t k = true) (ht1 : appTy1 P t = true) (h2 : noInt (P.underlying t2) = true) (hl : Builtin.lenOf x = pure n) (hf : (Builtin.firstCells k n x).run P w.drew = .ok ds.toArray w.drew) : AppGr1 P t t2 ty k x n ds w := fun e' z' base sLen sCap olds hte' hz' ho hroom hb => by
  obtain ⟨e, ei, z, hte, hei, hsz, hby, hze, hzs⟩ := appTy_spec ht
  have h1 := appTy1_spec ht1 hte hei
  rw [hte] at hte'
  cases hte'
  rw [hei] at hz'
  have hz'' : ei.zero = some z' := hz'
  exact run_append_grows (P := P) (ty := ty) (base := base) (sLen := sLen) (sCap := sCap) hte (noInt_spec h2) hei hz'' hl (by rw [hsz]; exact hf) (by rw [hsz]; exact ho) hroom (Nat.le_trans (Nat.mul_le_mul hb h1) (by decide)) (by omega)
/-- append, whatever is appended: its cells, in this world and behind a draw. -/
theorem app_core1 {t t2 : TypeId} {K : Kd α} {v x : Value} {xs ys : List α} {p : Nat} {F : Fr} {w : World} (hm : Mem F L w) (hp : L[p]? = some (Val (Kd.osl K) v xs)) (ht : appTy P t K.n = true) (hb : xs.length + ys.length ≤ 140737488355328)
    (hx : ∀ m φ, Own L m φ → Has m φ F.own w → ∃ ds, Enc K m ys ds ∧ (∀ c ∈ ds, c.oneCell' = true) ∧ AppIn P t t2 ty K.n x ys.length ds w ∧ AppGr1 P t t2 ty K.n x ys.length ds w) :
    ∃ v' w', (Builtin.append_ #[t, t2] ty #[v, x]).run P w = .ok v' w' ∧ Mem F (L.set p (Val (Kd.osl K) v' (xs ++ ys))) w' := by
  obtain ⟨e, ei, z, hte, hei, hsz, hby, hze, hzs⟩ := appTy_spec ht
  obtain ⟨m, φ, ho, hh, hpp, hkk⟩ := hm
  obtain ⟨ds, hE, h1, hf, hfd⟩ := hx m φ ho hh
  obtain ⟨f1, f2, l1, l2, d12, he, _, hset⟩ := ho.split hp
  obtain ⟨ad, cap, rfl, hlc, hmx, hr⟩ := Val_osl he
  have hdl := hE.len
  by_cases hroom : xs.length + ys.length ≤ cap
  · have hrun := hf ad xs.length cap hroom
    rcases hr with ⟨rfl, rfl, rfl⟩ | ⟨b, o, all, rfl, hal, hc, hEn⟩
    · have hy : ys = [] := List.eq_nil_of_length_eq_zero (by simp at hroom; simp [hroom])
      subst hy
      have hd0 : ds = [] := List.eq_nil_of_length_eq_zero (by simpa using hdl)
      refine ⟨_, w, by simpa using hrun, m, φ, ?_, hh, hpp, hkk⟩
      exact hset m f1 φ _ .rfl l1 l2 d12 ⟨[_], ⟨none, 0, rfl, by simp, by simp [maxLen], .inl ⟨rfl, rfl, rfl⟩⟩, rfl⟩
    · have hle : (xs.length + ys.length) * K.n ≤ cap * K.n := Nat.mul_le_mul_right _ hroom
      rw [Nat.add_mul] at hle
      have hfit : xs.length * K.n + ds.length ≤ all.length := by omega
      have own : ∀ j, j < ds.length → ∃ c, f1 b (o + xs.length * K.n + j) = some (.cell c false) := fun j hj => by
        have : xs.length * K.n + j < all.length := by omega
        refine ⟨all[xs.length * K.n + j], ?_⟩
        rw [Nat.add_assoc]
        exact hc _ _ (List.getElem?_eq_getElem this)
      obtain ⟨w', hst, hw, hok⟩ := run_storeCells' (P := P) (b := b) (o := o + xs.length * K.n) ds 0 w (fun j hj => by
        obtain ⟨c, hc⟩ := own j hj
        exact ⟨c, (l1.trans hh.l1) _ _ _ hc⟩) h1
      rw [Nat.add_zero] at hw
      have hf2 : ∀ j, j < ds.length → f2 b (o + xs.length * K.n + j) = none := fun j hj => by
        obtain ⟨c, hc⟩ := own j hj
        rcases d12 b (o + xs.length * K.n + j) with e | e
        · rw [hc] at e; cases e
        · exact e
      refine ⟨.slice (some ⟨b, o, none⟩) (xs.length + ys.length) cap, w', ?_, m, SL.fset φ b (o + xs.length * K.n) ds, ?_, hh.fset (fun j hj => by obtain ⟨c, hc⟩ := own j hj; exact ⟨c, l1 _ _ _ hc⟩) hw, hpp, hkk.trans hok⟩
      · rw [hrun]; simp [hsz, addr_add, hst]
      · refine hset m (SL.fset f1 b (o + xs.length * K.n) ds) _ _ .rfl (fset_mono l1) (le_fset l2 hf2) (dj_fset d12.symm hf2).symm ⟨[_], ⟨_, cap, by rw [List.length_append], by rw [List.length_append]; exact hroom, hmx, .inr ⟨b, o, Go.splice all (xs.length * K.n) ds, rfl, ?_, fset_splice hc hfit, ?_⟩⟩, rfl⟩
        · rw [length_splice _ _ _ hfit]; exact hal
        · have e1 : (Go.splice all (xs.length * K.n) ds).take ((xs ++ ys).length * K.n) = all.take (xs.length * K.n) ++ ds := by
            unfold Go.splice
            rw [← List.append_assoc, List.take_append_of_le_length (by simp [List.length_append, Nat.add_mul]; omega), List.take_of_length_le (by simp [List.length_append, Nat.add_mul]; omega)]
          rw [e1]
          exact hEn.append hE
  · have hrow := hr.row
    obtain ⟨olds, hEo, hco⟩ := hrow
    have hol := hEo.len
    have hofirst : (Builtin.firstCells K.n xs.length (.slice ad xs.length cap)).run P w.drew = .ok olds.toArray w.drew := by
      cases ad with
      | none =>
        have : olds = [] := by
          cases olds with
          | nil => rfl
          | cons c cs => obtain ⟨b, o, fz, e, _⟩ := hco 0 c rfl; cases e
        subst this
        simp [Builtin.firstCells]
      | some ad =>
        have := run_loadCells_list (P := P) w.drew ad olds (fun j c hj => by
          obtain ⟨b, o, fz, e, hb⟩ := hco j c hj
          cases e
          exact hp_cell_add (w := w.drew) ((l1.trans hh.l1) _ _ _ hb))
        rw [hol] at this
        simpa [Builtin.firstCells] using this
    have hrun := hfd e z ad xs.length cap olds hte (by rw [hei]; exact hze) hofirst (by omega) hb
    generalize hcap : grownCap w (xs.length + ys.length) cap e = cp at hrun
    have hge : xs.length + ys.length ≤ cp := hcap ▸ grownCap_ge w _ _ _
    have hcm : cp ≤ maxLen := hcap ▸ grownCap_le_maxLen w _ _ _ (by simp only [maxLen]; omega)
    generalize hrest : (Builtin.zeroCells z.cells (cp - (xs.length + ys.length))).toList = rest at hrun
    have hrl : rest.length = (cp - (xs.length + ys.length)) * K.n := by rw [← hrest]; simp [size_zeroCells, hzs]
    have htot : (olds ++ ds ++ rest).length = cp * K.n := by
      rw [List.length_append, List.length_append, hol, hdl, hrl, ← Nat.add_mul, ← Nat.add_mul]; congr 1; omega
    have hh2 := hh.drew.alloc (cs := olds ++ ds ++ rest) (t := e)
    have hn : ∀ {f : Frag}, f.le (SL.hp w) → ∀ j, f w.heap.size (0 + j) = none := fun {f} hl j => by
      cases e : f w.heap.size (0 + j) with
      | none => rfl
      | some c => have := hl _ _ _ e; rw [hp_none (Nat.le_refl _)] at this; cases this
    refine ⟨_, _, hrun, m, SL.fset φ w.heap.size 0 (olds ++ ds ++ rest), ?_, hh2, hpp, hkk.trans (Ok.trans (b := w.drew) ⟨rfl, rfl, rfl, Nat.le_refl _, fun _ _ => rfl, Nat.le_succ _ ⟩ (Ok.alloc w.drew _))⟩
    refine hset m (SL.fset Frag.emp w.heap.size 0 (olds ++ ds ++ rest)) _ _ .rfl (fset_mono Frag.emp_le) (le_fset l2 fun j _ => hn (l2.trans hh.l1) j) (dj_fset Frag.dj_emp fun j _ => hn (l2.trans hh.l1) j).symm ⟨[_], ⟨_, cp, by rw [List.length_append], by rw [List.length_append]; exact hge, hcm, .inr ⟨w.heap.size, 0, olds ++ ds ++ rest, rfl, htot, fun j c hj => fset_at hj, ?_⟩⟩, rfl⟩
    have e1 : (olds ++ ds ++ rest).take ((xs ++ ys).length * K.n) = olds ++ ds := by
      rw [List.take_append_of_le_length (by simp [List.length_append, Nat.add_mul]; omega), List.take_of_length_le (by simp [List.length_append, Nat.add_mul]; omega)]
    rw [e1]
    exact hEo.append hE
theorem o_app1 {s x : Operand} {t t2 : TypeId} {K : Kd α} {v u : Value} {xs ys zs : List α} (p : Nat) (hs : opv E s = some v) (hx : opv E x = some u) (hp : L[p]? = some (Val (Kd.osl K) v xs)) (hr : RD K u ys L) (h : app1 xs ys = some zs) (ht : appTy P t K.n = true) (ht1 : appTy1 P t = true) (h2 : noInt (P.underlying t2) = true) :
    OpS P E L ⟨d, .call { callee := .builtin .append, args := #[s, x], argTypes := #[t, t2] }, ty, pos, aft, g⟩ (fun v' => v') (fun v' => L.set p (Val (Kd.osl K) v' zs)) :=
  .run fun n F a w hS hm => by
    obtain ⟨hb, rfl⟩ := app1_spec h
    obtain ⟨m0, a0, cap0, _, rfl, hl0, _⟩ := hr.hp hm
    obtain ⟨v', w', hrun, hm'⟩ := app_core1 (P := P) (ty := ty) (t2 := t2) (x := .slice a0 ys.length cap0) hm hp ht hb (fun m φ o hh => by
      obtain ⟨a1, cap1, cs, e, hl, hE, hc⟩ := hr.cells o hh
      cases e
      have hcl := hE.len
      refine ⟨cs, hE, hE.oneCell, appIn_of ht h2 rfl ?_, appGr1_of ht ht1 h2 rfl ?_⟩ <;> (cases a0 with
        | none =>
          have : cs = [] := by
            cases cs with
            | nil => rfl
            | cons c cs => obtain ⟨ad, e, _⟩ := hc 0 c rfl; cases e
          subst this
          simp [Builtin.firstCells]
        | some ad =>
          have := run_loadCells_list (P := P) w ad cs (fun j c hj => by obtain ⟨ad', e, h⟩ := hc j c hj; cases e; exact h)
          have thisd := run_loadCells_list (P := P) w.drew ad cs (fun j c hj => by obtain ⟨ad', e, h⟩ := hc j c hj; cases e; exact h)
          rw [hcl] at this thisd
          simp [Builtin.firstCells, this, thisd]))
    exact ⟨v', w', by simp [execOp, hS.eval hs, hS.eval hx, resolve, invoke, builtin, hrun], hm'⟩
end
/-! ### What the weight tells -/
/-- What is known of a value that reads as data none of whose parts weighs more than the reach. -/
def Wt {α : Type} (P : Program) (t : TypeId) (K : Kd α) (G : α → Prop) : Prop :=
  ∀ (H : Type) (enc : TypeId × Value → H) (w : World) (base : Nat) (spare : Nat → Bool) (held : Bool) (fuel : Nat) (cs : List Value) (x : DataW H × List MemPlace) (m φ : Frag) (a : α),
    DataW.trod enc P w base spare held fuel t cs = some x → (∀ n ∈ x.1.weights P t, n ≤ reachBytes) → K.C m φ a cs → G a
def WtAt {α : Type} (P : Program) (fs : List (TypeId × Nat)) (K : Kd α) (G : α → Prop) : Prop :=
  ∀ (H : Type) (enc : TypeId × Value → H) (w : World) (base : Nat) (spare : Nat → Bool) (held : Bool) (fuel : Nat) (cs : List Value) (m φ : Frag) (a : α),
    (∀ f ∈ fs, ∃ x, DataW.trod enc P w base spare held fuel f.1 ((cs.drop f.2).take (P.cellsOf f.1)) = some x ∧ ∀ n ∈ x.1.weights P f.1, n ≤ reachBytes) → K.C m φ a cs → G a
section
variable {P : Program}
theorem Wt.any {α : Type} {t : TypeId} {K : Kd α} : Wt P t K (fun _ => True) := fun _ _ _ _ _ _ _ _ _ _ _ _ _ _ _ => trivial
theorem Wt.bytes {α : Type} {t e : TypeId} {K : Kd α} (ht : P.underlying t = some (.slice e)) (hb : P.bytesOf e = 1) : Wt P t (Kd.sl K) (fun xs => xs.length ≤ reachBytes) := by
  intro H enc w base spare held fuel cs x m φ a hx hw hC
  obtain ⟨ad, cap, hcs, hl, _⟩ := hC
  rcases DataW.trod_slice ht hx with ⟨h1, _⟩ | ⟨b, len, cap', elems, rest, n, _, h1, h2, _, _, _, hn, _⟩
  · rw [h1] at hcs
    simp only [List.cons.injEq, Value.slice.injEq, and_true] at hcs
    omega
  · rw [h1] at hcs
    simp only [List.cons.injEq, Value.slice.injEq, and_true] at hcs
    subst h2
    have := hw ((elems.length + rest.length) * 1) (by simp [DataW.weights, ht, hb])
    omega
theorem WtAt.one {α : Type} {t : TypeId} {K : Kd α} {G : α → Prop} (hK : K.n = P.cellsOf t) (h : Wt P t K G) : WtAt P [(t, 0)] (Kd.last K) G := by
  intro H enc w base spare held fuel cs m φ a hf hC
  obtain ⟨x, hx, hw⟩ := hf (t, 0) (by simp)
  have hC' : K.C m φ a cs := hC
  simp only [List.drop_zero] at hx
  rw [List.take_of_length_le (by rw [K.len hC', hK]; exact Nat.le_refl _)] at hx
  exact h H enc w base spare held fuel cs x m φ a hx hw hC'
theorem WtAt.cons {α β : Type} {t : TypeId} {K : Kd α} {G : α → Prop} {fs fs' : List (TypeId × Nat)} {K' : Kd β} {G' : β → Prop} (hK : K.n = P.cellsOf t) (h : Wt P t K G) (h' : WtAt P fs' K' G') (hfs : fs = (t, 0) :: fs'.map (fun f => (f.1, f.2 + K.n))) :
    WtAt P fs (Kd.pair K K') (fun a => G a.1 ∧ G' a.2) := by
  subst hfs
  intro H enc w base spare held fuel cs m φ a hf hC
  obtain ⟨c1, c2, f1, f2, e, _, _, _, h1, h2⟩ := hC
  have hl := K.len h1
  subst e
  refine ⟨?_, ?_⟩
  · obtain ⟨x, hx, hw⟩ := hf (t, 0) (by simp)
    simp only [List.drop_zero] at hx
    rw [← hK, ← hl, List.take_left] at hx
    exact h H enc w base spare held fuel c1 x m f1 a.1 hx hw h1
  · refine h' H enc w base spare held fuel c2 m f2 a.2 (fun f hfm => ?_) h2
    obtain ⟨y, hy, hw⟩ := hf (f.1, f.2 + K.n) (by simp; exact .inr hfm)
    refine ⟨y, ?_, hw⟩
    rw [Nat.add_comm, ← hl] at hy
    rw [← List.drop_drop, List.drop_left] at hy
    exact hy
theorem Wt.struct {α β : Type} {t : TypeId} {fs : Array Field} (L : List (TypeId × Nat)) {K : Kd α} {G : α → Prop} (f : β → α) (ht : P.underlying t = some (.struct fs)) (hL : fs.toList.map (fun x => (x.type, x.offset)) = L) (h : WtAt P L K G) :
    Wt P t (Kd.iso K f) (fun a => G (f a)) := by
  intro H enc w base spare held fuel cs x m φ a hx hw hC
  obtain ⟨xs, n, _, rfl, hlen, hxl, hget⟩ := DataW.trod_struct ht hx
  refine h H enc w base spare held n cs m φ (f a) (fun p hp => ?_) hC
  rw [← hL] at hp
  obtain ⟨fld, hfm, rfl⟩ := List.mem_map.1 hp
  obtain ⟨i, hi, rfl⟩ := List.getElem_of_mem hfm
  have hi' : i < fs.size := by simpa using hi
  have := hget i fs[i] (Array.getElem?_eq_getElem hi')
  rw [List.getElem?_eq_getElem (show i < xs.length by omega)] at this
  refine ⟨_, by simpa using this, fun q hq => hw q ?_⟩
  simp only [DataW.weights, ht]
  exact DataW.weights_mem_each (j := i) (by simp [hi']) (by simp [List.getElem?_eq_getElem (show i < xs.length by omega)]) q hq
theorem Wt.trod {α : Type} {t : TypeId} {K : Kd α} {G : α → Prop} (h : Wt P t K G) {H : Type} {enc : TypeId × Value → H} {w : World} {base : Nat} {spare : Nat → Bool} {held : Bool} {v : Value} {x : DataW H} {ps : List MemPlace} (hv : DataW.Trod enc P w base spare held t v x ps) {ts : List TypeId} {ds : List (DataW H)} (hs : (DataW.weightsEach P ts ds).all (· ≤ reachBytes) = true) (j : Nat) (ht : ts[j]? = some t) (hd : ds[j]? = some x) {a : α} {m φ : Frag} (hC : K.C m φ a v.cells.toList) : G a := by
  obtain ⟨fuel, hf⟩ := hv
  exact h H enc w base spare held fuel _ _ _ _ a hf (fun n hn => of_decide_eq_true (List.all_eq_true.1 hs n (DataW.weights_mem_each ht hd n hn))) hC
end
end Go.SL
