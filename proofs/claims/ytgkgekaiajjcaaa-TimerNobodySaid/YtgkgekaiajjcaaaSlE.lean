/- Operations that read, make and turn memory; each rule states its own conditions. -/
import Derived.Test.YtgkgekaiajjcaaaSlD
import Derived.Laws.Cells
import Derived.Laws.AppendOwn
namespace Go.SL
open Go Go.RowKit
set_option linter.unusedVariables false
set_option linter.unusedSimpArgs false

/-! ### What is known of values under some entries -/
/-- Under these entries v says x (and takes nothing). -/
def PV {α : Type} (K : Kd α) (v : Value) (x : α) (L : List Ent) : Prop := ∀ m φ, Own L m φ → K.V m Frag.emp x v
section
variable {α β : Type} {L : List Ent}
theorem pv_int {k : IntKind} {x : Int} (h : InR k x) : PV (Kd.int k) (.int k x) x L := fun _ _ _ => ⟨_, ⟨rfl, h⟩, rfl⟩
theorem pv_bool {b : Bool} : PV Kd.bool (.bool b) b L := fun _ _ _ => ⟨_, rfl, rfl⟩
theorem pv_str {x : List Int} (h : Bs x) : PV Kd.str (.string (mkS x)) x L := fun _ _ _ => ⟨_, ⟨rfl, h⟩, rfl⟩
theorem pv_at {K : Kd α} {v : Value} {x : α} (hK : K.Per) (i : Nat) (hi : L[i]? = some (Val K v x)) : PV K v x L := fun m φ ho => by
  obtain ⟨f, _, cs, h, e⟩ := ho.get hi
  exact ⟨cs, hK _ _ _ _ h, e⟩
theorem pv_nil {K : Kd α} : PV (Kd.sl K) (.slice none 0 0) [] L := fun _ _ _ => ⟨_, ⟨none, 0, rfl, ⟨Nat.le_refl _, by decide⟩, [], Enc.nil, fun i x h => by simp at h⟩, rfl⟩
theorem pv_iso {A : Kd α} {g : β → α} {v : Value} {x : β} (h : PV A v (g x) L) : PV (Kd.iso A g) v x L := h
theorem PV.ent {K : Kd α} {v : Value} {x : α} (h : PV K v x L) {F : Fr} {w : World} (hm : Mem F L w) : Mem F (Val K v x :: L) w :=
  hm.map fun m φ o => ⟨Frag.emp, φ, Frag.emp_le, .rfl, Frag.emp_dj, h m φ o, o⟩
/-- The elements of slice v, under these entries. -/
def RD (K : Kd α) (v : Value) (xs : List α) (L : List Ent) : Prop := ∀ (m φ : Frag), Own L m φ → ∃ a cap, v = .slice a xs.length cap ∧ xs.length ≤ cap ∧ ∃ f, (f = m ∨ f.le φ) ∧ Row K m f a xs
theorem rd_pv {K : Kd α} {v : Value} {xs : List α} (h : PV (Kd.sl K) v xs L) : RD K v xs L := fun m φ o => by
  obtain ⟨a, cap, e, hl, hr⟩ := Val_sl (h m φ o)
  exact ⟨a, cap, e, hl, m, .inl rfl, hr⟩
theorem rd_at {K : Kd α} {v : Value} {xs : List α} (i : Nat) (hi : L[i]? = some (Val (Kd.sl K) v xs)) : RD K v xs L := rd_pv (pv_at Per_sl i hi)
theorem rd_own {K : Kd α} {v : Value} {xs : List α} (i : Nat) (hi : L[i]? = some (Val (Kd.osl K) v xs)) : RD K v xs L := fun m φ o => by
  obtain ⟨f, hf, he⟩ := o.get hi
  obtain ⟨a, cap, e, hl, _, hr⟩ := Val_osl he
  exact ⟨a, cap, e, hl, f, .inr hf, hr.row⟩
theorem RD.hp {K : Kd α} {v : Value} {xs : List α} (h : RD K v xs L) {F : Fr} {w : World} (hm : Mem F L w) : ∃ m a cap, m.le (hp w) ∧ v = .slice a xs.length cap ∧ xs.length ≤ cap ∧ Row K m (SL.hp w) a xs := by
  obtain ⟨m, φ, o, hh, _⟩ := hm
  obtain ⟨a, cap, e, hl, f, hf, hr⟩ := h m φ o
  refine ⟨m, a, cap, hh.l2, e, hl, hr.mono .rfl ?_⟩
  rcases hf with rfl | hf
  · exact hh.l2
  · exact hf.trans hh.l1
end

/-! ### Reads -/
/-- Is a type's value in parts, and in how many cells? -/
def isAg : TypeDesc → Bool
  | .struct _ | .array _ _ => true
  | _ => false
def tyI (P : Program) (t : TypeId) : Option (Bool × Nat) := (P.underlying t).bind fun d => (P.info? t).map fun i => (isAg d, i.size)
theorem tyI_spec {P : Program} {t : TypeId} {b : Bool} {n : Nat} (h : tyI P t = some (b, n)) : ∃ d i, P.underlying t = some d ∧ P.info? t = some i ∧ isAg d = b ∧ i.size = n := by
  unfold tyI at h
  obtain ⟨d, hd, h⟩ := Option.bind_eq_some_iff.1 h
  obtain ⟨i, hi, h⟩ := Option.map_eq_some_iff.1 h
  simp only [Prod.mk.injEq] at h
  exact ⟨d, i, hd, hi, h.1, h.2⟩
theorem run_isAgg' {P : Program} {t : TypeId} {d : TypeDesc} (h : P.underlying t = some d) (w : World) : (isAgg t).run P w = .ok (isAg d) w := by
  cases d <;> simp [isAgg, run_underlying h, isAg]
theorem run_loadVar' {P : Program} {t : TypeId} {ag : Bool} {n : Nat} (ht : tyI P t = some (ag, n)) (w : World) (a : Addr) {cs : List Value} (hl : cs.length = n) (hs : ag = false → n = 1)
    (hc : ∀ (j : Nat) (c : Value), cs[j]? = some c → w.cell? (a.add j) = some c) : (loadVar t a).run P w = .ok (pack ag cs) w := by
  obtain ⟨d, i, hd, hi, hb, hn⟩ := tyI_spec ht
  cases ag with
  | true =>
    have := run_loadCells_list (P := P) w a cs hc
    simp [loadVar, run_isAgg' hd, hb, sizeOf, typeInfo, hi, hn, ← hl, this, pack]
  | false =>
    have h1 := hs rfl
    rw [h1] at hl
    match cs, hl with
    | [c], _ =>
      have := hc 0 c rfl
      simp only [Addr.add, if_pos] at this
      simp [loadVar, run_isAgg' hd, hb, this, pack]
theorem hp_cell_add {w : World} {b o j : Nat} {c : Value} {fz : Bool} (h : hp w b (o + j) = some (.cell c fz)) : w.cell? ((⟨b, o, none⟩ : Addr).add j) = some c := by
  have := (hp_cell h).1
  unfold Addr.add
  split
  · rename_i e; subst e; exact this
  · exact this
section
variable {P : Program} {E : List (Nat × Value)} {L : List Ent} {α β : Type}
variable {d : Option Tmp} {ty : TypeId} {pos : String} {aft : Array Edge} {g : Option (Nat × Bool)}
/-- A kind whose values are known for what they are. -/
def Kd.X (K : Kd α) (ex : α → Value) : Prop := ∀ m φ x cs, K.C m φ x cs → cs = [ex x] ∧ K.agg = false
theorem X_int {k : IntKind} : (Kd.int k).X (.int k) := fun _ _ _ _ h => ⟨h.1, rfl⟩
theorem X_bool : Kd.bool.X .bool := fun _ _ _ _ h => ⟨h, rfl⟩
theorem X_str : Kd.str.X (fun x => .string (mkS x)) := fun _ _ _ _ h => ⟨h.1, rfl⟩
theorem Fld.cells {K : Kd α} {b o : Nat} {x : α} {m φ : Frag} {w : World} (h : (Fld K b o x).H m φ) (hw : φ.le (hp w)) : ∃ cs f, f.le φ ∧ K.C m f x cs ∧ ∀ (j : Nat) (c : Value), cs[j]? = some c → w.cell? ((⟨b, o, none⟩ : Addr).add j) = some c := by
  obtain ⟨cs, f1, f2, l1, l2, d, hc, hk⟩ := h
  exact ⟨cs, f2, l2, hk, fun j c hj => hp_cell_add (hw _ _ _ (l1 _ _ _ (hc j c hj)))⟩
theorem run_load_fld {K : Kd α} {b o : Nat} {y : α} {m φ : Frag} {w : World} {t : TypeId} (ht : tyI P t = some (K.agg, K.n)) (h : (Fld K b o y).H m φ) (hw : φ.le (hp w)) : ∃ cs f, f.le φ ∧ K.C m f y cs ∧ (Instr.loadAt t (.pointer (some ⟨b, o, none⟩))).run P w = .ok (pack K.agg cs) w := by
  obtain ⟨cs, f, hf, hk, hc⟩ := Fld.cells h hw
  exact ⟨cs, f, hf, hk, by simp [Instr.loadAt, Instr.sureAddr, run_loadVar' ht w _ (K.len hk) K.sgl hc]⟩
theorem o_ldx {x : Operand} {b o t : Nat} {K : Kd α} {y : α} {ex : α → Value} (i : Nat) (hx : opv E x = some (.pointer (some ⟨b, o, none⟩))) (hi : L[i]? = some (Fld K b o y)) (hK : K.X ex) (ht : tyI P t = some (K.agg, K.n)) :
    OpS (σ := Unit) P E L ⟨d, .load t x, ty, pos, aft, g⟩ (fun _ => ex y) (fun _ => L) :=
  .run fun n F a w hs hm => by
    obtain ⟨m, φ, hm1, hf1, he⟩ := hm.get hi
    obtain ⟨cs, f, _, hk, hr⟩ := run_load_fld (P := P) ht he hf1
    obtain ⟨rfl, ha⟩ := hK _ _ _ _ hk
    rw [ha] at hr
    exact ⟨(), w, by simp [execOp, hs.eval hx, hr, pack], hm⟩
theorem o_ldv {x : Operand} {b o t : Nat} {K : Kd α} {y : α} (i : Nat) (hx : opv E x = some (.pointer (some ⟨b, o, none⟩))) (hi : L[i]? = some (Fld K b o y)) (hK : K.Per) (ht : tyI P t = some (K.agg, K.n)) :
    OpS P E L ⟨d, .load t x, ty, pos, aft, g⟩ (fun v => v) (fun v => Val K v y :: L) :=
  .run fun n F a w hs hm => by
    obtain ⟨m, φ, o, hh, hp, hk⟩ := hm
    obtain ⟨f, hf, he⟩ := o.get hi
    obtain ⟨cs, f', _, hC, hr⟩ := run_load_fld (P := P) (w := w) ht he (hf.trans hh.l1)
    exact ⟨pack K.agg cs, w, by simp [execOp, hs.eval hx, hr], m, φ, ⟨Frag.emp, φ, Frag.emp_le, .rfl, Frag.emp_dj, ⟨cs, hK _ _ _ _ hC, rfl⟩, o⟩, hh, hp, hk⟩
/-- A field that one owns, taken out of its place. -/
theorem o_ldt {x : Operand} {b o t : Nat} {K : Kd α} {y : α} (i : Nat) (hx : opv E x = some (.pointer (some ⟨b, o, none⟩))) (hi : L[i]? = some (Fld K b o y)) (hK : K.agg = false) (ht : tyI P t = some (K.agg, K.n)) :
    OpS P E L ⟨d, .load t x, ty, pos, aft, g⟩ (fun v => v) (fun v => Val K v y :: L.set i (Fld (Kd.eq v) b o ())) :=
  .run fun n F a w hs hm => by
    obtain ⟨m, φ, ho, hh, hp, hk⟩ := hm
    obtain ⟨f1, f2, l1, l2, dd, he, _, hset⟩ := ho.split hi
    obtain ⟨cs, g1, g2, k1, k2, d2, hc, hC⟩ := he
    have hn := K.len hC
    rw [K.sgl hK] at hn
    match cs, hn with
    | [c], _ =>
      have hr : (Instr.loadAt t (.pointer (some ⟨b, o, none⟩))).run P w = .ok c w := by
        have := run_loadVar' ht w ⟨b, o, none⟩ (K.len hC) K.sgl (fun j c hj => hp_cell_add (hh.l1 _ _ _ (l1 _ _ _ (k1 _ _ _ (hc j c hj)))))
        rw [hK] at this
        simpa [Instr.loadAt, Instr.sureAddr, pack] using this
      refine ⟨c, w, by simp [execOp, hs.eval hx, hr], m, φ, ⟨g2, g1.un f2, k2.trans l1, Frag.un_le (k1.trans l1) l2, Frag.dj_un d2.symm (dd.mono k2 .rfl), ⟨[c], hC, by rw [hK]; rfl⟩, ?_⟩, hh, hp, hk⟩
      have hd3 : g1.dj f2 := dd.mono k1 .rfl
      exact hset m g1 (g1.un f2) _ .rfl Frag.le_un_left (Frag.le_un_right hd3) hd3 ⟨[c], g1, Frag.emp, .rfl, Frag.emp_le, Frag.dj_emp, hc, rfl, K.one hC c (by simp)⟩
theorem Mem.give {F : Fr} {w : World} {K : Kd α} {v : Value} {y : α} {b o : Nat} (hK : K.agg = false) (i j : Nat) (hij : i ≠ j) (hi : L[i]? = some (Fld (Kd.eq v) b o ())) (hj : L[j]? = some (Val K v y)) (h : Mem F L w) : Mem F ((L.set j Ent.nul).set i (Fld K b o y)) w := by
  refine h.map fun m φ ho => ?_
  obtain ⟨f1, f2, l1, l2, dd, ⟨cs, hC, hv⟩, _, hset⟩ := ho.split hj
  have h2 : Own (L.set j Ent.nul) m f2 := hset m Frag.emp f2 Ent.nul .rfl Frag.emp_le .rfl Frag.emp_dj trivial
  obtain ⟨g1, g2, k1, k2, d2, he, _, hset2⟩ := h2.split (i := i) (e := Fld (Kd.eq v) b o ()) (by rw [List.getElem?_set_ne (Ne.symm hij)]; exact hi)
  obtain ⟨c2, q1, q2, r1, r2, d3, hc, hc2, ho⟩ := he
  have hn := K.len hC
  rw [K.sgl hK] at hn
  match cs, hn with
  | [c], _ =>
    rw [hK] at hv
    have hv' : v = c := by simpa [pack] using hv
    subst hv'
    subst hc2
    have e1 : f1.dj q1 := dd.mono .rfl (r1.trans k1)
    refine hset2 m (q1.un f1) φ (Fld K b o y) .rfl (Frag.un_le (r1.trans (k1.trans l2)) l1) (k2.trans l2) (Frag.un_dj (d2.mono r1 .rfl) (dd.mono .rfl k2)) ⟨[v], q1, f1, Frag.le_un_left, Frag.le_un_right e1.symm, e1.symm, hc, hC⟩

/-! ### Elements of slices -/
def elemP (v : Value) (k : Nat) : Value := match v with | .slice (some a) _ _ => .pointer (some (a.add k)) | _ => .pointer none
def idx (xs : List α) (i : Int) : Option α := if 0 ≤ i then xs[i.toNat]? else none
theorem idx_spec {xs : List α} {i : Int} {x : α} (h : idx xs i = some x) : 0 ≤ i ∧ i < xs.length ∧ xs[i.toNat]? = some x := by
  unfold idx at h
  split at h
  · rename_i h0
    have := (List.getElem?_eq_some_iff.1 h).1
    exact ⟨h0, by omega, h⟩
  · cases h
def cut (xs : List α) (lo hi : Int) : Option (List α) := if 0 ≤ lo ∧ lo ≤ hi ∧ hi ≤ xs.length then some ((xs.take hi.toNat).drop lo.toNat) else none
theorem cut_spec {xs ys : List α} {lo hi : Int} (h : cut xs lo hi = some ys) : 0 ≤ lo ∧ lo ≤ hi ∧ hi ≤ xs.length ∧ ys = (xs.take hi.toNat).drop lo.toNat := by
  unfold cut at h
  split at h
  · rename_i h0; cases h; exact ⟨h0.1, h0.2.1, h0.2.2, rfl⟩
  · cases h
theorem o_len {x : Operand} {t e : TypeId} {K : Kd α} {v : Value} {xs : List α} (hx : opv E x = some v) (hr : RD K v xs L) (ht : P.underlying t = some (.slice e)) :
    OpS (σ := Unit) P E L ⟨d, .call { callee := .builtin .len, args := #[x], argTypes := #[t] }, ty, pos, aft, g⟩ (fun _ => .int .i64 (xs.length : Int)) (fun _ => L) :=
  .run fun n F a w hs hm => by
    obtain ⟨m, ad, cap, _, rfl, _, _⟩ := hr.hp hm
    exact ⟨(), w, by simp [execOp, hs.eval hx, resolve, invoke, builtin, Builtin.len_, run_underlying ht, goInt], hm⟩
theorem o_ixa {x y : Operand} {t e : TypeId} {ei : TypeInfo} {K : Kd α} {v : Value} {xs : List α} {k : IntKind} {i : Int} {z : α} (hx : opv E x = some v) (hy : opv E y = some (.int k i)) (hr : RD K v xs L) (h : idx xs i = some z) (ht : P.underlying t = some (.slice e)) (hi : P.info? e = some ei) (hn : ei.size = K.n) (hz : 0 < K.n) :
    OpS (σ := Unit) P E L ⟨d, .indexAddr t x y, ty, pos, aft, g⟩ (fun _ => elemP v (i.toNat * K.n)) (fun _ => L) :=
  .run fun n F a w hs hm => by
    obtain ⟨m, ad, cap, _, rfl, hl, hrow⟩ := hr.hp hm
    obtain ⟨h0, h1, h2⟩ := idx_spec h
    obtain ⟨cs, hE, hcs⟩ := hrow
    refine ⟨(), w, ?_, hm⟩
    cases ad with
    | none =>
      exfalso
      have hlen := hE.len
      have : 0 < xs.length := by omega
      have : 0 < cs.length := by rw [hlen]; exact Nat.mul_pos this hz
      obtain ⟨b, o, fz, e, _⟩ := hcs 0 cs[0] (List.getElem?_eq_getElem this)
      cases e
    | some ad =>
      simp [execOp, hs.eval hx, hs.eval hy, Instr.indexAt, run_underlying ht, asIntOf, h0, h1, sizeOf, typeInfo, hi, hn, elemP]
end
end Go.SL
