/- Operations that make and turn memory; each rule states its own conditions. -/
import Derived.Test.YtgkgekaiajjcaaaSlE
import Derived.Laws.CopyOwn
namespace Go.SL
open Go Go.RowKit
set_option linter.unusedVariables false
set_option linter.unusedSimpArgs false

/-! ### What a store, an allocation do to the memory as a fragment -/
def fset (f : Frag) (b o : Nat) (vs : List Value) : Frag := fun b' o' => if b' = b ∧ o ≤ o' ∧ o' < o + vs.length then (vs[o' - o]?).map (fun v => .cell v false) else f b' o'
theorem fset_at {f : Frag} {b o : Nat} {vs : List Value} {j : Nat} {c : Value} (h : vs[j]? = some c) : fset f b o vs b (o + j) = some (.cell c false) := by
  have hl := (List.getElem?_eq_some_iff.1 h).1
  have e : o + j - o = j := by omega
  unfold fset
  rw [if_pos ⟨rfl, by omega, by omega⟩, e, h]; rfl
theorem fset_off {f : Frag} {b o b' o' : Nat} {vs : List Value} (h : ¬ (b' = b ∧ o ≤ o' ∧ o' < o + vs.length)) : fset f b o vs b' o' = f b' o' := by simp [fset, h]
theorem fset_nil {f : Frag} {b o : Nat} : fset f b o [] = f := by
  funext b' o'
  exact fset_off (by rintro ⟨_, h1, h2⟩; simp at h2; omega)
theorem fset_cons {f : Frag} {b o : Nat} {v : Value} {vs : List Value} : fset (fset f b o [v]) b (o + 1) vs = fset f b o (v :: vs) := by
  funext b' o'
  by_cases hb : b' = b
  · subst hb
    by_cases h1 : o + 1 ≤ o' ∧ o' < o + 1 + vs.length
    · have e : o' - o = (o' - (o + 1)) + 1 := by omega
      simp only [fset, List.length_cons, true_and]
      rw [if_pos h1, if_pos (by omega), e, List.getElem?_cons_succ]
    · by_cases h2 : o' = o
      · subst h2
        rw [fset_off (by omega)]
        simp [fset]
      · rw [fset_off (by omega), fset_off (by simp; omega), fset_off (by simp; omega)]
  · rw [fset_off fun h => hb h.1, fset_off fun h => hb h.1, fset_off fun h => hb h.1]
theorem fset_mono {f g : Frag} {b o : Nat} {vs : List Value} (h : f.le g) : (fset f b o vs).le (fset g b o vs) := fun b' o' c hc => by
  simp only [fset] at hc ⊢
  split
  · rename_i hr; rw [if_pos hr] at hc; exact hc
  · rename_i hr; rw [if_neg hr] at hc; exact h _ _ _ hc
theorem dj_fset {f g : Frag} {b o : Nat} {vs : List Value} (h : g.dj f) (hc : ∀ j, j < vs.length → g b (o + j) = none) : g.dj (fset f b o vs) := fun b' o' => by
  by_cases hr : b' = b ∧ o ≤ o' ∧ o' < o + vs.length
  · left
    obtain ⟨rfl, h1, h2⟩ := hr
    have := hc (o' - o) (by omega)
    rwa [show o + (o' - o) = o' by omega] at this
  · rw [fset_off hr]; exact h b' o'
theorem le_fset {f g : Frag} {b o : Nat} {vs : List Value} (h : g.le f) (hc : ∀ j, j < vs.length → g b (o + j) = none) : g.le (fset f b o vs) := fun b' o' c hg => by
  by_cases hr : b' = b ∧ o ≤ o' ∧ o' < o + vs.length
  · exfalso
    obtain ⟨rfl, h1, h2⟩ := hr
    have := hc (o' - o) (by omega)
    rw [show o + (o' - o) = o' by omega, hg] at this
    cases this
  · rw [fset_off hr]; exact h _ _ _ hg
/-- Cells that one owns, turned. -/
theorem Has.fset {m φ fr : Frag} {w w' : World} {b o : Nat} {vs : List Value} (h : Has m φ fr w) (hc : ∀ j, j < vs.length → ∃ c, φ b (o + j) = some (.cell c false)) (hw : hp w' = fset (hp w) b o vs) : Has m (fset φ b o vs) fr w' := by
  have hm : ∀ j, j < vs.length → m b (o + j) = none := fun j hj => by
    obtain ⟨c, hc⟩ := hc j hj
    rcases h.d1 b (o + j) with e | e
    · rw [hc] at e; cases e
    · exact e
  have hf : ∀ j, j < vs.length → fr b (o + j) = none := fun j hj => by
    obtain ⟨c, hc⟩ := hc j hj
    rcases h.d2 b (o + j) with e | e
    · rw [hc] at e; cases e
    · exact e
  exact ⟨(dj_fset h.d1.symm hm).symm, (dj_fset h.d2.symm hf).symm, h.d3, hw ▸ fset_mono h.l1, hw ▸ le_fset h.l2 hm, hw ▸ le_fset h.l3 hf⟩
theorem hp_none {w : World} {b o : Nat} (h : w.heap.size ≤ b) : hp w b o = none := by
  unfold hp
  rw [Array.getElem?_eq_none h]
theorem hp_alloc {w : World} {cs : List Value} {t : TypeId} : hp (w.alloc (.cells cs.toArray t)) = SL.fset (hp w) w.heap.size 0 cs := by
  funext b o
  by_cases hb : b = w.heap.size
  · subst hb
    have e : (w.alloc (.cells cs.toArray t)).heap[w.heap.size]? = some (.cells cs.toArray t) := by
      show (w.heap.push _)[w.heap.size]? = _
      simp
    simp only [hp, e]
    by_cases ho : o < cs.length
    · simp [SL.fset, ho]
    · rw [fset_off (by omega), hp_none (Nat.le_refl _)]
      simp [List.getElem?_eq_none (Nat.le_of_not_lt ho)]
  · have e : (w.alloc (.cells cs.toArray t)).heap[b]? = w.heap[b]? := by
      show (w.heap.push _)[b]? = _
      rw [Array.getElem?_push, if_neg hb]
    rw [fset_off fun h => hb h.1]
    simp only [hp, e]
theorem Ok.alloc (w : World) (x : Obj) : Ok w (w.alloc x) := ⟨rfl, rfl, rfl, by show _ ≤ (w.heap.push _).size; simp, fun b hb => by
  have : (w.alloc x).heap[b]? = w.heap[b]? := by
    show (w.heap.push _)[b]? = _
    rw [Array.getElem?_push, if_neg (by omega)]
  rw [this], Nat.le_refl _ ⟩
theorem Has.alloc {m φ fr : Frag} {w : World} {cs : List Value} {t : TypeId} (h : Has m φ fr w) : Has m (SL.fset φ w.heap.size 0 cs) fr (w.alloc (.cells cs.toArray t)) := by
  have hn : ∀ {f : Frag}, f.le (hp w) → ∀ j, f w.heap.size (0 + j) = none := fun {f} hl j => by
    cases e : f w.heap.size (0 + j) with
    | none => rfl
    | some c => have := hl _ _ _ e; rw [hp_none (Nat.le_refl _)] at this; cases this
  exact ⟨(dj_fset h.d1.symm fun j _ => hn h.l2 j).symm, (dj_fset h.d2.symm fun j _ => hn h.l3 j).symm, h.d3, hp_alloc ▸ fset_mono h.l1, hp_alloc ▸ le_fset h.l2 fun j _ => hn h.l2 j, hp_alloc ▸ le_fset h.l3 fun j _ => hn h.l3 j⟩
theorem hp_setCell {w : World} {b o : Nat} {c v : Value} (h : hp w b o = some (.cell c false)) : hp (w.setCell ⟨b, o, none⟩ v) = SL.fset (hp w) b o [v] ∧ Ok w (w.setCell ⟨b, o, none⟩ v) := by
  unfold hp at h
  cases hb : w.heap[b]? with
  | none => rw [hb] at h; cases h
  | some x =>
    rw [hb] at h
    cases x with
    | cells cs t fr =>
      obtain ⟨lo, hi⟩ := fr
      simp only [Option.map_eq_some_iff, Ct.cell.injEq] at h
      obtain ⟨v', h1, _, h2⟩ := h
      have e1 : (w.setCell ⟨b, o, none⟩ v).heap[b]? = some (.cells (cs.setIfInBounds o v) t (lo, hi)) := by
        simp [World.setCell, Array.getElem?_modify, hb]
      have e2 : ∀ b', b' ≠ b → (w.setCell ⟨b, o, none⟩ v).heap[b']? = w.heap[b']? := fun b' hb' => by
        simp only [World.setCell, Array.getElem?_modify]
        rw [if_neg (Ne.symm hb')]
      refine ⟨?_, rfl, rfl, rfl, by simp [World.setCell], fun b' _ => ?_, Nat.le_refl _ ⟩
      · funext b' o'
        by_cases hb' : b' = b
        · subst hb'
          by_cases ho : o' = o
          · subst ho
            have hlt : o' < cs.size := (Array.getElem?_eq_some_iff.1 h1).1
            simp [hp, e1, SL.fset, hlt, h2]
          · rw [fset_off (by simp; omega)]
            simp only [hp, e1, hb]
            rw [Array.getElem?_setIfInBounds_ne (Ne.symm ho)]
        · rw [fset_off fun h => hb' h.1]
          simp only [hp, e2 b' hb']
      · by_cases hb' : b' = b
        · subst hb'; rw [e1, hb]; simp [shp]
        · rw [e2 b' hb']
    | _ => dsimp only at h; split at h <;> simp at h
theorem run_store1 {P : Program} {w : World} {b o : Nat} {c v : Value} (h : hp w b o = some (.cell c false)) (hv : v.oneCell' = true) : (store ⟨b, o, none⟩ v).run P w = .ok () (w.setCell ⟨b, o, none⟩ v) := by
  obtain ⟨h1, h2⟩ := hp_cell h
  simp [run_store P w _ v _ hv, h1, h2]
theorem addr_add {b o j : Nat} : (⟨b, o, none⟩ : Addr).add j = ⟨b, o + j, none⟩ := by
  unfold Addr.add
  split
  · rename_i e; subst e; rfl
  · rfl
theorem run_storeCells' {P : Program} {b o : Nat} : ∀ (vs : List Value) (i : Nat) (w : World), (∀ j, j < vs.length → ∃ c, hp w b (o + i + j) = some (.cell c false)) → (∀ v ∈ vs, v.oneCell' = true) →
    ∃ w', (storeCells ⟨b, o, none⟩ vs i).run P w = .ok () w' ∧ hp w' = SL.fset (hp w) b (o + i) vs ∧ Ok w w'
  | [], i, w, _, _ => ⟨w, by simp [storeCells], by rw [fset_nil], Ok.refl w⟩
  | v :: vs, i, w, hc, h1 => by
    obtain ⟨c, h0⟩ := hc 0 (by simp)
    obtain ⟨e1, k1⟩ := hp_setCell (v := v) h0
    rw [show o + i + 0 = o + i by omega] at e1 k1
    obtain ⟨w', hr, hh, hk⟩ := run_storeCells' (P := P) (b := b) (o := o) vs (i + 1) (w.setCell ⟨b, o + i, none⟩ v) (fun j hj => by
      obtain ⟨c, h⟩ := hc (j + 1) (by simp; omega)
      refine ⟨c, ?_⟩
      rw [e1, fset_off (by simp; omega), ← h]
      congr 1; omega) (fun u hu => h1 u (by simp [hu]))
    refine ⟨w', ?_, ?_, ?_⟩
    · have := run_store1 (P := P) (v := v) h0 (h1 v (by simp))
      simp only [storeCells, Sem.run_bind, addr_add]
      rw [show o + i + 0 = o + i by omega] at this
      rw [this]
      simpa using hr
    · rw [hh, e1, ← Nat.add_assoc, fset_cons]
    · exact k1.trans hk
theorem cells_pack {α : Type} {K : Kd α} {m φ : Frag} {x : α} {cs : List Value} (h : K.C m φ x cs) : (pack K.agg cs).cells.toList = cs := by
  cases ha : K.agg with
  | true => simp [pack, Value.cells]
  | false =>
    have hn := K.len h
    rw [K.sgl ha] at hn
    match cs, hn with
    | [c], _ =>
      have := K.one h c (by simp)
      cases c <;> first | rfl | (simp [Value.oneCell'] at this)
section
variable {P : Program} {E : List (Nat × Value)} {L : List Ent} {α β : Type}
variable {d : Option Tmp} {ty : TypeId} {pos : String} {aft : Array Edge} {g : Option (Nat × Bool)}
theorem Mem.boxed {F : Fr} {w : World} {K : Kd α} {y : α} {cs : List Value} {t : TypeId} (h : Mem F L w) (hc : ∀ m φ, Own L m φ → K.C m Frag.emp y cs) : Mem F (Fld K w.heap.size 0 y :: L) (w.alloc (.cells cs.toArray t)) := by
  obtain ⟨m, φ, o, hh, hp, hk⟩ := h
  have hh2 := hh.alloc (cs := cs) (t := t)
  have hn : ∀ j, φ w.heap.size (0 + j) = none := fun j => by
    cases e : φ w.heap.size (0 + j) with
    | none => rfl
    | some c => have := hh.l1 _ _ _ e; rw [hp_none (Nat.le_refl _)] at this; cases this
  refine ⟨m, SL.fset φ w.heap.size 0 cs, ⟨SL.fset Frag.emp w.heap.size 0 cs, φ, fset_mono Frag.emp_le, le_fset .rfl fun j _ => hn j, (dj_fset Frag.dj_emp fun j _ => hn j).symm, ⟨cs, SL.fset Frag.emp w.heap.size 0 cs, Frag.emp, .rfl, Frag.emp_le, Frag.dj_emp, fun j c hj => fset_at hj, hc m φ o⟩, o⟩, hh2, hp, hk.trans (Ok.alloc w _)⟩
theorem o_box {x : Operand} {t : TypeId} {K : Kd α} {v : Value} {y : α} (hx : opv E x = some v) (hv : PV K v y L) :
    OpS P E L ⟨d, .box t x, ty, pos, aft, g⟩ (fun b => .pointer (some ⟨b, 0, none⟩)) (fun b => Fld K b 0 y :: L) :=
  .run fun n F a w hs hm => by
    have key : ∃ cs : List Value, v.cells = cs.toArray ∧ ∀ m φ, Own L m φ → K.C m Frag.emp y cs := by
      obtain ⟨m, φ, o, _⟩ := hm
      refine ⟨v.cells.toList, by simp, fun m φ o => ?_⟩
      obtain ⟨cs, hC, rfl⟩ := hv m φ o
      rw [cells_pack hC]; exact hC
    obtain ⟨cs, e, hc⟩ := key
    exact ⟨w.heap.size, w.alloc (.cells cs.toArray t), by simp [execOp, hs.eval hx, Instr.box, newVar, newRow, e], hm.boxed hc⟩
theorem o_alloc {t : TypeId} {K : Kd α} {z : Value} {y : α} (hz : (P.info? t).bind (·.zero) = some z) (hc : ∀ m, K.C m Frag.emp y z.cells.toList) :
    OpS P E L ⟨d, .alloc t, ty, pos, aft, g⟩ (fun b => .pointer (some ⟨b, 0, none⟩)) (fun b => Fld K b 0 y :: L) :=
  .run fun n F a w hs hm => by
    obtain ⟨i, hi, hz⟩ := Option.bind_eq_some_iff.1 hz
    have := hm.boxed (K := K) (y := y) (cs := z.cells.toList) (t := t) fun m _ _ => hc m
    exact ⟨w.heap.size, w.alloc (.cells z.cells t), by simp [execOp, Instr.alloc, zeroValue, typeInfo, hi, hz, newVar, newRow], by simpa using this⟩
/-- A store into a field: the value takes nothing. -/
theorem o_st {x xv : Operand} {b o : Nat} {t : TypeId} {K : Kd α} {K' : Kd β} {v : Value} {y : α} {y' : β} (i : Nat) (hx : opv E x = some (.pointer (some ⟨b, o, none⟩))) (hxv : opv E xv = some v) (hi : L[i]? = some (Fld K' b o y')) (hv : PV K v y L) (hn : K'.n = K.n) (ht : (P.info? t).map (·.size) = some K.n) :
    OpS (σ := Unit) P E L ⟨d, .store t x xv, ty, pos, aft, g⟩ (fun _ => undef) (fun _ => L.set i (Fld K b o y)) :=
  .skip fun n F a w hs hm => by
    obtain ⟨m0, φ0, o0, hh0, _⟩ := id hm
    obtain ⟨cs, hC0, hvc⟩ := hv m0 φ0 o0
    have hcells : v.cells.toList = cs := by rw [hvc]; exact cells_pack hC0
    have hlen := K.len hC0
    have h1 := K.one hC0
    obtain ⟨f0, hf0, he0⟩ := o0.get hi
    obtain ⟨cs', g1, g2, k1, k2, dd, hc', hC'⟩ := he0
    have hlen' := K'.len hC'
    obtain ⟨ti, hti, hsz⟩ := Option.map_eq_some_iff.1 ht
    obtain ⟨w', hr, hw, hok⟩ := run_storeCells' (P := P) (b := b) (o := o) cs 0 w (fun j hj => by
      have : j < cs'.length := by omega
      exact ⟨cs'[j], (hf0.trans hh0.l1) _ _ _ (k1 _ _ _ (hc' j _ (List.getElem?_eq_getElem this)))⟩) h1
    refine ⟨(), w', ?_, ?_⟩
    · have hl2 : v.cells.size = K.n := by rw [← hlen, ← hcells]; simp
      simp [execOp, hs.eval hx, hs.eval hxv, Instr.storeAt, Instr.sureAddr, storeVar, sizeOf, typeInfo, hti, hsz, hl2, hcells, hr]
    · obtain ⟨m, φ, ho, hh, hp, hk⟩ := hm
      obtain ⟨f1, f2, l1, l2, d12, ⟨cs2, q1, q2, r1, r2, dq, hc2, hC2⟩, _, hset⟩ := ho.split hi
      obtain ⟨cs3, hC3, hv3⟩ := hv m φ ho
      have e3 : cs3 = cs := by rw [← hcells, hv3]; exact (cells_pack hC3).symm
      subst e3
      have hl2' := K'.len hC2
      have own : ∀ j, j < cs3.length → ∃ c, q1 b (o + j) = some (.cell c false) := fun j hj => by
        have : j < cs2.length := by omega
        exact ⟨cs2[j], hc2 j _ (List.getElem?_eq_getElem this)⟩
      have own2 : ∀ j, j < cs3.length → ∃ c, φ b (o + j) = some (.cell c false) := fun j hj => by
        obtain ⟨c, hc⟩ := own j hj
        exact ⟨c, l1 _ _ _ (r1 _ _ _ hc)⟩
      have hf2 : ∀ j, j < cs3.length → f2 b (o + j) = none := fun j hj => by
        obtain ⟨c, hc⟩ := own j hj
        rcases d12 b (o + j) with e | e
        · rw [r1 _ _ _ hc] at e; cases e
        · exact e
      refine ⟨m, SL.fset φ b o cs3, hset m (SL.fset q1 b o cs3) _ _ .rfl (fset_mono (r1.trans l1)) (le_fset l2 hf2) (dj_fset (d12.mono r1 .rfl).symm hf2).symm ⟨cs3, SL.fset q1 b o cs3, Frag.emp, .rfl, Frag.emp_le, Frag.dj_emp, fun j c hj => fset_at hj, hC3⟩, hh.fset own2 (by simpa using hw), hp, hk.trans hok⟩
end
end Go.SL
