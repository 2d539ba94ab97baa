/- A small separation logic over the model's heap: fragments, entries, the state of a call; each lemma states its own conditions. -/
import Derived.Laws.BitsLemmas
import Derived.WalkKit
import Derived.Orders
import Derived.KernelRfl
namespace Go.SL
open Go Go.RowKit
set_option linter.unusedVariables false
set_option linter.unusedSimpArgs false

/-! ### Fragments -/
inductive Ct where
  | cell (v : Value) (fz : Bool)
  | obj (o : Obj)
abbrev Frag := Nat → Nat → Option Ct
namespace Frag
def le (f g : Frag) : Prop := ∀ b o c, f b o = some c → g b o = some c
def dj (f g : Frag) : Prop := ∀ b o, f b o = none ∨ g b o = none
def un (f g : Frag) : Frag := fun b o => match f b o with | some c => some c | none => g b o
def emp : Frag := fun _ _ => none
theorem le.rfl {f : Frag} : f.le f := fun _ _ _ h => h
theorem le.trans {f g h : Frag} (a : f.le g) (b : g.le h) : f.le h := fun _ _ _ x => b _ _ _ (a _ _ _ x)
theorem emp_le {f : Frag} : emp.le f := fun _ _ _ h => by cases h
theorem le_un_left {f g : Frag} : f.le (f.un g) := fun b o c h => by simp [un, h]
theorem le_un_right {f g : Frag} (d : f.dj g) : g.le (f.un g) := fun b o c h => by
  rcases d b o with h' | h'
  · simp [un, h', h]
  · rw [h'] at h; cases h
theorem un_le {f g h : Frag} (a : f.le h) (b : g.le h) : (f.un g).le h := fun b' o c x => by
  simp only [un] at x
  split at x
  · rename_i e; cases x; exact a _ _ _ e
  · exact b _ _ _ x
theorem dj.symm {f g : Frag} (d : f.dj g) : g.dj f := fun b o => (d b o).symm
theorem dj.mono {f g f' g' : Frag} (d : f.dj g) (a : f'.le f) (b : g'.le g) : f'.dj g' := fun x o => by
  rcases d x o with h | h
  · left; cases e : f' x o with | none => rfl | some c => rw [a _ _ _ e] at h; cases h
  · right; cases e : g' x o with | none => rfl | some c => rw [b _ _ _ e] at h; cases h
theorem dj_emp {f : Frag} : f.dj emp := fun _ _ => .inr rfl
theorem emp_dj {f : Frag} : emp.dj f := fun _ _ => .inl rfl
theorem un_dj {f g h : Frag} (a : f.dj h) (b : g.dj h) : (f.un g).dj h := fun x o => by
  rcases a x o with a | a
  · rcases b x o with b | b
    · left; simp [un, a, b]
    · exact .inr b
  · exact .inr a
theorem dj_un {f g h : Frag} (a : f.dj g) (b : f.dj h) : f.dj (g.un h) := (un_dj a.symm b.symm).symm
end Frag

/-- The memory of a world, as a fragment. -/
def hp (w : World) : Frag := fun b o => match w.heap[b]? with
  | none => none
  | some (.cells c _ (lo, hi)) => (c[o]?).map fun v => .cell v (lo ≤ o && o < hi)
  | some x => if o = 0 then some (.obj x) else none
theorem hp_cell {w : World} {b o : Nat} {v : Value} {fz : Bool} (h : hp w b o = some (.cell v fz)) : w.cell? ⟨b, o, none⟩ = some v ∧ w.frozen? ⟨b, o, none⟩ = fz := by
  unfold hp at h
  unfold World.cell? World.frozen?
  cases hb : w.heap[b]? with
  | none => rw [hb] at h; cases h
  | some x =>
    rw [hb] at h
    cases x with
    | cells c t fr =>
      obtain ⟨lo, hi⟩ := fr
      simp only [Option.map_eq_some_iff, Ct.cell.injEq] at h
      obtain ⟨v', h1, rfl, h2⟩ := h
      exact ⟨by simpa using h1, by simpa using h2⟩
    | _ => dsimp only at h; split at h <;> simp at h
theorem hp_obj {w : World} {b : Nat} {x : Obj} (h : hp w b 0 = some (.obj x)) : w.heap[b]? = some x ∧ ∀ c t fr, x ≠ .cells c t fr := by
  unfold hp at h
  cases hb : w.heap[b]? with
  | none => rw [hb] at h; cases h
  | some y =>
    rw [hb] at h
    cases y with
    | cells c t fr => obtain ⟨lo, hi⟩ := fr; simp at h
    | _ => simp at h; subst h; exact ⟨rfl, by intro c t fr e; cases e⟩

/-- What of a block never turns. -/
def shp : Option Obj → Option (Nat × TypeId × (Nat × Nat))
  | some (.cells c t fr) => some (c.size, t, fr)
  | _ => none
structure Ok (w0 w : World) : Prop where
  os : w.os = w0.os
  tape : w.tape = w0.tape
  output : w.output = w0.output
  size : w0.heap.size ≤ w.heap.size
  shp : ∀ b, b < w0.heap.size → shp w.heap[b]? = shp w0.heap[b]?
  drawn : w0.drawn ≤ w.drawn 
theorem Ok.refl (w : World) : Ok w w := ⟨rfl, rfl, rfl, Nat.le_refl _, fun _ _ => rfl, Nat.le_refl _ ⟩
theorem Ok.trans {a b c : World} (h : Ok a b) (k : Ok b c) : Ok a c :=
  ⟨k.os.trans h.os, k.tape.trans h.tape, k.output.trans h.output, Nat.le_trans h.size k.size, fun i hi => (k.shp i (Nat.lt_of_lt_of_le hi h.size)).trans (h.shp i hi), Nat.le_trans h.drawn k.drawn ⟩

structure Has (m φ fr : Frag) (w : World) : Prop where
  d1 : φ.dj m
  d2 : φ.dj fr
  d3 : m.dj fr
  l1 : φ.le (hp w)
  l2 : m.le (hp w)
  l3 : fr.le (hp w)

/-! ### Entries -/
structure Ent where
  H : Frag → Frag → Prop
  mono : ∀ {m m' φ φ' : Frag}, m.le m' → φ.le φ' → H m φ → H m' φ'
/-- It takes no memory of its own. -/
def Ent.Per (e : Ent) : Prop := ∀ m φ, e.H m φ → e.H m Frag.emp
def Ent.nul : Ent := ⟨fun _ _ => True, fun _ _ _ => trivial⟩
def Ent.pur (p : Prop) : Ent := ⟨fun _ _ => p, fun _ _ h => h⟩
def Ent.cnd (c : Prop) (e : Ent) : Ent := ⟨fun m φ => c → e.H m φ, fun a b h hc => e.mono a b (h hc)⟩
theorem Per_nul : Ent.nul.Per := fun _ _ h => h
theorem Per_pur {p : Prop} : (Ent.pur p).Per := fun _ _ h => h
theorem Per_cnd {c : Prop} {e : Ent} (h : e.Per) : (Ent.cnd c e).Per := fun _ _ k hc => h _ _ (k hc)

def Own : List Ent → Frag → Frag → Prop
  | [], _, _ => True
  | e :: L, m, φ => ∃ φ1 φ2 : Frag, φ1.le φ ∧ φ2.le φ ∧ φ1.dj φ2 ∧ e.H m φ1 ∧ Own L m φ2
theorem Own.mono {m m' : Frag} (hm : m.le m') : ∀ {L : List Ent} {φ φ' : Frag}, φ.le φ' → Own L m φ → Own L m' φ'
  | [], _, _, _, _ => trivial
  | e :: L, φ, φ', h, ⟨f1, f2, a, b, d, he, ho⟩ => ⟨f1, f2, a.trans h, b.trans h, d, e.mono hm .rfl he, Own.mono hm .rfl ho⟩
theorem Own.append {m : Frag} : ∀ {L1 L2 : List Ent} {φ : Frag}, Own (L1 ++ L2) m φ → ∃ f1 f2 : Frag, f1.le φ ∧ f2.le φ ∧ f1.dj f2 ∧ Own L1 m f1 ∧ Own L2 m f2
  | [], L2, φ, h => ⟨Frag.emp, φ, Frag.emp_le, .rfl, Frag.emp_dj, trivial, h⟩
  | e :: L1, L2, φ, ⟨f1, f2, a, b, d, he, ho⟩ => by
    obtain ⟨g1, g2, a', b', d', h1, h2⟩ := Own.append (L1 := L1) ho
    refine ⟨f1.un g1, g2, Frag.un_le a (a'.trans b), b'.trans b, Frag.un_dj (d.mono .rfl b') d', ⟨f1, g1, Frag.le_un_left, Frag.le_un_right (d.mono .rfl a'), d.mono .rfl a', he, h1⟩, h2⟩
theorem Own.join {m : Frag} : ∀ {L1 L2 : List Ent} {f1 f2 φ : Frag}, f1.le φ → f2.le φ → f1.dj f2 → Own L1 m f1 → Own L2 m f2 → Own (L1 ++ L2) m φ
  | [], L2, f1, f2, φ, a, b, d, _, h2 => h2.mono .rfl b
  | e :: L1, L2, f1, f2, φ, a, b, d, ⟨g1, g2, c1, c2, d', he, ho⟩, h2 =>
    ⟨g1, g2.un f2, c1.trans a, Frag.un_le (c2.trans a) b, Frag.dj_un d' (d.mono c1 .rfl), he, Own.join Frag.le_un_left (Frag.le_un_right (d.mono c2 .rfl)) (d.mono c2 .rfl) ho h2⟩
theorem Own.get {m : Frag} : ∀ {L : List Ent} {φ : Frag} {i : Nat} {e : Ent}, L[i]? = some e → Own L m φ → ∃ f : Frag, f.le φ ∧ e.H m f
  | x :: L, φ, 0, e, hi, ⟨f1, f2, a, b, d, he, ho⟩ => by cases hi; exact ⟨f1, a, he⟩
  | x :: L, φ, i + 1, e, hi, ⟨f1, f2, a, b, d, he, ho⟩ => by
    obtain ⟨f, hf, h⟩ := Own.get (i := i) (by simpa using hi) ho
    exact ⟨f, hf.trans b, h⟩
theorem Own.split {m : Frag} : ∀ {L : List Ent} {φ : Frag} {i : Nat} {e : Ent}, L[i]? = some e → Own L m φ →
    ∃ f1 f2 : Frag, f1.le φ ∧ f2.le φ ∧ f1.dj f2 ∧ e.H m f1 ∧ (∀ (j : Nat) (r : Ent), j ≠ i → L[j]? = some r → ∃ g : Frag, g.le f2 ∧ r.H m g) ∧
      ∀ (m' f1' φ' : Frag) (e' : Ent), m.le m' → f1'.le φ' → f2.le φ' → f1'.dj f2 → e'.H m' f1' → Own (L.set i e') m' φ'
  | x :: L, φ, 0, e, hi, ⟨f1, f2, a, b, d, he, ho⟩ => by
    cases hi
    refine ⟨f1, f2, a, b, d, he, fun j r hj hr => ?_, fun m' f1' φ' e' hm a' b' d' he' => ⟨f1', f2, a', b', d', he', ho.mono hm .rfl⟩⟩
    cases j with
    | zero => exact absurd rfl hj
    | succ j => exact Own.get (i := j) (by simpa using hr) ho
  | x :: L, φ, i + 1, e, hi, ⟨f1, f2, a, b, d, he, ho⟩ => by
    obtain ⟨g1, g2, c1, c2, d', he', hoth, hset⟩ := Own.split (i := i) (by simpa using hi) ho
    have dg : f1.dj g1 := d.mono .rfl c1
    refine ⟨g1, f1.un g2, c1.trans b, Frag.un_le a (c2.trans b), Frag.dj_un dg.symm d', he', fun j r hj hr => ?_, fun m' f1' φ' e' hm a' b' dd he'' => ?_⟩
    · cases j with
      | zero => cases hr; exact ⟨f1, Frag.le_un_left, he⟩
      | succ j =>
        obtain ⟨g, hg, h⟩ := hoth j r (by omega) (by simpa using hr)
        exact ⟨g, hg.trans (Frag.le_un_right (d.mono .rfl c2)), h⟩
    · have l1 : f1.le φ' := Frag.le_un_left.trans b'
      have l2 : g2.le φ' := (Frag.le_un_right (d.mono .rfl c2)).trans b'
      have e1 : f1'.dj f1 := dd.mono .rfl Frag.le_un_left
      have e2 : f1'.dj g2 := dd.mono .rfl (Frag.le_un_right (d.mono .rfl c2))
      exact ⟨f1, f1'.un g2, l1, Frag.un_le a' l2, Frag.dj_un e1.symm (d.mono .rfl c2), x.mono hm .rfl he,
        hset m' f1' (f1'.un g2) e' hm Frag.le_un_left (Frag.le_un_right e2) e2 he''⟩
theorem Own.per {m φ : Frag} {L : List Ent} {e : Ent} (hp : e.Per) {i : Nat} (hi : L[i]? = some e) (h : Own L m φ) : Own (e :: L) m φ := by
  obtain ⟨f, _, he⟩ := Own.get hi h
  exact ⟨Frag.emp, φ, Frag.emp_le, .rfl, Frag.emp_dj, hp _ _ he, h⟩
theorem Own.drop {m φ : Frag} {L : List Ent} {e : Ent} (h : Own (e :: L) m φ) : Own L m φ := by
  obtain ⟨f1, f2, a, b, d, he, ho⟩ := h
  exact ho.mono .rfl b
theorem Own.swap {m φ : Frag} {L : List Ent} {e e' : Ent} (h : Own (e :: e' :: L) m φ) : Own (e' :: e :: L) m φ := by
  obtain ⟨f1, f2, a, b, d, he, g1, g2, c1, c2, d', he', ho⟩ := h
  exact ⟨g1, f1.un g2, c1.trans b, Frag.un_le a (c2.trans b), Frag.dj_un (d.mono .rfl c1).symm d', he', f1, g2, Frag.le_un_left, Frag.le_un_right (d.mono .rfl c2), d.mono .rfl c2, he, ho⟩

/-! ### The memory of a call: its entries, and all else, which it leaves -/
structure Fr where
  own : Frag
  per : Frag
  w0 : World
def Mem (F : Fr) (L : List Ent) (w : World) : Prop := ∃ m φ : Frag, Own L m φ ∧ Has m φ F.own w ∧ F.per.le m ∧ Ok F.w0 w

theorem Mem.upd {F : Fr} {L : List Ent} {w w' : World} (h : Mem F L w) (i : Nat) {e e' : Ent} (hi : L[i]? = some e)
    (hs : ∀ m φ fr : Frag, Has m φ fr w → e.H m φ → (∀ (j : Nat) (r : Ent), j ≠ i → L[j]? = some r → ∃ g : Frag, g.le fr ∧ r.H m g) → ∃ m' φ' : Frag, m.le m' ∧ Has m' φ' fr w' ∧ e'.H m' φ') (ok : Ok w w') : Mem F (L.set i e') w' := by
  obtain ⟨m, φ, ho, hh, hp, hk⟩ := h
  obtain ⟨f1, f2, a, b, d, he, hoth, hset⟩ := ho.split hi
  have hd : f2.dj F.own := hh.d2.mono b .rfl
  obtain ⟨m', φ', hm, hh', he'⟩ := hs m f1 (f2.un F.own) ⟨hh.d1.mono a .rfl, Frag.dj_un d (hh.d2.mono a .rfl), Frag.dj_un (hh.d1.mono b .rfl).symm hh.d3, a.trans hh.l1, hh.l2, Frag.un_le (b.trans hh.l1) hh.l3⟩ he
    (fun j r hj hr => by obtain ⟨g, hg, h⟩ := hoth j r hj hr; exact ⟨g, hg.trans Frag.le_un_left, h⟩)
  have e2 : φ'.dj f2 := hh'.d2.mono .rfl Frag.le_un_left
  have e3 : φ'.dj F.own := hh'.d2.mono .rfl (Frag.le_un_right hd)
  refine ⟨m', φ'.un f2, hset m' φ' _ e' hm Frag.le_un_left (Frag.le_un_right e2) e2 he', ⟨Frag.un_dj hh'.d1 (hh'.d3.mono .rfl Frag.le_un_left).symm, Frag.un_dj e3 hd, hh'.d3.mono .rfl (Frag.le_un_right hd), Frag.un_le hh'.l1 (Frag.le_un_left.trans hh'.l3), hh'.l2, (Frag.le_un_right hd).trans hh'.l3⟩, hp.trans hm, hk.trans ok⟩

theorem Mem.frame {F : Fr} {L1 L2 : List Ent} {w : World} (h : Mem F (L1 ++ L2) w) : ∃ F' : Fr, Mem F' L1 w ∧ ∀ (L1' : List Ent) (w' : World), Mem F' L1' w' → Mem F (L1' ++ L2) w' := by
  obtain ⟨m, φ, ho, hh, hp, hk⟩ := h
  obtain ⟨f1, f2, a, b, d, h1, h2⟩ := Own.append ho
  have hd : f2.dj F.own := hh.d2.mono b .rfl
  refine ⟨⟨f2.un F.own, m, F.w0⟩, ⟨m, f1, h1, ⟨hh.d1.mono a .rfl, Frag.dj_un d (hh.d2.mono a .rfl), Frag.dj_un (hh.d1.mono b .rfl).symm hh.d3, a.trans hh.l1, hh.l2, Frag.un_le (b.trans hh.l1) hh.l3⟩, .rfl, hk⟩, ?_⟩
  rintro L1' w' ⟨m', φ', ho', hh', hp', hk'⟩
  have e2 : φ'.dj f2 := hh'.d2.mono .rfl Frag.le_un_left
  have e3 : φ'.dj F.own := hh'.d2.mono .rfl (Frag.le_un_right hd)
  exact ⟨m', φ'.un f2, Own.join Frag.le_un_left (Frag.le_un_right e2) e2 ho' (h2.mono hp' .rfl), ⟨Frag.un_dj hh'.d1 (hh'.d3.mono .rfl Frag.le_un_left).symm, Frag.un_dj e3 hd, hh'.d3.mono .rfl (Frag.le_un_right hd), Frag.un_le hh'.l1 (Frag.le_un_left.trans hh'.l3), hh'.l2, (Frag.le_un_right hd).trans hh'.l3⟩, hp.trans hp', hk'⟩

theorem Mem.add {F : Fr} {L : List Ent} {w w' : World} (h : Mem F L w) {e' : Ent}
    (hs : ∀ m fr : Frag, Has m Frag.emp fr w → (∀ (j : Nat) (r : Ent), L[j]? = some r → ∃ g : Frag, g.le fr ∧ r.H m g) → ∃ m' φ' : Frag, m.le m' ∧ Has m' φ' fr w' ∧ e'.H m' φ') (ok : Ok w w') : Mem F (e' :: L) w' := by
  obtain ⟨m, φ, ho, hh, hp, hk⟩ := h
  have h1 : Mem F (Ent.nul :: L) w := ⟨m, φ, ⟨Frag.emp, φ, Frag.emp_le, .rfl, Frag.emp_dj, trivial, ho⟩, hh, hp, hk⟩
  refine h1.upd 0 (e' := e') rfl (fun m' φ' fr hh' _ ho' => ?_) ok
  have hE : Has m' Frag.emp fr w := ⟨Frag.emp_dj, Frag.emp_dj, hh'.d3, Frag.emp_le, hh'.l2, hh'.l3⟩
  exact hs m' fr hE (fun j r hr => ho' (j + 1) r (by omega) (by simpa using hr))

/-- An entry that follows from others, and takes nothing. -/
theorem Mem.addP {F : Fr} {L : List Ent} {w : World} (h : Mem F L w) {e' : Ent} (hs : ∀ m : Frag, m.le (hp w) → (∀ (j : Nat) (r : Ent), L[j]? = some r → ∃ g : Frag, g.le (hp w) ∧ r.H m g) → e'.H m Frag.emp) : Mem F (e' :: L) w :=
  h.add (fun m fr hh ho => ⟨m, Frag.emp, .rfl, hh, hs m hh.l2 (fun j r hr => by obtain ⟨g, hg, h⟩ := ho j r hr; exact ⟨g, hg.trans hh.l3, h⟩)⟩) (Ok.refl w)
theorem Mem.get {F : Fr} {L : List Ent} {w : World} (h : Mem F L w) {i : Nat} {e : Ent} (hi : L[i]? = some e) : ∃ m φ : Frag, m.le (hp w) ∧ φ.le (hp w) ∧ e.H m φ := by
  obtain ⟨m, φ, ho, hh, _⟩ := h
  obtain ⟨f, hf, he⟩ := ho.get hi
  exact ⟨m, f, hh.l2, hf.trans hh.l1, he⟩
theorem Mem.same {F : Fr} {L : List Ent} {w w' : World} (h : Mem F L w) (hh : w'.heap = w.heap) (ho : w'.os = w.os) (ht : w'.tape = w.tape) (hu : w'.output = w.output) (_hd : w.drawn ≤ w'.drawn := by first | exact Nat.le_refl _ | exact Nat.le_succ _) : Mem F L w' := by
  obtain ⟨m, φ, o, k, p, q⟩ := h
  have e : hp w' = hp w := by funext b o; simp [hp, hh]
  exact ⟨m, φ, o, ⟨k.d1, k.d2, k.d3, e ▸ k.l1, e ▸ k.l2, e ▸ k.l3⟩, p, ⟨ho.trans q.os, ht.trans q.tape, hu.trans q.output, hh ▸ q.size, fun b hb => hh ▸ q.shp b hb, Nat.le_trans q.drawn _hd ⟩⟩
theorem Mem.drew {F : Fr} {L : List Ent} {w : World} (h : Mem F L w) : Mem F L w.drew := h.same rfl rfl rfl rfl
theorem Mem.drew' {F : Fr} {L : List Ent} {w : World} (h : Mem F L w) : Mem F L { w with drawn := w.drawn + 1 } := h.same rfl rfl rfl rfl
theorem Mem.map {F : Fr} {L L' : List Ent} {w : World} (h : Mem F L w) (hs : ∀ m φ : Frag, Own L m φ → Own L' m φ) : Mem F L' w := by
  obtain ⟨m, φ, o, r⟩ := h
  exact ⟨m, φ, hs _ _ o, r⟩
theorem Mem.per {F : Fr} {L : List Ent} {w : World} (h : Mem F L w) {e : Ent} (hp : e.Per) {i : Nat} (hi : L[i]? = some e) : Mem F (e :: L) w := h.map fun _ _ o => o.per hp hi
theorem Mem.drop {F : Fr} {L : List Ent} {e : Ent} {w : World} (h : Mem F (e :: L) w) : Mem F L w := h.map fun _ _ o => o.drop
theorem Mem.swap {F : Fr} {L : List Ent} {e e' : Ent} {w : World} (h : Mem F (e :: e' :: L) w) : Mem F (e' :: e :: L) w := h.map fun _ _ o => o.swap
/-- An entry taken to the front; its place stays, with nothing. -/
theorem Mem.take {F : Fr} {L : List Ent} {w : World} (h : Mem F L w) {i : Nat} {e : Ent} (hi : L[i]? = some e) : Mem F (e :: L.set i Ent.nul) w := by
  refine h.map fun m φ o => ?_
  obtain ⟨f1, f2, a, b, d, he, _, hset⟩ := o.split hi
  exact ⟨f1, f2, a, b, d, he, hset m Frag.emp f2 Ent.nul .rfl Frag.emp_le .rfl Frag.emp_dj trivial⟩
/-- The entries at some places (each at most once), and no others. -/
theorem Mem.pick {F : Fr} {w : World} : ∀ (is : List Nat) {L L' : List Ent}, (is.Nodup) → is.map (fun i => L[i]?) = L'.map some → Mem F L w → Mem F L' w := by
  intro is L L' nd hm h
  have key : ∀ (is : List Nat) (L L' R : List Ent), is.Nodup → is.map (fun i => L[i]?) = L'.map some → Mem F (R ++ L) w → Mem F (R ++ L') w := by
    intro is
    induction is with
    | nil =>
      intro L L' R _ hm h
      cases L' with
      | nil =>
        refine h.map fun m φ o => ?_
        obtain ⟨f1, f2, a, b, d, h1, h2⟩ := Own.append o
        exact Own.join a b d h1 trivial
      | cons _ _ => cases hm
    | cons i is ih =>
      intro L L' R nd hm h
      cases L' with
      | nil => cases hm
      | cons e L' =>
        simp only [List.map_cons, List.cons.injEq] at hm
        obtain ⟨hi, hr⟩ := hm
        have h2 : Mem F ((R ++ [e]) ++ L.set i Ent.nul) w := by
          refine h.map fun m φ o => ?_
          obtain ⟨f1, f2, a, b, d, h1, h2⟩ := Own.append o
          obtain ⟨g1, g2, a', b', d', he, _, hset⟩ := h2.split hi
          rw [List.append_assoc]
          exact Own.join a b d h1 ⟨g1, g2, a', b', d', he, hset m Frag.emp g2 Ent.nul .rfl Frag.emp_le .rfl Frag.emp_dj trivial⟩
        have h3 := ih (L.set i Ent.nul) L' (R ++ [e]) (List.nodup_cons.1 nd).2 (by
          rw [← hr]
          refine List.map_congr_left fun j hj => ?_
          have : i ≠ j := fun e => (List.nodup_cons.1 nd).1 (e ▸ hj)
          simp [List.getElem?_set_ne this]) h2
        simpa using h3
  exact key is L L' [] nd hm h
/-- The entries for a call: some that take nothing (they stay too), and some that are handed over (their places stay, with nothing). -/
theorem Mem.hand {F : Fr} {w : World} : ∀ (ps os : List Nat) {L Lp Lo : List Ent}, (∀ e ∈ Lp, e.Per) → os.Nodup → ps.map (fun i => L[i]?) = Lp.map some → os.map (fun i => L[i]?) = Lo.map some → Mem F L w →
    ∃ F' : Fr, Mem F' (Lp ++ Lo) w ∧ ∀ (L' : List Ent) (w' : World), Mem F' L' w' → Mem F (L' ++ os.foldl (fun l i => l.set i Ent.nul) L) w' := by
  intro ps os L Lp Lo hper nd hps hos h
  have h1 : Mem F (Lp ++ L) w := by
    refine h.map fun m φ o => ?_
    clear hos
    induction ps generalizing Lp with
    | nil => cases Lp with | nil => exact o | cons _ _ => cases hps
    | cons i ps ih =>
      cases Lp with
      | nil => cases hps
      | cons e Lp =>
        simp only [List.map_cons, List.cons.injEq] at hps
        obtain ⟨f, _, he⟩ := o.get hps.1
        exact ⟨Frag.emp, φ, Frag.emp_le, .rfl, Frag.emp_dj, hper e (by simp) _ _ he, ih (fun x hx => hper x (by simp [hx])) hps.2⟩
  have key : ∀ (os : List Nat) (L Lo R : List Ent), os.Nodup → os.map (fun i => L[i]?) = Lo.map some → Mem F (R ++ L) w → Mem F (R ++ Lo ++ os.foldl (fun l i => l.set i Ent.nul) L) w := by
    intro os
    induction os with
    | nil => intro L Lo R _ hm h; cases Lo with | nil => simpa using h | cons _ _ => cases hm
    | cons i os ih =>
      intro L Lo R nd hm h
      cases Lo with
      | nil => cases hm
      | cons e Lo =>
        simp only [List.map_cons, List.cons.injEq] at hm
        have h2 : Mem F ((R ++ [e]) ++ L.set i Ent.nul) w := by
          refine h.map fun m φ o => ?_
          obtain ⟨f1, f2, a, b, d, h1, h2⟩ := Own.append o
          obtain ⟨g1, g2, a', b', d', he, _, hset⟩ := h2.split hm.1
          rw [List.append_assoc]
          exact Own.join a b d h1 ⟨g1, g2, a', b', d', he, hset m Frag.emp g2 Ent.nul .rfl Frag.emp_le .rfl Frag.emp_dj trivial⟩
        have h3 := ih (L.set i Ent.nul) Lo (R ++ [e]) (List.nodup_cons.1 nd).2 (by
          rw [← hm.2]
          refine List.map_congr_left fun j hj => ?_
          have : i ≠ j := fun e => (List.nodup_cons.1 nd).1 (e ▸ hj)
          simp [List.getElem?_set_ne this]) h2
        simpa using h3
  have h2 := key os L Lo Lp nd hos h1
  exact h2.frame
end Go.SL
