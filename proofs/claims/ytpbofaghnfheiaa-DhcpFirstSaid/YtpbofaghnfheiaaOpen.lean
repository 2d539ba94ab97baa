/- How data of a type read as values of the print's kinds: plain lemmas, each with its own conditions. -/
import Derived.ChangeArms
import Derived.DataReads
import Derived.DataElems
import Derived.ProofKit
import Derived.OpenShut
import Derived.Test.YtpbofaghnfheiaaWWords
import Derived.Test.YtpbofaghnfheiaaWShare
import Derived.Test.YtpbofaghnfheiaaWMore
namespace Go.Proofs.Ytpbofaghnfheiaa.Open
open Go Go.RowKit Go.Proofs.YtpbofaghnfheiaaW.PrintWords
set_option linter.unusedVariables false
set_option linter.unusedSimpArgs false
/-- Whatever reads as data of type t is a value of kind d that G holds of. -/
def Opens {α : Type} (P : Program) (t : TypeId) (d : Kd α) (G : α → Prop) : Prop :=
  d.sz = P.cellsOf t ∧ ∀ (H : Type) (enc : TypeId × Value → H) (w : World) (base : Nat) (spare : Nat → Bool) (held : Bool) (fuel : Nat) (cs : List Value) (x : DataW H × List MemPlace),
    DataW.trod enc P w base spare held fuel t cs = some x → ∃ a : α, d.K w a cs ∧ G a
def OpensAt {α : Type} (P : Program) (fs : List (TypeId × Nat)) (d : Kd α) (G : α → Prop) : Prop :=
  ∀ (H : Type) (enc : TypeId × Value → H) (w : World) (base : Nat) (spare : Nat → Bool) (held : Bool) (fuel : Nat) (cs : List Value), cs.length = d.sz →
    (∀ f ∈ fs, ∃ x, DataW.trod enc P w base spare held fuel f.1 ((cs.drop f.2).take (P.cellsOf f.1)) = some x) → ∃ a : α, d.K w a cs ∧ G a
variable {P : Program}
theorem Opens.int {t : TypeId} {k : IntKind} (ht : P.underlying t = some (.int k)) (hc : P.cellsOf t = 1) : Opens P t (Kd.int k) (fun n => (Lit.int k n).wf = true) := by
  refine ⟨hc.symm, fun H enc w base spare held fuel cs x h => ?_⟩
  obtain ⟨n, rfl, _, hw⟩ := DataW.trod_int ht h
  exact ⟨n, rfl, hw⟩
theorem Opens.bool {t : TypeId} (ht : P.underlying t = some .bool) (hc : P.cellsOf t = 1) : Opens P t Kd.bool (fun _ => True) := by
  refine ⟨hc.symm, fun H enc w base spare held fuel cs x h => ?_⟩
  obtain ⟨n, rfl, _⟩ := DataW.trod_bool ht h
  exact ⟨n, rfl, trivial⟩
theorem Opens.string {t : TypeId} (ht : P.underlying t = some .string) (hc : P.cellsOf t = 1) : Opens P t Kd.string (fun s => s.size ≤ maxLen) := by
  refine ⟨hc.symm, fun H enc w base spare held fuel cs x h => ?_⟩
  obtain ⟨n, rfl, _, hw⟩ := DataW.trod_string ht h
  exact ⟨n, rfl, hw⟩
theorem list_of {α : Type} {Q : Nat → α → Prop} : ∀ (n : Nat), (∀ i, i < n → ∃ a, Q i a) → ∃ l : List α, l.length = n ∧ ∀ i a, l[i]? = some a → Q i a
  | 0, _ => ⟨[], rfl, fun i a h => by simp at h⟩
  | n + 1, h => by
    obtain ⟨l, hl, hq⟩ := list_of n (fun i hi => h i (by omega))
    obtain ⟨a, ha⟩ := h n (by omega)
    refine ⟨l ++ [a], by simp [hl], fun i b hb => ?_⟩
    by_cases hi : i < n
    · rw [List.getElem?_append_left (by omega)] at hb
      exact hq i b hb
    · rw [List.getElem?_append_right (by omega)] at hb
      have : i - l.length = 0 := by
        rcases Nat.eq_zero_or_pos (i - l.length) with h | h
        · exact h
        · rw [List.getElem?_eq_none (by simp; omega)] at hb; simp at hb
      rw [this] at hb
      simp at hb
      subst hb
      rwa [show i = n by omega]
theorem Opens.slice {α : Type} {t e : TypeId} {d : Kd α} {G : α → Prop} (ht : P.underlying t = some (.slice e)) (hc : P.cellsOf t = 1) (h : Opens P e d G) : Opens P t (Kd.slice e d) (fun l => l.length ≤ maxLen ∧ ∀ x ∈ l, G x) := by
  refine ⟨hc.symm, fun H enc w base spare held fuel cs x hx => ?_⟩
  rcases DataW.trod_slice ht hx with ⟨rfl, _⟩ | ⟨a, len, cap, elems, rest, n, _, rfl, _, hb, hl, hm, hn, he, _⟩
  · exact ⟨[], ⟨none, 0, rfl, Nat.le_refl _, Kd.C_nil _ _⟩, by simp, fun x hx => by simp at hx⟩
  · have hel : ∀ i, i < len → ∃ z : α, (∃ c : List Value, c.length = d.sz ∧ d.K w z c ∧ ∀ j u, c[j]? = some u → w.cell? (a.add (i * d.sz + j)) = some u) ∧ G z := by
      intro i hi
      have h1 := he i hi
      rw [List.getElem?_eq_getElem (by omega)] at h1
      obtain ⟨c, hcs, htr⟩ := Option.bind_eq_some_iff.1 h1
      obtain ⟨z, hz, hg⟩ := h.2 H enc w base spare held n c _ htr
      refine ⟨z, ⟨c, d.K_len hz, hz, fun j u hu => ?_⟩, hg⟩
      obtain ⟨hlen, _, hcell⟩ := World.cells?_some hcs
      have hj : j < c.length := (List.getElem?_eq_some_iff.1 hu).1
      have hjc := hcell j (by omega)
      rw [hu] at hjc
      rw [h.1]
      rw [← hjc, Addr.add_add]
    obtain ⟨l, hll, hq⟩ := list_of len hel
    refine ⟨l, ⟨some a, cap, by rw [hll], by omega, hll.symm ▸ ⟨hll, ?_, fun _ => ⟨a, rfl, fun j p hp => (hq j p hp).1⟩⟩⟩, ?_, fun x hx => ?_⟩
    · unfold maxLen at hm; omega
    · omega
    · obtain ⟨i, hi, rfl⟩ := List.getElem_of_mem hx
      exact (hq i _ (List.getElem?_eq_getElem hi)).2
theorem OpensAt.one {α : Type} {t : TypeId} {d : Kd α} {G : α → Prop} (h : Opens P t d G) : OpensAt P [(t, 0)] d G := by
  intro H enc w base spare held fuel cs hcs hf
  obtain ⟨x, hx⟩ := hf (t, 0) (by simp)
  simp only [List.drop_zero] at hx
  rw [List.take_of_length_le (by rw [hcs, h.1]; exact Nat.le_refl _)] at hx
  exact h.2 H enc w base spare held fuel cs x hx
theorem OpensAt.cons {α β : Type} {t : TypeId} {d : Kd α} {G : α → Prop} {fs fs' : List (TypeId × Nat)} {d' : Kd β} {G' : β → Prop} (h : Opens P t d G) (h' : OpensAt P fs' d' G') (hfs : fs = (t, 0) :: fs'.map (fun f => (f.1, f.2 + d.sz))) :
    OpensAt P fs (Kd.pair d d') (fun x => G x.1 ∧ G' x.2) := by
  subst hfs
  intro H enc w base spare held fuel cs hcs hf
  have hcs : cs.length = d.sz + d'.sz := hcs
  obtain ⟨x, hx⟩ := hf (t, 0) (by simp)
  simp only [List.drop_zero] at hx
  rw [← h.1] at hx
  obtain ⟨a, ha, ga⟩ := h.2 H enc w base spare held fuel _ x hx
  obtain ⟨b, hb, gb⟩ := h' H enc w base spare held fuel (cs.drop d.sz) (by rw [List.length_drop]; omega) (fun f hfm => by
    obtain ⟨y, hy⟩ := hf (f.1, f.2 + d.sz) (by simp; exact .inr hfm)
    refine ⟨y, ?_⟩
    simp only [List.drop_drop]
    rw [Nat.add_comm d.sz f.2]
    exact hy)
  exact ⟨(a, b), ⟨cs.take d.sz, cs.drop d.sz, (List.take_append_drop _ _).symm, ha, hb⟩, ga, gb⟩
theorem Opens.struct {α β : Type} {t : TypeId} {fs : Array Field} (L : List (TypeId × Nat)) {d : Kd α} {G : α → Prop} (f : β → α) (g : α → β) (hfg : ∀ a, f (g a) = a) (ht : P.underlying t = some (.struct fs)) (hL : fs.toList.map (fun x => (x.type, x.offset)) = L) (hc : d.sz = P.cellsOf t) (h : OpensAt P L d G) :
    Opens P t (Kd.iso d f) (fun x => G (f x)) := by
  refine ⟨hc, fun H enc w base spare held fuel cs x hx => ?_⟩
  obtain ⟨xs, n, _, _, hlen, hxl, hget⟩ := DataW.trod_struct ht hx
  obtain ⟨a, ha, ga⟩ := h H enc w base spare held n cs (by rw [hlen, hc]) (fun p hp => by
    rw [← hL] at hp
    obtain ⟨fld, hfm, rfl⟩ := List.mem_map.1 hp
    obtain ⟨i, hi, rfl⟩ := List.getElem_of_mem hfm
    have hi' : i < fs.size := by simpa using hi
    have := hget i fs[i] (Array.getElem?_eq_getElem hi')
    rw [List.getElem?_eq_getElem (show i < xs.length by omega)] at this
    exact ⟨_, by simpa using this⟩)
  exact ⟨g a, by show d.K w (f (g a)) cs; rw [hfg]; exact ha, by show G (f (g a)); rw [hfg]; exact ga⟩
theorem Opens.weaken {α : Type} {t : TypeId} {d : Kd α} {G G' : α → Prop} (h : Opens P t d G) (hg : ∀ a, G a → G' a) : Opens P t d G' :=
  ⟨h.1, fun H enc w base spare held fuel cs x hx => by obtain ⟨a, ha, ga⟩ := h.2 H enc w base spare held fuel cs x hx; exact ⟨a, ha, hg a ga⟩⟩
theorem Opens.trod {α : Type} {t : TypeId} {d : Kd α} {G : α → Prop} (h : Opens P t d G) {H : Type} {enc : TypeId × Value → H} {w : World} {base : Nat} {spare : Nat → Bool} {held : Bool} {v : Value} {x : DataW H} {ps : List MemPlace} (hv : DataW.Trod enc P w base spare held t v x ps) : ∃ a : α, d.K w a v.cells.toList ∧ G a := by
  obtain ⟨fuel, hf⟩ := hv
  exact h.2 H enc w base spare held fuel _ _ hf
end Go.Proofs.Ytpbofaghnfheiaa.Open
