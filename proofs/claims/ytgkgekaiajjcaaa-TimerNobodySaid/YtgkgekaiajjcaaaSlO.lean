/- What reads as data of a type is a value of a kind; and a contract said over the whole world. Each lemma has its own conditions. -/
import Derived.ChangeArms
import Derived.DataReads
import Derived.DataElems
import Derived.ProofKit
import Derived.OpenShut
import Derived.Below
import Derived.Test.YtgkgekaiajjcaaaSlX
namespace Go.SL
open Go Go.RowKit
set_option linter.unusedVariables false
set_option linter.unusedSimpArgs false
/-- Whatever reads as data of type t is a value of kind K. -/
def Opens {α : Type} (P : Program) (t : TypeId) (K : Kd α) : Prop :=
  K.n = P.cellsOf t ∧ ∀ (H : Type) (enc : TypeId × Value → H) (w : World) (base : Nat) (spare : Nat → Bool) (held : Bool) (fuel : Nat) (cs : List Value) (x : DataW H × List MemPlace),
    DataW.trod enc P w base spare held fuel t cs = some x → ∃ a : α, K.C (hp w) Frag.emp a cs
def OpensAt {α : Type} (P : Program) (fs : List (TypeId × Nat)) (K : Kd α) : Prop :=
  ∀ (H : Type) (enc : TypeId × Value → H) (w : World) (base : Nat) (spare : Nat → Bool) (held : Bool) (fuel : Nat) (cs : List Value), cs.length = K.n →
    (∀ f ∈ fs, ∃ x, DataW.trod enc P w base spare held fuel f.1 ((cs.drop f.2).take (P.cellsOf f.1)) = some x) → ∃ a : α, K.C (hp w) Frag.emp a cs
variable {P : Program}
theorem inr_lit {k : IntKind} {n : Int} (h : (Lit.int k n).wf = true) : InR k n := by
  simp only [Lit.wf, Bool.and_eq_true, decide_eq_true_eq] at h
  cases k <;> simp [InR, IntKind.wrap, IntKind.bits, IntKind.signed, IntKind.min, IntKind.max] at * <;> omega
theorem Opens.int {t : TypeId} {k : IntKind} (ht : P.underlying t = some (.int k)) (hc : P.cellsOf t = 1) : Opens P t (Kd.int k) := by
  refine ⟨hc.symm, fun H enc w base spare held fuel cs x h => ?_⟩
  obtain ⟨n, rfl, _, hw⟩ := DataW.trod_int ht h
  exact ⟨n, rfl, inr_lit hw⟩
theorem Opens.bool {t : TypeId} (ht : P.underlying t = some .bool) (hc : P.cellsOf t = 1) : Opens P t Kd.bool := by
  refine ⟨hc.symm, fun H enc w base spare held fuel cs x h => ?_⟩
  obtain ⟨n, rfl, _⟩ := DataW.trod_bool ht h
  exact ⟨n, rfl⟩
theorem mkS_of (s : ByteArray) : ∃ x : List Int, s = mkS x ∧ Bs x := by
  refine ⟨s.toList.map fun b => (b.toNat : Int), ?_, fun b hb => ?_⟩
  · have : s.toList.map (fun b => UInt8.ofNat ((b.toNat : Int)).toNat) = s.toList := by
      simp
    unfold mkS
    rw [List.map_map, show ((fun b : Int => UInt8.ofNat b.toNat) ∘ fun b : UInt8 => (b.toNat : Int)) = id from funext fun b => by simp, List.map_id]
    rw [ByteArray.toList_eq]
  · obtain ⟨c, _, rfl⟩ := List.mem_map.1 hb
    have := c.toNat_lt
    simp only [InR, IntKind.wrap, IntKind.bits, IntKind.signed]
    simp; omega
theorem Opens.string {t : TypeId} (ht : P.underlying t = some .string) (hc : P.cellsOf t = 1) : Opens P t Kd.str := by
  refine ⟨hc.symm, fun H enc w base spare held fuel cs x h => ?_⟩
  obtain ⟨n, rfl, _, hw⟩ := DataW.trod_string ht h
  obtain ⟨x, rfl, hx⟩ := mkS_of n
  exact ⟨x, rfl, hx⟩
theorem rows_of {α : Type} {K : Kd α} {m : Frag} {Z : Nat → Value → Prop} : ∀ (n : Nat), (∀ i, i < n → ∃ (z : α) (c : List Value), K.C m Frag.emp z c ∧ ∀ j u, c[j]? = some u → Z (i * K.n + j) u) → ∃ (l : List α) (cs : List Value), l.length = n ∧ Enc K m l cs ∧ ∀ j u, cs[j]? = some u → Z j u
  | 0, _ => ⟨[], [], rfl, Enc.nil, fun j u h => by simp at h⟩
  | n + 1, h => by
    obtain ⟨l, cs, hl, hE, hz⟩ := rows_of n (fun i hi => h i (by omega))
    obtain ⟨z, c, hc, hu⟩ := h n (by omega)
    refine ⟨l ++ [z], cs ++ c, by simp [hl], hE.append (Enc.one hc), fun j u hj => ?_⟩
    have hlen := hE.len
    by_cases hlt : j < cs.length
    · rw [List.getElem?_append_left hlt] at hj; exact hz j u hj
    · rw [List.getElem?_append_right (by omega)] at hj
      have := hu _ _ hj
      rw [hlen, hl] at this
      rw [show n * K.n + (j - n * K.n) = j by rw [hlen, hl] at hlt; omega] at this
      exact this
theorem hp_of_cell {w : World} {a : Addr} {c : Value} (h : w.cell? a = some c) (hs : a.spot = none) : ∃ fz, hp w a.block a.off = some (.cell c fz) := by
  unfold World.cell? at h
  unfold hp
  split at h
  · rename_i c0 t0 fr0 hb
    rw [hb]
    obtain ⟨lo, hi⟩ := fr0
    rw [hs] at h
    dsimp only at h ⊢
    simp at h
    rw [h]
    exact ⟨_, rfl⟩
  · cases h
theorem Opens.slice {α : Type} {t e : TypeId} {K : Kd α} (ht : P.underlying t = some (.slice e)) (hc : P.cellsOf t = 1) (h : Opens P e K) : Opens P t (Kd.sl K) := by
  refine ⟨hc.symm, fun H enc w base spare held fuel cs x hx => ?_⟩
  rcases DataW.trod_slice ht hx with ⟨rfl, _⟩ | ⟨a, len, cap, elems, rest, n, _, rfl, _, hb, hl, hm, hn, he, _⟩
  · exact ⟨[], none, 0, rfl, ⟨by simp, by simp⟩, [], Enc.nil, fun j c hj => by simp at hj⟩
  · obtain ⟨l, ds, hll, hE, hz⟩ := rows_of (K := K) (m := hp w) (Z := fun j u => w.cell? (a.add j) = some u) len (fun i hi => by
      have h1 := he i hi
      rw [List.getElem?_eq_getElem (by omega)] at h1
      obtain ⟨c, hcs, htr⟩ := Option.bind_eq_some_iff.1 h1
      obtain ⟨z, hz⟩ := h.2 H enc w base spare held n c _ htr
      refine ⟨z, c, hz, fun j u hu => ?_⟩
      obtain ⟨hlen, _, hcell⟩ := World.cells?_some hcs
      have hj : j < c.length := (List.getElem?_eq_some_iff.1 hu).1
      have hjc := hcell j (by omega)
      rw [hu] at hjc
      rw [h.1]
      rw [← hjc, Addr.add_add])
    refine ⟨l, some a, cap, by rw [hll], ⟨by omega, hm⟩, ds, hE, fun j c hj => ?_⟩
    have hcell := hz j c hj
    have hj0 : 0 < ds.length := Nat.lt_of_le_of_lt (Nat.zero_le j) (List.getElem?_eq_some_iff.1 hj).1
    have hcell0 := hz 0 _ (List.getElem?_eq_getElem hj0)
    obtain ⟨b, o, sp⟩ := a
    have hsp : sp = none := by
      cases sp with
      | none => rfl
      | some q =>
        exfalso
        unfold World.cell? at hcell0
        split at hcell0
        · simp [Addr.add] at hcell0
        · cases hcell0
    subst hsp
    rw [addr_add] at hcell
    obtain ⟨fz, hfz⟩ := hp_of_cell hcell rfl
    exact ⟨b, o, fz, rfl, hfz⟩
theorem OpensAt.one {α : Type} {t : TypeId} {K : Kd α} (h : Opens P t K) : OpensAt P [(t, 0)] (Kd.last K) := by
  intro H enc w base spare held fuel cs hcs hf
  obtain ⟨x, hx⟩ := hf (t, 0) (by simp)
  simp only [List.drop_zero] at hx
  have hcs : cs.length = K.n := hcs
  rw [List.take_of_length_le (by rw [hcs, h.1]; exact Nat.le_refl _)] at hx
  exact h.2 H enc w base spare held fuel cs x hx
theorem OpensAt.cons {α β : Type} {t : TypeId} {K : Kd α} {fs fs' : List (TypeId × Nat)} {K' : Kd β} (h : Opens P t K) (h' : OpensAt P fs' K') (hfs : fs = (t, 0) :: fs'.map (fun f => (f.1, f.2 + K.n))) :
    OpensAt P fs (Kd.pair K K') := by
  subst hfs
  intro H enc w base spare held fuel cs hcs hf
  have hcs : cs.length = K.n + K'.n := hcs
  obtain ⟨x, hx⟩ := hf (t, 0) (by simp)
  simp only [List.drop_zero] at hx
  rw [← h.1] at hx
  obtain ⟨a, ha⟩ := h.2 H enc w base spare held fuel _ x hx
  obtain ⟨b, hb⟩ := h' H enc w base spare held fuel (cs.drop K.n) (by rw [List.length_drop]; omega) (fun f hfm => by
    obtain ⟨y, hy⟩ := hf (f.1, f.2 + K.n) (by simp; exact .inr hfm)
    refine ⟨y, ?_⟩
    simp only [List.drop_drop]
    rw [Nat.add_comm K.n f.2]
    exact hy)
  exact ⟨(a, b), cs.take K.n, cs.drop K.n, Frag.emp, Frag.emp, (List.take_append_drop _ _).symm, .rfl, .rfl, Frag.emp_dj, ha, hb⟩
theorem Opens.struct {α β : Type} {t : TypeId} {fs : Array Field} (L : List (TypeId × Nat)) {K : Kd α} (f : β → α) (g : α → β) (hfg : ∀ a, f (g a) = a) (ht : P.underlying t = some (.struct fs)) (hL : fs.toList.map (fun x => (x.type, x.offset)) = L) (hc : K.n = P.cellsOf t) (h : OpensAt P L K) :
    Opens P t (Kd.iso K f) := by
  refine ⟨hc, fun H enc w base spare held fuel cs x hx => ?_⟩
  obtain ⟨xs, n, _, _, hlen, hxl, hget⟩ := DataW.trod_struct ht hx
  obtain ⟨a, ha⟩ := h H enc w base spare held n cs (by rw [hlen, hc]) (fun p hp => by
    rw [← hL] at hp
    obtain ⟨fld, hfm, rfl⟩ := List.mem_map.1 hp
    obtain ⟨i, hi, rfl⟩ := List.getElem_of_mem hfm
    have hi' : i < fs.size := by simpa using hi
    have := hget i fs[i] (Array.getElem?_eq_getElem hi')
    rw [List.getElem?_eq_getElem (show i < xs.length by omega)] at this
    exact ⟨_, by simpa using this⟩)
  exact ⟨g a, by show K.C _ _ (f (g a)) cs; rw [hfg]; exact ha⟩
theorem Opens.trod {α : Type} {t : TypeId} {K : Kd α} (h : Opens P t K) {H : Type} {enc : TypeId × Value → H} {w : World} {base : Nat} {spare : Nat → Bool} {held : Bool} {v : Value} {x : DataW H} {ps : List MemPlace} (hv : DataW.Trod enc P w base spare held t v x ps) : ∃ a : α, K.C (hp w) Frag.emp a v.cells.toList := by
  obtain ⟨fuel, hf⟩ := hv
  exact h.2 H enc w base spare held fuel _ _ hf
/-! ### A contract over the whole world -/
theorem below_of {w0 w : World} (h : (hp w0).le (hp w)) (k : Ok w0 w) : Below w0.heap.size w0 w := by
  refine ⟨k.os, k.tape, k.output, k.size, fun b hb => ?_⟩
  have hs := k.shp b hb
  have hb' : b < w.heap.size := Nat.lt_of_lt_of_le hb k.size
  rw [Array.getElem?_eq_getElem hb, Array.getElem?_eq_getElem hb'] at hs ⊢
  congr 1
  have hl := h b
  unfold hp at hl
  simp only [Array.getElem?_eq_getElem hb, Array.getElem?_eq_getElem hb'] at hl
  generalize w0.heap[b] = x at *
  generalize w.heap[b] = y at *
  cases x with
  | cells c t fr =>
    obtain ⟨lo, hi⟩ := fr
    cases y with
    | cells c' t' fr' =>
      obtain ⟨lo', hi'⟩ := fr'
      simp only [shp, Option.some.injEq, Prod.mk.injEq] at hs
      obtain ⟨h1, rfl, rfl, rfl⟩ := hs
      congr 1
      apply Array.ext h1
      intro i hi1 hi2
      have := hl i
      simp only [Array.getElem?_eq_getElem hi1, Array.getElem?_eq_getElem hi2, Option.map_some] at this
      have := this _ rfl
      simpa using this
    | _ => simp [shp] at hs
  | _ =>
    have := hl 0
    simp only [if_true] at this
    have := this _ rfl
    cases y with
    | cells c' t' fr' => simp [shp] at hs
    | _ => simp at this <;> first | exact this.symm | (obtain h := this; simp_all) | trivial
theorem Spc.calls {σ : Type} {f : FuncId} {args : List Value} {Lp : List Ent} {ret : σ → Value} {out : σ → List Ent} (h : Spc P f args Lp [] ret out) (W : World) (hL : Own Lp (hp W) Frag.emp) : Calls P f args.toArray W fun e w' => ∃ s, e = .returned (ret s) ∧ Below W.heap.size W w' := by
  refine (h.run ⟨Frag.emp, hp W, W⟩ W ⟨hp W, Frag.emp, by simpa using hL, ⟨Frag.emp_dj, Frag.emp_dj, Frag.dj_emp, Frag.emp_le, .rfl, Frag.emp_le⟩, .rfl, Ok.refl W⟩).mono ?_
  rintro e w' ⟨s, he, m, φ, _, hh, hp', hk⟩
  exact ⟨s, he, below_of (hp'.trans hh.l2) hk⟩
theorem glob {W : World} {v : Value} (h : W.cell? ⟨0, 0, none⟩ = some v) (hv : v.oneCell' = true := by rfl) : (Pfl (Kd.eq v) 0 0 ()).H (hp W) Frag.emp := by
  obtain ⟨fz, hfz⟩ := hp_of_cell h rfl
  refine ⟨[v], fun j c hj => ?_, rfl, hv⟩
  cases j with
  | zero => simp at hj; subst hj; exact ⟨fz, hfz⟩
  | succ j => simp at hj
theorem own_nil {m : Frag} : Own [] m Frag.emp := trivial
theorem own_cons {m : Frag} {e : Ent} {L : List Ent} (h : e.H m Frag.emp) (k : Own L m Frag.emp) : Own (e :: L) m Frag.emp := ⟨Frag.emp, Frag.emp, .rfl, .rfl, Frag.emp_dj, h, k⟩
/-! ### What is known of what a value says -/
def Gd {α : Type} (K : Kd α) (G : α → Prop) : Prop := ∀ m φ x cs, K.C m φ x cs → G x
theorem gd_int {k : IntKind} : Gd (Kd.int k) (InR k) := fun _ _ _ _ h => h.2
theorem gd_bool : Gd Kd.bool (fun _ => True) := fun _ _ _ _ _ => trivial
theorem gd_str : Gd Kd.str Bs := fun _ _ _ _ h => h.2
theorem gd_pair {α β : Type} {A : Kd α} {B : Kd β} {G : α → Prop} {G' : β → Prop} (a : Gd A G) (b : Gd B G') : Gd (Kd.pair A B) (fun x => G x.1 ∧ G' x.2) := fun m φ x cs ⟨c1, c2, f1, f2, _, _, _, _, h1, h2⟩ => ⟨a _ _ _ _ h1, b _ _ _ _ h2⟩
theorem gd_last {α : Type} {A : Kd α} {G : α → Prop} (a : Gd A G) : Gd (Kd.last A) G := fun m φ x cs h => a m φ x cs h
theorem gd_iso {α β : Type} {A : Kd α} {g : β → α} {G : α → Prop} (a : Gd A G) : Gd (Kd.iso A g) (fun x => G (g x)) := fun m φ x cs h => a _ _ _ _ h
theorem gd_sl {α : Type} {K : Kd α} {G : α → Prop} (a : Gd K G) : Gd (Kd.sl K) (fun xs => xs.length ≤ maxLen ∧ ∀ z ∈ xs, G z) := fun m φ x cs ⟨ad, cap, _, h, ds, hE, _⟩ => ⟨by omega, fun z hz => by
  obtain ⟨i, hi, rfl⟩ := List.getElem_of_mem hz
  exact a _ _ _ _ (hE.at_ i _ (List.getElem?_eq_getElem hi))⟩
end Go.SL
