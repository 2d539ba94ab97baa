/- Kinds of values: which cells of memory say which plain thing; each lemma states its own conditions. -/
import Derived.Test.YtgkgekaiajjcaaaSlB
namespace Go.SL
open Go Go.RowKit
set_option linter.unusedVariables false
set_option linter.unusedSimpArgs false

structure Kd (α : Type) where
  n : Nat
  agg : Bool
  C : Frag → Frag → α → List Value → Prop
  len : ∀ {m φ x cs}, C m φ x cs → cs.length = n
  one : ∀ {m φ x cs}, C m φ x cs → ∀ c ∈ cs, c.oneCell' = true
  mono : ∀ {m m' φ φ' x cs}, Frag.le m m' → Frag.le φ φ' → C m φ x cs → C m' φ' x cs
  sgl : agg = false → n = 1
def pack : Bool → List Value → Value
  | true, cs => .agg cs.toArray
  | false, cs => cs.headD undef
def Kd.V {α : Type} (K : Kd α) (m φ : Frag) (x : α) (v : Value) : Prop := ∃ cs, K.C m φ x cs ∧ v = pack K.agg cs
/-- Value v says x. -/
def Val {α : Type} (K : Kd α) (v : Value) (x : α) : Ent := ⟨fun m φ => K.V m φ x v, fun a b ⟨cs, h, e⟩ => ⟨cs, K.mono a b h, e⟩⟩
/-- The cells of block b from o on, the caller's own, hold these values. -/
def Cells (b o : Nat) (cs : List Value) : Ent := ⟨fun m φ => ∀ (j : Nat) (c : Value), cs[j]? = some c → φ b (o + j) = some (.cell c false), fun a b h j c hj => b _ _ _ (h j c hj)⟩
/-- The cells of block b from o on, the caller's own, say x. -/
def Fld {α : Type} (K : Kd α) (b o : Nat) (x : α) : Ent := ⟨fun m φ => ∃ (cs : List Value) (f1 f2 : Frag), f1.le φ ∧ f2.le φ ∧ f1.dj f2 ∧ (∀ (j : Nat) (c : Value), cs[j]? = some c → f1 b (o + j) = some (.cell c false)) ∧ K.C m f2 x cs,
  fun a b ⟨cs, f1, f2, h1, h2, d, h, k⟩ => ⟨cs, f1, f2, h1.trans b, h2.trans b, d, h, K.mono a .rfl k⟩⟩
def Kd.Per {α : Type} (K : Kd α) : Prop := ∀ m φ x cs, K.C m φ x cs → K.C m Frag.emp x cs
theorem Val.per {α : Type} {K : Kd α} (hK : K.Per) {v : Value} {x : α} : (Val K v x).Per := fun m φ ⟨cs, h, e⟩ => ⟨cs, hK _ _ _ _ h, e⟩

def InR (k : IntKind) (x : Int) : Prop := k.wrap x = x
theorem wrap_in (k : IntKind) (x : Int) : InR k (k.wrap x) := by
  unfold InR
  cases k <;> simp [IntKind.wrap, IntKind.bits, IntKind.signed] <;> omega
def Kd.int (k : IntKind) : Kd Int where
  n := 1
  agg := false
  C := fun _ _ x cs => cs = [.int k x] ∧ InR k x
  len := fun h => by rw [h.1]; rfl
  one := fun h c hc => by rw [h.1] at hc; simp at hc; subst hc; rfl
  mono := fun _ _ h => h
  sgl := fun _ => rfl
def Kd.bool : Kd Bool where
  n := 1
  agg := false
  C := fun _ _ x cs => cs = [.bool x]
  len := fun h => by rw [h]; rfl
  one := fun h c hc => by rw [h] at hc; simp at hc; subst hc; rfl
  mono := fun _ _ h => h
  sgl := fun _ => rfl
/-- The bytes of a string, as numbers; and the string of such. -/
def mkS (x : List Int) : ByteArray := ⟨(x.map fun b => UInt8.ofNat b.toNat).toArray⟩
def Bs (x : List Int) : Prop := ∀ b ∈ x, InR .u8 b
def Kd.str : Kd (List Int) where
  n := 1
  agg := false
  C := fun _ _ x cs => cs = [.string (mkS x)] ∧ Bs x
  len := fun h => by rw [h.1]; rfl
  one := fun h c hc => by rw [h.1] at hc; simp at hc; subst hc; rfl
  mono := fun _ _ h => h
  sgl := fun _ => rfl
/-- A cell that is known for what it is. -/
def Kd.eq (u : Value) : Kd Unit where
  n := 1
  agg := false
  C := fun _ _ _ cs => cs = [u] ∧ u.oneCell' = true
  len := fun h => by rw [h.1]; rfl
  one := fun h c hc => by rw [h.1] at hc; simp at hc; subst hc; exact h.2
  mono := fun _ _ h => h
  sgl := fun _ => rfl
theorem Per_int {k : IntKind} : (Kd.int k).Per := fun _ _ _ _ h => h
theorem Per_bool : Kd.bool.Per := fun _ _ _ _ h => h
theorem Per_str : Kd.str.Per := fun _ _ _ _ h => h
theorem Per_eq {u} : (Kd.eq u).Per := fun _ _ _ _ h => h
/-- Cell k from address a on. -/
def AtF (f : Frag) (a : Option Addr) (k : Nat) (c : Value) : Prop := ∃ b o fz, a = some ⟨b, o, none⟩ ∧ f b (o + k) = some (.cell c fz)
theorem AtF.mono {f g : Frag} (h : f.le g) {a : Option Addr} {k : Nat} {c : Value} : AtF f a k c → AtF g a k c := fun ⟨b, o, fz, e, x⟩ => ⟨b, o, fz, e, h _ _ _ x⟩
/-- The cells of some elements behind one another. -/
structure Enc {α : Type} (K : Kd α) (m : Frag) (xs : List α) (cs : List Value) : Prop where
  len : cs.length = xs.length * K.n
  at_ : ∀ (i : Nat) (x : α), xs[i]? = some x → K.C m Frag.emp x ((cs.drop (i * K.n)).take K.n)
theorem Enc.mono {α : Type} {K : Kd α} {m m' : Frag} (hm : m.le m') {xs : List α} {cs : List Value} (h : Enc K m xs cs) : Enc K m' xs cs := ⟨h.len, fun i x hx => K.mono hm .rfl (h.at_ i x hx)⟩
/-- The elements of a slice. -/
def Row {α : Type} (K : Kd α) (m f : Frag) (a : Option Addr) (xs : List α) : Prop := ∃ cs, Enc K m xs cs ∧ ∀ (j : Nat) (c : Value), cs[j]? = some c → AtF f a j c
theorem Row.mono {α : Type} {K : Kd α} {m m' f f' : Frag} (hm : m.le m') (hf : f.le f') {a : Option Addr} {xs : List α} : Row K m f a xs → Row K m' f' a xs := fun ⟨cs, h1, h2⟩ =>
  ⟨cs, h1.mono hm, fun j c hj => (h2 j c hj).mono hf⟩
/-- A slice that nobody turns any more. -/
def Kd.sl {α : Type} (K : Kd α) : Kd (List α) where
  n := 1
  agg := false
  C := fun m _ xs cs => ∃ a cap, cs = [.slice a xs.length cap] ∧ (xs.length ≤ cap ∧ cap ≤ maxLen) ∧ Row K m m a xs
  len := fun ⟨a, cap, h, _⟩ => by rw [h]; rfl
  one := fun ⟨a, cap, h, _⟩ c hc => by rw [h] at hc; simp at hc; subst hc; rfl
  mono := fun hm _ ⟨a, cap, h, h2, h3⟩ => ⟨a, cap, h, h2, h3.mono hm hm⟩
  sgl := fun _ => rfl
theorem Per_sl {α : Type} {K : Kd α} : (Kd.sl K).Per := fun _ _ _ _ h => h
/-- Memory of one's own: some elements, and the room behind them. -/
def ORow {α : Type} (K : Kd α) (m φ : Frag) (a : Option Addr) (cap : Nat) (xs : List α) : Prop :=
  (a = none ∧ cap = 0 ∧ xs = []) ∨ ∃ (b o : Nat) (all : List Value), a = some ⟨b, o, none⟩ ∧ all.length = cap * K.n ∧ (∀ (j : Nat) (c : Value), all[j]? = some c → φ b (o + j) = some (.cell c false)) ∧ Enc K m xs (all.take (xs.length * K.n))
theorem ORow.mono {α : Type} {K : Kd α} {m m' f f' : Frag} (hm : m.le m') (hf : f.le f') {a : Option Addr} {cap : Nat} {xs : List α} : ORow K m f a cap xs → ORow K m' f' a cap xs
  | .inl h => .inl h
  | .inr ⟨b, o, all, h1, h2, h3, h4⟩ => .inr ⟨b, o, all, h1, h2, fun j c hj => hf _ _ _ (h3 j c hj), h4.mono hm⟩
theorem Enc.nil {α : Type} {K : Kd α} {m : Frag} : Enc K m [] [] := ⟨by simp, fun i x h => by simp at h⟩
theorem ORow.row {α : Type} {K : Kd α} {m f : Frag} {a : Option Addr} {cap : Nat} {xs : List α} : ORow K m f a cap xs → Row K m f a xs
  | .inl ⟨_, _, h⟩ => ⟨[], h ▸ Enc.nil, fun j c h => by simp at h⟩
  | .inr ⟨b, o, all, h1, h2, h3, h4⟩ => ⟨_, h4, fun j c hj => ⟨b, o, false, h1, h3 j c (by
      obtain ⟨hlt, he⟩ := List.getElem?_eq_some_iff.1 hj
      rw [List.getElem?_eq_some_iff]
      rw [List.getElem_take] at he
      exact ⟨_, he⟩)⟩⟩
/-- A slice of one's own, with the room behind it. -/
def Kd.osl {α : Type} (K : Kd α) : Kd (List α) where
  n := 1
  agg := false
  C := fun m φ xs cs => ∃ a cap, cs = [.slice a xs.length cap] ∧ xs.length ≤ cap ∧ cap ≤ maxLen ∧ ORow K m φ a cap xs
  len := fun ⟨a, cap, h, _⟩ => by rw [h]; rfl
  one := fun ⟨a, cap, h, _⟩ c hc => by rw [h] at hc; simp at hc; subst hc; rfl
  mono := fun hm hf ⟨a, cap, h, h2, h3, h4⟩ => ⟨a, cap, h, h2, h3, h4.mono hm hf⟩
  sgl := fun _ => rfl
/-- Two things behind one another (the fields of a struct). -/
def Kd.pair {α β : Type} (A : Kd α) (B : Kd β) : Kd (α × β) where
  n := A.n + B.n
  agg := true
  C := fun m φ x cs => ∃ c1 c2 f1 f2, cs = c1 ++ c2 ∧ f1.le φ ∧ f2.le φ ∧ f1.dj f2 ∧ A.C m f1 x.1 c1 ∧ B.C m f2 x.2 c2
  len := fun ⟨c1, c2, f1, f2, h, _, _, _, h1, h2⟩ => by rw [h, List.length_append, A.len h1, B.len h2]
  one := fun ⟨c1, c2, f1, f2, h, _, _, _, h1, h2⟩ c hc => by
    rw [h, List.mem_append] at hc
    exact hc.elim (A.one h1 c) (B.one h2 c)
  mono := fun hm hf ⟨c1, c2, f1, f2, h, a, b, d, h1, h2⟩ => ⟨c1, c2, f1, f2, h, a.trans hf, b.trans hf, d, A.mono hm .rfl h1, B.mono hm .rfl h2⟩
  sgl := fun h => by cases h
theorem Per_pair {α β : Type} {A : Kd α} {B : Kd β} (a : A.Per) (b : B.Per) : (Kd.pair A B).Per := fun m φ x cs ⟨c1, c2, f1, f2, h, _, _, _, h1, h2⟩ =>
  ⟨c1, c2, Frag.emp, Frag.emp, h, .rfl, .rfl, Frag.emp_dj, a _ _ _ _ h1, b _ _ _ _ h2⟩
/-- One thing, as a struct of one field. -/
def Kd.last {α : Type} (A : Kd α) : Kd α := { A with agg := true, sgl := fun h => by cases h }
theorem Per_last {α : Type} {A : Kd α} (a : A.Per) : (Kd.last A).Per := a
/-- A struct without fields. -/
def Kd.unit : Kd Unit where
  n := 0
  agg := true
  C := fun _ _ _ cs => cs = []
  len := fun h => by rw [h]; rfl
  one := fun h c hc => by rw [h] at hc; cases hc
  mono := fun _ _ h => h
  sgl := fun h => by cases h
/-- A struct's own type for its fields. -/
def Kd.iso {α β : Type} (A : Kd α) (g : β → α) : Kd β where
  n := A.n
  agg := A.agg
  C := fun m φ x cs => A.C m φ (g x) cs
  len := fun h => A.len h
  one := fun h => A.one h
  mono := fun hm hf h => A.mono hm hf h
  sgl := A.sgl
theorem Per_iso {α β : Type} {A : Kd α} {g : β → α} (a : A.Per) : (Kd.iso A g).Per := fun m φ x cs h => a _ _ _ _ h
/-- An array of some things. -/
def Kd.arr {α : Type} (K : Kd α) (len : Nat) : Kd (List α) where
  n := len * K.n
  agg := true
  C := fun m φ xs cs => xs.length = len ∧ cs.length = len * K.n ∧ (∀ c ∈ cs, c.oneCell' = true) ∧ ∀ (i : Nat) (x : α), xs[i]? = some x → K.C m Frag.emp x ((cs.drop (i * K.n)).take K.n)
  len := fun h => h.2.1
  one := fun h => h.2.2.1
  mono := fun hm hf ⟨h1, h2, h3, h4⟩ => ⟨h1, h2, h3, fun i x hx => K.mono hm .rfl (h4 i x hx)⟩
  sgl := fun h => by cases h
theorem Per_arr {α : Type} {K : Kd α} {len : Nat} : (Kd.arr K len).Per := fun m φ x cs h => h

/-! What a value of a kind is -/
theorem Val_int {k : IntKind} {m φ : Frag} {v : Value} {x : Int} (h : (Val (Kd.int k) v x).H m φ) : v = .int k x ∧ InR k x := by
  obtain ⟨cs, ⟨rfl, h2⟩, rfl⟩ := h; exact ⟨rfl, h2⟩
theorem Val_bool {m φ : Frag} {v : Value} {x : Bool} (h : (Val Kd.bool v x).H m φ) : v = .bool x := by
  obtain ⟨cs, rfl, rfl⟩ := h; rfl
theorem Val_str {m φ : Frag} {v : Value} {x : List Int} (h : (Val Kd.str v x).H m φ) : v = .string (mkS x) ∧ Bs x := by
  obtain ⟨cs, ⟨rfl, h2⟩, rfl⟩ := h; exact ⟨rfl, h2⟩
theorem Val_slm {α : Type} {K : Kd α} {m φ : Frag} {v : Value} {xs : List α} (h : (Val (Kd.sl K) v xs).H m φ) : ∃ a cap, v = .slice a xs.length cap ∧ (xs.length ≤ cap ∧ cap ≤ maxLen) ∧ Row K m m a xs := by
  obtain ⟨cs, ⟨a, cap, rfl, h1, h2⟩, rfl⟩ := h; exact ⟨a, cap, rfl, h1, h2⟩
theorem Val_sl {α : Type} {K : Kd α} {m φ : Frag} {v : Value} {xs : List α} (h : (Val (Kd.sl K) v xs).H m φ) : ∃ a cap, v = .slice a xs.length cap ∧ xs.length ≤ cap ∧ Row K m m a xs := by
  obtain ⟨a, cap, e, h1, h2⟩ := Val_slm h; exact ⟨a, cap, e, h1.1, h2⟩
theorem Val_osl {α : Type} {K : Kd α} {m φ : Frag} {v : Value} {xs : List α} (h : (Val (Kd.osl K) v xs).H m φ) : ∃ a cap, v = .slice a xs.length cap ∧ xs.length ≤ cap ∧ cap ≤ maxLen ∧ ORow K m φ a cap xs := by
  obtain ⟨cs, ⟨a, cap, rfl, h1⟩, rfl⟩ := h; exact ⟨a, cap, rfl, h1⟩
/-- What one owns, one may let be as it is. -/
theorem Kd.osl_sl {α : Type} {K : Kd α} {m φ fr : Frag} {w : World} (hh : Has m φ fr w) {xs : List α} {cs : List Value} (h : (Kd.osl K).C m φ xs cs) : m.le (m.un φ) ∧ Has (m.un φ) Frag.emp fr w ∧ (Kd.sl K).C (m.un φ) Frag.emp xs cs := by
  obtain ⟨a, cap, rfl, h1, hm1, h2⟩ := h
  have l1 : m.le (m.un φ) := Frag.le_un_left
  have l2 : φ.le (m.un φ) := Frag.le_un_right hh.d1.symm
  exact ⟨l1, ⟨Frag.emp_dj, Frag.emp_dj, Frag.un_dj hh.d3 hh.d2, Frag.emp_le, Frag.un_le hh.l2 hh.l1, hh.l3⟩, a, cap, rfl, ⟨h1, hm1⟩, h2.row.mono l1 l2⟩
theorem Mem.freeze {F : Fr} {L : List Ent} {w : World} (h : Mem F L w) {α : Type} {K : Kd α} {v : Value} {xs : List α} (i : Nat) (hi : L[i]? = some (Val (Kd.osl K) v xs)) : Mem F (L.set i (Val (Kd.sl K) v xs)) w :=
  h.upd i hi (fun m φ fr hh ⟨cs, hc, e⟩ _ => by
    obtain ⟨a, b, c⟩ := Kd.osl_sl hh hc
    exact ⟨_, _, a, b, cs, c, e⟩) (Ok.refl w)
end Go.SL
