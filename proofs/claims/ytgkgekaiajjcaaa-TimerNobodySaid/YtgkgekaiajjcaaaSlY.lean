/- Maps of one's own; each rule states its own conditions. -/
import Derived.Test.YtgkgekaiajjcaaaSlV
import Derived.MapKept
namespace Go.SL
open Go Go.RowKit
set_option linter.unusedVariables false
set_option linter.unusedSimpArgs false
variable {α κ : Type}
/-- A kind whose cells are known for what they are. -/
def Kd.D (K : Kd α) (f : α → List Value) : Prop := ∀ m φ x cs, K.C m φ x cs → cs = f x
theorem d_int {k : IntKind} : (Kd.int k).D (fun x => [.int k x]) := fun _ _ _ _ h => h.1
theorem d_bool : Kd.bool.D (fun x => [.bool x]) := fun _ _ _ _ h => h
theorem d_str : Kd.str.D (fun x => [.string (mkS x)]) := fun _ _ _ _ h => h.1
theorem d_last {A : Kd α} {f : α → List Value} (h : A.D f) : (Kd.last A).D f := fun m φ x cs k => h m φ x cs k
theorem d_pair {β : Type} {A : Kd α} {B : Kd β} {f : α → List Value} {g : β → List Value} (h : A.D f) (k : B.D g) : (Kd.pair A B).D (fun x => f x.1 ++ g x.2) := fun m φ x cs ⟨c1, c2, _, _, e, _, _, _, h1, h2⟩ => by rw [e, h _ _ _ _ h1, k _ _ _ _ h2]
theorem d_iso {β : Type} {A : Kd α} {f : α → List Value} {g : β → α} (h : A.D f) : (Kd.iso A g).D (fun x => f (g x)) := fun m φ x cs k => h _ _ _ _ k
structure MKey (P : Program) (kt : TypeId) (K : Kd κ) [DecidableEq κ] : Prop where
  chk : ∀ (e : Bool) (w : World) {m φ : Frag} {x : κ} {cs : List Value}, K.C m φ x cs → (Instr.checkKey e 10000 kt (pack K.agg cs)).run P w = .ok () w
  eq : ∀ (w : World) {m φ : Frag} {x : κ} {cs : List Value} {m' φ' : Frag} {y : κ} {ds : List Value}, K.C m φ x cs → K.C m' φ' y ds → (Op.equal kt (pack K.agg cs) (pack K.agg ds)).run P w = .ok (decide (x = y)) w
  now : (∀ d, P.underlying kt = some d → ∀ {m φ : Frag} {x : κ} {cs : List Value} {m' φ' : Frag} {y : κ} {ds : List Value}, K.C m φ x cs → K.C m' φ' y ds → Instr.sameNow d (pack K.agg cs) (pack K.agg ds) = some (decide (x = y))) ∨
    (∀ d, P.underlying kt = some d → ∀ {m φ : Frag} {x : κ} {cs : List Value} {m' φ' : Frag} {y : κ} {ds : List Value}, K.C m φ x cs → K.C m' φ' y ds → Instr.sameNow d (pack K.agg cs) (pack K.agg ds) = none)
  bits : ∀ {m φ : Frag} {x : κ} {cs : List Value} {m' φ' : Frag} {ds : List Value}, K.C m φ x cs → K.C m' φ' x ds → Instr.sameBits 10000 (pack K.agg cs) (pack K.agg ds) = true
  und : ∃ d, P.underlying kt = some d
theorem checkKey_int {P : Program} {kt : TypeId} {k : IntKind} {x : Int} (h : P.underlying kt = some (.int k)) (e : Bool) (n : Nat) (w : World) : (Instr.checkKey e (n + 1) kt (.int k x)).run P w = .ok () w := by
  simp [Instr.checkKey, run_underlying h]
theorem sameBits_int {k : IntKind} {x : Int} (n : Nat) : Instr.sameBits n (.int k x) (.int k x) = true := by
  cases n <;> simp [Instr.sameBits]
theorem mkey_int {P : Program} {kt : TypeId} {k : IntKind} (h : P.underlying kt = some (.int k)) : MKey P kt (Kd.int k) where
  chk := fun e w {m φ x cs} hc => by obtain ⟨rfl, _⟩ := hc; exact checkKey_int h e 9999 w
  eq := fun w {m φ x cs m' φ' y ds} hc hd => by
    obtain ⟨rfl, _⟩ := hc; obtain ⟨rfl, _⟩ := hd
    have := run_equalIn_int w 9999 kt k k x y h
    show (Op.equalIn (9999 + 1) kt (.int k x) (.int k y)).run P w = _
    rw [this]; rfl
  now := .inl fun d hd {m φ x cs m' φ' y ds} hc hd' => by
    rw [h] at hd; cases hd
    obtain ⟨rfl, _⟩ := hc; obtain ⟨rfl, _⟩ := hd'
    show Instr.sameNow (.int k) (.int k x) (.int k y) = _
    by_cases e : x = y <;> simp [Instr.sameNow, e]
  bits := fun {m φ x cs m' φ' ds} hc hd => by
    obtain ⟨rfl, _⟩ := hc; obtain ⟨rfl, _⟩ := hd
    exact sameBits_int 10000
  und := ⟨_, h⟩
theorem mkey_agg {P : Program} {kt : TypeId} {K : Kd κ} [DecidableEq κ] {f : κ → List Value} {l : List (Nat × TypeId × Bool × Nat)} {r : κ → κ → Bool} (hK : K.agg = true) (D : K.D f) (chk : ∀ e w x, (Instr.checkKey e 10000 kt (.agg (f x).toArray)).run P w = .ok () w) (ht : eqI P kt = some l) (he : EqL P K l r) (hr : ∀ x y, r x y = decide (x = y)) (bits : ∀ x, Instr.sameBits 10000 (.agg (f x).toArray) (.agg (f x).toArray) = true) (und : ∃ d, P.underlying kt = some d) : MKey P kt K where
  chk := fun e w {m φ x cs} hc => by rw [D _ _ _ _ hc, hK]; exact chk e w x
  eq := fun w {m φ x cs m' φ' y ds} hc hd => by
    have := (run_eqv (w := w) ht he hc hd).2
    rw [hK]; rw [hr] at this; exact this
  now := .inr fun d hd {m φ x cs m' φ' y ds} hc hd' => by
    rw [hK]
    cases d <;> rfl
  bits := fun {m φ x cs m' φ' ds} hc hd => by rw [D _ _ _ _ hc, D _ _ _ _ hd, hK]; exact bits x
  und := und
/-- A map that one owns. -/
def Kd.mp (Kk : Kd κ) (Kv : Kd α) : Kd (List (κ × α)) where
  n := 1
  agg := false
  C := fun m φ xs cs => ∃ (r : Nat) (es : Array MapEntry) (clk : Nat), cs = [.map (some r)] ∧ φ r 0 = some (.obj (.map es clk)) ∧ es.size = xs.length ∧ ∀ (i : Nat) (p : κ × α), xs[i]? = some p → ∃ e, es[i]? = some e ∧ Kk.V m Frag.emp p.1 e.key ∧ Kv.V m Frag.emp p.2 e.val
  len := fun ⟨r, es, clk, h, _⟩ => by rw [h]; rfl
  one := fun ⟨r, es, clk, h, _⟩ c hc => by rw [h] at hc; simp at hc; subst hc; rfl
  mono := fun hm hf ⟨r, es, clk, h, h1, h2, h3⟩ => ⟨r, es, clk, h, hf _ _ _ h1, h2, fun i p hp => by
    obtain ⟨e, he, ⟨c1, k1, e1⟩, ⟨c2, k2, e2⟩⟩ := h3 i p hp
    exact ⟨e, he, ⟨c1, Kk.mono hm .rfl k1, e1⟩, ⟨c2, Kv.mono hm .rfl k2, e2⟩⟩⟩
  sgl := fun _ => rfl
def mfind [DecidableEq κ] (k : κ) : List (κ × α) → Nat → Option (Nat × α)
  | [], _ => none
  | p :: xs, i => if k = p.1 then some (i, p.2) else mfind k xs (i + 1)
def mget [DecidableEq κ] (xs : List (κ × α)) (k : κ) : Option α := (mfind k xs 0).map (·.2)
def mput [DecidableEq κ] (xs : List (κ × α)) (k : κ) (x : α) : List (κ × α) := match mfind k xs 0 with
  | some (i, _) => xs.set i (k, x)
  | none => xs ++ [(k, x)]
theorem mfind_lt [DecidableEq κ] {k : κ} : ∀ {xs : List (κ × α)} {i : Nat} {j : Nat} {y : α}, mfind k xs i = some (j, y) → i ≤ j ∧ xs[j - i]? = some (k, y)
  | [], _, _, _, h => by cases h
  | p :: xs, i, j, y, h => by
    unfold mfind at h
    split at h
    · rename_i e; cases h; obtain ⟨a, b⟩ := p; cases e; simp
    · obtain ⟨h1, h2⟩ := mfind_lt h
      refine ⟨by omega, ?_⟩
      rw [show j - i = (j - (i + 1)) + 1 by omega]
      simpa using h2
theorem find_ent {P : Program} [DecidableEq κ] {kt : TypeId} {Kk : Kd κ} {Kv : Kd α} (K : MKey P kt Kk) {m φ : Frag} {k : κ} {kc : List Value} (hk : Kk.C m φ k kc) (w : World) : ∀ (xs : List (κ × α)) (es : List MapEntry) (i : Nat), es.length = xs.length → (∀ (j : Nat) (p : κ × α), xs[j]? = some p → ∃ e, es[j]? = some e ∧ Kk.V m Frag.emp p.1 e.key ∧ Kv.V m Frag.emp p.2 e.val) →
    ∃ o, (o = none ∧ mfind k xs i = none ∨ ∃ j y v, o = some (j, v) ∧ mfind k xs i = some (j, y) ∧ Kv.V m Frag.emp y v) ∧ (Instr.findAsking kt (pack Kk.agg kc) es i).run P w = .ok o w ∧ (∀ d, P.underlying kt = some d → Instr.findNow d (pack Kk.agg kc) es i = some o ∨ Instr.findNow d (pack Kk.agg kc) es i = none)
  | [], [], i, _, _ => ⟨none, .inl ⟨rfl, rfl⟩, by simp [Instr.findAsking], fun d hd => .inl (by simp [Instr.findNow])⟩
  | [], e :: es, i, hl, _ => by simp at hl
  | p :: xs, [], i, hl, _ => by simp at hl
  | p :: xs, e :: es, i, hl, h => by
    obtain ⟨e', he', ⟨c1, k1, v1⟩, hv⟩ := h 0 p rfl
    simp only [List.getElem?_cons_zero, Option.some.injEq] at he'
    subst he'
    have heq := K.eq w hk k1
    obtain ⟨o, ho, hr, hn⟩ := find_ent K hk w xs es (i + 1) (by simpa using hl) (fun j q hq => h (j + 1) q (by simpa using hq))
    by_cases c : k = p.1
    · refine ⟨some (i, e.val), .inr ⟨i, p.2, e.val, rfl, by simp [mfind, c], hv⟩, ?_, fun d hd => ?_⟩
      · simp [Instr.findAsking, v1, heq, c]
      · rcases K.now with q | q
        · left; simp [Instr.findNow, v1, q d hd hk k1, c]
        · right; simp [Instr.findNow, v1, q d hd hk k1]
    · refine ⟨o, ?_, ?_, fun d hd => ?_⟩
      · rcases ho with ⟨a, b⟩ | ⟨j, y, v, a, b, c'⟩
        · exact .inl ⟨a, by simp [mfind, c, b]⟩
        · exact .inr ⟨j, y, v, a, by simp [mfind, c, b], c'⟩
      · simp [Instr.findAsking, v1, heq, c, hr]
      · rcases K.now with q | q
        · have := hn d hd
          simpa [Instr.findNow, v1, q d hd hk k1, c] using this
        · right; simp [Instr.findNow, v1, q d hd hk k1]
theorem find_key {P : Program} [DecidableEq κ] {kt : TypeId} {Kk : Kd κ} {Kv : Kd α} (K : MKey P kt Kk) {m φ : Frag} {k : κ} {kc : List Value} (hk : Kk.C m φ k kc) (w : World) {xs : List (κ × α)} {es : Array MapEntry} (hl : es.size = xs.length) (h : ∀ (j : Nat) (p : κ × α), xs[j]? = some p → ∃ e, es[j]? = some e ∧ Kk.V m Frag.emp p.1 e.key ∧ Kv.V m Frag.emp p.2 e.val) :
    ∃ o, (o = none ∧ mfind k xs 0 = none ∨ ∃ j y v, o = some (j, v) ∧ mfind k xs 0 = some (j, y) ∧ Kv.V m Frag.emp y v) ∧ (Instr.findKey kt (pack Kk.agg kc) es.toList).run P w = .ok o w := by
  obtain ⟨o, ho, hr, hn⟩ := find_ent K hk w xs es.toList 0 (by simpa using hl) (by simpa using h)
  refine ⟨o, ho, ?_⟩
  obtain ⟨d, hd⟩ := K.und
  have e1 : (underlying kt).run P w = .ok d w := run_underlying hd w
  unfold Instr.findKey
  simp only [Sem.run_bind, e1, Result.andThen_ok]
  rcases hn d hd with q | q <;> rw [q]
  · rfl
  · exact hr
theorem hp_alloco {w : World} {x : Obj} (hx : ∀ c t fr, x ≠ .cells c t fr) : ∀ b o, hp (w.alloc x) b o = if b = w.heap.size ∧ o = 0 then some (.obj x) else hp w b o := fun b o => by
  by_cases hb : b = w.heap.size
  · subst hb
    have e1 : (w.alloc x).heap[w.heap.size]? = some x := by
      show (w.heap.push _)[w.heap.size]? = _
      simp
    have e2 : hp w w.heap.size o = none := hp_none (Nat.le_refl _)
    rw [e2]
    unfold hp
    rw [e1]
    cases x with
    | cells c t fr => exact absurd rfl (hx c t fr)
    | _ => by_cases ho : o = 0 <;> simp [ho]
  · have e1 : (w.alloc x).heap[b]? = w.heap[b]? := by
      show (w.heap.push _)[b]? = _
      rw [Array.getElem?_push, if_neg hb]
    unfold hp
    rw [e1, if_neg (fun h => hb h.1)]
section
variable {P : Program} {E : List (Nat × Value)} {L : List Ent} {d : Option Nat} {ty : TypeId} {pos : String} {aft : Array Edge} {g : Option (Nat × Bool)}
theorem o_mkmap {t : TypeId} (Kk : Kd κ) (Kv : Kd α) : OpS P E L ⟨d, .makeMap t none, ty, pos, aft, g⟩ (fun v => v) (fun v => Val (Kd.mp Kk Kv) v [] :: L) :=
  .run fun n F a w hs hm => by
    have hp' := hp_alloco (w := w) (x := .map #[] 0) (fun _ _ _ h => by cases h)
    refine ⟨.map (some w.heap.size), w.alloc (.map #[] 0), by simp [execOp, Instr.makeMap, newObj]; rfl, ?_⟩
    obtain ⟨m, φ, o, hh, hpp, hk⟩ := hm
    have hn : ∀ {f : Frag}, f.le (hp w) → f w.heap.size 0 = none := fun {f} hl => by
      cases e : f w.heap.size 0 with
      | none => rfl
      | some c => have := hl _ _ _ e; rw [hp_none (Nat.le_refl _)] at this; cases this
    let q : Frag := fun b o => if b = w.heap.size ∧ o = 0 then some (.obj (.map #[] 0)) else none
    have hq : ∀ {f : Frag}, f.le (hp w) → f.dj q := fun {f} hl b o => by
      by_cases c : b = w.heap.size ∧ o = 0
      · left; obtain ⟨rfl, rfl⟩ := c; exact hn hl
      · right; simp [q, c]
    have hle : (hp w).le (hp (w.alloc (.map #[] 0))) := fun b o c hc => by
      rw [hp', if_neg]; exact hc
      rintro ⟨rfl, rfl⟩
      rw [hp_none (Nat.le_refl _)] at hc; cases hc
    have hql : q.le (hp (w.alloc (.map #[] 0))) := fun b o c hc => by
      rw [hp']
      by_cases c' : b = w.heap.size ∧ o = 0
      · rw [if_pos c']; simpa [q, c'] using hc
      · simp [q, c'] at hc
    refine ⟨m, q.un φ, ⟨q, φ, Frag.le_un_left, Frag.le_un_right (hq hh.l1).symm, (hq hh.l1).symm, ⟨[.map (some w.heap.size)], ⟨w.heap.size, #[], 0, rfl, by simp [q], by simp, fun i p h => by simp at h⟩, rfl⟩, o⟩, ⟨Frag.un_dj (hq hh.l2).symm hh.d1, Frag.un_dj (hq hh.l3).symm hh.d2, hh.d3, Frag.un_le hql (hh.l1.trans hle), hh.l2.trans hle, hh.l3.trans hle⟩, hpp, hk.trans (Ok.alloc w _)⟩
/-- What a look into a map gives. -/
theorem lookup_core [DecidableEq κ] {t kt et : TypeId} {Kk : Kd κ} {Kv : Kd α} {v u : Value} {xs : List (κ × α)} {k : κ} {z : α} {zv : Value} {ok : Bool} {F : Fr} {w : World} (p : Nat) (hm : Mem F L w) (hp : L[p]? = some (Val (Kd.mp Kk Kv) v xs)) (hu : PV Kk u k L) (ht : P.underlying t = some (.map kt et)) (K : MKey P kt Kk) (hz : (P.info? et).bind (·.zero) = some zv) (hzc : ∀ m, Kv.V m Frag.emp z zv) :
    ∃ rv, (∃ m, m.le (SL.hp w) ∧ Kv.V m Frag.emp ((mget xs k).getD z) rv) ∧ (Instr.lookup t v u ok).run P w = .ok (if ok then .tuple #[rv, .bool (mget xs k).isSome] else rv) w := by
  obtain ⟨m, φ, ho, hh, hpp, hkk⟩ := hm
  obtain ⟨f, hf, cs, ⟨r, es, clk, rfl, h1, h2, h3⟩, rfl⟩ := ho.get hp
  obtain ⟨kc, hkc, rfl⟩ := hu m φ ho
  have hobj := (hp_obj ((hf.trans hh.l1) _ _ _ h1)).1
  obtain ⟨o, hoo, hfk⟩ := find_key K hkc w h2 h3
  obtain ⟨ti, hti, hzz⟩ := Option.bind_eq_some_iff.1 hz
  have hck := K.chk es.isEmpty w hkc
  rw [show pack (Kd.mp Kk Kv).agg [.map (some r)] = .map (some r) from rfl]
  clear hu hp ho
  generalize pack Kk.agg kc = key at *
  have hget := MapKept.run_getObj_map (P := P) hobj
  have e1 : (underlying t).run P w = .ok (.map kt et) w := run_underlying ht w
  have e2 : (zeroValue et).run P w = .ok zv w := by simp [zeroValue, typeInfo, hti, hzz]
  rcases hoo with ⟨rfl, hn⟩ | ⟨j, y, yv, rfl, hn, hy⟩
  · refine ⟨zv, ⟨m, hh.l2, by simpa [mget, hn] using hzc m⟩, ?_⟩
    cases ok <;> simp [Instr.lookup, e1, hget, hck, hfk, e2, mget, hn]
  · refine ⟨yv, ⟨m, hh.l2, by simpa [mget, hn] using hy⟩, ?_⟩
    cases ok <;> simp [Instr.lookup, e1, hget, hck, hfk, mget, hn]
theorem o_mget [DecidableEq κ] {x y : Operand} {t kt et : TypeId} {Kk : Kd κ} {Kv : Kd α} {v u : Value} {xs : List (κ × α)} {k : κ} {z : α} {zv : Value} {ex : α → Value} (p : Nat) (hx : opv E x = some v) (hy : opv E y = some u) (hp : L[p]? = some (Val (Kd.mp Kk Kv) v xs)) (hu : PV Kk u k L) (ht : P.underlying t = some (.map kt et)) (K : MKey P kt Kk) (hz : (P.info? et).bind (·.zero) = some zv) (hzc : ∀ m, Kv.V m Frag.emp z zv) (hK : Kv.X ex) :
    OpS (σ := Unit) P E L ⟨d, .lookup t x y false, ty, pos, aft, g⟩ (fun _ => ex ((mget xs k).getD z)) (fun _ => L) :=
  .run fun n F a w hs hm => by
    obtain ⟨rv, ⟨m, _, c, hC, e⟩, hr⟩ := lookup_core (ok := false) p hm hp hu ht K hz hzc
    obtain ⟨rfl, ha⟩ := hK _ _ _ _ hC
    rw [ha] at e
    subst e
    exact ⟨(), w, by simp [execOp, hs.eval hx, hs.eval hy, hr, pack], hm⟩
theorem o_mget2 [DecidableEq κ] {x y : Operand} {t kt et : TypeId} {Kk : Kd κ} {Kv : Kd α} {v u : Value} {xs : List (κ × α)} {k : κ} {z : α} {zv : Value} {ex : α → Value} (p : Nat) (hx : opv E x = some v) (hy : opv E y = some u) (hp : L[p]? = some (Val (Kd.mp Kk Kv) v xs)) (hu : PV Kk u k L) (ht : P.underlying t = some (.map kt et)) (K : MKey P kt Kk) (hz : (P.info? et).bind (·.zero) = some zv) (hzc : ∀ m, Kv.V m Frag.emp z zv) (hK : Kv.X ex) :
    OpS (σ := Unit) P E L ⟨d, .lookup t x y true, ty, pos, aft, g⟩ (fun _ => .tuple #[ex ((mget xs k).getD z), .bool (mget xs k).isSome]) (fun _ => L) :=
  .run fun n F a w hs hm => by
    obtain ⟨rv, ⟨m, _, c, hC, e⟩, hr⟩ := lookup_core (ok := true) p hm hp hu ht K hz hzc
    obtain ⟨rfl, ha⟩ := hK _ _ _ _ hC
    rw [ha] at e
    subst e
    exact ⟨(), w, by simp [execOp, hs.eval hx, hs.eval hy, hr, pack], hm⟩
theorem hp_seto {w : World} {r : Nat} {x x' : Obj} (hx : w.heap[r]? = some x) (h0 : ∀ c t fr, x ≠ .cells c t fr) (h1 : ∀ c t fr, x' ≠ .cells c t fr) : (∀ b o, hp { w with heap := w.heap.setIfInBounds r x' } b o = if b = r ∧ o = 0 then some (.obj x') else hp w b o) ∧ Ok w { w with heap := w.heap.setIfInBounds r x' } := by
  have hr : r < w.heap.size := (Array.getElem?_eq_some_iff.1 hx).1
  refine ⟨fun b o => ?_, rfl, rfl, rfl, by simp, fun b hb => ?_, Nat.le_refl _ ⟩
  · by_cases hb : b = r
    · subst hb
      have e1 : (w.heap.setIfInBounds b x')[b]? = some x' := by simp [hr]
      unfold hp
      simp only [e1, hx]
      cases x' with
      | cells c t fr => exact absurd rfl (h1 c t fr)
      | _ =>
        by_cases ho : o = 0
        · simp [ho]
        · cases x with
          | cells c t fr => exact absurd rfl (h0 c t fr)
          | _ => simp [ho]
    · unfold hp
      simp only [Array.getElem?_setIfInBounds_ne (Ne.symm hb)]
      rw [if_neg (fun h => hb h.1)]
  · by_cases hb' : b = r
    · subst hb'
      have e1 : (w.heap.setIfInBounds b x')[b]? = some x' := by simp [hr]
      simp only [e1, hx]
      cases x' with
      | cells c t fr => exact absurd rfl (h1 c t fr)
      | _ => cases x with
        | cells c t fr => exact absurd rfl (h0 c t fr)
        | _ => rfl
    · simp only [Array.getElem?_setIfInBounds_ne (Ne.symm hb')]
theorem o_mput [DecidableEq κ] {x y z : Operand} {t kt et : TypeId} {Kk : Kd κ} {Kv : Kd α} {v u q : Value} {xs : List (κ × α)} {k : κ} {b : α} (p : Nat) (hx : opv E x = some v) (hy : opv E y = some u) (hz : opv E z = some q) (hp : L[p]? = some (Val (Kd.mp Kk Kv) v xs)) (hu : PV Kk u k L) (hq : PV Kv q b L) (ht : P.underlying t = some (.map kt et)) (K : MKey P kt Kk) :
    OpS (σ := Unit) P E L ⟨d, .mapUpdate t x y z, ty, pos, aft, g⟩ (fun _ => undef) (fun _ => L.set p (Val (Kd.mp Kk Kv) v (mput xs k b))) :=
  .skip fun n F a w hs hm => by
    obtain ⟨m0, φ0, ho0, hh0, _⟩ := id hm
    obtain ⟨f0, hf0, cs, ⟨r, es, clk, rfl, h1, h2, h3⟩, rfl⟩ := ho0.get hp
    obtain ⟨kc, hkc, hue⟩ := hu m0 φ0 ho0
    subst hue
    have hobj := (hp_obj ((hf0.trans hh0.l1) _ _ _ h1)).1
    obtain ⟨o, hoo, hfk⟩ := find_key K hkc w h2 h3
    have hck := K.chk false w hkc
    rw [show pack (Kd.mp Kk Kv).agg [.map (some r)] = .map (some r) from rfl] at hx hp
    have hget := MapKept.run_getObj_map (P := P) hobj
    have e1 : (underlying t).run P w = .ok (.map kt et) w := run_underlying ht w
    -- the new entries
    have key : ∃ es' clk', (Instr.mapUpdate t (.map (some r)) (pack Kk.agg kc) q).run P w = .ok () { w with heap := w.heap.setIfInBounds r (.map es' clk') } ∧ es'.size = (mput xs k b).length ∧ ∀ {m : Frag}, (∀ (j : Nat) (p : κ × α), xs[j]? = some p → ∃ e, es[j]? = some e ∧ Kk.V m Frag.emp p.1 e.key ∧ Kv.V m Frag.emp p.2 e.val) → Kk.V m Frag.emp k (pack Kk.agg kc) → Kv.V m Frag.emp b q → ∀ (i : Nat) (p : κ × α), (mput xs k b)[i]? = some p → ∃ e, es'[i]? = some e ∧ Kk.V m Frag.emp p.1 e.key ∧ Kv.V m Frag.emp p.2 e.val := by
      rcases hoo with ⟨rfl, hn⟩ | ⟨j, y, yv, rfl, hn, hy⟩
      · refine ⟨es.push { key := pack Kk.agg kc, val := q, born := clk }, clk + 1, ?_, by simp [mput, hn, h2], fun {m} hA hK' hB i p hi => ?_⟩
        · have := fun o' => MapKept.run_setObj_map (P := P) o' hobj
          simp [Instr.mapUpdate, e1, hget, hck, hfk, this]
        · simp only [mput, hn] at hi
          by_cases hlt : i < xs.length
          · rw [List.getElem?_append_left hlt] at hi
            obtain ⟨e, he, h4⟩ := hA i p hi
            refine ⟨e, ?_, h4⟩
            rw [Array.getElem?_push, if_neg (by omega)]; exact he
          · rw [List.getElem?_append_right (by omega)] at hi
            have h0 : i - xs.length = 0 := by
              have := (List.getElem?_eq_some_iff.1 hi).1
              simp at this; omega
            rw [h0] at hi
            simp only [List.getElem?_cons_zero, Option.some.injEq] at hi
            subst hi
            refine ⟨{ key := pack Kk.agg kc, val := q, born := clk }, ?_, hK', hB⟩
            rw [Array.getElem?_push, if_pos (by omega)]
      · obtain ⟨_, hj⟩ := mfind_lt hn
        rw [Nat.sub_zero] at hj
        have hjl := (List.getElem?_eq_some_iff.1 hj).1
        obtain ⟨ej, hej, ⟨c1, k1, v1⟩, _⟩ := h3 j _ hj
        have hbits := K.bits k1 hkc
        have hstay : (Instr.keyThatStays ((es[j]?.map (·.key)).getD (pack Kk.agg kc)) (pack Kk.agg kc)).run P w = .ok (pack Kk.agg kc) w := by
          rw [hej]
          simp only [Option.map_some, Option.getD_some, v1]
          unfold Instr.keyThatStays
          rw [if_pos hbits]; rfl
        refine ⟨es.modify j fun e => { e with key := pack Kk.agg kc, val := q }, clk, ?_, by simp [mput, hn, h2], fun {m} hA hK' hB i p hi => ?_⟩
        · have := fun o' => MapKept.run_setObj_map (P := P) o' hobj
          simp [Instr.mapUpdate, e1, hget, hck, hfk, hstay, this]
        · simp only [mput, hn] at hi
          rw [Array.getElem?_modify]
          by_cases hij : j = i
          · subst hij
            rw [List.getElem?_set_self hjl] at hi
            cases hi
            rw [if_pos rfl, hej]
            exact ⟨_, rfl, hK', hB⟩
          · rw [List.getElem?_set_ne hij] at hi
            rw [if_neg hij]
            exact hA i p hi
    obtain ⟨es', clk', hrun, hsz, hent⟩ := key
    obtain ⟨hhp, hok⟩ := hp_seto (x' := .map es' clk') hobj (fun _ _ _ h => by cases h) (fun _ _ _ h => by cases h)
    refine ⟨(), { w with heap := w.heap.setIfInBounds r (.map es' clk') }, by simp [execOp, hs.eval hx, hs.eval hy, hs.eval hz, hrun], ?_⟩
    obtain ⟨m, φ, ho, hh, hpp, hkk⟩ := hm
    obtain ⟨f1, f2, l1, l2, d12, he, _, hset⟩ := ho.split hp
    obtain ⟨cs2, ⟨r2, es2, clk2, rfl, g1, g2, g3⟩, e2⟩ := he
    have er : r2 = r := by
      have e3 : Value.map (some r) = .map (some r2) := e2
      simpa using e3.symm
    subst er
    obtain ⟨kc2, hkc2, ek2⟩ := hu m φ ho
    have hobj2 := (hp_obj ((l1.trans hh.l1) _ _ _ g1)).1
    rw [hobj] at hobj2
    cases hobj2
    let nf : Frag := fun b o => if b = r2 ∧ o = 0 then some (.obj (.map es' clk')) else f1 b o
    have off : ∀ {f : Frag}, f.dj f1 → f r2 0 = none := fun {f} hd => by
      rcases hd r2 0 with e | e
      · exact e
      · rw [g1] at e; cases e
    have dnf : ∀ {f : Frag}, f.dj f1 → f.dj nf := fun {f} hd b o => by
      by_cases c : b = r2 ∧ o = 0
      · left; obtain ⟨rfl, rfl⟩ := c; exact off hd
      · rcases hd b o with e | e
        · exact .inl e
        · right; simp only [nf, if_neg c]; exact e
    have lnf : ∀ {f : Frag}, f.le (SL.hp w) → f r2 0 = none → f.le (SL.hp { w with heap := w.heap.setIfInBounds r2 (.map es' clk') }) := fun {f} hl h0 b o c hc => by
      rw [hhp, if_neg]; exact hl _ _ _ hc
      rintro ⟨rfl, rfl⟩; rw [h0] at hc; cases hc
    have mf1 : m.dj f1 := (hh.d1.mono l1 .rfl).symm
    have of1 : F.own.dj f1 := (hh.d2.mono l1 .rfl).symm
    have hnfl : nf.le (SL.hp { w with heap := w.heap.setIfInBounds r2 (.map es' clk') }) := fun b o c hc => by
      rw [hhp]
      by_cases c' : b = r2 ∧ o = 0
      · rw [if_pos c']; simpa [nf, c'] using hc
      · rw [if_neg c']; simp only [nf, if_neg c'] at hc; exact (l1.trans hh.l1) _ _ _ hc
    have d2 := dnf d12.symm
    refine ⟨m, nf.un f2, hset m nf (nf.un f2) _ .rfl Frag.le_un_left (Frag.le_un_right d2.symm) d2.symm ⟨[.map (some r2)], ⟨r2, es', clk', rfl, by simp [nf], hsz, hent g3 ⟨kc2, hkc2, ek2⟩ (hq m φ ho)⟩, rfl⟩, ⟨Frag.un_dj (dnf mf1).symm (hh.d1.mono l2 .rfl), Frag.un_dj (dnf of1).symm (hh.d2.mono l2 .rfl), hh.d3, Frag.un_le hnfl (lnf (l2.trans hh.l1) (off d12.symm)), lnf hh.l2 (off mf1), lnf hh.l3 (off of1)⟩, hpp, hkk.trans hok⟩
/-! ### A part of one's own taken out -/
theorem o_own3 {x l h m : Operand} {t : TypeId} {K : Kd α} {v : Value} {xs : List α} {k k2 k3 : IntKind} {lo hi mx : Int} (p : Nat) (hx : opv E x = some v) (hp : L[p]? = some (Val (Kd.osl K) v xs)) (hl : opv E l = some (.int k lo)) (hh : opv E h = some (.int k2 hi)) (hm : opv E m = some (.int k3 mx)) (hc : (0 ≤ lo ∧ lo ≤ hi) ∧ hi ≤ mx ∧ mx ≤ xs.length) (ht : slTy P t K.n = true) :
    OpS P E L ⟨d, .slice t x (some l) (some h) (some m), ty, pos, aft, g⟩ (fun u => u) (fun _ => L) :=
  .run fun n F a w hs hM => by
    obtain ⟨e, ei, h1, h2, h3, _⟩ := slTy_spec ht
    obtain ⟨⟨c0, c1⟩, c2, c3⟩ := hc
    obtain ⟨m0, φ, _, _, he⟩ := hM.get hp
    obtain ⟨ad, cap, rfl, hlc, _, _⟩ := Val_osl he
    have q0 : mx ≤ cap := by omega
    have q1 : 0 ≤ mx := by omega
    have q2 : hi ≤ max mx 0 := by omega
    have q3 : lo ≤ max hi 0 := by omega
    have q4 : 0 ≤ hi := by omega
    exact ⟨_, w, by simp [execOp, hs.eval hx, hs.eval hl, hs.eval hh, hs.eval hm, Instr.sliceAt, run_underlying h1, Instr.slice, Instr.sliceBounds, Instr.sliceBound, asIntOf, sizeOf, typeInfo, h2, c0, q0, q1, q2, q3, q4]; rfl, hM⟩
theorem o_ownhp {x h : Operand} {t : TypeId} {n N : Nat} {v : Value} {k2 : IntKind} {hi : Int} (hv : IsSl v N) (hx : opv E x = some v) (hh : opv E h = some (.int k2 hi)) (hc : 0 ≤ hi ∧ hi ≤ N) (ht : slTy P t n = true) :
    OpS (σ := Unit) P E L ⟨d, .slice t x none (some h) none, ty, pos, aft, g⟩ (fun _ => subV v (0 : Int).toNat hi.toNat n) (fun _ => L) := by
  obtain ⟨e, ei, h1, h2, h3, _⟩ := slTy_spec ht
  exact o_slp (vlo := none) (vhi := some _) hv hx rfl (congrArg some hh) (.inl ⟨rfl, rfl⟩) (.inr ⟨k2, rfl⟩) ⟨Int.le_refl _, hc.1, hc.2⟩ h1 h2 h3
/-- append(v[:i], v[j:]..), in place. -/
theorem o_appd {s x : Operand} {t t2 : TypeId} {K : Kd α} {v : Value} {xs : List α} {i j : Int} (p : Nat) (hs : opv E s = some (subV v (0 : Int).toNat i.toNat K.n)) (hx : opv E x = some (subV v j.toNat (xs.length : Int).toNat K.n)) (hp : L[p]? = some (Val (Kd.osl K) v xs)) (hc : inB xs i j) (ht : appTy P t K.n = true) (h2 : noInt (P.underlying t2) = true) :
    OpS (σ := Unit) P E L ⟨d, .call { callee := .builtin .append, args := #[s, x], argTypes := #[t, t2] }, ty, pos, aft, g⟩ (fun _ => subV v (0 : Int).toNat (i + ((xs.length : Int) - j)).toNat K.n) (fun _ => L.set p (Val (Kd.osl K) v (Go.splice xs i.toNat (xs.drop j.toNat)))) :=
  .run fun n F a w hS hm => by
    obtain ⟨c0, c1, c2⟩ := hc
    obtain ⟨e, ei, z, hte, hei, hsz, hby, hze, hzs⟩ := appTy_spec ht
    obtain ⟨m, φ, ho, hh, hpp, hkk⟩ := hm
    obtain ⟨f1, hf1, he⟩ := ho.get hp
    obtain ⟨ad, cap, rfl, hl, hmx, hr⟩ := Val_osl he
    obtain ⟨cs, hE, hco⟩ := hr.row
    have hEd := hE.drop j.toNat
    have hcl := hE.len
    obtain ⟨w', φ', hrun, ho', hh', hok⟩ := over_core (P := P) (F := F) (lo := i.toNat) (hi := i.toNat + (xs.length - j.toNat)) ho hh hp hEd (by simp) (by omega)
    refine ⟨(), w', ?_, m, φ', ho', hh', hpp, hkk.trans hok⟩
    have hdl : (cs.drop (j.toNat * K.n)).length = (xs.length - j.toNat) * K.n := by rw [List.length_drop, hcl, Nat.sub_mul]
    have ej : (xs.length : Int).toNat - j.toNat = xs.length - j.toNat := by omega
    have em : (i + ((xs.length : Int) - j)).toNat = i.toNat + (xs.length - j.toNat) := by omega
    rw [em]
    rcases hr with ⟨rfl, hx0, rfl⟩ | ⟨b, o, all, rfl, hal, hcc, hEn⟩
    · subst hx0
      have i0 : i.toNat = 0 := by simp at c2; omega
      have j0 : j.toNat = 0 := by simp at c2; omega
      have d0 : cs = [] := List.eq_nil_of_length_eq_zero (by simpa using hcl)
      subst d0
      have hw : w = w' := by simpa [subV, i0] using hrun
      subst hw
      have := run_append_in (P := P) (ty := ty) (t := t) (t2 := t2) (ei := ei) (x := .slice none 0 0) (n := 0) (ds := []) (w := w) (base := none) (sLen := 0) (sCap := 0) hte (noInt_spec h2) hei rfl (by simp [Builtin.firstCells]) (by omega)
      simp only [subV, i0, j0] at hs hx ⊢
      simp at hs hx ⊢
      simp [execOp, hS.eval hs, hS.eval hx, resolve, invoke, builtin, this]
    · have hb0 : ((if cap = (0 : Int).toNat then some (⟨b, o, none⟩ : Addr) else (some (⟨b, o, none⟩ : Addr)).map (·.add ((0 : Int).toNat * K.n))) : Option Addr) = some ⟨b, o, none⟩ := by
        split
        · rfl
        · simp [addr_add]
      simp only [subV, hb0, ej] at hs hx ⊢
      have hst : (storeCells ((⟨b, o, none⟩ : Addr).add (i.toNat * ei.size)) (cs.drop (j.toNat * K.n))).run P w = .ok () w' := by
        rw [hsz]
        by_cases q : cap = i.toNat
        · have d0 : cs.drop (j.toNat * K.n) = [] := List.eq_nil_of_length_eq_zero (by rw [hdl, show xs.length - j.toNat = 0 by omega]; simp)
          rw [d0] at hrun ⊢
          simp only [subV, if_pos q] at hrun
          have hw : w = w' := by simpa [storeCells] using hrun
          subst hw
          simp [storeCells]
        · simpa [subV, q] using hrun
      have hfc : ∀ A, A = (if cap = j.toNat then some (⟨b, o, none⟩ : Addr) else (some (⟨b, o, none⟩ : Addr)).map (·.add (j.toNat * K.n))) → (Builtin.firstCells ei.size (xs.length - j.toNat) (.slice A (xs.length - j.toNat) (cap - j.toNat))).run P w = .ok (cs.drop (j.toNat * K.n)).toArray w := fun A hA => by
        rw [hsz]
        by_cases q : cap = j.toNat
        · have d0 : cs.drop (j.toNat * K.n) = [] := List.eq_nil_of_length_eq_zero (by rw [hdl, show xs.length - j.toNat = 0 by omega]; simp)
          rw [d0, show xs.length - j.toNat = 0 by omega]
          rw [if_pos q] at hA
          subst hA
          simp [Builtin.firstCells, loadCells, loadCellsFrom]
        · rw [if_neg q] at hA
          subst hA
          have := run_loadCells_list (P := P) w ((⟨b, o, none⟩ : Addr).add (j.toNat * K.n)) (cs.drop (j.toNat * K.n)) (fun q c hq => by
            rw [List.getElem?_drop] at hq
            obtain ⟨b', o', fz, e, hb⟩ := hco _ c hq
            cases e
            rw [Addr.add_add]
            exact hp_cell_add ((hf1.trans hh.l1) _ _ _ hb))
          rw [hdl] at this
          simpa [Builtin.firstCells] using this
      obtain ⟨A, hA⟩ : ∃ A, A = (if cap = j.toNat then some (⟨b, o, none⟩ : Addr) else (some (⟨b, o, none⟩ : Addr)).map (·.add (j.toNat * K.n))) := ⟨_, rfl⟩
      rw [← hA] at hx
      have hgo := run_append_in (P := P) (ty := ty) (t := t) (t2 := t2) (ei := ei) (x := .slice A (xs.length - j.toNat) (cap - j.toNat)) (n := xs.length - j.toNat) (ds := cs.drop (j.toNat * K.n)) (w := w) (base := some ⟨b, o, none⟩) (sLen := i.toNat) (sCap := cap) hte (noInt_spec h2) hei rfl (hfc A hA) (by omega)
      dsimp only at hgo
      rw [hst] at hgo
      have z0 : i.toNat - (0 : Int).toNat = i.toNat := by simp
      have z1 : i.toNat + (xs.length - j.toNat) - (0 : Int).toNat = i.toNat + (xs.length - j.toNat) := by simp
      have z2 : cap - (0 : Int).toNat = cap := by simp
      rw [z0, z2] at hs
      rw [z1, z2]
      simp [execOp, hS.eval hs, hS.eval hx, resolve, invoke, builtin, hgo]
/-- What a part of one's own tells of its length. -/
theorem o_lenp {x : Operand} {t : TypeId} {n N : Nat} {v : Value} {hi : Int} (hv : IsSl v N) (hx : opv E x = some (subV v (0 : Int).toNat hi.toNat n)) (h0 : 0 ≤ hi) (ht : slTy P t n = true) :
    OpS (σ := Unit) P E L ⟨d, .call { callee := .builtin .len, args := #[x], argTypes := #[t] }, ty, pos, aft, g⟩ (fun _ => .int .i64 hi) (fun _ => L) := by
  obtain ⟨e, ei, h1, h2, h3, _⟩ := slTy_spec ht
  obtain ⟨a0, cap, rfl, _⟩ := hv
  have e0 : ((hi.toNat - (0 : Int).toNat : Nat) : Int) = hi := by simp; omega
  exact .pure fun n a w hs => by
    simp only [subV] at hx
    have := hs.eval hx
    simp only [execOp, resolve, invoke, builtin] at *
    simp [this, resolve, invoke, builtin, Builtin.len_, run_underlying h1, goInt, Builtin.lenOf]
    omega
/-- A cut behind a part's end. -/
theorem o_slb {x l h : Operand} {t : TypeId} {n N : Nat} {v : Value} {k k2 : IntKind} {lo hi : Int} (hv : IsSl v N) (hx : opv E x = some (subV v (0 : Int).toNat lo.toNat n)) (hl : opv E l = some (.int k lo)) (hh : opv E h = some (.int k2 hi)) (hc : 0 ≤ lo ∧ lo ≤ hi ∧ hi ≤ N) (ht : slTy P t n = true) :
    OpS (σ := Unit) P E L ⟨d, .slice t x (some l) (some h) none, ty, pos, aft, g⟩ (fun _ => subV v lo.toNat hi.toNat n) (fun _ => L) :=
  .run fun n' F a w hs hM => by
    obtain ⟨e, ei, h1, h2, h3, _⟩ := slTy_spec ht
    obtain ⟨c0, c1, c2⟩ := hc
    obtain ⟨ad, cap, rfl, hl'⟩ := hv
    have q0 : hi ≤ cap := by omega
    have q2 : 0 ≤ hi := by omega
    have q3 : lo ≤ max hi 0 := by omega
    simp only [subV] at hx
    have e1 : cap - (0 : Int).toNat = cap := by simp
    rw [e1] at hx
    refine ⟨(), w, ?_, hM⟩
    have hev := hs.eval hx
    by_cases hcap : cap = 0
    · have l0 : lo = 0 := by omega
      have h0 : hi = 0 := by omega
      subst l0 h0 hcap
      simp at hev
      simp [execOp, hev, hs.eval hl, hs.eval hh, Instr.sliceAt, run_underlying h1, Instr.slice, Instr.sliceBounds, Instr.sliceBound, asIntOf, sizeOf, typeInfo, h2, subV]
    · have h00 : ¬ cap = (0 : Int).toNat := by simpa using hcap
      rw [if_neg h00] at hev
      by_cases hcl : cap = lo.toNat
      · have ehl : hi = lo := by omega
        subst ehl
        simp [execOp, hev, hs.eval hl, hs.eval hh, Instr.sliceAt, run_underlying h1, Instr.slice, Instr.sliceBounds, Instr.sliceBound, asIntOf, sizeOf, typeInfo, h2, h3, c0, q0, q2, q3, subV, hcl]
        cases ad <;> simp [addr_add, Addr.add]
      · simp [execOp, hev, hs.eval hl, hs.eval hh, Instr.sliceAt, run_underlying h1, Instr.slice, Instr.sliceBounds, Instr.sliceBound, asIntOf, sizeOf, typeInfo, h2, h3, c0, q0, q2, q3, subV, hcl]
        cases ad <;> simp [addr_add, Addr.add]
theorem Mem.shr {F : Fr} {w : World} {K : Kd α} {v : Value} {zs ys : List α} {hi : Int} (i : Nat) (hp : L[i]? = some (Val (Kd.osl K) v zs)) (hc : cut zs 0 hi = some ys) (h : Mem F L w) : Mem F (L.set i (Val (Kd.osl K) (subV v (0 : Int).toNat hi.toNat K.n) ys)) w :=
  h.turn i hp fun _ _ => osl_sub hc
/-! ### A struct literal whose parts stand in another order -/
def wr (cells : Array Value) (off : Nat) (v : Value) : Array Value := v.cells.zipIdx.foldl (fun (cs : Array Value) (x : Value × Nat) => match x with | (c, j) => cs.setIfInBounds (off + j) c) cells
theorem wr_list {cells : Array Value} {off : Nat} {v : Value} (h : off + v.cells.size ≤ cells.size) : (wr cells off v).toList = cells.toList.take off ++ (v.cells.toList ++ cells.toList.drop (off + v.cells.size)) := by
  have h1 := foldl_put v.cells.toList (cells.toList.take off) (cells.toList.drop off) off 0 (by simp; omega) (by simp; omega)
  rw [List.take_append_drop, List.drop_drop] at h1
  have h2 : wr cells off v = (v.cells.toList.zipIdx 0).foldl (fun (cs : Array Value) p => cs.setIfInBounds (off + p.2) p.1) cells.toList.toArray := by
    unfold wr
    rw [← Array.foldl_toList]
    simp
  rw [h2, h1]
  simp
theorem wr_size {cells : Array Value} {off : Nat} {v : Value} (h : off + v.cells.size ≤ cells.size) : (wr cells off v).size = cells.size := by
  have := congrArg List.length (wr_list h)
  simp at this
  omega
theorem wr_get {cells : Array Value} {off : Nat} {v : Value} (h : off + v.cells.size ≤ cells.size) (k : Nat) : (wr cells off v).toList[k]? = if k < off then cells.toList[k]? else if k < off + v.cells.size then v.cells.toList[k - off]? else cells.toList[k]? := by
  have hto : (cells.toList.take off).length = off := by simp; omega
  rw [wr_list h]
  split
  · rename_i c
    rw [List.getElem?_append_left (by omega), List.getElem?_take_of_lt c]
  · rename_i c
    rw [List.getElem?_append_right (by omega), hto]
    split
    · rw [List.getElem?_append_left (by simp; omega)]
    · rw [List.getElem?_append_right (by simp; omega), List.getElem?_drop]
      congr 1
      simp; omega
theorem wr_comm {cells : Array Value} {o o' : Nat} {v u : Value} (h : o + v.cells.size ≤ cells.size) (h' : o' + u.cells.size ≤ cells.size) (hd : o + v.cells.size ≤ o' ∨ o' + u.cells.size ≤ o) : wr (wr cells o v) o' u = wr (wr cells o' u) o v := by
  apply Array.ext'
  apply List.ext_getElem?
  intro k
  have e1 := wr_get (cells := wr cells o v) (off := o') (v := u) (by rw [wr_size h]; exact h') k
  have e2 := wr_get (cells := wr cells o' u) (off := o) (v := v) (by rw [wr_size h']; exact h) k
  rw [e1, e2, wr_get h, wr_get h']
  repeat' split
  all_goals first | rfl | (exfalso; omega)
theorem fill_cons {place : Nat → Option (Nat × Nat)} {cells : Array Value} {i : Nat} {v : Value} {rest : List (Nat × Value)} : Instr.fill place cells ((i, v) :: rest) = (place i).bind fun p => if v.cells.size ≠ p.2 || p.1 + v.cells.size > cells.size then none else Instr.fill place (wr cells p.1 v) rest := by
  conv => lhs; unfold Instr.fill
  cases place i <;> rfl
theorem fill_perm {place : Nat → Option (Nat × Nat)} (hd : ∀ i j a b, i ≠ j → place i = some a → place j = some b → a.1 + a.2 ≤ b.1 ∨ b.1 + b.2 ≤ a.1) {l l' : List (Nat × Value)} (hp : l.Perm l') : (l.map (·.1)).Nodup → ∀ cells, Instr.fill place cells l = Instr.fill place cells l' := by
  induction hp with
  | nil => intro _ _; rfl
  | cons x h ih =>
    obtain ⟨i, v⟩ := x
    intro hn cells
    rw [fill_cons, fill_cons]
    have := ih (List.nodup_cons.1 hn).2
    cases place i with
    | none => rfl
    | some p => simp only [Option.bind_some, this]
  | swap x y l =>
    obtain ⟨i, v⟩ := x
    obtain ⟨j, u⟩ := y
    intro hn cells
    have hne : j ≠ i := by
      intro e
      subst e
      simp at hn
    rw [fill_cons, fill_cons]
    simp only [fill_cons]
    cases e1 : place j with
    | none => cases e2 : place i with
      | none => rfl
      | some p => simp
    | some q => cases e2 : place i with
      | none => simp
      | some p =>
        have hdj := hd j i q p hne e1 e2
        simp only [Option.bind_some]
        by_cases c1 : (u.cells.size ≠ q.2 || q.1 + u.cells.size > cells.size) = true
        · rw [if_pos c1]
          by_cases c2 : (v.cells.size ≠ p.2 || p.1 + v.cells.size > cells.size) = true
          · rw [if_pos c2]
          · rw [if_neg c2]
            have h2 : v.cells.size = p.2 ∧ p.1 + v.cells.size ≤ cells.size := by simpa using c2
            rw [wr_size h2.2, if_pos c1]
        · rw [if_neg c1]
          have h1 : u.cells.size = q.2 ∧ q.1 + u.cells.size ≤ cells.size := by simpa using c1
          rw [wr_size h1.2]
          by_cases c2 : (v.cells.size ≠ p.2 || p.1 + v.cells.size > cells.size) = true
          · rw [if_pos c2, if_pos c2]
          · rw [if_neg c2, if_neg c2]
            have h2 : v.cells.size = p.2 ∧ p.1 + v.cells.size ≤ cells.size := by simpa using c2
            rw [wr_size h2.2, if_neg c1, wr_comm h1.2 h2.2 (by rw [h1.1, h2.1]; exact hdj)]
  | trans h1 h2 ih1 ih2 =>
    intro hn cells
    rw [ih1 hn, ih2 ((h1.map _).nodup_iff.1 hn)]
theorem lay_far : ∀ (zs : List (List Value)) (o j : Nat) (b : Nat × Nat), (lay o zs)[j]? = some b → o ≤ b.1
  | [], o, j, b, h => by simp [lay] at h
  | z :: zs, o, 0, b, h => by simp [lay] at h; subst h; exact Nat.le_refl _
  | z :: zs, o, j + 1, b, h => by
    simp only [lay, List.getElem?_cons_succ] at h
    have := lay_far zs _ j b h
    omega
theorem lay_lt : ∀ (zs : List (List Value)) (o i j : Nat) (a b : Nat × Nat), i < j → (lay o zs)[i]? = some a → (lay o zs)[j]? = some b → a.1 + a.2 ≤ b.1
  | [], o, i, j, a, b, _, h, _ => by simp [lay] at h
  | z :: zs, o, 0, j + 1, a, b, _, h, h' => by
    simp only [lay, List.getElem?_cons_zero, List.getElem?_cons_succ, Option.some.injEq] at h h'
    subst h
    exact lay_far zs _ j b h'
  | z :: zs, o, i + 1, j + 1, a, b, hl, h, h' => by
    simp only [lay, List.getElem?_cons_succ] at h h'
    exact lay_lt zs _ i j a b (by omega) h h'
theorem o_buildp {t : TypeId} {parts : Array (Nat × Operand)} {K : Kd α} {x : α} {zs : List (List Value)} {ps0 ps : List (Nat × Value)} (hp : parts.toList.map (fun p => (p.1, opv E p.2)) = ps0.map (fun p => (p.1, some p.2))) (hpm : ps0.Perm ps) (hnd : (ps0.map (·.1)).Nodup) (hz : zeroC P t = some zs.flatten) (hf : flds P t = some (lay 0 zs)) (hK : K.agg = true) (hb : PB K x 0 zs ps L) :
    OpS P E L ⟨d, .build t parts, ty, pos, aft, g⟩ (fun v => v) (fun v => Val K v x :: L) :=
  .run fun n F a w hS hm => by
    obtain ⟨m, φ, ho, hh, hpp, hkk⟩ := hm
    obtain ⟨ss, hC, hSel⟩ := hb m φ ho
    have hpe : parts.toList.map (fun x => (x.fst, a.eval x.snd)) = ps0 := by
      generalize parts.toList = pl at hp
      clear hSel hb hpm hnd
      induction pl generalizing ps0 with
      | nil => cases ps0 with | nil => rfl | cons _ _ => cases hp
      | cons p pl ih =>
        cases ps0 with
        | nil => cases hp
        | cons q ps =>
          simp only [List.map_cons, List.cons.injEq, Prod.mk.injEq] at hp ⊢
          rw [ih hp.2, hp.1.1, hS.eval hp.1.2]; simp
    unfold flds at hf
    split at hf
    · rename_i fs hfs
      have hpl := run_places (P := P) (w := w) hf
      obtain ⟨i, hi, hzz⟩ := Option.map_eq_some_iff.1 hz
      obtain ⟨ti, hti, hzv⟩ := Option.bind_eq_some_iff.1 hi
      have hcells : i.cells = zs.flatten.toArray := by apply Array.ext'; simpa using hzz
      have hfill := fill_sel (fun j => (lay 0 zs).toArray[j]?) zs ss 0 [] ps (fun j => by simp) hSel
      simp only [List.nil_append] at hfill
      have hperm := fill_perm (place := fun j => (lay 0 zs).toArray[j]?) (fun i j a b hne h1 h2 => by
        simp only [List.getElem?_toArray] at h1 h2
        rcases Nat.lt_or_gt_of_ne hne with c | c
        · exact .inl (lay_lt zs 0 i j a b c h1 h2)
        · exact .inr (lay_lt zs 0 j i b a c h2 h1)) hpm hnd zs.flatten.toArray
      rw [← hperm] at hfill
      have hpl2 : (fs.mapM fun f => do pure (f.offset, ← sizeOf f.type) : Sem (Array (Nat × Nat))).run P w = .ok (lay 0 zs).toArray w := by
        rw [Array.mapM_eq_mapM_toList]
        simp only [Sem.run_map, hpl, Result.andThen_ok]
      refine ⟨.agg ss.flatten.toArray, w, ?_, m, φ, ⟨Frag.emp, φ, Frag.emp_le, .rfl, Frag.emp_dj, ⟨_, hC, by rw [hK]; rfl⟩, ho⟩, hh, hpp, hkk⟩
      simp only [execOp, Instr.build, Sem.run_bind, zeroValue, typeInfo, run_program, Result.andThen_ok, hti, Sem.run_pure, hzv, run_underlying hfs, hpl2, Array.toList_map, hpe]
      simp only [hcells]
      rw [show (Instr.fill (fun x => (lay 0 zs).toArray[x]?) zs.flatten.toArray ps0) = _ from hfill]
      rfl
    · cases hf
end
end Go.SL
