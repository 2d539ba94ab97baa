/- Plain lemmas on bits, lists and rows of memory, used by the contracts of this claim; each states its own conditions. -/
import Derived.Laws.BitsLemmas
import Derived.WalkKit
import Derived.Laws.CopyOwn
import Derived.Lib.SliceRun
import Derived.Test.YtpbofaghnfheiaaWWords
import Derived.Test.YtpbofaghnfheiaaWLast
import Derived.Test.YtpbofaghnfheiaaWMore
namespace Go.Proofs.Ytpbofaghnfheiaa.Aux
open Go Go.RowKit Go.Proofs.YtpbofaghnfheiaaW.PrintWords Go.Proofs.YtpbofaghnfheiaaW.PrintLast Go.Proofs.YtpbofaghnfheiaaW.PrintMore
set_option linter.unusedVariables false
set_option linter.unusedSimpArgs false
theorem wraps_i64 (n : Int) (h₀ : 0 ≤ n) (h₁ : n < 2 ^ 63) : IntKind.i64.wrap n = n := by rw [IntKind.wrap_i64]; omega
theorem wraps_u16 (n : Int) (h₀ : 0 ≤ n) (h₁ : n < 2 ^ 16) : IntKind.u16.wrap n = n := by simp [IntKind.wrap, IntKind.bits, IntKind.signed]; omega
theorem wraps_u32 (n : Int) (h₀ : 0 ≤ n) (h₁ : n < 2 ^ 32) : IntKind.u32.wrap n = n := by rw [IntKind.wrap_u32]; omega
theorem wraps_u64 (n : Int) (h₀ : 0 ≤ n) (h₁ : n < 2 ^ 64) : IntKind.u64.wrap n = n := by simp [IntKind.wrap, IntKind.bits, IntKind.signed]; omega
theorem i64_and_ffff (x : Int) (h0 : 0 ≤ x) (h1 : x < 9223372036854775808) : bits .and .i64 x 65535 = x % 65536 := bits_mask .i64 63 (by decide) wraps_i64 16 (by decide) x h0 h1
theorem i64_join8 (x y : Int) (h0 : 0 ≤ x) (h1 : x < 36028797018963968) (h2 : 0 ≤ y) (h3 : y < 256) : bits .or .i64 (x * 256) y = x * 256 + y :=
  bits_join .i64 63 (by decide) wraps_i64 8 (x * 256) y (by omega) (by show x * 256 % 256 = 0; omega) (by show x * 256 < 9223372036854775808; omega) h2 h3 (by show y < 9223372036854775808; omega)
theorem i64_xor_ffff (x : Int) (h0 : 0 ≤ x) (h1 : x < 65536) : bits .xor .i64 x 65535 = 65535 - x := by
  obtain ⟨a, rfl⟩ := Int.eq_ofNat_of_zero_le h0
  have ha : a < 2 ^ 16 := by omega
  have key : a ^^^ (2 ^ 16 - 1) = 2 ^ 16 - 1 - a := by
    apply Nat.eq_of_testBit_eq
    intro i
    rw [Nat.testBit_xor, Nat.testBit_two_pow_sub_one, show 2 ^ 16 - 1 - a = 2 ^ 16 - (a + 1) by omega, Nat.testBit_two_pow_sub_succ ha]
    by_cases hi : i < 16 <;> simp [hi]
    exact Nat.testBit_lt_two_pow (Nat.lt_of_lt_of_le ha (Nat.pow_le_pow_right (by decide) (by omega)))
  have ha' : a % 2 ^ IntKind.i64.bits = a := Nat.mod_eq_of_lt (Nat.lt_of_lt_of_le ha (Nat.pow_le_pow_right (by decide) (by decide)))
  have hb' : 65535 % 2 ^ IntKind.i64.bits = 65535 := Nat.mod_eq_of_lt (by decide)
  have e : bits .xor .i64 (a : Int) ((65535 : Nat) : Int) = ((a ^^^ 65535 : Nat) : Int) := by
    simp only [bits, BitVec.ofInt_natCast, BitVec.toNat_xor, BitVec.toNat_ofNat, ha', hb']
    exact wraps_i64 _ (Int.natCast_nonneg _) (by have : a ^^^ 65535 < 2 ^ 16 := Nat.xor_lt_two_pow ha (by decide); omega)
  have e2 := key
  rw [show (2 ^ 16 - 1 : Nat) = 65535 by decide] at e2
  rw [show (65535 : Int) = ((65535 : Nat) : Int) by rfl, e, e2]
  omega
theorem reps_enc {α : Type} (enc : α → Value) (xs : List α) (inner : List Value) : Reps (fun x cs => cs = [enc x]) 1 xs inner ↔ inner = xs.map enc := by
  constructor
  · rintro ⟨hl, h⟩
    apply List.ext_getElem?
    intro j
    by_cases hj : j < xs.length
    · have := h j xs[j] (List.getElem?_eq_getElem hj)
      rw [Nat.mul_one] at this
      have h2 := congrArg (fun l => l[0]?) this
      simp only [List.getElem?_take, List.getElem?_drop] at h2
      simp at h2
      rw [h2, List.getElem?_map, List.getElem?_eq_getElem hj]; rfl
    · rw [List.getElem?_eq_none (by omega), List.getElem?_eq_none (by simp; omega)]
  · rintro rfl
    refine ⟨by simp, fun j p hp => ?_⟩
    obtain ⟨hj, rfl⟩ := List.getElem?_eq_some_iff.1 hp
    rw [Nat.mul_one]
    apply List.ext_getElem?
    intro q
    cases q with
    | zero => simp [hj]
    | succ q => simp [List.getElem?_take]
theorem R_scalar_iff {α : Type} {enc : α → Value} {h1 : ∀ x, (enc x).oneCell' = true} {e : Nat} {W : World} {base : Nat} {ok : Nat → Prop} {v : Value} {xs : List α} :
    (Kd.scalar enc h1).R e W base ok v xs ↔ (∀ b, v.ownBlock = some b → ok b) ∧ W.ownsRow base e 1 v xs.length (xs.map enc) := by
  constructor
  · rintro ⟨h0, inner, ho, hr⟩
    have := (reps_enc enc xs inner).1 hr
    subst this
    exact ⟨h0, ho⟩
  · rintro ⟨h0, ho⟩
    exact ⟨h0, _, ho, (reps_enc enc xs _).2 rfl⟩
theorem splice_map {α β : Type} (f : α → β) (L : List α) (off : Nat) (cs : List α) : (splice L off cs).map f = splice (L.map f) off (cs.map f) := by simp [splice]
theorem splice_take {α : Type} (L : List α) (n off : Nat) (cs : List α) (h : off + cs.length ≤ n) (hn : n ≤ L.length) : (splice L off cs).take n = splice (L.take n) off cs := by
  unfold splice
  have e1 : (L.take off).length = off := by rw [List.length_take]; omega
  rw [List.take_append, List.take_append, e1, List.take_take, List.take_take, Nat.min_eq_right (show off ≤ n by omega), Nat.min_eq_left (show off ≤ n by omega), List.take_of_length_le (show cs.length ≤ n - off by omega), List.drop_take]
  congr 3
  omega
/-- Where an own row of one-celled elements lies, and what it is when its block has been written in part. -/
theorem R_scalar_splice {α : Type} {enc : α → Value} {h1 : ∀ x, (enc x).oneCell' = true} {e : Nat} {W : World} {base : Nat} {ok : Nat → Prop} {g n cap : Nat} {xs : List α} (h : (Kd.scalar enc h1).R e W base ok (.slice (some ⟨g, 0, none⟩) n cap) xs) :
    ∃ cur : List Value, W.heap[g]? = some (.cells cur.toArray e (0, 0)) ∧ n ≤ cur.length ∧ base ≤ g ∧ n = xs.length ∧ ∀ (off : Nat) (ys : List α) (W' : World), off + ys.length ≤ n → W'.heap[g]? = some (.cells (splice cur off (ys.map enc)).toArray e (0, 0)) → (Kd.scalar enc h1).R e W' base ok (.slice (some ⟨g, 0, none⟩) n cap) (splice xs off ys) := by
  obtain ⟨h0, h2, h3⟩ := R_scalar_iff.1 h
  rcases h3 with ⟨hv, _⟩ | ⟨g', cap', cur, hv, hb, hh, hnc, hcm, hcs, ht⟩
  · cases hv
  · cases hv
    refine ⟨cur.toList, by simpa using hh, by simp; omega, hb, rfl, fun off ys W' hf hw => ?_⟩
    have hl : (splice xs off ys).length = xs.length := length_splice _ _ _ hf
    refine R_scalar_iff.2 ⟨h0, by rw [hl]; simp [hl], .inr ⟨g, cap, _, by rw [hl], hb, hw, by omega, hcm, ?_, ?_⟩⟩
    · simp only [List.size_toArray]
      rw [length_splice _ _ _ (by simp; omega)]; simpa using hcs
    · simp only [hl]
      rw [splice_take _ _ _ _ (by simp; omega) (by simp; omega), splice_map]
      rw [ht]
/-- Zeros put into an own row. -/
theorem setCells_heap {g : Nat} {t : TypeId} : ∀ (vs : List Value) (cur : List Value) (off : Nat) (w : World), w.heap[g]? = some (.cells cur.toArray t (0, 0)) → off + vs.length ≤ cur.length → (w.setCells g off vs).heap[g]? = some (.cells (splice cur off vs).toArray t (0, 0))
  | [], cur, off, w, h, hf => by simpa [World.setCells, splice] using h
  | v :: vs, cur, off, w, h, hf => by
    have hs : (w.setCell ⟨g, off, none⟩ v).heap[g]? = some (.cells (cur.set off v).toArray t (0, 0)) := by
      have := blk_set h off v
      simpa using this
    have ih := setCells_heap vs (cur.set off v) (off + 1) (w.setCell ⟨g, off, none⟩ v) hs (by simp at hf ⊢; omega)
    simp only [World.setCells]
    rw [ih]
    congr 2
    simp only [List.length_cons] at hf
    unfold splice
    rw [List.take_set, List.drop_set]
    rw [if_pos (by omega)]
    congr 1
    rw [List.take_succ_eq_append_getElem (by omega), List.set_append_right _ _ (by simp; omega)]
    simp only [List.length_take, Nat.min_eq_left (show off ≤ cur.length by omega), Nat.sub_self, List.set_cons_zero, List.append_assoc, List.cons_append, List.nil_append, List.length_cons]
    rw [show off + 1 + vs.length = off + (vs.length + 1) by omega]
theorem C_nums_cells {k : IntKind} {w : World} {ad : Addr} {n : Nat} {xs : List Int} (h : Kd.C (Kd.int k) w (some ad) n xs) : ∀ j v, (nums k xs)[j]? = some v → w.cell? (ad.add j) = some v := by
  intro j v hv
  simp only [nums, List.getElem?_map, Option.map_eq_some_iff] at hv
  obtain ⟨x, hx, rfl⟩ := hv
  have hj : j < xs.length := (List.getElem?_eq_some_iff.1 hx).1
  have hn := Kd.C_len h
  obtain ⟨ad', e, hc⟩ := Kd.at_int h (j : Int) (by omega) (by omega)
  cases e
  rw [Int.toNat_natCast] at hc
  rw [hc]
  simp [rd, List.getD_eq_getElem?_getD, hx]
theorem nums_one {k : IntKind} {xs : List Int} : ∀ v ∈ nums k xs, v.oneCell' = true := by
  intro v hv
  simp only [nums, List.mem_map] at hv
  obtain ⟨x, _, rfl⟩ := hv
  rfl
theorem splice_splice {α : Type} (L : List α) (off : Nat) (a b : List α) (h : a.length = b.length) (hf : off + a.length ≤ L.length) : splice (splice L off a) off b = splice L off b := by
  unfold splice
  have e1 : (L.take off).length = off := by rw [List.length_take]; omega
  rw [List.take_append_of_le_length (by omega), List.take_of_length_le (by omega), List.drop_append, List.drop_eq_nil_of_le (by omega), e1, List.nil_append, List.drop_append, List.drop_eq_nil_of_le (by omega), List.nil_append, List.drop_drop, h]
  congr 3
  omega
theorem own_cut_from {P : Program} (t e : TypeId) (kl : IntKind) {i : TypeInfo} (ht : P.underlying t = some (.slice e)) (hi : P.info? e = some i) (hsz : i.size = 1) (g n c m : Nat) (hm : m ≤ n) (hc : m < c) :
    ∀ W : World, (Instr.slice t (.slice (some ⟨g, 0, none⟩) n c) (some (.int kl (m : Int))) none none).run P W = .ok (.slice (some ⟨g, m, none⟩) (n - m) (c - m)) W := by
  intro W
  have := cut_from (P := P) t e kl ht hi 1 hsz (some ⟨g, 0, none⟩) n c (m : Int) (by omega) (by omega) W
  rw [this, Int.toNat_natCast, if_neg (by omega)]
  simp [add_plain]
/-- The place of the first element that a test lets through; -1. -/
def idxOf {α : Type} (p : α → Bool) : List α → Int
  | [] => -1
  | x :: t => if p x = true then 0 else if idxOf p t < 0 then -1 else idxOf p t + 1
theorem idxOf_at {α : Type} (p : α → Bool) (d : α) : ∀ (xs : List α) (j : Nat), j < xs.length → (∀ q, q < j → p (xs.getD q d) = false) → p (xs.getD j d) = true → idxOf p xs = (j : Int)
  | [], j, h, _, _ => by simp at h
  | x :: t, 0, _, _, h => by simp at h; simp [idxOf, h]
  | x :: t, j + 1, hj, hn, h => by
    have h0 := hn 0 (by omega)
    simp at h0
    have ih := idxOf_at p d t j (by simp at hj; omega) (fun q hq => by have := hn (q + 1) (by omega); simpa using this) (by simpa using h)
    simp only [idxOf, h0, Bool.false_eq_true, if_false, ih]
    rw [if_neg (by omega)]; omega
theorem idxOf_none {α : Type} (p : α → Bool) (d : α) : ∀ (xs : List α), (∀ q, q < xs.length → p (xs.getD q d) = false) → idxOf p xs = -1
  | [], _ => rfl
  | x :: t, hn => by
    have h0 := hn 0 (by simp)
    simp at h0
    have ih := idxOf_none p d t (fun q hq => by have := hn (q + 1) (by simp; omega); simpa using this)
    simp only [idxOf, h0, Bool.false_eq_true, if_false, ih]
    rw [if_pos (by omega)]
theorem idxOf_any {α : Type} (p : α → Bool) : ∀ (xs : List α), decide (0 ≤ idxOf p xs) = xs.any p
  | [] => rfl
  | x :: t => by
    have ih := idxOf_any p t
    simp only [idxOf, List.any_cons, ← ih]
    by_cases hx : p x = true
    · simp [hx]
    · have hx : p x = false := by simpa using hx
      simp only [hx, Bool.false_eq_true, if_false, Bool.false_or]
      split <;> simp <;> omega
theorem bcell {W w1 : World} (hb : Below W.heap.size W w1) : (∀ b o, b < W.heap.size → w1.cell? ⟨b, o, none⟩ = W.cell? ⟨b, o, none⟩) ∧ (∀ b o, b < W.heap.size → w1.frozen? ⟨b, o, none⟩ = W.frozen? ⟨b, o, none⟩) :=
  ⟨fun b o h => hb.cell (p := ⟨b, o, none⟩) h, fun b o h => hb.frozen (p := ⟨b, o, none⟩) h⟩
theorem heap_alloc_old (W : World) (o : Obj) {i : Nat} (h : i < W.heap.size) : (W.alloc o).heap[i]? = W.heap[i]? := (below_alloc (Below.refl _ W) o).block i h
/-! short names, for great texts -/
abbrev τ : Bool := true
abbrev φ : Bool := false
theorem a0 {p : Prop} (h : p) : Aside0 p := ⟨h⟩
theorem mK {p : Prop} (h : p) : Aside0 p := ⟨h⟩
theorem bN {w : World} {g : Nat} {o : Obj} (h : w.heap[g]? = some o) (n : Nat) : (w.drewN n).heap[g]? = some o := blk_drewN h n
theorem bD {w : World} {g : Nat} {o : Obj} (h : w.heap[g]? = some o) : w.drew.heap[g]? = some o := blk_drew h
theorem bA {w : World} {g : Nat} {o : Obj} (h : w.heap[g]? = some o) (x : Obj) : (w.alloc x).heap[g]? = some o := blk_alloc h x
theorem lA {w W : World} (h : Below w.heap.size w W) (o : Obj) : Below w.heap.size w (W.alloc o) := below_alloc h o
theorem lN {B : Nat} {w W : World} (h : Below B w W) (n : Nat) : Below B w (W.drewN n) := pw_below_drewN h n
theorem lD {B : Nat} {w W : World} (h : Below B w W) : Below B w W.drew := below_drew1 h
theorem lS {w W : World} {g j : Nat} {v : Value} (h : Below w.heap.size w W) (hg : w.heap.size ≤ g) : Below w.heap.size w (W.setCell ⟨g, j, none⟩ v) := below_set h hg
/-- A row that has an element at a place isn't empty. -/
theorem len_pos {α : Type} {l : List α} {x : Int} (h : decide (x < (l.length : Int)) = true) (h0 : decide (0 ≤ x) = true) : 0 < l.length := by
  have h1 := of_decide_eq_true h
  have h2 := of_decide_eq_true h0
  omega
theorem sT {α : Type} (l : List α) (i : Nat) (a : α) : l.toArray.setIfInBounds i a = (l.set i a).toArray := by simp
theorem sZ {α : Type} (a b : α) (l : List α) : (a :: l).set 0 b = b :: l := rfl
theorem sS {α : Type} (a b : α) (l : List α) (n : Nat) : (a :: l).set (n + 1) b = a :: l.set n b := rfl
section
variable {α : Type} {d : Kd α} {e base : Nat} {w : World} {ok : Nat → Prop} {v : Value} {xs : List α}
theorem vA (h : Kd.V d e w base ok v xs) (o : Obj) : Kd.V d e (w.alloc o) base ok v xs := Kd.V_alloc h o
theorem vN (h : Kd.V d e w base ok v xs) (m : Nat) : Kd.V d e (w.drewN m) base ok v xs := Kd.V_drewN h m
theorem vD (h : Kd.V d e w base ok v xs) : Kd.V d e w.drew base ok v xs := Kd.V_drew h
theorem rA (h : Kd.R d e w base ok v xs) (o : Obj) : Kd.R d e (w.alloc o) base ok v xs := Kd.R_alloc h o
theorem rN (h : Kd.R d e w base ok v xs) (m : Nat) : Kd.R d e (w.drewN m) base ok v xs := Kd.R_drewN h m
theorem rD (h : Kd.R d e w base ok v xs) : Kd.R d e w.drew base ok v xs := Kd.R_drew h
end
end Go.Proofs.Ytpbofaghnfheiaa.Aux
namespace Go.Proofs.YtpbofaghnfheiaaW.PrintWords.Kd
open Go Go.RowKit
/-- A row that is read and has an element lies in a block that it names. -/
theorem V_away {α : Type} {d : Kd α} {e base g : Nat} {W : World} {ok : Nat → Prop} {v : Value} {xs : List α} (h : V d e W base ok v xs) (hok : ∀ k, ok k → k ≠ g) (hp : 0 < xs.length := by first | omega | exact of_decide_eq_true (by assumption) | (refine Go.Proofs.Ytpbofaghnfheiaa.Aux.len_pos (x := ?x_) ?h1_ ?h2_; (case h1_ => assumption); (case h2_ => assumption))) (hs : 0 < d.sz := by first | exact Nat.one_pos | decide) : some g ≠ v.ownBlock := by
  obtain ⟨A, c, rfl, hl, hf⟩ := h
  intro he
  obtain ⟨ad0, eA, hc0⟩ := (F_now hf).2.2 hp
  subst eA
  simp only [Value.ownBlock, Option.some.injEq] at he
  obtain ⟨c0, hcl, hK, hcell⟩ := hc0 0 _ (List.getElem?_eq_getElem hp)
  have h1 := hcell 0 _ (List.getElem?_eq_getElem (by omega))
  have hlt : ad0.block < W.heap.size := by
    have := World.block_lt_of_cell? W _ h1
    simpa [Addr.add] using this
  let W' : World := { W with heap := W.heap.setIfInBounds g (.cells #[] 0) }
  have hW : ∀ k, ok k → k < W.heap.size → W'.heap[k]? = W.heap[k]? := fun k hk _ => by
    show (W.heap.setIfInBounds g _)[k]? = _
    rw [Array.getElem?_setIfInBounds]
    rw [if_neg (fun h => hok k hk h.symm)]
  obtain ⟨ad1, e1, hc1⟩ := (hf W' hW).2.2 hp
  cases e1
  obtain ⟨c1, hcl1, _, hcell1⟩ := hc1 0 _ (List.getElem?_eq_getElem hp)
  have h2 := hcell1 0 _ (List.getElem?_eq_getElem (by omega))
  have hb : W'.heap[ad0.block]? = some (.cells #[] 0) := by
    show (W.heap.setIfInBounds g _)[ad0.block]? = _
    rw [Array.getElem?_setIfInBounds, if_pos he, if_pos (by omega)]
  have hcn : W'.cell? (ad0.add (0 * d.sz + 0)) = none := by
    simp [Addr.add, World.cell?, hb]
    try (cases ad0.spot <;> simp)
  rw [hcn] at h2
  cases h2
end Go.Proofs.YtpbofaghnfheiaaW.PrintWords.Kd
