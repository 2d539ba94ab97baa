/- Short words for the printed proofs; each rule states its own conditions. -/
import Derived.Test.YtgkgekaiajjcaaaSlR
namespace Go.SL
open Go Go.RowKit
set_option linter.unusedVariables false
set_option linter.unusedSimpArgs false

/-! ### Zeros -/
def ZC {α : Type} (K : Kd α) (z : α) (cs : List Value) : Prop := ∀ m, K.C m Frag.emp z cs
instance (k : IntKind) (x : Int) : Decidable (InR k x) := inferInstanceAs (Decidable (k.wrap x = x))
instance (x : List Int) : Decidable (Bs x) := inferInstanceAs (Decidable (∀ b ∈ x, InR .u8 b))
theorem inr_zero (k : IntKind) : InR k 0 := by cases k <;> decide
theorem z_int {k : IntKind} : ZC (Kd.int k) 0 [.int k 0] := fun _ => ⟨rfl, inr_zero k⟩
theorem z_bool : ZC Kd.bool false [.bool false] := fun _ => rfl
theorem z_str : ZC Kd.str [] [.string (mkS [])] := fun _ => ⟨rfl, fun _ h => by cases h⟩
theorem z_sl {α : Type} {K : Kd α} : ZC (Kd.sl K) [] [.slice none 0 0] := fun _ => ⟨none, 0, rfl, ⟨Nat.le_refl _, by decide⟩, [], Enc.nil, fun i x h => by simp at h⟩
theorem z_osl {α : Type} {K : Kd α} : ZC (Kd.osl K) [] [.slice none 0 0] := fun _ => ⟨none, 0, rfl, Nat.le_refl _, by decide, .inl ⟨rfl, rfl, rfl⟩⟩
theorem z_last {α : Type} {A : Kd α} {x : α} {c : List Value} (h : ZC A x c) : ZC (Kd.last A) x c := h
theorem z_pair {α β : Type} {A : Kd α} {B : Kd β} {x : α} {y : β} {c d : List Value} (h : ZC A x c) (k : ZC B y d) : ZC (Kd.pair A B) (x, y) (c ++ d) := fun m => ⟨c, d, Frag.emp, Frag.emp, rfl, .rfl, .rfl, Frag.emp_dj, h m, k m⟩
theorem z_iso {α β : Type} {A : Kd α} {g : β → α} {x : β} {c : List Value} (h : ZC A (g x) c) : ZC (Kd.iso A g) x c := h
theorem z_arr {α : Type} {A : Kd α} {x : α} {c : List Value} {n : Nat} (h : ZC A x c) : ZC (Kd.arr A n) (List.replicate n x) (List.replicate n c).flatten := fun m => by
  have hE := Enc.replicate (h m) n
  have hl := hE.len
  simp only [List.length_replicate] at hl
  exact ⟨by simp, hl, hE.oneCell, fun i y hy => hE.at_ i y hy⟩
/-! ### Ranges -/
theorem ifS {p : Prop} [Decidable p] {α : Type} {a : Option α} {r : α} (H : (if p then a else none) = some r) : p ∧ a = some r := by
  by_cases h : p
  · rw [if_pos h] at H; exact ⟨h, H⟩
  · rw [if_neg h] at H; cases H
def wid : IntKind → IntKind → Bool
  | .u8, .u16 | .u8, .u32 | .u8, .u64 | .u8, .i16 | .u8, .i32 | .u8, .i64 | .u16, .u32 | .u16, .u64 | .u16, .i32 | .u16, .i64 | .u32, .u64 | .u32, .i64 | .i8, .i16 | .i8, .i32 | .i8, .i64 | .i16, .i32 | .i16, .i64 | .i32, .i64 => true
  | a, b => decide (a = b)
theorem inr_wid {k k' : IntKind} {x : Int} (h : InR k x) (hw : wid k k' = true) : InR k' x := by
  unfold InR at *
  cases k <;> cases k' <;> first | exact h | (simp [wid] at hw; done) | (simp only [IntKind.wrap, IntKind.bits, IntKind.signed] at *; simp at *; omega)
section
variable {P : Program} {E : List (Nat × Value)} {L : List Ent} {α β : Type}
variable {d : Option Tmp} {ty : TypeId} {pos : String} {aft : Array Edge} {g : Option (Nat × Bool)}
/-- A conversion that changes nothing. -/
theorem o_convw {s t : TypeId} {x : Operand} {k k' : IntKind} {p : Int} (hx : opv E x = some (.int k p)) (hs : (P.underlying s).isSome = true) (ht : P.underlying t = some (.int k')) (hp : InR k p) (hw : wid k k' = true) :
    OpS (σ := Unit) P E L ⟨d, .convert s t x, ty, pos, aft, g⟩ (fun _ => .int k' p) (fun _ => L) := by
  have := o_conv (P := P) (L := L) (d := d) (ty := ty) (pos := pos) (aft := aft) (g := g) hx hs ht
  rw [show k'.wrap p = p from inr_wid hp hw] at this
  exact this
def kLo : IntKind → Int
  | .i8 => -128 | .i16 => -32768 | .i32 => -2147483648 | .i64 => -9223372036854775808 | _ => 0
def kHi : IntKind → Int
  | .i8 => 127 | .i16 => 32767 | .i32 => 2147483647 | .i64 => 9223372036854775807 | .u8 => 255 | .u16 => 65535 | .u32 => 4294967295 | .u64 => 18446744073709551615
theorem inr_iff {k : IntKind} {x : Int} : InR k x ↔ kLo k ≤ x ∧ x ≤ kHi k := by
  unfold InR
  cases k <;> simp only [IntKind.wrap, IntKind.bits, IntKind.signed, kLo, kHi] <;> simp <;> omega
theorem inr_shr {k : IntKind} {p q : Int} (h : InR k p) : InR k (ishr k p q) := by
  have hp : (0 : Int) < 2 ^ min q.toNat k.bits := Int.pow_pos (by decide)
  rw [inr_iff] at h ⊢
  unfold ishr
  generalize (2 : Int) ^ min q.toNat k.bits = D at hp
  have lo0 : kLo k ≤ 0 := by cases k <;> decide
  have hi0 : 0 ≤ kHi k := by cases k <;> decide
  rcases Int.le_total 0 p with h2 | h2
  · have h3 := Int.ediv_nonneg h2 (Int.le_of_lt hp)
    have h4 := Int.ediv_le_self D h2
    omega
  · have h3 : p ≤ p / D := by
      rw [Int.le_ediv_iff_mul_le hp]
      have := Int.mul_nonneg (a := -p) (b := D - 1) (by omega) (by omega)
      rw [Int.mul_sub, Int.mul_one, Int.neg_mul] at this
      omega
    have h4 : p / D ≤ 0 := by
      have := Int.ediv_le_ediv hp h2
      simpa using this
    omega
theorem inr_rem {k : IntKind} {p q : Int} (h : InR k p) : InR k (p.tmod q) := by
  rw [inr_iff] at h ⊢
  have lo0 : kLo k ≤ 0 := by cases k <;> decide
  have hi0 : 0 ≤ kHi k := by cases k <;> decide
  rcases Int.le_total 0 p with h2 | h2
  · have h3 := Int.tmod_nonneg q h2
    have h4 : p.tmod q ≤ p := by
      have := Int.natAbs_tmod p q
      have := Nat.mod_le p.natAbs q.natAbs
      omega
    omega
  · have h3 : p.tmod q ≤ 0 := by
      have := Int.tmod_nonneg q (a := -p) (by omega)
      rw [Int.neg_tmod] at this
      omega
    have h4 : p ≤ p.tmod q := by
      have := Int.natAbs_tmod p q
      have := Nat.mod_le p.natAbs q.natAbs
      omega
    omega
theorem o_pickT {c x y : Operand} {b : Bool} {u : Value} (hc : opv E c = some (.bool b)) (hx : opv E x = some u) (hb : b = true) :
    OpS (σ := Unit) P E L ⟨d, .pick c x y, ty, pos, aft, g⟩ (fun _ => u) (fun _ => L) :=
  .pure fun n a w hs => by subst hb; simp [execOp, hs.eval hc, hs.eval hx, asBool]
theorem o_pickF {c x y : Operand} {b : Bool} {u : Value} (hc : opv E c = some (.bool b)) (hy : opv E y = some u) (hb : ¬ b = true) :
    OpS (σ := Unit) P E L ⟨d, .pick c x y, ty, pos, aft, g⟩ (fun _ => u) (fun _ => L) :=
  .pure fun n a w hs => by cases b <;> simp_all [execOp, hs.eval hc, hs.eval hy, asBool]
theorem nbF {b : Bool} (h : ¬ b = true) : b = false := by cases b <;> simp_all
theorem bnT {b : Bool} (h : (!b) = true) : ¬ b = true := by cases b <;> simp_all
theorem bnF {b : Bool} (h : ¬ (!b) = true) : b = true := by cases b <;> simp_all
theorem nb_f {b : Bool} (h : ¬ b = true) : notB (.bool b) true = true := by cases b <;> simp_all [notB]
theorem nb_t {b : Bool} (h : b = true) : notB (.bool b) false = true := by cases b <;> simp_all [notB]
theorem o_min {x y : Operand} {k : IntKind} {p q : Int} {ts : Array TypeId} (hx : opv E x = some (.int k p)) (hy : opv E y = some (.int k q)) :
    OpS (σ := Unit) P E L ⟨d, .call { callee := .builtin .min, args := #[x, y], argTypes := ts }, ty, pos, aft, g⟩ (fun _ => .int k (min p q)) (fun _ => L) :=
  .pure fun n a w hs => by
    simp [execOp, hs.eval hx, hs.eval hy, resolve, invoke, builtin, Builtin.min_, Builtin.min2]
    omega
theorem o_max {x y : Operand} {k : IntKind} {p q : Int} {ts : Array TypeId} (hx : opv E x = some (.int k p)) (hy : opv E y = some (.int k q)) :
    OpS (σ := Unit) P E L ⟨d, .call { callee := .builtin .max, args := #[x, y], argTypes := ts }, ty, pos, aft, g⟩ (fun _ => .int k (max p q)) (fun _ => L) :=
  .pure fun n a w hs => by
    simp [execOp, hs.eval hx, hs.eval hy, resolve, invoke, builtin, Builtin.max_, Builtin.max2]
    omega
theorem inr_min {k : IntKind} {p q : Int} (h : InR k p) (h2 : InR k q) : InR k (min p q) := by rcases Int.le_total p q with e | e <;> simp [Int.min_eq_left, Int.min_eq_right, e, h, h2]
theorem inr_max {k : IntKind} {p q : Int} (h : InR k p) (h2 : InR k q) : InR k (max p q) := by rcases Int.le_total p q with e | e <;> simp [Int.max_eq_left, Int.max_eq_right, e, h, h2]
/-! ### Facts out of the entries -/
theorem Mem.own' {F : Fr} {w : World} (h : Mem F L w) : ∃ m φ, Own L m φ := by obtain ⟨m, φ, o, _⟩ := h; exact ⟨m, φ, o⟩
theorem rd_el {K : Kd α} {v : Value} {xs : List α} (hr : RD K v xs L) {i : Int} {z : α} (h : idx xs i = some z) {m φ : Frag} (o : Own L m φ) : ∃ cs, K.C m Frag.emp z cs := by
  obtain ⟨a, cap, _, _, f, _, cs, hE, _⟩ := hr m φ o
  exact ⟨_, hE.at_ _ _ (idx_spec h).2.2⟩
theorem pv_idx {k : IntKind} {v : Value} {xs : List Int} (hr : RD (Kd.int k) v xs L) {i z : Int} (h : idx xs i = some z) : PV (Kd.int k) (.int k z) z L := fun m φ o => by
  obtain ⟨cs, rfl, hin⟩ := rd_el hr h o
  exact ⟨_, ⟨rfl, hin⟩, rfl⟩
theorem rd_inr {k : IntKind} {v : Value} {xs : List Int} (hr : RD (Kd.int k) v xs L) {i z : Int} (h : idx xs i = some z) {F : Fr} {w : World} (hm : Mem F L w) : InR k z := by
  obtain ⟨m, φ, o⟩ := hm.own'
  obtain ⟨cs, _, hin⟩ := rd_el hr h o
  exact hin
theorem rd_strs {v : Value} {xs : List (List Int)} (hr : RD Kd.str v xs L) {i : Int} {z : List Int} (h : idx xs i = some z) {F : Fr} {w : World} (hm : Mem F L w) : Bs z := by
  obtain ⟨m, φ, o⟩ := hm.own'
  obtain ⟨cs, _, hin⟩ := rd_el hr h o
  exact hin
theorem rd_sub {K : Kd α} {A : Kd β} {pr : α → β} {off : Nat} (hs : Sub K off A pr) {v : Value} {xs : List α} (hr : RD K v xs L) {i : Int} {z : α} (h : idx xs i = some z) {F : Fr} {w : World} (hm : Mem F L w) : ∃ m cs, A.C m Frag.emp (pr z) cs := by
  obtain ⟨m, φ, o⟩ := hm.own'
  obtain ⟨cs, hC⟩ := rd_el hr h o
  obtain ⟨_, f, hf, hA⟩ := hs _ _ _ _ hC
  exact ⟨m, _, A.mono .rfl hf hA⟩
theorem pv_sub {K : Kd α} {A : Kd β} {pr : α → β} {off : Nat} (hs : Sub K off A pr) {v : Value} {y : α} (hv : PV K v y L) {F : Fr} {w : World} (hm : Mem F L w) : ∃ m cs, A.C m Frag.emp (pr y) cs := by
  obtain ⟨m, φ, o⟩ := hm.own'
  obtain ⟨cs, hC, _⟩ := hv m φ o
  obtain ⟨_, f, hf, hA⟩ := hs _ _ _ _ hC
  exact ⟨m, _, A.mono .rfl hf hA⟩
theorem fd_sub {K : Kd α} {A : Kd β} {pr : α → β} {off b o : Nat} (hs : Sub K off A pr) {y : α} (i : Nat) (hi : L[i]? = some (Fld K b o y)) {F : Fr} {w : World} (hm : Mem F L w) : ∃ m φ cs, A.C m φ (pr y) cs := by
  obtain ⟨m, φ, _, _, cs, f1, f2, _, _, _, _, hC⟩ := hm.get hi
  obtain ⟨_, f, hf, hA⟩ := hs _ _ _ _ hC
  exact ⟨m, f, _, hA⟩
theorem fd_in {k : IntKind} {b o : Nat} {y : Int} (i : Nat) (hi : L[i]? = some (Fld (Kd.int k) b o y)) {F : Fr} {w : World} (hm : Mem F L w) : InR k y := by
  obtain ⟨m, φ, _, _, cs, f1, f2, _, _, _, _, hC⟩ := hm.get hi
  exact hC.2
theorem fd_bs {b o : Nat} {y : List Int} (i : Nat) (hi : L[i]? = some (Fld Kd.str b o y)) {F : Fr} {w : World} (hm : Mem F L w) : Bs y := by
  obtain ⟨m, φ, _, _, cs, f1, f2, _, _, _, _, hC⟩ := hm.get hi
  exact hC.2
theorem in1 {k : IntKind} {x : Int} (h : ∃ m cs, (Kd.int k).C m Frag.emp x cs) : InR k x := by obtain ⟨_, _, _, h⟩ := h; exact h
theorem in2 {k : IntKind} {x : Int} (h : ∃ m φ cs, (Kd.int k).C m φ x cs) : InR k x := by obtain ⟨_, _, _, _, h⟩ := h; exact h
theorem bs1 {x : List Int} (h : ∃ m cs, Kd.str.C m Frag.emp x cs) : Bs x := by obtain ⟨_, _, _, h⟩ := h; exact h
theorem bs2 {x : List Int} (h : ∃ m φ cs, Kd.str.C m φ x cs) : Bs x := by obtain ⟨_, _, _, _, h⟩ := h; exact h
theorem Mem.pur {F : Fr} {w : World} {p : Prop} (i : Nat) (hi : L[i]? = some (Ent.pur p)) (h : Mem F L w) : p := by
  obtain ⟨m, φ, _, _, hp⟩ := h.get hi
  exact hp
theorem Mem.addpur {F : Fr} {w : World} {p : Prop} (hp : p) (h : Mem F L w) : Mem F (Ent.pur p :: L) w := h.addP fun _ _ _ => hp
theorem Mem.nilo {F : Fr} {w : World} (K : Kd α) (h : Mem F L w) : Mem F (Val (Kd.osl K) (.slice none 0 0) [] :: L) w := h.addP fun m _ _ => ⟨_, z_osl m, rfl⟩
theorem rd_bs {v : Value} {xs : List Int} (hr : RD (Kd.int .u8) v xs L) {F : Fr} {w : World} (hm : Mem F L w) : Bs xs := by
  obtain ⟨m, φ, o⟩ := hm.own'
  intro b hb
  obtain ⟨i, hi, rfl⟩ := List.getElem_of_mem hb
  obtain ⟨a, cap, _, _, f, _, cs, hE, _⟩ := hr m φ o
  exact (hE.at_ i _ (List.getElem?_eq_getElem hi)).2
theorem OpS.pm {σ : Type} {L' : List Ent} {o : Oper} {ret : σ → Value} {out : σ → List Ent} (k : ∀ F w, Mem F L w → Mem F L' w) (h : OpS P E L' o ret out) : OpS P E L o ret out := fun n F a w hS hm => h n F a w hS (k F w hm)
theorem OpS.pur {σ : Type} {o : Oper} {ret : σ → Value} {out : σ → List Ent} {p : Prop} (hp : ∀ F w, Mem F L w → p) (h : OpS P E L o ret out) : OpS P E L o ret (fun s => Ent.pur p :: out s) := fun n F a w hS hm =>
  wp_mono2 (fun a' w' ⟨s, e, hm'⟩ => ⟨s, e, hm'.addpur (hp F w hm)⟩) (fun _ _ _ h => h) (h n F a w hS hm)
theorem OpS.fact {σ : Type} {o : Oper} {ret : σ → Value} {out : σ → List Ent} {p : Prop} (hp : ∀ F w, Mem F L w → p) (k : p → OpS P E L o ret out) : OpS P E L o ret out := fun n F a w hS hm => k (hp F w hm) n F a w hS hm
theorem ptr_d {o : Oper} {α : Type} {K : Kd α} {y : α} (h : OpS P E L o (fun b : Nat => .pointer (some ⟨b, 0, none⟩)) (fun b => Fld K b 0 y :: L)) : OpS P E L o (fun b : Nat => .pointer (some ⟨b, 0, none⟩)) (fun b => Ent.pur (Value.pointer (some ⟨b, 0, none⟩) = .pointer (some ⟨blk (.pointer (some ⟨b, 0, none⟩)), 0, none⟩)) :: Fld K (blk (.pointer (some ⟨b, 0, none⟩))) 0 y :: L) := fun n F a w hS hm =>
  wp_mono2 (fun a' w' ⟨s, e, hm'⟩ => ⟨s, e, hm'.addpur rfl⟩) (fun _ _ _ h => h) (h n F a w hS hm)
theorem OpS.mm {σ : Type} {o : Oper} {ret : σ → Value} {out out' : σ → List Ent} (h : OpS P E L o ret out) (k : ∀ s F w, Mem F (out s) w → Mem F (out' s) w) : OpS P E L o ret out' := fun n F a w hS hm =>
  wp_mono2 (fun a' w' ⟨s, e, hm'⟩ => ⟨s, e, k s F w' hm'⟩) (fun _ _ _ h => h) (h n F a w hS hm)
/-! ### Variables that nobody turns any more -/
def Pfl {α : Type} (K : Kd α) (b o : Nat) (x : α) : Ent := ⟨fun m φ => ∃ cs, (∀ (j : Nat) (c : Value), cs[j]? = some c → ∃ fz, m b (o + j) = some (.cell c fz)) ∧ K.C m Frag.emp x cs,
  fun a b ⟨cs, h, k⟩ => ⟨cs, fun j c hj => by obtain ⟨fz, h⟩ := h j c hj; exact ⟨fz, a _ _ _ h⟩, K.mono a .rfl k⟩⟩
theorem Per_pfl {K : Kd α} {b o : Nat} {x : α} : (Pfl K b o x).Per := fun _ _ h => h
theorem Mem.frz {F : Fr} {w : World} (h : Mem F L w) {K : Kd α} {b o : Nat} {x : α} (hK : K.Per) (i : Nat) (hi : L[i]? = some (Fld K b o x)) : Mem F (L.set i (Pfl K b o x)) w :=
  h.upd i hi (fun m φ fr hh ⟨cs, f1, f2, l1, l2, dd, hc, hk⟩ _ => by
    have l : m.le (m.un φ) := Frag.le_un_left
    have l' : φ.le (m.un φ) := Frag.le_un_right hh.d1.symm
    exact ⟨m.un φ, Frag.emp, l, ⟨Frag.emp_dj, Frag.emp_dj, Frag.un_dj hh.d3 hh.d2, Frag.emp_le, Frag.un_le hh.l2 hh.l1, hh.l3⟩, cs, fun j c hj => ⟨false, l' _ _ _ (l1 _ _ _ (hc j c hj))⟩, K.mono l .rfl (hK _ _ _ _ hk)⟩) (Ok.refl w)
theorem pfl_sub {K : Kd α} {A : Kd β} {pr : α → β} {off b o o' : Nat} {y : α} {m φ : Frag} {w : World} {t : TypeId} (hs : Sub K off A pr) (he : o + off = o') (ht : tyI P t = some (A.agg, A.n)) (h : (Pfl K b o y).H m φ) (hw : m.le (hp w)) :
    ∃ cs, A.C m Frag.emp (pr y) cs ∧ (Instr.loadAt t (.pointer (some ⟨b, o', none⟩))).run P w = .ok (pack A.agg cs) w := by
  obtain ⟨cs, hc, hk⟩ := h
  obtain ⟨hl, f, hf, hA⟩ := hs m _ y cs hk
  subst he
  refine ⟨_, A.mono .rfl hf hA, ?_⟩
  have := run_loadVar' ht w ⟨b, o + off, none⟩ (A.len hA) A.sgl (fun j c hj => by
    have hj2 := (List.getElem?_eq_some_iff.1 hj).1
    rw [List.length_take] at hj2
    rw [List.getElem?_take_of_lt (by omega), List.getElem?_drop] at hj
    obtain ⟨fz, hfz⟩ := hc _ c hj
    refine hp_cell_add (hw _ _ _ ?_) (fz := fz)
    rw [Nat.add_assoc]; exact hfz)
  simp [Instr.loadAt, Instr.sureAddr, this]
theorem p_lfx {x : Operand} {b o o' off t : Nat} {K : Kd α} {A : Kd β} {pr : α → β} {y : α} {ex : β → Value} (i : Nat) (hx : opv E x = some (.pointer (some ⟨b, o', none⟩))) (hi : L[i]? = some (Pfl K b o y)) (hs : Sub K off A pr) (he : o + off = o') (hA : A.X ex) (ht : tyI P t = some (A.agg, A.n)) :
    OpS (σ := Unit) P E L ⟨d, .load t x, ty, pos, aft, g⟩ (fun _ => ex (pr y)) (fun _ => L) :=
  .run fun n F a w hS hm => by
    obtain ⟨m, φ, hm1, hf1, h⟩ := hm.get hi
    obtain ⟨cs, hk, hr⟩ := pfl_sub (P := P) hs he ht h hm1
    obtain ⟨rfl, ha⟩ := hA _ _ _ _ hk
    rw [ha] at hr
    exact ⟨(), w, by simp [execOp, hS.eval hx, hr, pack], hm⟩
theorem p_lfv {x : Operand} {b o o' off t : Nat} {K : Kd α} {A : Kd β} {pr : α → β} {y : α} (i : Nat) (hx : opv E x = some (.pointer (some ⟨b, o', none⟩))) (hi : L[i]? = some (Pfl K b o y)) (hs : Sub K off A pr) (he : o + off = o') (ht : tyI P t = some (A.agg, A.n)) :
    OpS P E L ⟨d, .load t x, ty, pos, aft, g⟩ (fun v => v) (fun v => Val A v (pr y) :: L) :=
  .run fun n F a w hS hm => by
    obtain ⟨m, φ, ho, hh, hp, hk⟩ := hm
    obtain ⟨f0, hf0, h⟩ := ho.get hi
    obtain ⟨cs, hC, hr⟩ := pfl_sub (P := P) (w := w) hs he ht h hh.l2
    exact ⟨pack A.agg cs, w, by simp [execOp, hS.eval hx, hr], m, φ, ⟨Frag.emp, φ, Frag.emp_le, .rfl, Frag.emp_dj, ⟨cs, hC, rfl⟩, ho⟩, hh, hp, hk⟩
theorem pf_sub {K : Kd α} {A : Kd β} {pr : α → β} {off b o : Nat} (hs : Sub K off A pr) {y : α} (i : Nat) (hi : L[i]? = some (Pfl K b o y)) {F : Fr} {w : World} (hm : Mem F L w) : ∃ m φ cs, A.C m φ (pr y) cs := by
  obtain ⟨m, φ, _, _, cs, _, hC⟩ := hm.get hi
  obtain ⟨_, f, hf, hA⟩ := hs _ _ _ _ hC
  exact ⟨m, f, _, hA⟩
/-! ### Slices by one fact of the type -/
def slTy (P : Program) (t : TypeId) (n : Nat) : Bool := match P.underlying t with
  | some (.slice e) => match P.info? e with
    | some ei => ei.size == n && decide (0 < n)
    | none => false
  | _ => false
theorem slTy_spec {t : TypeId} {n : Nat} (h : slTy P t n = true) : ∃ e ei, P.underlying t = some (.slice e) ∧ P.info? e = some ei ∧ ei.size = n ∧ 0 < n := by
  unfold slTy at h
  split at h
  · rename_i e he
    split at h
    · rename_i ei hei
      simp only [Bool.and_eq_true, beq_iff_eq, decide_eq_true_eq] at h
      exact ⟨e, ei, he, hei, h.1, h.2⟩
    · cases h
  · cases h
theorem o_ix {x y : Operand} {t : TypeId} {K : Kd α} {v : Value} {xs : List α} {k : IntKind} {i : Int} {z : α} (hx : opv E x = some v) (hy : opv E y = some (.int k i)) (hr : RD K v xs L) (h : idx xs i = some z) (ht : slTy P t K.n = true) :
    OpS (σ := Unit) P E L ⟨d, .indexAddr t x y, ty, pos, aft, g⟩ (fun _ => elemP v (i.toNat * K.n)) (fun _ => L) := by
  obtain ⟨e, ei, h1, h2, h3, h4⟩ := slTy_spec ht
  exact o_ixa hx hy hr h h1 h2 h3 h4
theorem o_ln {x : Operand} {t n : Nat} {K : Kd α} {v : Value} {xs : List α} (hx : opv E x = some v) (hr : RD K v xs L) (ht : slTy P t n = true) :
    OpS (σ := Unit) P E L ⟨d, .call { callee := .builtin .len, args := #[x], argTypes := #[t] }, ty, pos, aft, g⟩ (fun _ => .int .i64 (xs.length : Int)) (fun _ => L) := by
  obtain ⟨e, ei, h1, _⟩ := slTy_spec ht
  exact o_len hx hr h1
theorem len_inr {n : Nat} (h : n ≤ maxLen) : InR .i64 (n : Int) := by rw [inr_iff]; simp only [kLo, kHi, maxLen] at *; omega
theorem len_at {K : Kd α} {v : Value} {xs : List α} {F : Fr} {w : World} (i : Nat) (hi : L[i]? = some (Val (Kd.sl K) v xs)) (hm : Mem F L w) : InR .i64 (xs.length : Int) := by
  obtain ⟨m, φ, _, _, he⟩ := hm.get hi
  obtain ⟨_, _, _, h, _⟩ := Val_slm he
  exact len_inr (by omega)
theorem len_own {K : Kd α} {v : Value} {xs : List α} {F : Fr} {w : World} (i : Nat) (hi : L[i]? = some (Val (Kd.osl K) v xs)) (hm : Mem F L w) : InR .i64 (xs.length : Int) := by
  obtain ⟨m, φ, _, _, he⟩ := hm.get hi
  obtain ⟨_, _, _, h, h2, _⟩ := Val_osl he
  exact len_inr (by omega)
/-- v[lo:], v[:hi], v[lo:hi] -/
theorem o_cut {x l h : Operand} {t : TypeId} {K : Kd α} {v : Value} {xs ys : List α} {k k2 : IntKind} {lo hi : Int} (hx : opv E x = some v) (hv : PV (Kd.sl K) v xs L) (hl : opv E l = some (.int k lo)) (hh : opv E h = some (.int k2 hi)) (hc : cut xs lo hi = some ys) (ht : slTy P t K.n = true) :
    OpS P E L ⟨d, .slice t x (some l) (some h) none, ty, pos, aft, g⟩ (fun u => u) (fun u => Val (Kd.sl K) u ys :: L) := by
  obtain ⟨e, ei, h1, h2, h3, _⟩ := slTy_spec ht
  exact o_slice (vlo := some _) (vhi := some _) hx hv (congrArg some hl) (congrArg some hh) (.inr ⟨k, rfl⟩) (.inr ⟨k2, rfl⟩) (.inl rfl) hc h1 h2 h3
theorem o_cutl {x l : Operand} {t : TypeId} {K : Kd α} {v : Value} {xs ys : List α} {k : IntKind} {lo : Int} (hx : opv E x = some v) (hv : PV (Kd.sl K) v xs L) (hl : opv E l = some (.int k lo)) (hc : cut xs lo xs.length = some ys) (ht : slTy P t K.n = true) :
    OpS P E L ⟨d, .slice t x (some l) none none, ty, pos, aft, g⟩ (fun u => u) (fun u => Val (Kd.sl K) u ys :: L) := by
  obtain ⟨e, ei, h1, h2, h3, _⟩ := slTy_spec ht
  exact o_slice (vlo := some _) (vhi := none) hx hv (congrArg some hl) rfl (.inr ⟨k, rfl⟩) (.inl ⟨rfl, rfl⟩) (.inl rfl) hc h1 h2 h3
theorem o_cuth {x h : Operand} {t : TypeId} {K : Kd α} {v : Value} {xs ys : List α} {k : IntKind} {hi : Int} (hx : opv E x = some v) (hv : PV (Kd.sl K) v xs L) (hh : opv E h = some (.int k hi)) (hc : cut xs 0 hi = some ys) (ht : slTy P t K.n = true) :
    OpS P E L ⟨d, .slice t x none (some h) none, ty, pos, aft, g⟩ (fun u => u) (fun u => Val (Kd.sl K) u ys :: L) := by
  obtain ⟨e, ei, h1, h2, h3, _⟩ := slTy_spec ht
  exact o_slice (vlo := none) (vhi := some _) hx hv rfl (congrArg some hh) (.inl ⟨rfl, rfl⟩) (.inr ⟨k, rfl⟩) (.inl rfl) hc h1 h2 h3
theorem o_cut3 {x l h : Operand} {t : TypeId} {K : Kd α} {v : Value} {xs ys : List α} {k k2 : IntKind} {lo hi : Int} (hx : opv E x = some v) (hv : PV (Kd.sl K) v xs L) (hl : opv E l = some (.int k lo)) (hh : opv E h = some (.int k2 hi)) {h2 : Operand} (hh2 : opv E h2 = some (.int k2 hi)) (hc : cut xs lo hi = some ys) (ht : slTy P t K.n = true) :
    OpS P E L ⟨d, .slice t x (some l) (some h) (some h2), ty, pos, aft, g⟩ (fun u => u) (fun u => Val (Kd.sl K) u ys :: L) := by
  obtain ⟨e, ei, h1, h2, h3, _⟩ := slTy_spec ht
  exact o_slice (vlo := some _) (vhi := some _) hx hv (congrArg some hl) (congrArg some hh) (.inr ⟨k, rfl⟩) (.inr ⟨k2, rfl⟩) (.inr ⟨congrArg some hh2, by simp⟩) hc h1 h2 h3
theorem o_cuth3 {x h : Operand} {t : TypeId} {K : Kd α} {v : Value} {xs ys : List α} {k2 : IntKind} {hi : Int} (hx : opv E x = some v) (hv : PV (Kd.sl K) v xs L) (hh : opv E h = some (.int k2 hi)) {h2 : Operand} (hh2 : opv E h2 = some (.int k2 hi)) (hc : cut xs 0 hi = some ys) (ht : slTy P t K.n = true) :
    OpS P E L ⟨d, .slice t x none (some h) (some h2), ty, pos, aft, g⟩ (fun u => u) (fun u => Val (Kd.sl K) u ys :: L) := by
  obtain ⟨e, ei, h1, h2, h3, _⟩ := slTy_spec ht
  exact o_slice (vlo := none) (vhi := some _) hx hv rfl (congrArg some hh) (.inl ⟨rfl, rfl⟩) (.inr ⟨k2, rfl⟩) (.inr ⟨congrArg some hh2, by simp⟩) hc h1 h2 h3
/-! Cuts of one's own, for a copy into them -/
def inB (xs : List α) (lo hi : Int) : Prop := 0 ≤ lo ∧ lo ≤ hi ∧ hi ≤ xs.length
instance (xs : List α) (lo hi : Int) : Decidable (inB xs lo hi) := inferInstanceAs (Decidable (_ ∧ _))
theorem o_own {x l h : Operand} {t : TypeId} {K : Kd α} {v : Value} {xs : List α} {k k2 : IntKind} {lo hi : Int} (p : Nat) (hx : opv E x = some v) (hp : L[p]? = some (Val (Kd.osl K) v xs)) (hl : opv E l = some (.int k lo)) (hh : opv E h = some (.int k2 hi)) (hc : inB xs lo hi) (ht : slTy P t K.n = true) :
    OpS (σ := Unit) P E L ⟨d, .slice t x (some l) (some h) none, ty, pos, aft, g⟩ (fun _ => subV v lo.toNat hi.toNat K.n) (fun _ => L) := by
  obtain ⟨e, ei, h1, h2, h3, _⟩ := slTy_spec ht
  exact o_slo (vlo := some _) (vhi := some _) p hx hp (congrArg some hl) (congrArg some hh) (.inr ⟨k, rfl⟩) (.inr ⟨k2, rfl⟩) hc h1 h2 h3
theorem o_ownl {x l : Operand} {t : TypeId} {K : Kd α} {v : Value} {xs : List α} {k : IntKind} {lo : Int} (p : Nat) (hx : opv E x = some v) (hp : L[p]? = some (Val (Kd.osl K) v xs)) (hl : opv E l = some (.int k lo)) (hc : inB xs lo xs.length) (ht : slTy P t K.n = true) :
    OpS (σ := Unit) P E L ⟨d, .slice t x (some l) none none, ty, pos, aft, g⟩ (fun _ => subV v lo.toNat (xs.length : Int).toNat K.n) (fun _ => L) := by
  obtain ⟨e, ei, h1, h2, h3, _⟩ := slTy_spec ht
  exact o_slo (vlo := some _) (vhi := none) p hx hp (congrArg some hl) rfl (.inr ⟨k, rfl⟩) (.inl ⟨rfl, rfl⟩) hc h1 h2 h3
def ovr (xs : List α) (lo hi : Int) (ys : List α) : List α := Go.splice xs lo.toNat (ys.take (hi.toNat - lo.toNat))
theorem o_cp {x y : Operand} {t t2 : TypeId} {K : Kd α} {v u : Value} {xs ys : List α} {lo hi : Int} (p : Nat) (hx : opv E x = some (subV v lo.toNat hi.toNat K.n)) (hy : opv E y = some u) (hp : L[p]? = some (Val (Kd.osl K) v xs)) (hr : RD K u ys L) (hb : inB xs lo hi) (ht : appTy P t K.n = true) :
    OpS (σ := Unit) P E L ⟨d, .call { callee := .builtin .copy, args := #[x, y], argTypes := #[t, t2] }, ty, pos, aft, g⟩ (fun _ => .int .i64 ((min ys.length (hi.toNat - lo.toNat) : Nat) : Int)) (fun _ => L.set p (Val (Kd.osl K) v (ovr xs lo hi ys))) := by
  obtain ⟨h1, h2, h3⟩ := hb
  exact o_cpy (lo := lo.toNat) (hi := hi.toNat) p hx hy hp hr (by omega) (by omega) ht
/-- copy(v, u) -/
theorem o_cpf {x y : Operand} {t t2 : TypeId} {K : Kd α} {v u : Value} {xs ys : List α} (p : Nat) (hx : opv E x = some v) (hy : opv E y = some u) (hp : L[p]? = some (Val (Kd.osl K) v xs)) (hr : RD K u ys L) (ht : appTy P t K.n = true) :
    OpS (σ := Unit) P E L ⟨d, .call { callee := .builtin .copy, args := #[x, y], argTypes := #[t, t2] }, ty, pos, aft, g⟩ (fun _ => .int .i64 ((min ys.length xs.length : Nat) : Int)) (fun _ => L.set p (Val (Kd.osl K) v (ovr xs 0 xs.length ys))) := fun n F a w hS hm => by
  by_cases h0 : 0 < xs.length
  · have hv := subV_self hm hp h0
    have := o_cpy (P := P) (E := E) (d := d) (ty := ty) (pos := pos) (aft := aft) (g := g) (t := t) (t2 := t2) (x := x) (y := y) (lo := 0) (hi := xs.length) p (by rw [hv]; exact hx) hy hp hr (by omega) (Nat.le_refl _) ht
    exact this n F a w hS hm
  · have hx0 : xs = [] := List.eq_nil_of_length_eq_zero (by omega)
    subst hx0
    obtain ⟨e, ei, z, hte, hei, hsz, hby, hze, hzs⟩ := appTy_spec ht
    obtain ⟨m, φ, ho, hh, hpp, hkk⟩ := id hm
    obtain ⟨f1, hf1, he⟩ := ho.get hp
    obtain ⟨ad, cap, hve, hl, hmx, _⟩ := Val_osl he
    obtain ⟨a2, c2, cs, hu, hl2, hE, hc⟩ := hr.cells ho hh
    subst hve; subst hu
    have e2 : L.set p (Val (Kd.osl K) (.slice ad ([] : List α).length cap) (ovr [] 0 ([] : List α).length ys)) = L := by
      apply List.ext_getElem?
      intro j
      by_cases hj : p = j
      · subst hj
        have := (List.getElem?_eq_some_iff.1 hp).1
        rw [List.getElem?_set_self this, hp]; simp [ovr, Go.splice]
      · rw [List.getElem?_set_ne hj]
    have hmn : Nat.min ys.length 0 = 0 := by simp
    unfold Oper.wp
    cases ad <;> cases a2 <;> simp [execOp, hS.eval hx, hS.eval hy, resolve, invoke, builtin, Builtin.copy_, run_underlying hte, Builtin.lenOf, Builtin.firstCells, loadCells, loadCellsFrom, storeCells, sizeOf, typeInfo, hei, hsz, goInt, hmn, Oper.upon] <;> (simp at e2; rw [e2]; exact hm)
/-! bytes and strings -/
theorem o_b2s {s t e : TypeId} {x : Operand} {v : Value} {xs : List Int} (hx : opv E x = some v) (hr : RD (Kd.int .u8) v xs L) (hs : P.underlying s = some (.slice e)) (he : P.underlying e = some (.int .u8)) (ht : P.underlying t = some .string) :
    OpS (σ := Unit) P E L ⟨d, .convert s t x, ty, pos, aft, g⟩ (fun _ => .string (mkS xs)) (fun _ => L) :=
  .run fun n F a w hS hm => by
    obtain ⟨m, φ, ho, hh, hpp, hkk⟩ := id hm
    obtain ⟨a2, c2, cs, rfl, hl2, hE, hc⟩ := hr.cells ho hh
    have hcs : cs = xs.map (Value.int .u8) := by
      apply List.ext_getElem?
      intro i
      by_cases hi : i < xs.length
      · have := (hE.at_ i xs[i] (List.getElem?_eq_getElem hi)).1
        have h2 := congrArg (fun l => l[0]?) this
        simp only [Kd.int, Nat.mul_one, List.getElem?_take_of_lt (Nat.zero_lt_one), List.getElem?_drop, Nat.add_zero, List.getElem?_cons_zero] at h2
        rw [h2]; simp [hi]
      · have := hE.len
        simp only [Kd.int, Nat.mul_one] at this
        rw [List.getElem?_eq_none (by omega), List.getElem?_eq_none (by simp; omega)]
    have hfold : ∀ (l : List Int) (b : ByteArray), l.foldl (fun r n => r.push (UInt8.ofNat n.toNat)) b = ⟨b.data ++ (l.map fun b => UInt8.ofNat b.toNat).toArray⟩ := by
      intro l
      induction l with
      | nil => intro b; cases b; simp
      | cons x l ih => intro b; rw [List.foldl_cons, ih]; cases b; simp [ByteArray.push]
    refine ⟨(), w, ?_, hm⟩
    cases a2 with
    | none =>
      have : xs = [] := by
        cases xs with
        | nil => rfl
        | cons x xs =>
          rw [hcs] at hc
          obtain ⟨ad, e, _⟩ := hc 0 (.int .u8 x) rfl; cases e
      subst this
      simp [execOp, hS.eval hx, run_convert_bytes_string (P := P) w s t e none _ c2 hs he ht, Conv.bytesToString, mkS]
      rfl
    | some ad =>
      have hld := run_loadCells_list (P := P) w ad cs (fun j c hj => by obtain ⟨ad', e, h⟩ := hc j c hj; cases e; exact h)
      rw [hcs] at hld
      have hb := run_bytesToString (P := P) w ad xs.length c2 xs (by simpa using hld)
      simp [execOp, hS.eval hx, run_convert_bytes_string (P := P) w s t e (some ad) _ c2 hs he ht, hb, hfold, mkS]
end
/-! ### Ways that meet, and rounds -/
section
variable {P : Program} {f : Bas} {k : List Item} {a : Act} {w : World} {R : Ending → World → Prop}
theorem g_cut {todo : List Item} (Q : (Act → World → Prop) → Prop) (d : Nat) (J : Q fun a w => Go P f (todo.drop d) a w R) (main : (Q fun a w => Go P f (todo.drop d) a w R) → Go P f todo a w R) : Go P f todo a w R := main J
theorem nx_in {σ ρ : Type} {M : σ → Prop} {r : ρ} {s : σ} (h : Nx M r (.inl s)) : M s := h
theorem nx_out {σ ρ : Type} {M : σ → Prop} {r x : ρ} (h : Nx M r (.inr x)) : x = r := h
theorem g_loop {σ ρ : Type} {c : Code} (Q : σ → (Act → World → Prop) → Prop) {B : σ → Option (σ ⊕ ρ)} {s0 : σ} {o : ρ} (hl : SL.loop B s0 = some o)
    (step : ∀ s q, B s = some q → Nx (fun s => Q s fun a w => Go P f (.code c :: .inLoop c :: k) a w R) o q → Q s fun a w => Go P f (.code c :: .inLoop c :: k) a w R)
    (init : (Q s0 fun a w => Go P f (.code c :: .inLoop c :: k) a w R) → Go P f (.code c :: .inLoop c :: k) a w R) : Go P f (.code (.loop c) :: k) a w R :=
  Go.loop (init (loop_ind (M := fun s => Q s fun a w => Go P f (.code c :: .inLoop c :: k) a w R) step hl))
end
/-! ### Short forms of what the print says most -/
section
variable {P : Program} {f : Bas} {k : List Item} {a : Act} {w : World} {R : Ending → World → Prop} {L : List Ent}
theorem ga {σ : Type} {n : Nat} {F : Fr} {E : List (Nat × Value)} {ops : Array Oper} {i : Nat} {os : List Oper} {d : Nat} {op : Op} {ty : TypeId} {pos : String} {aft : Array Edge} {ret : σ → Value} {out : σ → List Ent}
    (h : St n F E L a w) (hop : OpS P E L ⟨some d, op, ty, pos, aft, none⟩ ret out) (hd : Nat.blt d n = true) (K : ∀ {s a w}, St n F ((d, ret s) :: E) (out s) a w → GoR P f ops (i + 1) os k a w R) : GoR P f ops i (⟨some d, op, ty, pos, aft, none⟩ :: os) k a w R :=
  gs h hop hd fun _ _ _ h => K h
theorem mv {n : Nat} {F : Fr} {E : List (Nat × Value)} {ops : Array Oper} {i : Nat} {os : List Oper} {d : Nat} {ty : TypeId} {pos : String} {aft : Array Edge} {x : Operand} {v : Value}
    (h : St n F E L a w) (hx : opv E x = some v) (hd : Nat.blt d n = true) (K : ∀ {a w}, St n F ((d, v) :: E) L a w → GoR P f ops (i + 1) os k a w R) : GoR P f ops i (⟨some d, .move x, ty, pos, aft, none⟩ :: os) k a w R :=
  gs h (o_move hx) hd fun _ _ _ h => K h
theorem St.wq {n : Nat} {F : Fr} {E : List (Nat × Value)} (h : St n F E L a w) (E' : List (Nat × Value)) (L' : List Ent) (is : List Nat) (hs : E'.map (fun p => look E p.1) = E'.map (fun p => some p.2) := by rfl) (nd : is.Nodup := by decide) (hl : is.map (fun i => L[i]?) = L'.map some := by rfl) : St n F E' L' a w := h.wk hs is nd hl
theorem St.wr {n : Nat} {F : Fr} {E E' : List (Nat × Value)} {L' : List Ent} (h : St n F E L a w) (is : List Nat) (hs : E'.map (fun p => look E p.1) = E'.map (fun p => some p.2) := by rfl) (nd : is.Nodup := by decide) (hl : is.map (fun i => L[i]?) = L'.map some := by rfl) : St n F E' L' a w := h.wk hs is nd hl
abbrev cn (v : Value) : RS := ⟨[], [], [], false, .con v, none, fun _ => [], []⟩
abbrev cm (a b c : List Nat) (v : Value) (f : Value → List Ent) : RS := ⟨a, b, c, false, .con v, none, f, []⟩
abbrev cw (a b c : List Nat) (f : Value → List Ent) : RS := ⟨a, b, c, false, .own, none, f, []⟩
abbrev pt (b : Nat) : Value := .pointer (some ⟨b, 0, none⟩)
abbrev ce (a : List Nat) (v : Value) : RS := ⟨a, [], [], false, .con v, none, fun _ => [], []⟩
theorem ox {E Eo : List (Nat × Value)} {os : List Oper} {S : List RS} {i : Nat} {o : Oper} {rest : List Oper} {c : Value} (hs : ((gS S i).skip, o.guard, (gS S i).form) = (false, none, .con c)) (h : ∀ {v}, OpS (σ := Unit) P (Eof os S (gS S i).pre v ++ (E ++ oldE S Eo i)) (Lof S (gS S i).lp v ++ L) o (fun _ => c) (fun _ => (gS S i).ents ((gS S i).of v c) ++ (Lof S (SL.rest S i) v ++ L))) (k : Obs P os S E Eo L (i + 1) rest) : Obs P os S E Eo L i (o :: rest) := ⟨ob_con (Prod.mk.inj hs).1 (gok_none (Prod.mk.inj (Prod.mk.inj hs).2).1) (Prod.mk.inj (Prod.mk.inj hs).2).2 fun _ => h, k⟩
theorem oy {E Eo : List (Nat × Value)} {os : List Oper} {S : List RS} {i : Nat} {o : Oper} {rest : List Oper} {σ : Type} {ret : σ → Value} (hs : ((gS S i).skip, o.guard, (gS S i).form) = (false, none, .own)) (h : ∀ {v}, OpS P (Eof os S (gS S i).pre v ++ (E ++ oldE S Eo i)) (Lof S (gS S i).lp v ++ L) o ret (fun s => (gS S i).ents ((gS S i).of v (ret s)) ++ (Lof S (SL.rest S i) v ++ L))) (k : Obs P os S E Eo L (i + 1) rest) : Obs P os S E Eo L i (o :: rest) := ⟨ob_own (Prod.mk.inj hs).1 (gok_none (Prod.mk.inj (Prod.mk.inj hs).2).1) (Prod.mk.inj (Prod.mk.inj hs).2).2 fun _ => h, k⟩
theorem oj {E Eo : List (Nat × Value)} {os : List Oper} {S : List RS} {i : Nat} {o : Oper} {rest : List Oper} {j : Nat} {want : Bool} {u : Value} (hs : ((gS S i).skip, o.guard, (gS S i).form, (gS S i).eo) = (true, some (j, want), .con undef, none)) (hq : ((gS S i).pre.contains j, hasDst os j, (gS S i).ents undef, (gS S i).lp) = (true, true, [], [])) (hv : ∀ v, (gS S j).sv j v = u) (hu : notB u want = true) (k : Obs P os S E Eo L (i + 1) rest) : Obs P os S E Eo L i (o :: rest) := by
  simp only [Prod.mk.injEq] at hs hq
  exact ⟨ob_skip hs.1 hs.2.1 hq.1 hq.2.1 hv hu hs.2.2.1 hs.2.2.2 hq.2.2.1 hq.2.2.2, k⟩
theorem og {E Eo : List (Nat × Value)} {os : List Oper} {S : List RS} {i : Nat} {o : Oper} {rest : List Oper} {c : Value} {j : Nat} {want b : Bool} (hs : ((gS S i).skip, o.guard, (gS S i).form) = (false, some (j, want), .con c)) (hq : ((gS S i).pre.contains j, hasDst os j) = (true, true)) (hv : ∀ v, (gS S j).sv j v = .bool b) (hb : b = want) (h : ∀ {v}, OpS (σ := Unit) P (Eof os S (gS S i).pre v ++ (E ++ oldE S Eo i)) (Lof S (gS S i).lp v ++ L) o (fun _ => c) (fun _ => (gS S i).ents ((gS S i).of v c) ++ (Lof S (SL.rest S i) v ++ L))) (k : Obs P os S E Eo L (i + 1) rest) : Obs P os S E Eo L i (o :: rest) := by
  simp only [Prod.mk.injEq] at hs hq
  exact ⟨ob_con hs.1 (gok_some hs.2.1 hq.1 hq.2 hv hb) hs.2.2 fun _ => h, k⟩
theorem oc {E Eo : List (Nat × Value)} {os : List Oper} {S : List RS} {i : Nat} {o : Oper} {rest : List Oper} (hs : (gS S i).skip = false) (hg : o.guard = none) {c : Value} (hf : (gS S i).form = .con c) (h : ∀ v, OpS (σ := Unit) P (Eof os S (gS S i).pre v ++ (E ++ oldE S Eo i)) (Lof S (gS S i).lp v ++ L) o (fun _ => c) (fun _ => (gS S i).ents ((gS S i).of v c) ++ (Lof S (SL.rest S i) v ++ L))) (k : Obs P os S E Eo L (i + 1) rest) : Obs P os S E Eo L i (o :: rest) := ⟨ob_con hs (gok_none hg) hf h, k⟩
theorem ow {E Eo : List (Nat × Value)} {os : List Oper} {S : List RS} {i : Nat} {o : Oper} {rest : List Oper} (hs : (gS S i).skip = false) (hg : o.guard = none) {σ : Type} {ret : σ → Value} (hf : (gS S i).form = .own) (h : ∀ v, OpS P (Eof os S (gS S i).pre v ++ (E ++ oldE S Eo i)) (Lof S (gS S i).lp v ++ L) o ret (fun s => (gS S i).ents ((gS S i).of v (ret s)) ++ (Lof S (SL.rest S i) v ++ L))) (k : Obs P os S E Eo L (i + 1) rest) : Obs P os S E Eo L i (o :: rest) := ⟨ob_own hs (gok_none hg) hf h, k⟩
end
end Go.SL
