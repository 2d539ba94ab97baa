/- Structs in parts, copies, calls; each rule states its own conditions. -/
import Derived.Test.YtgkgekaiajjcaaaSlM
namespace Go.SL
open Go Go.RowKit
set_option linter.unusedVariables false
set_option linter.unusedSimpArgs false

section
variable {P : Program} {E : List (Nat × Value)} {L : List Ent} {α β γ : Type}
variable {d : Option Tmp} {ty : TypeId} {pos : String} {aft : Array Edge} {g : Option (Nat × Bool)}
/-! ### Fields of structs -/
/-- Part of what a kind's cells say. -/
def Sub (K : Kd α) (off : Nat) (A : Kd β) (pr : α → β) : Prop := ∀ m φ x cs, K.C m φ x cs → off + A.n ≤ cs.length ∧ ∃ f, f.le φ ∧ A.C m f (pr x) ((cs.drop off).take A.n)
theorem sub_last {A : Kd α} : Sub (Kd.last A) 0 A id := fun m φ x cs h => by
  have h2 : A.C m φ x cs := h
  have hl := A.len h2
  refine ⟨by omega, φ, .rfl, ?_⟩
  rw [List.drop_zero, List.take_of_length_le (by omega)]; exact h2
theorem sub_fst {A : Kd α} {B : Kd β} : Sub (Kd.pair A B) 0 A Prod.fst := fun m φ x cs ⟨c1, c2, f1, f2, e, l1, l2, d, h1, h2⟩ => by
  subst e
  have := A.len h1
  refine ⟨by simp; omega, f1, l1, ?_⟩
  rw [List.drop_zero, List.take_append_of_le_length (by omega), List.take_of_length_le (by omega)]; exact h1
theorem sub_snd {A : Kd α} {B : Kd β} {G : Kd γ} {off : Nat} {pr : β → γ} (h : Sub B off G pr) : Sub (Kd.pair A B) (A.n + off) G (fun x => pr x.2) := fun m φ x cs ⟨c1, c2, f1, f2, e, l1, l2, d, h1, h2⟩ => by
  subst e
  have := A.len h1
  obtain ⟨hl, f, hf, hc⟩ := h m f2 x.2 c2 h2
  refine ⟨by simp; omega, f, hf.trans l2, ?_⟩
  rw [← this, List.drop_append, List.drop_of_length_le (show c1.length ≤ c1.length + off by omega), List.nil_append, Nat.add_sub_cancel_left]
  exact hc
theorem sub_iso {A : Kd α} {k : β → α} {G : Kd γ} {off : Nat} {pr : α → γ} (h : Sub A off G pr) : Sub (Kd.iso A k) off G (fun x => pr (k x)) := fun m φ x cs hc => h m φ (k x) cs hc
theorem sub_self {A : Kd α} : Sub A 0 A id := fun m φ x cs h => by
  have hl := A.len h
  refine ⟨by omega, φ, .rfl, ?_⟩
  rw [List.drop_zero, List.take_of_length_le (by omega)]; exact h
theorem sub_sub {A : Kd α} {B : Kd β} {G : Kd γ} {o1 o2 : Nat} {p : α → β} {q : β → γ} (h : Sub A o1 B p) (k : Sub B o2 G q) : Sub A (o1 + o2) G (fun x => q (p x)) := fun m φ x cs hc => by
  obtain ⟨h1, f, hf, hc1⟩ := h m φ x cs hc
  obtain ⟨k1, f', hf', hc2⟩ := k m f _ _ hc1
  have hl := B.len hc1
  refine ⟨by omega, f', hf'.trans hf, ?_⟩
  rw [List.drop_take, List.drop_drop, List.take_take, Nat.min_eq_left (by omega)] at hc2
  exact hc2
def fldI (P : Program) (t : TypeId) (i : Nat) : Option (Nat × Bool × Nat) := match P.underlying t with
  | some (.struct fs) => (fs[i]?).bind fun f => (tyI P f.type).map fun p => (f.offset, p.1, p.2)
  | _ => none
theorem fldI_spec {t : TypeId} {i off n : Nat} {b : Bool} (h : fldI P t i = some (off, b, n)) : ∃ fs f, P.underlying t = some (.struct fs) ∧ fs[i]? = some f ∧ f.offset = off ∧ tyI P f.type = some (b, n) := by
  unfold fldI at h
  split at h
  · rename_i fs hfs
    obtain ⟨f, hf, h⟩ := Option.bind_eq_some_iff.1 h
    obtain ⟨p, hp, h⟩ := Option.map_eq_some_iff.1 h
    simp only [Prod.mk.injEq] at h
    obtain ⟨rfl, rfl, rfl⟩ := h
    exact ⟨fs, f, hfs, hf, rfl, hp⟩
  · cases h
theorem run_field {t : TypeId} {i off : Nat} {A : Kd β} {m φ : Frag} {y : β} {cs : List Value} {w : World} (hf : fldI P t i = some (off, A.agg, A.n)) (hl : off + A.n ≤ cs.length) (hc : A.C m φ y ((cs.drop off).take A.n)) :
    (Instr.field t (.agg cs.toArray) i).run P w = .ok (pack A.agg ((cs.drop off).take A.n)) w := by
  obtain ⟨fs, f, hfs, hfi, rfl, hty⟩ := fldI_spec hf
  obtain ⟨dd, ii, hd, hi, hb, hn⟩ := tyI_spec hty
  cases ha : A.agg with
  | true =>
    rw [ha] at hb
    have : cs.toArray.extract f.offset (f.offset + A.n) = ((cs.drop f.offset).take A.n).toArray := by
      apply Array.ext'; simp [List.drop_take]
    simp [Instr.field, run_underlying hfs, hfi, part, asAgg, run_isAgg' hd, hb, sizeOf, typeInfo, hi, hn, this, pack]
  | false =>
    rw [ha] at hb
    have h1 := A.sgl ha
    have hlt : f.offset < cs.length := by omega
    have e : cs[f.offset]? = some cs[f.offset] := List.getElem?_eq_getElem hlt
    have e2 : (cs.drop f.offset).take A.n = [cs[f.offset]] := by
      rw [h1, List.drop_eq_getElem_cons hlt]; rfl
    simp [Instr.field, run_underlying hfs, hfi, part, asAgg, run_isAgg' hd, hb, hlt, e2, pack]
theorem o_fdx {t : TypeId} {x : Operand} {i off : Nat} {K : Kd α} {A : Kd β} {pr : α → β} {v : Value} {y : α} {ex : β → Value} (hx : opv E x = some v) (hv : PV K v y L) (hK : K.agg = true) (hs : Sub K off A pr) (hA : A.X ex) (hf : fldI P t i = some (off, A.agg, A.n)) :
    OpS (σ := Unit) P E L ⟨d, .field t x i, ty, pos, aft, g⟩ (fun _ => ex (pr y)) (fun _ => L) :=
  .run fun n F a w hS hm => by
    obtain ⟨m, φ, ho, hh, _⟩ := id hm
    obtain ⟨cs, hC, rfl⟩ := hv m φ ho
    obtain ⟨hl, f, _, hc⟩ := hs m _ y cs hC
    have := run_field (P := P) (w := w) hf hl hc
    obtain ⟨e, ha⟩ := hA _ _ _ _ hc
    rw [e, ha] at this
    exact ⟨(), w, by simp [execOp, hS.eval hx, hK, pack, this], hm⟩
theorem o_fdv {t : TypeId} {x : Operand} {i off : Nat} {K : Kd α} {A : Kd β} {pr : α → β} {v : Value} {y : α} (hx : opv E x = some v) (hv : PV K v y L) (hK : K.agg = true) (hs : Sub K off A pr) (hA : A.Per) (hf : fldI P t i = some (off, A.agg, A.n)) :
    OpS P E L ⟨d, .field t x i, ty, pos, aft, g⟩ (fun u => u) (fun u => Val A u (pr y) :: L) :=
  .run fun n F a w hS hm => by
    obtain ⟨m, φ, ho, hh, hp, hk⟩ := hm
    obtain ⟨cs, hC, rfl⟩ := hv m φ ho
    obtain ⟨hl, f, _, hc⟩ := hs m _ y cs hC
    have := run_field (P := P) (w := w) hf hl hc
    exact ⟨pack A.agg ((cs.drop off).take A.n), w, by simp [execOp, hS.eval hx, hK, pack, this], m, φ, ⟨Frag.emp, φ, Frag.emp_le, .rfl, Frag.emp_dj, ⟨_, hA _ _ _ _ hc, rfl⟩, ho⟩, hh, hp, hk⟩
/-- The address of a field. -/
theorem o_fa {t : TypeId} {x : Operand} {i off b o o' n : Nat} {bb : Bool} (hx : opv E x = some (.pointer (some ⟨b, o, none⟩))) (hf : fldI P t i = some (off, bb, n)) (hn : Nat.beq n 0 = false) (he : o + off = o') :
    OpS (σ := Unit) P E L ⟨d, .fieldAddr t x i, ty, pos, aft, g⟩ (fun _ => .pointer (some ⟨b, o', none⟩)) (fun _ => L) :=
  .pure fun nn a w hS => by
    obtain ⟨fs, f, hfs, hfi, rfl, hty⟩ := fldI_spec hf
    obtain ⟨dd, ii, hd, hi, hb, hnn⟩ := tyI_spec hty
    have h0 : n ≠ 0 := fun e => by subst e; simp at hn
    simp [execOp, hS.eval hx, Instr.fieldAt, run_underlying hfs, hfi, Instr.sureAddr, fieldPlace, sizeOf, typeInfo, hi, hnn, h0, addr_add, he]
theorem o_fae {t : TypeId} {x : Operand} {i off k k' n : Nat} {bb : Bool} {K : Kd α} {v : Value} {xs : List α} {ix : Int} {z : α} (hx : opv E x = some (elemP v k)) (hr : RD K v xs L) (h : idx xs ix = some z) (hz : 0 < K.n) (hf : fldI P t i = some (off, bb, n)) (hn : Nat.beq n 0 = false) (he : k + off = k') :
    OpS (σ := Unit) P E L ⟨d, .fieldAddr t x i, ty, pos, aft, g⟩ (fun _ => elemP v k') (fun _ => L) :=
  .run fun nn F a w hS hm => by
    obtain ⟨fs, f, hfs, hfi, rfl, hty⟩ := fldI_spec hf
    obtain ⟨dd, ii, hd, hi, hb, hnn⟩ := tyI_spec hty
    have h0 : n ≠ 0 := fun e => by subst e; simp at hn
    obtain ⟨m, φ, ho, hh, _⟩ := id hm
    obtain ⟨ad, len, cap, cs, rfl, _⟩ := elem_cells hr ho hh h hz
    exact ⟨(), w, by simp [execOp, hS.eval hx, elemP, Instr.fieldAt, run_underlying hfs, hfi, Instr.sureAddr, fieldPlace, sizeOf, typeInfo, hi, hnn, h0, Addr.add_add, he], hm⟩
/-- A field of an element loaded. -/
theorem elem_sub {K : Kd α} {A : Kd β} {pr : α → β} {off : Nat} {v : Value} {xs : List α} (hr : RD K v xs L) {m φ fr : Frag} {w : World} (o : Own L m φ) (hh : Has m φ fr w) {i : Int} {z : α} (h : idx xs i = some z) (hz : 0 < K.n) (hs : Sub K off A pr) {t : TypeId} (ht : tyI P t = some (A.agg, A.n)) :
    ∃ cs f, f.le Frag.emp ∧ A.C m f (pr z) cs ∧ (Instr.loadAt t (elemP v (i.toNat * K.n + off))).run P w = .ok (pack A.agg cs) w := by
  obtain ⟨ad, len, cap, cs, rfl, hC, hc⟩ := elem_cells hr o hh h hz
  obtain ⟨hl, f, hf, hA⟩ := hs m _ z cs hC
  refine ⟨_, f, hf, hA, ?_⟩
  have := run_loadVar' ht w (ad.add (i.toNat * K.n + off)) (A.len hA) A.sgl (fun j c hj => by
    have hj2 := (List.getElem?_eq_some_iff.1 hj).1
    rw [List.length_take] at hj2
    rw [List.getElem?_take_of_lt (by omega), List.getElem?_drop] at hj
    rw [Addr.add_add, Nat.add_assoc]; exact hc _ c hj)
  simp [elemP, Instr.loadAt, Instr.sureAddr, this]
theorem o_lsx {x : Operand} {t : TypeId} {K : Kd α} {A : Kd β} {pr : α → β} {off : Nat} {v : Value} {xs : List α} {ex : β → Value} {i : Int} {z : α} (hx : opv E x = some (elemP v (i.toNat * K.n + off))) (hr : RD K v xs L) (h : idx xs i = some z) (hs : Sub K off A pr) (hA : A.X ex) (ht : tyI P t = some (A.agg, A.n)) (hz : 0 < K.n) :
    OpS (σ := Unit) P E L ⟨d, .load t x, ty, pos, aft, g⟩ (fun _ => ex (pr z)) (fun _ => L) :=
  .run fun n F a w hS hm => by
    obtain ⟨m, φ, ho, hh, _⟩ := id hm
    obtain ⟨cs, f, hf, hC, hrun⟩ := elem_sub hr ho hh h hz hs ht
    obtain ⟨rfl, ha⟩ := hA _ _ _ _ hC
    rw [ha] at hrun
    exact ⟨(), w, by simp [execOp, hS.eval hx, hrun, pack], hm⟩
theorem o_lsv {x : Operand} {t : TypeId} {K : Kd α} {A : Kd β} {pr : α → β} {off : Nat} {v : Value} {xs : List α} {i : Int} {z : α} (hx : opv E x = some (elemP v (i.toNat * K.n + off))) (hr : RD K v xs L) (h : idx xs i = some z) (hs : Sub K off A pr) (ht : tyI P t = some (A.agg, A.n)) (hz : 0 < K.n) :
    OpS P E L ⟨d, .load t x, ty, pos, aft, g⟩ (fun u => u) (fun u => Val A u (pr z) :: L) :=
  .run fun n F a w hS hm => by
    obtain ⟨m, φ, ho, hh, hp, hk⟩ := hm
    obtain ⟨cs, f, hf, hC, hrun⟩ := elem_sub hr ho hh h hz hs ht
    exact ⟨pack A.agg cs, w, by simp [execOp, hS.eval hx, hrun], m, φ, ⟨Frag.emp, φ, Frag.emp_le, .rfl, Frag.emp_dj, ⟨cs, A.mono .rfl hf hC, rfl⟩, ho⟩, hh, hp, hk⟩
/-! ### A struct in memory, field by field -/
inductive Chain : {α : Type} → Kd α → Nat → Nat → α → List Ent → Prop
  | last {α : Type} {A : Kd α} {b o : Nat} {x : α} : Chain (Kd.last A) b o x [Fld A b o x]
  | pair {α β : Type} {A : Kd α} {B : Kd β} {b o o' : Nat} {x : α × β} {es : List Ent} (he : o + A.n = o') (h : Chain B b o' x.2 es) : Chain (Kd.pair A B) b o x (Fld A b o x.1 :: es)
  | iso {α β : Type} {A : Kd α} {k : β → α} {b o : Nat} {x : β} {es : List Ent} (h : Chain A b o (k x) es) : Chain (Kd.iso A k) b o x es
theorem Chain.open_ {K : Kd α} {b o : Nat} {x : α} {es : List Ent} (c : Chain K b o x es) : ∀ {m φ : Frag} {L : List Ent}, Own (Fld K b o x :: L) m φ → Own (es ++ L) m φ := by
  induction c with
  | last => intro m φ L h; exact h
  | iso h ih => intro m φ L h; exact ih h
  | pair he h ih =>
    rename_i A B b o o' x es
    intro m φ L ho
    obtain ⟨f1, f2, l1, l2, dd, ⟨cs, g1, g2, k1, k2, d2, hc, hC⟩, hL⟩ := ho
    obtain ⟨c1, c2, q1, q2, e, r1, r2, d3, h1, h2⟩ := hC
    subst e
    have hl := A.len h1
    -- the cells of the two parts
    have split : ∃ a1 a2 : Frag, a1.le g1 ∧ a2.le g1 ∧ a1.dj a2 ∧ (∀ (j : Nat) (c : Value), c1[j]? = some c → a1 b (o + j) = some (.cell c false)) ∧ (∀ (j : Nat) (c : Value), c2[j]? = some c → a2 b (o' + j) = some (.cell c false)) := by
      have lt1 : Frag.le (fun b' i => if b' = b ∧ i < o + A.n then g1 b' i else none) g1 := fun b' i c h => by
        by_cases hb : b' = b ∧ i < o + A.n
        · simpa [hb] using h
        · simp [hb] at h
      have lt2 : Frag.le (fun b' i => if b' = b ∧ i < o + A.n then none else g1 b' i) g1 := fun b' i c h => by
        by_cases hb : b' = b ∧ i < o + A.n
        · simp [hb] at h
        · simpa [hb] using h
      refine ⟨_, _, lt1, lt2, ?_, ?_, ?_⟩
      · intro b' i
        by_cases h : b' = b ∧ i < o + A.n
        · right; simp [h]
        · left; simp [h]
      · intro j c hj
        have := (List.getElem?_eq_some_iff.1 hj).1
        rw [if_pos ⟨rfl, by omega⟩]
        exact hc j c (by rw [List.getElem?_append_left (by omega)]; exact hj)
      · intro j c hj
        rw [if_neg (by omega)]
        have := hc (c1.length + j) c (by rw [List.getElem?_append_right (by omega)]; simpa using hj)
        rw [← this]; congr 1; omega
    obtain ⟨a1, a2, s1, s2, d4, e1, e2⟩ := split
    have dq1 : a1.dj q1 := d2.mono s1 r1
    have dq2 : a1.dj q2 := d2.mono s1 r2
    have dq3 : a2.dj q1 := d2.mono s2 r1
    have dq4 : a2.dj q2 := d2.mono s2 r2
    have dz1 : (a1.un q1).dj (a2.un q2) := Frag.un_dj (Frag.dj_un d4 dq2) (Frag.dj_un dq3.symm d3)
    have z1 : (a1.un q1).le f1 := Frag.un_le (s1.trans k1) (r1.trans k2)
    have z2 : (a2.un q2).le f1 := Frag.un_le (s2.trans k1) (r2.trans k2)
    have dz2 : (a2.un q2).dj f2 := dd.mono z2 .rfl
    have := ih (m := m) (φ := (a2.un q2).un f2) (L := L) ⟨a2.un q2, f2, Frag.le_un_left, Frag.le_un_right dz2, dz2, ⟨c2, a2, q2, Frag.le_un_left, Frag.le_un_right dq4, dq4, e2, h2⟩, hL⟩
    exact ⟨a1.un q1, (a2.un q2).un f2, z1.trans l1, Frag.un_le (z2.trans l1) l2, Frag.dj_un dz1 (dd.mono z1 .rfl), ⟨c1, a1, q1, Frag.le_un_left, Frag.le_un_right dq1, dq1, e1, h1⟩, this⟩
theorem Chain.close {K : Kd α} {b o : Nat} {x : α} {es : List Ent} (c : Chain K b o x es) : ∀ {m φ : Frag} {L : List Ent}, Own (es ++ L) m φ → Own (Fld K b o x :: L) m φ := by
  induction c with
  | last => intro m φ L h; exact h
  | iso h ih => intro m φ L h; exact ih h
  | pair he h ih =>
    rename_i A B b o o' x es
    intro m φ L ho
    obtain ⟨f1, f2, l1, l2, dd, ⟨c1, a1, q1, s1, r1, d1, e1, h1⟩, hL⟩ := ho
    obtain ⟨g1, g2, k1, k2, d2, ⟨c2, a2, q2, s2, r2, d3, e2, h2⟩, hL2⟩ := ih hL
    have hl := A.len h1
    have df : f1.dj g1 := dd.mono .rfl k1
    have da : a1.dj a2 := df.mono s1 s2
    refine ⟨f1.un g1, g2, Frag.un_le l1 (k1.trans l2), k2.trans l2, Frag.un_dj (dd.mono .rfl k2) d2, ⟨c1 ++ c2, a1.un a2, q1.un q2, ?_, ?_, ?_, ?_, ⟨c1, c2, q1, q2, rfl, Frag.le_un_left, Frag.le_un_right (df.mono r1 r2), df.mono r1 r2, h1, h2⟩⟩, hL2⟩
    · exact Frag.un_le (s1.trans Frag.le_un_left) (s2.trans (Frag.le_un_right df))
    · exact Frag.un_le (r1.trans Frag.le_un_left) (r2.trans (Frag.le_un_right df))
    · exact Frag.un_dj (Frag.dj_un d1 (df.mono s1 r2)) (Frag.dj_un (df.mono r1 s2).symm d3)
    · intro j c hj
      by_cases hlt : j < c1.length
      · rw [List.getElem?_append_left hlt] at hj
        exact Frag.le_un_left _ _ _ (e1 j c hj)
      · rw [List.getElem?_append_right (by omega)] at hj
        have := Frag.le_un_right da _ _ _ (e2 _ c hj)
        rw [← this]; congr 1; omega
theorem Mem.opn {F : Fr} {w : World} {K : Kd α} {b o : Nat} {x : α} {es : List Ent} (c : Chain K b o x es) (h : Mem F (Fld K b o x :: L) w) : Mem F (es ++ L) w := h.map fun _ _ => c.open_
theorem Mem.cls {F : Fr} {w : World} {K : Kd α} {b o : Nat} {x : α} {es : List Ent} (c : Chain K b o x es) (h : Mem F (es ++ L) w) : Mem F (Fld K b o x :: L) w := h.map fun _ _ => c.close
/-- Some entries taken to the front; their places stay, with nothing. -/
theorem Mem.pull {F : Fr} {w : World} (os : List Nat) {Lo : List Ent} (nd : os.Nodup) (hos : os.map (fun i => L[i]?) = Lo.map some) (h : Mem F L w) : Mem F (Lo ++ os.foldl (fun l i => l.set i Ent.nul) L) w := by
  obtain ⟨F', h1, h2⟩ := Mem.hand [] os (Lp := []) (fun e he => by cases he) nd rfl hos h
  exact h2 _ w h1
/-! ### Struct literals -/
def Sel : Nat → List (List Value) → List (List Value) → List (Nat × Value) → Prop
  | i, s :: ss, z :: zs, ps => (∃ v ps', ps = (i, v) :: ps' ∧ v.cells.toList = s ∧ s.length = z.length ∧ Sel (i + 1) ss zs ps') ∨ (s = z ∧ Sel (i + 1) ss zs ps)
  | _, [], [], ps => ps = []
  | _, _, _, _ => False
def lay : Nat → List (List Value) → List (Nat × Nat)
  | _, [] => []
  | o, z :: zs => (o, z.length) :: lay (o + z.length) zs
theorem foldl_put : ∀ (c pre post : List Value) (off j : Nat), pre.length = off + j → c.length ≤ post.length → (c.zipIdx j).foldl (fun (cs : Array Value) p => cs.setIfInBounds (off + p.2) p.1) (pre ++ post).toArray = (pre ++ (c ++ post.drop c.length)).toArray
  | [], pre, post, off, j, _, _ => by simp
  | u :: c, pre, [], off, j, hl, hle => by simp at hle
  | u :: c, pre, q :: post, off, j, hl, hle => by
    simp only [List.zipIdx_cons, List.foldl_cons]
    have e : (pre ++ q :: post).toArray.setIfInBounds (off + j) u = ((pre ++ [u]) ++ post).toArray := by
      apply Array.ext'
      simp only [Array.toList_setIfInBounds, List.append_assoc, List.singleton_append]
      rw [List.set_append_right _ _ (by omega)]
      simp [hl]
    rw [e, foldl_put c (pre ++ [u]) post off (j + 1) (by simp only [List.length_append, List.length_singleton]; omega) (by simpa using hle)]
    simp
theorem fill_sel (places : Nat → Option (Nat × Nat)) : ∀ (zs ss : List (List Value)) (i : Nat) (pre : List Value) (ps : List (Nat × Value)), (∀ j, places (i + j) = (lay pre.length zs)[j]?) → Sel i ss zs ps → Instr.fill places (pre ++ zs.flatten).toArray ps = some (pre ++ ss.flatten).toArray
  | [], [], i, pre, ps, _, h => by
    have : ps = [] := h
    subst this; simp [Instr.fill]
  | [], s :: ss, i, pre, ps, _, h => by simp [Sel] at h
  | z :: zs, [], i, pre, ps, _, h => by simp [Sel] at h
  | z :: zs, s :: ss, i, pre, ps, hp, h => by
    have hp0 := hp 0
    simp only [Nat.add_zero, lay, List.getElem?_cons_zero] at hp0
    have hpr : ∀ (u : List Value), u.length = z.length → ∀ j, places (i + 1 + j) = (lay (pre ++ u).length zs)[j]? := fun u hu j => by
      have := hp (j + 1)
      simp only [lay, List.getElem?_cons_succ] at this
      rw [List.length_append, hu, show i + 1 + j = i + (j + 1) by omega]; exact this
    rcases h with ⟨v, ps', rfl, hv, hl, hr⟩ | ⟨rfl, hr⟩
    · have ih := fill_sel places zs ss (i + 1) (pre ++ s) ps' (hpr s hl) hr
      have hc : v.cells = s.toArray := by apply Array.ext'; simpa using hv
      have hz : (Array.foldl (fun (cs : Array Value) (x : Value × Nat) => match x with | (c, j) => cs.setIfInBounds (pre.length + j) c) (pre ++ (z ++ zs.flatten)).toArray v.cells.zipIdx) = ((pre ++ s) ++ zs.flatten).toArray := by
        have := foldl_put s pre (z ++ zs.flatten) pre.length 0 rfl (by simp; omega)
        rw [hl, List.drop_left] at this
        rw [hc, List.append_assoc, ← this, ← Array.foldl_toList]
        simp
      simp only [List.flatten_cons, Instr.fill, hp0]
      rw [if_neg (by simp [hc, hl]), hz, ih, List.append_assoc]
    · have ih := fill_sel places zs ss (i + 1) (pre ++ s) ps (hpr s rfl) hr
      simpa [List.append_assoc] using ih
def PB (K : Kd α) (x : α) (i : Nat) (zs : List (List Value)) (ps : List (Nat × Value)) (L : List Ent) : Prop := ∀ m φ, Own L m φ → ∃ ss, K.C m Frag.emp x ss.flatten ∧ Sel i ss zs ps
theorem pb_part {A : Kd α} {B : Kd β} {x : α × β} {i : Nat} {z : List Value} {zs : List (List Value)} {v : Value} {ps : List (Nat × Value)} (hv : PV A v x.1 L) (hl : A.n = z.length) (h : PB B x.2 (i + 1) zs ps L) : PB (Kd.pair A B) x i (z :: zs) ((i, v) :: ps) L := fun m φ ho => by
  obtain ⟨cs, hC, rfl⟩ := hv m φ ho
  obtain ⟨ss, hB, hS⟩ := h m φ ho
  exact ⟨cs :: ss, ⟨cs, ss.flatten, Frag.emp, Frag.emp, rfl, .rfl, .rfl, Frag.emp_dj, hC, hB⟩, .inl ⟨_, ps, rfl, cells_pack hC, by rw [A.len hC, hl], hS⟩⟩
theorem pb_zero {A : Kd α} {B : Kd β} {x : α × β} {i : Nat} {z : List Value} {zs : List (List Value)} {ps : List (Nat × Value)} (hz : ∀ m, A.C m Frag.emp x.1 z) (h : PB B x.2 (i + 1) zs ps L) : PB (Kd.pair A B) x i (z :: zs) ps L := fun m φ ho => by
  obtain ⟨ss, hB, hS⟩ := h m φ ho
  exact ⟨z :: ss, ⟨z, ss.flatten, Frag.emp, Frag.emp, rfl, .rfl, .rfl, Frag.emp_dj, hz m, hB⟩, .inr ⟨rfl, hS⟩⟩
theorem pb_lastp {A : Kd α} {x : α} {i : Nat} {z : List Value} {v : Value} (hv : PV A v x L) (hl : A.n = z.length) : PB (Kd.last A) x i [z] [(i, v)] L := fun m φ ho => by
  obtain ⟨cs, hC, rfl⟩ := hv m φ ho
  exact ⟨[cs], by rw [List.flatten_cons, List.flatten_nil, List.append_nil]; exact hC, .inl ⟨_, [], rfl, cells_pack hC, by rw [A.len hC, hl], rfl⟩⟩
theorem pb_lastz {A : Kd α} {x : α} {i : Nat} {z : List Value} (hz : ∀ m, A.C m Frag.emp x z) : PB (Kd.last A) x i [z] [] L := fun m φ ho =>
  ⟨[z], by rw [List.flatten_cons, List.flatten_nil, List.append_nil]; exact hz m, .inr ⟨rfl, rfl⟩⟩
def flds (P : Program) (t : TypeId) : Option (List (Nat × Nat)) := match P.underlying t with
  | some (.struct fs) => fs.toList.mapM fun f => (P.info? f.type).map fun i => (f.offset, i.size)
  | _ => none
theorem run_places {w : World} : ∀ {fs : List Field} {l : List (Nat × Nat)}, fs.mapM (fun f => (P.info? f.type).map fun i => (f.offset, i.size)) = some l → (fs.mapM fun f => do pure (f.offset, ← sizeOf f.type) : Sem (List (Nat × Nat))).run P w = .ok l w
  | [], l, h => by simp at h; subst h; simp
  | f :: fs, l, h => by
    simp only [List.mapM_cons] at h
    obtain ⟨p, hp, h⟩ := Option.bind_eq_some_iff.1 h
    obtain ⟨q, hq, h⟩ := Option.bind_eq_some_iff.1 h
    obtain ⟨i, hi, hpi⟩ := Option.map_eq_some_iff.1 hp
    cases h
    subst hpi
    have ih := run_places (w := w) hq
    simp only [List.mapM_cons, Sem.run_bind]
    simp [sizeOf, typeInfo, hi] at ih ⊢
    rw [ih]; simp
theorem o_build {t : TypeId} {parts : Array (Nat × Operand)} {K : Kd α} {x : α} {zs : List (List Value)} {ps : List (Nat × Value)} (hp : parts.toList.map (fun p => (p.1, opv E p.2)) = ps.map (fun p => (p.1, some p.2))) (hz : zeroC P t = some zs.flatten) (hf : flds P t = some (lay 0 zs)) (hK : K.agg = true) (hb : PB K x 0 zs ps L) :
    OpS P E L ⟨d, .build t parts, ty, pos, aft, g⟩ (fun v => v) (fun v => Val K v x :: L) :=
  .run fun n F a w hS hm => by
    obtain ⟨m, φ, ho, hh, hpp, hkk⟩ := hm
    obtain ⟨ss, hC, hSel⟩ := hb m φ ho
    have hpe : parts.toList.map (fun x => (x.fst, a.eval x.snd)) = ps := by
      generalize parts.toList = pl at hp
      clear hSel hb
      induction pl generalizing ps with
      | nil => cases ps with | nil => rfl | cons _ _ => cases hp
      | cons p pl ih =>
        cases ps with
        | nil => cases hp
        | cons q ps =>
          simp only [List.map_cons, List.cons.injEq, Prod.mk.injEq] at hp ⊢
          rw [ih hp.2, hp.1.1, hS.eval hp.1.2]; simp
    unfold flds at hf
    split at hf
    · rename_i fs hfs
      have hpl := run_places (P := P) (w := w) hf
      obtain ⟨i, hi, hzz⟩ := Option.map_eq_some_iff.1 hz
      obtain ⟨ti, hti, hzv⟩ := Option.bind_eq_some_iff.1 hi
      have hcells : i.cells = zs.flatten.toArray := by apply Array.ext'; simpa using hzz
      have hfill := fill_sel (fun j => (lay 0 zs).toArray[j]?) zs ss 0 [] ps (fun j => by simp) hSel
      simp only [List.nil_append] at hfill
      have hpl2 : (fs.mapM fun f => do pure (f.offset, ← sizeOf f.type) : Sem (Array (Nat × Nat))).run P w = .ok (lay 0 zs).toArray w := by
        rw [Array.mapM_eq_mapM_toList]
        simp only [Sem.run_map, hpl, Result.andThen_ok]
      refine ⟨.agg ss.flatten.toArray, w, ?_, m, φ, ⟨Frag.emp, φ, Frag.emp_le, .rfl, Frag.emp_dj, ⟨_, hC, by rw [hK]; rfl⟩, ho⟩, hh, hpp, hkk⟩
      simp only [execOp, Instr.build, Sem.run_bind, zeroValue, typeInfo, run_program, Result.andThen_ok, hti, Sem.run_pure, hzv, run_underlying hfs, hpl2, Array.toList_map, hpe]
      simp only [hcells]
      rw [show (Instr.fill (fun x => (lay 0 zs).toArray[x]?) zs.flatten.toArray ps) = _ from hfill]
      rfl
    · cases hf
end
end Go.SL
