/- Made slices, copies, structs, calls; each rule states its own conditions. -/
import Derived.Test.YtgkgekaiajjcaaaSlJ
namespace Go.SL
open Go Go.RowKit
set_option linter.unusedVariables false
set_option linter.unusedSimpArgs false

section
variable {P : Program} {E : List (Nat × Value)} {L : List Ent} {α β γ : Type}
variable {d : Option Tmp} {ty : TypeId} {pos : String} {aft : Array Edge} {g : Option (Nat × Bool)}
/-- A new row of one's own. -/
theorem Mem.made {F : Fr} {w : World} {K : Kd α} {xs : List α} {cap : Nat} {cs : List Value} {t : TypeId} (h : Mem F L w) (hl : xs.length ≤ cap) (hm : cap ≤ maxLen) (hcs : cs.length = cap * K.n) (hE : ∀ m φ, Own L m φ → Enc K m xs (cs.take (xs.length * K.n))) : Mem F (Val (Kd.osl K) (.slice (some ⟨w.heap.size, 0, none⟩) xs.length cap) xs :: L) (w.alloc (.cells cs.toArray t)) := by
  obtain ⟨m, φ, o, hh, hp, hk⟩ := h
  have hh2 := hh.alloc (cs := cs) (t := t)
  have hn : ∀ j, φ w.heap.size (0 + j) = none := fun j => by
    cases e : φ w.heap.size (0 + j) with
    | none => rfl
    | some c => have := hh.l1 _ _ _ e; rw [hp_none (Nat.le_refl _)] at this; cases this
  exact ⟨m, SL.fset φ w.heap.size 0 cs, ⟨SL.fset Frag.emp w.heap.size 0 cs, φ, fset_mono Frag.emp_le, le_fset .rfl fun j _ => hn j, (dj_fset Frag.dj_emp fun j _ => hn j).symm, ⟨_, ⟨_, cap, rfl, hl, hm, .inr ⟨w.heap.size, 0, cs, rfl, hcs, fun j c hj => fset_at hj, hE m φ o⟩⟩, rfl⟩, o⟩, hh2, hp, hk.trans (Ok.alloc w _)⟩
/-- The zero of a type, as cells. -/
def zeroC (P : Program) (e : TypeId) : Option (List Value) := ((P.info? e).bind (·.zero)).map fun z => z.cells.toList
def mk (n : Int) (z : α) : Option (List α) := if 0 ≤ n ∧ n ≤ 68719476736 then some (List.replicate n.toNat z) else none
theorem mk_spec {n : Int} {z : α} {xs : List α} (h : mk n z = some xs) : 0 ≤ n ∧ n ≤ 68719476736 ∧ xs = List.replicate n.toNat z := by
  unfold mk at h
  split at h
  · rename_i h0; cases h; exact ⟨h0.1, h0.2, rfl⟩
  · cases h
theorem Enc.replicate {K : Kd α} {m : Frag} {z : α} {zc : List Value} (h : K.C m Frag.emp z zc) : ∀ n, Enc K m (List.replicate n z) (List.replicate n zc).flatten
  | 0 => Enc.nil
  | n + 1 => by
    rw [List.replicate_succ, List.replicate_succ, List.flatten_cons, ← List.singleton_append]
    exact (Enc.one h).append (Enc.replicate h n)
theorem range_flat {zc : Array Value} (n : Nat) (hz : 0 < zc.size ∨ n = 0) : ((Array.range (n * zc.size)).map fun i => zc[i % zc.size]!).toList = (List.replicate n zc.toList).flatten := by
  rcases hz with hz | rfl
  · apply List.ext_getElem?
    intro i
    have hfl : (List.replicate n zc.toList).flatten.length = n * zc.size := by simp
    by_cases hi : i < n * zc.size
    · have e1 : ((Array.range (n * zc.size)).map fun i => zc[i % zc.size]!).toList[i]? = some (zc[i % zc.size]!) := by simp [hi]
      rw [e1]
      have hlt : i % zc.size < zc.size := Nat.mod_lt _ hz
      have key : ∀ (n i : Nat), i < n * zc.size → (List.replicate n zc.toList).flatten[i]? = some (zc[i % zc.size]!) := by
        intro n
        induction n with
        | zero => intro i h; simp at h
        | succ n ih =>
          intro i h
          rw [List.replicate_succ, List.flatten_cons]
          by_cases h1 : i < zc.size
          · rw [List.getElem?_append_left (by simpa using h1), Nat.mod_eq_of_lt h1]
            simp [h1]
          · rw [List.getElem?_append_right (by simpa using Nat.le_of_not_lt h1)]
            rw [Nat.add_mul, Nat.one_mul] at h
            have := ih (i - zc.size) (by omega)
            simp only [Array.length_toList]
            rw [this]
            congr 2
            rw [← Nat.mod_eq_sub_mod (by omega)]
      rw [key n i hi]
    · rw [List.getElem?_eq_none (by simp; omega), List.getElem?_eq_none (by rw [hfl]; omega)]
  · simp
theorem o_mk {x y : Operand} {t : TypeId} {K : Kd α} {k k2 : IntKind} {n : Int} {z : α} {xs : List α} (hx : opv E x = some (.int k n)) (hy : opv E y = some (.int k2 n)) (h : mk n z = some xs) (ht : appTy P t K.n = true) (hz : 0 < K.n) (hzc : ∀ e, P.underlying t = some (.slice e) → ∃ zc, zeroC P e = some zc ∧ ∀ m, K.C m Frag.emp z zc) :
    OpS P E L ⟨d, .makeSlice t x y, ty, pos, aft, g⟩ (fun v => v) (fun v => Val (Kd.osl K) v xs :: L) :=
  .run fun nn F a w hs hm => by
    obtain ⟨h0, h1, rfl⟩ := mk_spec h
    obtain ⟨e, ei, zv, hte, hei, hsz, hby, hze, hzs⟩ := appTy_spec ht
    obtain ⟨zc, hzc1, hC⟩ := hzc e hte
    have ezc : zc = zv.cells.toList := by
      unfold zeroC at hzc1
      simp [hei, hze] at hzc1
      exact hzc1.symm
    subst ezc
    have hbb : (ei.bytes : Int) * n ≤ 281474976710656 := Int.le_trans (Int.mul_le_mul (show (ei.bytes : Int) ≤ 2048 by omega) h1 h0 (by decide)) (by decide)
    have hw : IntKind.i64.wrap n = n := by simp [IntKind.wrap, IntKind.bits, IntKind.signed]; omega
    have hcells : (Array.range (n.toNat * K.n)).map (fun i => zv.cells[i % zv.cells.size]!) = (List.replicate n.toNat zv.cells.toList).flatten.toArray := by
      apply Array.ext'
      have := range_flat (zc := zv.cells) n.toNat (.inl (by omega))
      rw [hzs] at this
      simpa [hzs] using this
    refine ⟨.slice (some ⟨w.heap.size, 0, none⟩) n.toNat n.toNat, w.alloc (.cells (List.replicate n.toNat zv.cells.toList).flatten.toArray e), ?_, ?_⟩
    · have q1 : ¬ (n < 0) := by omega
      have q2 : ¬ (281474976710656 < (ei.bytes : Int) * n) := by omega
      by_cases hn0 : n.toNat = 0
      · have : n = 0 := by omega
        subst this
        simp [execOp, hs.eval hx, hs.eval hy, Instr.makeSlice, run_underlying hte, asInt, asIntOf, typeInfo, hei, hw, sizeOf, hsz, newRow]
        congr 2
        apply Array.ext'; simp
      · have q3 : n.toNat * K.n ≠ 0 := Nat.mul_ne_zero hn0 (by omega)
        have q4 : n ≠ 0 := by omega
        have q5 : ¬ (K.n = 0) := by omega
        have q6 : ¬ (n ≤ 0) := by omega
        simp [execOp, hs.eval hx, hs.eval hy, Instr.makeSlice, run_underlying hte, asInt, asIntOf, typeInfo, hei, hw, q1, q2, sizeOf, hsz, zeroValue, hze, newRow, q3, q4, q5, q6]
        rw [hcells]
    · have := hm.made (K := K) (xs := List.replicate n.toNat z) (cap := n.toNat) (cs := (List.replicate n.toNat zv.cells.toList).flatten) (t := e) (by simp) (by simp only [maxLen]; omega) (by simp [hzs]) (fun m φ _ => by
        have := Enc.replicate (hC m) n.toNat
        rw [List.take_of_length_le (by rw [this.len]; exact Nat.le_refl _)]; exact this)
      simpa using this
/-- Values that say a list of things. -/
def PVs (K : Kd α) : List Value → List α → List Ent → Prop
  | [], [], _ => True
  | v :: vs, x :: xs, L => PV K v x L ∧ PVs K vs xs L
  | _, _, _ => False
theorem pvs_nil {K : Kd α} : PVs K [] [] L := trivial
theorem pvs_cons {K : Kd α} {v : Value} {vs : List Value} {x : α} {xs : List α} (h : PV K v x L) (k : PVs K vs xs L) : PVs K (v :: vs) (x :: xs) L := ⟨h, k⟩
theorem fill_seq {K : Kd α} {m φ : Frag} (ho : Own L m φ) : ∀ (vs : List Value) (xs : List α) (pre post : List Value) (i : Nat), PVs K vs xs L → pre.length = i * K.n → post.length = vs.length * K.n →
    ∃ cs, Enc K m xs cs ∧ Instr.fill (fun i => some (i * K.n, K.n)) (pre ++ post).toArray (vs.zipIdx i |>.map fun p => (p.2, p.1)) = some (pre ++ cs).toArray
  | [], [], pre, post, i, _, hp, hq => ⟨[], Enc.nil, by
      have : post = [] := List.eq_nil_of_length_eq_zero (by simpa using hq)
      subst this; simp [Instr.fill]⟩
  | v :: vs, x :: xs, pre, post, i, ⟨h, k⟩, hp, hq => by
    obtain ⟨c, hC, rfl⟩ := h m φ ho
    have hcl := K.len hC
    have hcc := cells_pack hC
    have hsz : (pack K.agg c).cells.size = K.n := by have := congrArg List.length hcc; simpa [hcl] using this
    rw [List.length_cons, Nat.add_mul, Nat.one_mul] at hq
    have hput : ∀ (c pre post : List Value) (off : Nat), pre.length = off → c.length ≤ post.length → (c.zipIdx 0).foldl (fun (cs : Array Value) p => cs.setIfInBounds (off + p.2) p.1) (pre ++ post).toArray = (pre ++ (c ++ post.drop c.length)).toArray := by
      intro c
      have gen : ∀ (c pre post : List Value) (off j : Nat), pre.length = off + j → c.length ≤ post.length → (c.zipIdx j).foldl (fun (cs : Array Value) p => cs.setIfInBounds (off + p.2) p.1) (pre ++ post).toArray = (pre ++ (c ++ post.drop c.length)).toArray := by
        intro c
        induction c with
        | nil => intro pre post off j _ _; simp
        | cons u c ih =>
          intro pre post off j hl hle
          cases post with
          | nil => simp at hle
          | cons q post =>
            simp only [List.zipIdx_cons, List.foldl_cons]
            have e : (pre ++ q :: post).toArray.setIfInBounds (off + j) u = ((pre ++ [u]) ++ post).toArray := by
              apply Array.ext'
              simp only [Array.toList_setIfInBounds, List.append_assoc, List.singleton_append]
              rw [List.set_append_right _ _ (by omega)]
              simp [hl]
            rw [e, ih (pre ++ [u]) post off (j + 1) (by simp only [List.length_append, List.length_singleton]; omega) (by simpa using hle)]
            simp
      intro pre post off hl hle
      exact gen c pre post off 0 (by simpa using hl) hle
    obtain ⟨cs, hE, hf⟩ := fill_seq ho vs xs (pre ++ c) (post.drop c.length) (i + 1) k (by rw [List.length_append, hp, hcl, Nat.add_mul, Nat.one_mul]) (by rw [List.length_drop]; omega)
    refine ⟨c ++ cs, (Enc.one hC).append hE, ?_⟩
    simp only [List.zipIdx_cons, List.map_cons, Instr.fill, hsz]
    rw [if_neg (by simp only [List.size_toArray, List.length_append, hp, hq]; simp)]
    have hz : ((pack K.agg c).cells.zipIdx.foldl (fun (cs : Array Value) p => cs.setIfInBounds (i * K.n + p.2) p.1) (pre ++ post).toArray) = ((pre ++ c) ++ post.drop c.length).toArray := by
      have e1 : (pack K.agg c).cells = c.toArray := by apply Array.ext'; simpa using hcc
      rw [e1]
      have := hput c pre post (i * K.n) hp (by omega)
      rw [List.append_assoc]
      rw [← this, ← Array.foldl_toList]
      simp
    have hz' : (Array.foldl (fun (cs : Array Value) (x : Value × Nat) => match x with | (c, j) => cs.setIfInBounds (i * K.n + j) c) (pre ++ post).toArray (pack K.agg c).cells.zipIdx) = ((pre ++ c) ++ post.drop c.length).toArray := hz
    rw [hz']
    rw [hf, List.append_assoc]
theorem o_bs {t : TypeId} {len : Nat} {parts : Array (Nat × Operand)} {K : Kd α} {vs : List Value} {xs : List α} (hp : parts.toList.map (fun p => (p.1, opv E p.2)) = (vs.zipIdx 0).map (fun p => (p.2, some p.1))) (hl : vs.length = len) (hv : PVs K vs xs L) (ht : appTy P t K.n = true) (hz : 0 < K.n) (hs : len * K.n ≤ 16777216) :
    OpS P E L ⟨d, .buildSlice t len parts, ty, pos, aft, g⟩ (fun v => v) (fun v => Val (Kd.osl K) v xs :: L) :=
  .run fun nn F a w hS hm => by
    obtain ⟨e, ei, zv, hte, hei, hsz, hby, hze, hzs⟩ := appTy_spec ht
    have hpe : parts.toList.map (fun x => (x.fst, a.eval x.snd)) = (vs.zipIdx 0).map (fun p => (p.2, p.1)) := by
      generalize parts.toList = pl at hp
      generalize 0 = s at hp ⊢
      clear hl hv
      induction pl generalizing vs s with
      | nil => cases vs with | nil => rfl | cons _ _ => cases hp
      | cons p pl ih =>
        cases vs with
        | nil => cases hp
        | cons v vs =>
          simp only [List.map_cons, List.zipIdx_cons, List.cons.injEq, Prod.mk.injEq] at hp ⊢
          exact ⟨⟨hp.1.1, hS.eval hp.1.2⟩, ih _ hp.2⟩
    obtain ⟨m, φ, ho, hh, hpp, hkk⟩ := id hm
    subst hl
    have hrange : ∀ zero : Array Value, ((Array.range (vs.length * K.n)).map (fun i => zero[i % zero.size]!)).toList.length = vs.length * K.n := fun zero => by simp
    obtain ⟨cs, hE, hf⟩ := fill_seq (K := K) ho vs xs [] ((Array.range (vs.length * K.n)).map (fun i => (if vs.length * K.n = 0 then #[] else zv.cells)[i % (if vs.length * K.n = 0 then #[] else zv.cells).size]!)).toList 0 hv (by simp) (hrange _)
    have hxl : xs.length = vs.length := by
      clear hp hpe hf hE hrange hs
      induction vs generalizing xs with
      | nil => cases xs with | nil => rfl | cons _ _ => cases hv
      | cons v vs ih => cases xs with | nil => cases hv | cons x xs => simp [ih hv.2]
    refine ⟨.slice (some ⟨w.heap.size, 0, none⟩) vs.length vs.length, w.alloc (.cells cs.toArray e), ?_, ?_⟩
    · have q1 : ¬ (16777216 < vs.length * K.n) := by omega
      simp only [List.nil_append, Array.toArray_toList] at hf
      by_cases h0 : vs.length * K.n = 0
      · simp [h0] at hf
        simp [execOp, Instr.buildSlice, run_underlying hte, sizeOf, typeInfo, hei, hsz, h0, hpe, hf, newRow]
      · simp only [h0, if_false] at hf
        simp [execOp, Instr.buildSlice, run_underlying hte, sizeOf, typeInfo, hei, hsz, q1, h0, hpe, zeroValue, hze, hf, newRow]
    · have hcl := hE.len
      have := hm.made (K := K) (xs := xs) (cap := vs.length) (cs := cs) (t := e) (by omega) (by simp only [maxLen]; have := Nat.le_mul_of_pos_right vs.length hz; omega) (by rw [hcl, hxl]) (fun m' φ' ho' => by
        obtain ⟨cs', hE', hf'⟩ := fill_seq (K := K) ho' vs xs [] ((Array.range (vs.length * K.n)).map (fun i => (if vs.length * K.n = 0 then #[] else zv.cells)[i % (if vs.length * K.n = 0 then #[] else zv.cells).size]!)).toList 0 hv (by simp) (hrange _)
        have : cs' = cs := by
          have e := hf'.symm.trans hf
          simpa using e
        subst this
        rw [List.take_of_length_le (by rw [hE'.len]; exact Nat.le_refl _)]; exact hE')
      rw [hxl] at this
      exact this
end
end Go.SL
