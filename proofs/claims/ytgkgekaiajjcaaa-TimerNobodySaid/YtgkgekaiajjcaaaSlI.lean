/- Slices: cut, copied, appended to; each rule states its own conditions. -/
import Derived.Test.YtgkgekaiajjcaaaSlG
import Derived.Laws.Append
namespace Go.SL
open Go Go.RowKit
set_option linter.unusedVariables false
set_option linter.unusedSimpArgs false

section
variable {α : Type} {K : Kd α} {m : Frag}
theorem Enc.append {xs ys : List α} {cs ds : List Value} (h : Enc K m xs cs) (k : Enc K m ys ds) : Enc K m (xs ++ ys) (cs ++ ds) := by
  refine ⟨by rw [List.length_append, h.len, k.len, List.length_append, Nat.add_mul], fun i x hx => ?_⟩
  by_cases hi : i < xs.length
  · rw [List.getElem?_append_left hi] at hx
    have := h.at_ i x hx
    have hl : (i + 1) * K.n ≤ cs.length := by rw [h.len]; exact Nat.mul_le_mul_right _ hi
    have e : (i + 1) * K.n = i * K.n + K.n := by rw [Nat.add_mul, Nat.one_mul]
    rw [List.drop_append_of_le_length (by omega), List.take_append_of_le_length (by rw [List.length_drop]; omega)]
    exact this
  · rw [List.getElem?_append_right (by omega)] at hx
    have := k.at_ _ x hx
    have e : i * K.n = cs.length + (i - xs.length) * K.n := by rw [h.len, ← Nat.add_mul]; congr 1; omega
    rw [e, List.drop_append]
    simpa [Nat.add_sub_cancel_left, List.drop_of_length_le (show cs.length ≤ cs.length + (i - xs.length) * K.n by omega)] using this
theorem Enc.take {xs : List α} {cs : List Value} (h : Enc K m xs cs) (k : Nat) : Enc K m (xs.take k) (cs.take (k * K.n)) := by
  refine ⟨?_, fun i x hx => ?_⟩
  · rw [List.length_take, List.length_take, h.len]
    rcases Nat.le_total k xs.length with hk | hk
    · rw [Nat.min_eq_left hk, Nat.min_eq_left (Nat.mul_le_mul_right _ hk)]
    · rw [Nat.min_eq_right hk, Nat.min_eq_right (Nat.mul_le_mul_right _ hk)]
  · have hi : i < k := by
      have := (List.getElem?_eq_some_iff.1 hx).1
      rw [List.length_take] at this; omega
    rw [List.getElem?_take_of_lt hi] at hx
    have := h.at_ i x hx
    have e : (i + 1) * K.n ≤ k * K.n := Nat.mul_le_mul_right _ hi
    rw [Nat.add_mul, Nat.one_mul] at e
    rw [List.drop_take, List.take_take, Nat.min_eq_left (by omega)]
    exact this
theorem Enc.drop {xs : List α} {cs : List Value} (h : Enc K m xs cs) (k : Nat) : Enc K m (xs.drop k) (cs.drop (k * K.n)) := by
  refine ⟨?_, fun i x hx => ?_⟩
  · rw [List.length_drop, List.length_drop, h.len, Nat.sub_mul]
  · rw [List.getElem?_drop] at hx
    have := h.at_ _ x hx
    rw [List.drop_drop, ← Nat.add_mul]
    exact this
theorem Enc.splice {xs ys : List α} {cs ds : List Value} (h : Enc K m xs cs) (k : Enc K m ys ds) {p : Nat} : Enc K m (splice xs p ys) (splice cs (p * K.n) ds) := by
  unfold Go.splice
  have := ((h.take p).append k).append (h.drop (p + ys.length))
  rw [Nat.add_mul, ← k.len, List.append_assoc, List.append_assoc] at this
  exact this
theorem Enc.one {x : α} {cs : List Value} (h : K.C m Frag.emp x cs) : Enc K m [x] cs := by
  refine ⟨by simp [K.len h], fun i y hy => ?_⟩
  cases i with
  | zero => simp at hy; subst hy; simpa [List.take_of_length_le (show cs.length ≤ K.n by rw [K.len h]; exact Nat.le_refl _)] using h
  | succ i => simp at hy
theorem set_splice {xs : List α} {i : Nat} (hi : i < xs.length) (y : α) : xs.set i y = Go.splice xs i [y] := by
  rw [List.set_eq_take_append_cons_drop, if_pos hi]; simp [Go.splice]
theorem Enc.oneCell {xs : List α} {cs : List Value} (h : Enc K m xs cs) : ∀ c ∈ cs, c.oneCell' = true := by
  intro c hc
  obtain ⟨j, hj, rfl⟩ := List.getElem_of_mem hc
  have hl := h.len
  have hn : 0 < K.n := by
    rcases Nat.eq_zero_or_pos K.n with e | e
    · rw [e] at hl; simp at hl; subst hl; simp at hj
    · exact e
  have hi : j / K.n < xs.length := by
    rw [Nat.div_lt_iff_lt_mul hn]; omega
  have := K.one (h.at_ (j / K.n) _ (List.getElem?_eq_getElem hi))
  refine this _ (List.mem_iff_getElem?.2 ⟨j % K.n, ?_⟩)
  rw [List.getElem?_take_of_lt (Nat.mod_lt _ hn), List.getElem?_drop, Nat.mul_comm, Nat.div_add_mod]
  exact List.getElem?_eq_getElem hj
theorem getElem?_splice_in {β : Type} {L cs : List β} {off j : Nat} (h1 : off ≤ j) (h2 : j < off + cs.length) (h3 : off ≤ L.length) : (Go.splice L off cs)[j]? = cs[j - off]? := by
  unfold Go.splice
  have : (L.take off).length = off := by rw [List.length_take]; omega
  rw [List.getElem?_append_right (by omega), List.getElem?_append_left (by omega), this]
theorem getElem?_splice_out {β : Type} {L cs : List β} {off j : Nat} (h : j < off ∨ off + cs.length ≤ j) (h3 : off + cs.length ≤ L.length) : (Go.splice L off cs)[j]? = L[j]? := by
  unfold Go.splice
  have : (L.take off).length = off := by rw [List.length_take]; omega
  rcases h with h | h
  · rw [List.getElem?_append_left (by omega), List.getElem?_take_of_lt h]
  · rw [List.getElem?_append_right (by omega), this, List.getElem?_append_right (by omega), List.getElem?_drop]
    congr 1; omega
theorem take_splice {β : Type} (L : List β) (n off : Nat) (cs : List β) (h : off + cs.length ≤ n) (hn : n ≤ L.length) : (Go.splice L off cs).take n = Go.splice (L.take n) off cs := by
  unfold Go.splice
  have e1 : (L.take off).length = off := by rw [List.length_take]; omega
  rw [List.take_append, List.take_append, e1, List.take_take, List.take_take, Nat.min_eq_right (show off ≤ n by omega), Nat.min_eq_left (show off ≤ n by omega), List.take_of_length_le (show cs.length ≤ n - off by omega), List.drop_take]
  congr 3
  omega
/-- Some of one's own cells turned. -/
theorem fset_splice {f : Frag} {b o off : Nat} {all ds : List Value} (hf : ∀ (j : Nat) (c : Value), all[j]? = some c → f b (o + j) = some (.cell c false)) (h : off + ds.length ≤ all.length) :
    ∀ (j : Nat) (c : Value), (Go.splice all off ds)[j]? = some c → SL.fset f b (o + off) ds b (o + j) = some (.cell c false) := by
  intro j c hj
  by_cases hr : off ≤ j ∧ j < off + ds.length
  · rw [getElem?_splice_in hr.1 hr.2 (by omega)] at hj
    have := fset_at (f := f) (b := b) (o := o + off) hj
    rwa [show o + off + (j - off) = o + j by omega] at this
  · rw [getElem?_splice_out (by omega) h] at hj
    rw [fset_off (by omega)]
    exact hf j c hj
end
section
variable {P : Program} {E : List (Nat × Value)} {L : List Ent} {α β : Type}
variable {d : Option Tmp} {ty : TypeId} {pos : String} {aft : Array Edge} {g : Option (Nat × Bool)}
/-- The cells of a row that is read. -/
theorem RD.cells {K : Kd α} {v : Value} {xs : List α} (h : RD K v xs L) {m φ fr : Frag} {w : World} (o : Own L m φ) (hh : Has m φ fr w) : ∃ a cap cs, v = .slice a xs.length cap ∧ xs.length ≤ cap ∧ Enc K m xs cs ∧ ∀ (j : Nat) (c : Value), cs[j]? = some c → ∃ ad, a = some ad ∧ w.cell? (ad.add j) = some c := by
  obtain ⟨a, cap, e, hl, f, hf, cs, hE, hc⟩ := h m φ o
  have hw : f.le (SL.hp w) := by
    rcases hf with rfl | hf
    · exact hh.l2
    · exact hf.trans hh.l1
  refine ⟨a, cap, cs, e, hl, hE, fun j c hj => ?_⟩
  obtain ⟨b, o, fz, rfl, hb⟩ := hc j c hj
  exact ⟨_, rfl, hp_cell_add (hw _ _ _ hb)⟩
/-! ### Cutting -/
def lo0 : Option Value → Int
  | some (.int _ i) => i
  | _ => 0
theorem o_slice {x : Operand} {t e : TypeId} {ei : TypeInfo} {K : Kd α} {v : Value} {xs ys : List α} {lo hi mx : Option Operand} {vlo vhi : Option Value} {ilo ihi : Int}
    (hx : opv E x = some v) (hv : PV (Kd.sl K) v xs L) (hlo : lo.map (opv E) = vlo.map some) (hhi : hi.map (opv E) = vhi.map some)
    (elo : (vlo = none ∧ ilo = 0) ∨ ∃ k, vlo = some (.int k ilo)) (ehi : (vhi = none ∧ ihi = xs.length) ∨ ∃ k, vhi = some (.int k ihi)) (hmx : mx = none ∨ (mx.map (opv E) = vhi.map some ∧ vhi ≠ none)) (h : cut xs ilo ihi = some ys)
    (ht : P.underlying t = some (.slice e)) (hei : P.info? e = some ei) (hn : ei.size = K.n) :
    OpS P E L ⟨d, .slice t x lo hi mx, ty, pos, aft, g⟩ (fun u => u) (fun u => Val (Kd.sl K) u ys :: L) :=
  .run fun n F a w hs hm => by
    obtain ⟨c0, c1, c2, rfl⟩ := cut_spec h
    obtain ⟨m, φ, o, hh, hp, hk⟩ := hm
    obtain ⟨ad, cap, rfl, ⟨hl, hmx'⟩, cs, hE, hc⟩ := Val_slm (hv m φ o)
    have hlo' : lo.map a.eval = vlo := by
      cases lo with
      | none => cases vlo with | none => rfl | some _ => cases hlo
      | some l => cases vlo with | none => cases hlo | some u => simp only [Option.map_some, Option.some.injEq] at hlo ⊢; exact hs.eval hlo
    have hhi' : hi.map a.eval = vhi := by
      cases hi with
      | none => cases vhi with | none => rfl | some _ => cases hhi
      | some l => cases vhi with | none => cases hhi | some u => simp only [Option.map_some, Option.some.injEq] at hhi ⊢; exact hs.eval hhi
    have key : ∃ cap', cap' ≥ ihi.toNat ∧ cap' ≤ cap ∧ (Instr.sliceAt t (.slice ad xs.length cap) vlo vhi (mx.map a.eval)).run P w = .ok (.slice (if cap' = ilo.toNat then ad else ad.map (·.add (ilo.toNat * K.n))) (ihi.toNat - ilo.toNat) (cap' - ilo.toNat)) w := by
      have hcap : (xs.length : Int) ≤ cap := by omega
      rcases hmx with rfl | ⟨hmx, hne⟩
      · refine ⟨cap, by omega, Nat.le_refl _, ?_⟩
        rcases elo with ⟨rfl, rfl⟩ | ⟨k1, rfl⟩ <;> rcases ehi with ⟨rfl, rfl⟩ | ⟨k2, rfl⟩
        · simp [Instr.sliceAt, run_underlying ht, Instr.slice, Instr.sliceBounds, sizeOf, typeInfo, hei, hn]
        · have q1 : ihi ≤ cap := by omega
          simp [Instr.sliceAt, run_underlying ht, Instr.slice, Instr.sliceBounds, Instr.sliceBound, asIntOf, sizeOf, typeInfo, hei, hn, c1, q1]
        · have q1 : ilo ≤ (xs.length : Int) := by omega
          simp [Instr.sliceAt, run_underlying ht, Instr.slice, Instr.sliceBounds, Instr.sliceBound, asIntOf, sizeOf, typeInfo, hei, hn, c0, q1]
        · have q1 : ihi ≤ cap := by omega
          have q2 : 0 ≤ ihi := by omega
          have q3 : ilo ≤ max ihi 0 := by omega
          simp [Instr.sliceAt, run_underlying ht, Instr.slice, Instr.sliceBounds, Instr.sliceBound, asIntOf, sizeOf, typeInfo, hei, hn, c0, q1, q2, q3]
      · refine ⟨ihi.toNat, Nat.le_refl _, by omega, ?_⟩
        rcases ehi with ⟨rfl, _⟩ | ⟨k2, rfl⟩
        · exact absurd rfl hne
        · cases mx with
          | none => cases hmx
          | some y =>
            simp only [Option.map_some, Option.some.injEq] at hmx
            have hy := hs.eval hmx
            have q1 : ihi ≤ cap := by omega
            have q2 : 0 ≤ ihi := by omega
            have q3 : ilo ≤ max ihi 0 := by omega
            have q4 : ihi ≤ max ihi 0 := by omega
            rcases elo with ⟨rfl, rfl⟩ | ⟨k1, rfl⟩
            · simp [Instr.sliceAt, run_underlying ht, Instr.slice, Instr.sliceBounds, Instr.sliceBound, asIntOf, sizeOf, typeInfo, hei, hn, hy, q1, q2, q4]
            · simp [Instr.sliceAt, run_underlying ht, Instr.slice, Instr.sliceBounds, Instr.sliceBound, asIntOf, sizeOf, typeInfo, hei, hn, hy, c0, q1, q2, q3, q4]
    obtain ⟨cap', hge, hle', hr⟩ := key
    refine ⟨.slice (if cap' = ilo.toNat then ad else ad.map (·.add (ilo.toNat * K.n))) (ihi.toNat - ilo.toNat) (cap' - ilo.toNat), w, by simp only [execOp, hs.eval hx, hlo', hhi', Sem.run_bind, hr]; rfl, m, φ, ⟨Frag.emp, φ, Frag.emp_le, .rfl, Frag.emp_dj, ⟨[.slice (if cap' = ilo.toNat then ad else ad.map (·.add (ilo.toNat * K.n))) (ihi.toNat - ilo.toNat) (cap' - ilo.toNat)], ⟨(if cap' = ilo.toNat then ad else ad.map (·.add (ilo.toNat * K.n))), cap' - ilo.toNat, ?_, ?_, ?_⟩, rfl⟩, o⟩, hh, hp, hk⟩
    · have : ihi.toNat - ilo.toNat = ((xs.take ihi.toNat).drop ilo.toNat).length := by simp; omega
      rw [this]
    · refine ⟨by simp; omega, by omega⟩
    · refine ⟨_, (hE.take ihi.toNat).drop ilo.toNat, fun j c hj => ?_⟩
      rw [List.getElem?_drop] at hj
      have hlt := (List.getElem?_eq_some_iff.1 hj).1
      rw [List.length_take, hE.len] at hlt
      have hjk : ilo.toNat * K.n + j < ihi.toNat * K.n := by omega
      rw [List.getElem?_take_of_lt hjk] at hj
      obtain ⟨b, o', fz, rfl, hb⟩ := hc _ c hj
      have hne : cap' ≠ ilo.toNat := by
        intro e
        have : ihi.toNat = ilo.toNat := by omega
        rw [this] at hjk; omega
      rw [if_neg hne]
      refine ⟨b, o' + ilo.toNat * K.n, fz, by simp [addr_add], ?_⟩
      rw [Nat.add_assoc]; exact hb
end
end Go.SL
