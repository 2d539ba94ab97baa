/- Elements loaded and stored, append, copy, clear, make; each rule states its own conditions. -/
import Derived.Test.YtgkgekaiajjcaaaSlI
namespace Go.SL
open Go Go.RowKit
set_option linter.unusedVariables false
set_option linter.unusedSimpArgs false

section
variable {P : Program} {E : List (Nat × Value)} {L : List Ent} {α β : Type}
variable {d : Option Tmp} {ty : TypeId} {pos : String} {aft : Array Edge} {g : Option (Nat × Bool)}
theorem elem_cells {K : Kd α} {v : Value} {xs : List α} (hr : RD K v xs L) {m φ fr : Frag} {w : World} (o : Own L m φ) (hh : Has m φ fr w) {i : Int} {z : α} (h : idx xs i = some z) (hz : 0 < K.n) :
    ∃ ad len cap cs, v = .slice (some ad) len cap ∧ K.C m Frag.emp z cs ∧ ∀ (j : Nat) (c : Value), cs[j]? = some c → w.cell? (ad.add (i.toNat * K.n + j)) = some c := by
  obtain ⟨a, cap, cs, rfl, hl, hE, hc⟩ := hr.cells o hh
  obtain ⟨h0, h1, h2⟩ := idx_spec h
  have hC := hE.at_ _ _ h2
  have key : ∀ (j : Nat) (c : Value), ((cs.drop (i.toNat * K.n)).take K.n)[j]? = some c → ∃ ad, a = some ad ∧ w.cell? (ad.add (i.toNat * K.n + j)) = some c := fun j c hj => by
    have hj2 := (List.getElem?_eq_some_iff.1 hj).1
    rw [List.length_take] at hj2
    rw [List.getElem?_take_of_lt (by omega), List.getElem?_drop] at hj
    exact hc _ c hj
  have hn := K.len hC
  have hne : 0 < ((cs.drop (i.toNat * K.n)).take K.n).length := by omega
  obtain ⟨ad, rfl, _⟩ := key 0 _ (List.getElem?_eq_getElem hne)
  exact ⟨ad, _, cap, _, rfl, hC, fun j c hj => by obtain ⟨ad', e, h⟩ := key j c hj; cases e; exact h⟩
theorem o_lex {x : Operand} {t : TypeId} {K : Kd α} {v : Value} {xs : List α} {ex : α → Value} {i : Int} {z : α} (hx : opv E x = some (elemP v (i.toNat * K.n))) (hr : RD K v xs L) (h : idx xs i = some z) (hK : K.X ex) (ht : tyI P t = some (K.agg, K.n)) (hz : 0 < K.n) :
    OpS (σ := Unit) P E L ⟨d, .load t x, ty, pos, aft, g⟩ (fun _ => ex z) (fun _ => L) :=
  .run fun n F a w hs hm => by
    obtain ⟨m, φ, o, hh, _⟩ := id hm
    obtain ⟨ad, len, cap, cs, rfl, hC, hc⟩ := elem_cells hr o hh h hz
    have := run_loadVar' ht w (ad.add (i.toNat * K.n)) (K.len hC) K.sgl (fun j c hj => by rw [Addr.add_add]; exact hc j c hj)
    obtain ⟨rfl, ha⟩ := hK _ _ _ _ hC
    rw [ha] at this
    exact ⟨(), w, by simp [execOp, hs.eval hx, elemP, Instr.loadAt, Instr.sureAddr, this, pack], hm⟩
theorem o_lev {x : Operand} {t : TypeId} {K : Kd α} {v : Value} {xs : List α} {i : Int} {z : α} (hx : opv E x = some (elemP v (i.toNat * K.n))) (hr : RD K v xs L) (h : idx xs i = some z) (ht : tyI P t = some (K.agg, K.n)) (hz : 0 < K.n) :
    OpS P E L ⟨d, .load t x, ty, pos, aft, g⟩ (fun u => u) (fun u => Val K u z :: L) :=
  .run fun n F a w hs hm => by
    obtain ⟨m, φ, o, hh, hp, hk⟩ := hm
    obtain ⟨ad, len, cap, cs, rfl, hC, hc⟩ := elem_cells hr o hh h hz
    have := run_loadVar' ht w (ad.add (i.toNat * K.n)) (K.len hC) K.sgl (fun j c hj => by rw [Addr.add_add]; exact hc j c hj)
    exact ⟨pack K.agg cs, w, by simp [execOp, hs.eval hx, elemP, Instr.loadAt, Instr.sureAddr, this], m, φ, ⟨Frag.emp, φ, Frag.emp_le, .rfl, Frag.emp_dj, ⟨cs, hC, rfl⟩, o⟩, hh, hp, hk⟩
/-! ### One's own slices turned -/
/-- Some of one's own elements written over. -/
theorem Own.write {m φ fr : Frag} {w w' : World} {K : Kd α} {p : Nat} {v : Value} {xs ys : List α} {ds : List Value} {k : Nat} (ho : Own L m φ) (hh : Has m φ fr w) (hpp : L[p]? = some (Val (Kd.osl K) v xs)) (hk : k + ys.length ≤ xs.length) (hE : Enc K m ys ds) {ad : Addr} {len cap : Nat} (hv : v = .slice (some ad) len cap)
    (hw : hp w' = SL.fset (hp w) ad.block (ad.off + k * K.n) ds) : ∃ φ', Own (L.set p (Val (Kd.osl K) v (Go.splice xs k ys))) m φ' ∧ Has m φ' fr w' := by
  obtain ⟨f1, f2, l1, l2, d12, he, _, hset⟩ := ho.split hpp
  obtain ⟨a, cap', e, hl, hm, hr⟩ := Val_osl he
  rw [hv] at e
  cases e
  rcases hr with ⟨h, _⟩ | ⟨b, o, all, ha, hal, hc, hEn⟩
  · cases h
  · cases ha
    have hd : ds.length = ys.length * K.n := hE.len
    have hle : (k + ys.length) * K.n ≤ xs.length * K.n := Nat.mul_le_mul_right _ hk
    have hlc : xs.length * K.n ≤ cap * K.n := Nat.mul_le_mul_right _ hl
    rw [Nat.add_mul] at hle
    have hfit : k * K.n + ds.length ≤ all.length := by omega
    have own : ∀ j, j < ds.length → ∃ c, f1 b (o + k * K.n + j) = some (.cell c false) := fun j hj => by
      have : k * K.n + j < all.length := by omega
      refine ⟨all[k * K.n + j], ?_⟩
      rw [Nat.add_assoc]
      exact hc _ _ (List.getElem?_eq_getElem this)
    have hf2 : ∀ j, j < ds.length → f2 b (o + k * K.n + j) = none := fun j hj => by
      obtain ⟨c, hc⟩ := own j hj
      rcases d12 b (o + k * K.n + j) with e | e
      · rw [hc] at e; cases e
      · exact e
    refine ⟨SL.fset φ b (o + k * K.n) ds, hset m (SL.fset f1 b (o + k * K.n) ds) _ _ .rfl (fset_mono l1) (le_fset l2 hf2) (dj_fset d12.symm hf2).symm ⟨[_], ⟨_, cap, ?_, ?_, hm, .inr ⟨b, o, Go.splice all (k * K.n) ds, rfl, ?_, fset_splice hc hfit, ?_⟩⟩, hv⟩,
      hh.fset (fun j hj => by obtain ⟨c, hc⟩ := own j hj; exact ⟨c, l1 _ _ _ hc⟩) hw⟩
    · have : (Go.splice xs k ys).length = xs.length := length_splice _ _ _ hk
      rw [this]
    · rw [length_splice _ _ _ hk]; exact hl
    · rw [length_splice _ _ _ hfit]; exact hal
    · rw [length_splice _ _ _ hk, take_splice _ _ _ _ (by omega) (by omega)]
      exact hEn.splice hE
theorem o_ste {x xv : Operand} {t : TypeId} {K : Kd α} {v u : Value} {xs : List α} {i : Int} {z y : α} (p : Nat) (hx : opv E x = some (elemP v (i.toNat * K.n))) (hxv : opv E xv = some u) (hp : L[p]? = some (Val (Kd.osl K) v xs)) (hv : PV K u y L) (h : idx xs i = some z) (ht : (P.info? t).map (·.size) = some K.n) (hz : 0 < K.n) :
    OpS (σ := Unit) P E L ⟨d, .store t x xv, ty, pos, aft, g⟩ (fun _ => undef) (fun _ => L.set p (Val (Kd.osl K) v (xs.set i.toNat y))) :=
  .skip fun n F a w hs hm => by
    obtain ⟨m, φ, ho, hh, hpp, hkk⟩ := hm
    obtain ⟨h0, h1, h2⟩ := idx_spec h
    obtain ⟨cs, hC, hvc⟩ := hv m φ ho
    have hcells : u.cells.toList = cs := by rw [hvc]; exact cells_pack hC
    have hlen := K.len hC
    obtain ⟨ti, hti, hsz⟩ := Option.map_eq_some_iff.1 ht
    obtain ⟨f1, hf1, he⟩ := ho.get hp
    obtain ⟨ad, cap, rfl, hl, hm, hr⟩ := Val_osl he
    rcases hr with ⟨_, h, h'⟩ | ⟨b, o, all, rfl, hal, hc, hEn⟩
    · subst h'; simp at h1; omega
    · have hle : (i.toNat + 1) * K.n ≤ cap * K.n := Nat.mul_le_mul_right _ (by omega)
      rw [Nat.add_mul, Nat.one_mul] at hle
      obtain ⟨w', hrun, hw, hok⟩ := run_storeCells' (P := P) (b := b) (o := o + i.toNat * K.n) cs 0 w (fun j hj => by
        have : i.toNat * K.n + j < all.length := by omega
        refine ⟨all[i.toNat * K.n + j], (hf1.trans hh.l1) _ _ _ ?_⟩
        rw [Nat.add_zero, Nat.add_assoc]
        exact hc _ _ (List.getElem?_eq_getElem this)) (K.one hC)
      obtain ⟨φ', ho', hh'⟩ := Own.write (ys := [y]) (k := i.toNat) ho hh hp (by simp only [List.length_singleton]; omega) (Enc.one hC) rfl hw
      refine ⟨(), w', ?_, m, φ', ?_, hh', hpp, hkk.trans hok⟩
      · have hl2 : u.cells.size = K.n := by rw [← hlen, ← hcells]; simp
        simp [execOp, hs.eval hx, hs.eval hxv, elemP, Instr.storeAt, Instr.sureAddr, storeVar, sizeOf, typeInfo, hti, hsz, hl2, hcells, addr_add, hrun]
      · rw [set_splice (xs := xs) (by omega) y]; exact ho'
/-! ### append -/
theorem run_append_in {t t2 e : TypeId} {ei : TypeInfo} {x : Value} {n : Nat} {ds : List Value} {w : World} {base : Option Addr} {sLen sCap : Nat} (ht : P.underlying t = some (.slice e)) (h2 : (∃ e', P.underlying t2 = some (.slice e')) ∨ P.underlying t2 = some .string) (hi : P.info? e = some ei)
    (hl : Builtin.lenOf x = pure n) (hf : (Builtin.firstCells ei.size n x).run P w = .ok ds.toArray w) (hroom : sLen + n ≤ sCap) :
    (Builtin.append_ #[t, t2] ty #[.slice base sLen sCap, x]).run P w = (match base with | some a => (storeCells (a.add (sLen * ei.size)) ds).run P w | none => .ok () w).andThen fun _ w => .ok (.slice base (sLen + n) sCap) w := by
  rcases h2 with ⟨e', h2⟩ | h2 <;> cases base <;> simp [Builtin.append_, run_underlying ht, run_underlying h2, sizeOf, typeInfo, hi, hl, hroom, hf]
theorem run_append_grows {t t2 e : TypeId} {ei : TypeInfo} {z : Value} {x : Value} {n : Nat} {ds olds : List Value} {w : World} {base : Option Addr} {sLen sCap : Nat} (ht : P.underlying t = some (.slice e)) (h2 : (∃ e', P.underlying t2 = some (.slice e')) ∨ P.underlying t2 = some .string) (hi : P.info? e = some ei) (hz : ei.zero = some z)
    (hl : Builtin.lenOf x = pure n) (hf : (Builtin.firstCells ei.size n x).run P w.drew = .ok ds.toArray w.drew) (ho : (Builtin.firstCells ei.size sLen (.slice base sLen sCap)).run P w.drew = .ok olds.toArray w.drew) (hroom : sCap < sLen + n)
    (hb : (sLen + n) * ei.bytes ≤ 140737488355328) (hb2 : sLen + n ≤ 9223372036854775807) :
    (Builtin.append_ #[t, t2] ty #[.slice base sLen sCap, x]).run P w = .ok (.slice (some ⟨w.heap.size, 0, none⟩) (sLen + n) (grownCap w (sLen + n) sCap e)) (w.drew.alloc (.cells (olds ++ ds ++ (Builtin.zeroCells z.cells (grownCap w (sLen + n) sCap e - (sLen + n))).toList).toArray e)) := by
  have hn : ¬ (sLen + n ≤ sCap) := by omega
  have h63' : ¬ (9223372036854775807 < ((sLen : Int) + (n : Int))) := by omega
  have h48 : Builtin.nextslicecap (sLen + n) sCap * ei.bytes ≤ 281474976710656 := growslice_fits (by omega) hb
  have h48' : ¬ (281474976710656 < Builtin.nextslicecap (sLen + n) sCap * ei.bytes) := by omega
  have hq : (Question.appendCap (sLen + n) sCap e).forced = false := rfl
  have e0 : ({ w with drawn := w.drawn + 1 } : World) = w.drew := rfl
  rcases h2 with ⟨e', h2⟩ | h2 <;> simp [Builtin.append_, run_underlying ht, run_underlying h2, sizeOf, typeInfo, hi, hl, hn, h63', h48', hq, e0, hf, ho, hz, zeroValue, newRow, grownCap]
  all_goals (congr 2; apply Array.ext'; simp)
def app (xs ys : List α) : Option (List α) := if xs.length + ys.length ≤ 68719476736 then some (xs ++ ys) else none
theorem app_spec {xs ys zs : List α} (h : app xs ys = some zs) : xs.length + ys.length ≤ 68719476736 ∧ zs = xs ++ ys := by
  unfold app at h
  split at h
  · rename_i h0; cases h; exact ⟨h0, rfl⟩
  · cases h
theorem Has.drew {m φ fr : Frag} {w : World} (h : Has m φ fr w) : Has m φ fr w.drew := ⟨h.d1, h.d2, h.d3, h.l1, h.l2, h.l3⟩
/-- What an append needs to know of a type. -/
def appTy (P : Program) (t : TypeId) (n : Nat) : Bool := match P.underlying t with
  | some (.slice e) => match P.info? e with
    | some ei => ei.size == n && decide (ei.bytes ≤ 2048) && (match ei.zero with | some z => z.cells.size == n | none => false)
    | none => false
  | _ => false
theorem appTy_spec {t : TypeId} {n : Nat} (h : appTy P t n = true) : ∃ e ei z, P.underlying t = some (.slice e) ∧ P.info? e = some ei ∧ ei.size = n ∧ ei.bytes ≤ 2048 ∧ ei.zero = some z ∧ z.cells.size = n := by
  unfold appTy at h
  split at h
  · rename_i e he
    split at h
    · rename_i ei hei
      simp only [Bool.and_eq_true, beq_iff_eq, decide_eq_true_eq] at h
      obtain ⟨⟨h1, h2⟩, h3⟩ := h
      split at h3
      · rename_i z hz; exact ⟨e, ei, z, he, hei, h1, h2, hz, by simpa using h3⟩
      · cases h3
    · cases h
  · cases h
def noInt : Option TypeDesc → Bool
  | some (.slice _) | some .string => true
  | _ => false
theorem noInt_spec {o : Option TypeDesc} (h : noInt o = true) : (∃ e', o = some (.slice e')) ∨ o = some .string := by
  unfold noInt at h
  split at h
  · exact .inl ⟨_, rfl⟩
  · exact .inr rfl
  · cases h
/-- An append that finds room. -/
def AppIn (P : Program) (t t2 ty : TypeId) (k : Nat) (x : Value) (n : Nat) (ds : List Value) (w : World) : Prop := ∀ (base : Option Addr) (sLen sCap : Nat), sLen + n ≤ sCap →
  (Builtin.append_ #[t, t2] ty #[.slice base sLen sCap, x]).run P w = (match base with | some a => (storeCells (a.add (sLen * k)) ds).run P w | none => .ok () w).andThen fun _ w => .ok (.slice base (sLen + n) sCap) w
/-- An append that finds none. -/
def AppGr (P : Program) (t t2 ty : TypeId) (k : Nat) (x : Value) (n : Nat) (ds : List Value) (w : World) : Prop := ∀ (e : TypeId) (z : Value) (base : Option Addr) (sLen sCap : Nat) (olds : List Value), P.underlying t = some (.slice e) → ((P.info? e).bind (·.zero)) = some z →
  (Builtin.firstCells k sLen (.slice base sLen sCap)).run P w.drew = .ok olds.toArray w.drew → sCap < sLen + n → sLen + n ≤ 68719476736 →
  (Builtin.append_ #[t, t2] ty #[.slice base sLen sCap, x]).run P w = .ok (.slice (some ⟨w.heap.size, 0, none⟩) (sLen + n) (grownCap w (sLen + n) sCap e)) (w.drew.alloc (.cells (olds ++ ds ++ (Builtin.zeroCells z.cells (grownCap w (sLen + n) sCap e - (sLen + n))).toList).toArray e))
theorem appIn_of {t t2 : TypeId} {k n : Nat} {x : Value} {ds : List Value} {w : World} (ht : appTy P t k = true) (h2 : noInt (P.underlying t2) = true) (hl : Builtin.lenOf x = pure n) (hf : (Builtin.firstCells k n x).run P w = .ok ds.toArray w) : AppIn P t t2 ty k x n ds w := fun base sLen sCap hroom => by
  obtain ⟨e, ei, z, hte, hei, hsz, hby, hze, hzs⟩ := appTy_spec ht
  have := run_append_in (P := P) (ty := ty) (base := base) (sLen := sLen) (sCap := sCap) hte (noInt_spec h2) hei hl (by rw [hsz]; exact hf) hroom
  rwa [hsz] at this
theorem appGr_of {t t2 : TypeId} {k n : Nat} {x : Value} {ds : List Value} {w : World} (ht : appTy P t k = true) (h2 : noInt (P.underlying t2) = true) (hl : Builtin.lenOf x = pure n) (hf : (Builtin.firstCells k n x).run P w.drew = .ok ds.toArray w.drew) : AppGr P t t2 ty k x n ds w := fun e' z' base sLen sCap olds hte' hz' ho hroom hb => by
  obtain ⟨e, ei, z, hte, hei, hsz, hby, hze, hzs⟩ := appTy_spec ht
  rw [hte] at hte'
  cases hte'
  rw [hei] at hz'
  have hz'' : ei.zero = some z' := hz'
  exact run_append_grows (P := P) (ty := ty) (base := base) (sLen := sLen) (sCap := sCap) hte (noInt_spec h2) hei hz'' hl (by rw [hsz]; exact hf) (by rw [hsz]; exact ho) hroom (Nat.le_trans (Nat.mul_le_mul hb hby) (by decide)) (by omega)
/-- append, whatever is appended: its cells, in this world and behind a draw. -/
theorem app_core {t t2 : TypeId} {K : Kd α} {v x : Value} {xs ys : List α} {p : Nat} {F : Fr} {w : World} (hm : Mem F L w) (hp : L[p]? = some (Val (Kd.osl K) v xs)) (ht : appTy P t K.n = true) (hb : xs.length + ys.length ≤ 68719476736)
    (hx : ∀ m φ, Own L m φ → Has m φ F.own w → ∃ ds, Enc K m ys ds ∧ (∀ c ∈ ds, c.oneCell' = true) ∧ AppIn P t t2 ty K.n x ys.length ds w ∧ AppGr P t t2 ty K.n x ys.length ds w) :
    ∃ v' w', (Builtin.append_ #[t, t2] ty #[v, x]).run P w = .ok v' w' ∧ Mem F (L.set p (Val (Kd.osl K) v' (xs ++ ys))) w' := by
  obtain ⟨e, ei, z, hte, hei, hsz, hby, hze, hzs⟩ := appTy_spec ht
  obtain ⟨m, φ, ho, hh, hpp, hkk⟩ := hm
  obtain ⟨ds, hE, h1, hf, hfd⟩ := hx m φ ho hh
  obtain ⟨f1, f2, l1, l2, d12, he, _, hset⟩ := ho.split hp
  obtain ⟨ad, cap, rfl, hlc, hmx, hr⟩ := Val_osl he
  have hdl := hE.len
  by_cases hroom : xs.length + ys.length ≤ cap
  · have hrun := hf ad xs.length cap hroom
    rcases hr with ⟨rfl, rfl, rfl⟩ | ⟨b, o, all, rfl, hal, hc, hEn⟩
    · have hy : ys = [] := List.eq_nil_of_length_eq_zero (by simp at hroom; simp [hroom])
      subst hy
      have hd0 : ds = [] := List.eq_nil_of_length_eq_zero (by simpa using hdl)
      refine ⟨_, w, by simpa using hrun, m, φ, ?_, hh, hpp, hkk⟩
      exact hset m f1 φ _ .rfl l1 l2 d12 ⟨[_], ⟨none, 0, rfl, by simp, by simp [maxLen], .inl ⟨rfl, rfl, rfl⟩⟩, rfl⟩
    · have hle : (xs.length + ys.length) * K.n ≤ cap * K.n := Nat.mul_le_mul_right _ hroom
      rw [Nat.add_mul] at hle
      have hfit : xs.length * K.n + ds.length ≤ all.length := by omega
      have own : ∀ j, j < ds.length → ∃ c, f1 b (o + xs.length * K.n + j) = some (.cell c false) := fun j hj => by
        have : xs.length * K.n + j < all.length := by omega
        refine ⟨all[xs.length * K.n + j], ?_⟩
        rw [Nat.add_assoc]
        exact hc _ _ (List.getElem?_eq_getElem this)
      obtain ⟨w', hst, hw, hok⟩ := run_storeCells' (P := P) (b := b) (o := o + xs.length * K.n) ds 0 w (fun j hj => by
        obtain ⟨c, hc⟩ := own j hj
        exact ⟨c, (l1.trans hh.l1) _ _ _ hc⟩) h1
      rw [Nat.add_zero] at hw
      have hf2 : ∀ j, j < ds.length → f2 b (o + xs.length * K.n + j) = none := fun j hj => by
        obtain ⟨c, hc⟩ := own j hj
        rcases d12 b (o + xs.length * K.n + j) with e | e
        · rw [hc] at e; cases e
        · exact e
      refine ⟨.slice (some ⟨b, o, none⟩) (xs.length + ys.length) cap, w', ?_, m, SL.fset φ b (o + xs.length * K.n) ds, ?_, hh.fset (fun j hj => by obtain ⟨c, hc⟩ := own j hj; exact ⟨c, l1 _ _ _ hc⟩) hw, hpp, hkk.trans hok⟩
      · rw [hrun]; simp [hsz, addr_add, hst]
      · refine hset m (SL.fset f1 b (o + xs.length * K.n) ds) _ _ .rfl (fset_mono l1) (le_fset l2 hf2) (dj_fset d12.symm hf2).symm ⟨[_], ⟨_, cap, by rw [List.length_append], by rw [List.length_append]; exact hroom, hmx, .inr ⟨b, o, Go.splice all (xs.length * K.n) ds, rfl, ?_, fset_splice hc hfit, ?_⟩⟩, rfl⟩
        · rw [length_splice _ _ _ hfit]; exact hal
        · have e1 : (Go.splice all (xs.length * K.n) ds).take ((xs ++ ys).length * K.n) = all.take (xs.length * K.n) ++ ds := by
            unfold Go.splice
            rw [← List.append_assoc, List.take_append_of_le_length (by simp [List.length_append, Nat.add_mul]; omega), List.take_of_length_le (by simp [List.length_append, Nat.add_mul]; omega)]
          rw [e1]
          exact hEn.append hE
  · have hrow := hr.row
    obtain ⟨olds, hEo, hco⟩ := hrow
    have hol := hEo.len
    have hofirst : (Builtin.firstCells K.n xs.length (.slice ad xs.length cap)).run P w.drew = .ok olds.toArray w.drew := by
      cases ad with
      | none =>
        have : olds = [] := by
          cases olds with
          | nil => rfl
          | cons c cs => obtain ⟨b, o, fz, e, _⟩ := hco 0 c rfl; cases e
        subst this
        simp [Builtin.firstCells]
      | some ad =>
        have := run_loadCells_list (P := P) w.drew ad olds (fun j c hj => by
          obtain ⟨b, o, fz, e, hb⟩ := hco j c hj
          cases e
          exact hp_cell_add (w := w.drew) ((l1.trans hh.l1) _ _ _ hb))
        rw [hol] at this
        simpa [Builtin.firstCells] using this
    have hrun := hfd e z ad xs.length cap olds hte (by rw [hei]; exact hze) hofirst (by omega) hb
    generalize hcap : grownCap w (xs.length + ys.length) cap e = cp at hrun
    have hge : xs.length + ys.length ≤ cp := hcap ▸ grownCap_ge w _ _ _
    have hcm : cp ≤ maxLen := hcap ▸ grownCap_le_maxLen w _ _ _ (by simp only [maxLen]; omega)
    generalize hrest : (Builtin.zeroCells z.cells (cp - (xs.length + ys.length))).toList = rest at hrun
    have hrl : rest.length = (cp - (xs.length + ys.length)) * K.n := by rw [← hrest]; simp [size_zeroCells, hzs]
    have htot : (olds ++ ds ++ rest).length = cp * K.n := by
      rw [List.length_append, List.length_append, hol, hdl, hrl, ← Nat.add_mul, ← Nat.add_mul]; congr 1; omega
    have hh2 := hh.drew.alloc (cs := olds ++ ds ++ rest) (t := e)
    have hn : ∀ {f : Frag}, f.le (SL.hp w) → ∀ j, f w.heap.size (0 + j) = none := fun {f} hl j => by
      cases e : f w.heap.size (0 + j) with
      | none => rfl
      | some c => have := hl _ _ _ e; rw [hp_none (Nat.le_refl _)] at this; cases this
    refine ⟨_, _, hrun, m, SL.fset φ w.heap.size 0 (olds ++ ds ++ rest), ?_, hh2, hpp, hkk.trans (Ok.trans (b := w.drew) ⟨rfl, rfl, rfl, Nat.le_refl _, fun _ _ => rfl, Nat.le_succ _ ⟩ (Ok.alloc w.drew _))⟩
    refine hset m (SL.fset Frag.emp w.heap.size 0 (olds ++ ds ++ rest)) _ _ .rfl (fset_mono Frag.emp_le) (le_fset l2 fun j _ => hn (l2.trans hh.l1) j) (dj_fset Frag.dj_emp fun j _ => hn (l2.trans hh.l1) j).symm ⟨[_], ⟨_, cp, by rw [List.length_append], by rw [List.length_append]; exact hge, hcm, .inr ⟨w.heap.size, 0, olds ++ ds ++ rest, rfl, htot, fun j c hj => fset_at hj, ?_⟩⟩, rfl⟩
    have e1 : (olds ++ ds ++ rest).take ((xs ++ ys).length * K.n) = olds ++ ds := by
      rw [List.take_append_of_le_length (by simp [List.length_append, Nat.add_mul]; omega), List.take_of_length_le (by simp [List.length_append, Nat.add_mul]; omega)]
    rw [e1]
    exact hEo.append hE
theorem o_app {s x : Operand} {t t2 : TypeId} {K : Kd α} {v u : Value} {xs ys zs : List α} (p : Nat) (hs : opv E s = some v) (hx : opv E x = some u) (hp : L[p]? = some (Val (Kd.osl K) v xs)) (hr : RD K u ys L) (h : app xs ys = some zs) (ht : appTy P t K.n = true) (h2 : noInt (P.underlying t2) = true) :
    OpS P E L ⟨d, .call { callee := .builtin .append, args := #[s, x], argTypes := #[t, t2] }, ty, pos, aft, g⟩ (fun v' => v') (fun v' => L.set p (Val (Kd.osl K) v' zs)) :=
  .run fun n F a w hS hm => by
    obtain ⟨hb, rfl⟩ := app_spec h
    obtain ⟨m0, a0, cap0, _, rfl, hl0, _⟩ := hr.hp hm
    obtain ⟨v', w', hrun, hm'⟩ := app_core (P := P) (ty := ty) (t2 := t2) (x := .slice a0 ys.length cap0) hm hp ht hb (fun m φ o hh => by
      obtain ⟨a1, cap1, cs, e, hl, hE, hc⟩ := hr.cells o hh
      cases e
      have hcl := hE.len
      refine ⟨cs, hE, hE.oneCell, appIn_of ht h2 rfl ?_, appGr_of ht h2 rfl ?_⟩ <;> (cases a0 with
        | none =>
          have : cs = [] := by
            cases cs with
            | nil => rfl
            | cons c cs => obtain ⟨ad, e, _⟩ := hc 0 c rfl; cases e
          subst this
          simp [Builtin.firstCells]
        | some ad =>
          have := run_loadCells_list (P := P) w ad cs (fun j c hj => by obtain ⟨ad', e, h⟩ := hc j c hj; cases e; exact h)
          have thisd := run_loadCells_list (P := P) w.drew ad cs (fun j c hj => by obtain ⟨ad', e, h⟩ := hc j c hj; cases e; exact h)
          rw [hcl] at this thisd
          simp [Builtin.firstCells, this, thisd]))
    exact ⟨v', w', by simp [execOp, hS.eval hs, hS.eval hx, resolve, invoke, builtin, hrun], hm'⟩
/-- append of a string's bytes. -/
theorem o_apps {s x : Operand} {t t2 : TypeId} {v : Value} {xs ys zs : List Int} (p : Nat) (hs : opv E s = some v) (hx : opv E x = some (.string (mkS ys))) (hB : Bs ys) (hp : L[p]? = some (Val (Kd.osl (Kd.int .u8)) v xs)) (h : app xs ys = some zs) (ht : appTy P t 1 = true) (h2 : noInt (P.underlying t2) = true) :
    OpS P E L ⟨d, .call { callee := .builtin .append, args := #[s, x], argTypes := #[t, t2] }, ty, pos, aft, g⟩ (fun v' => v') (fun v' => L.set p (Val (Kd.osl (Kd.int .u8)) v' zs)) :=
  .run fun n F a w hS hm => by
    obtain ⟨hb, rfl⟩ := app_spec h
    have hcells : ∀ w' : World, (Builtin.firstCells 1 ys.length (.string (mkS ys))).run P w' = .ok (ys.map (Value.int .u8)).toArray w' := fun w' => by
      have e : (mkS ys).extract 0 ys.length = mkS ys := by
        have := mkS_size (x := ys)
        rw [← this]; simp
      have e2 : (mkS ys).data.map (fun b => Value.int .u8 (b.toNat : Int)) = (ys.map (Value.int .u8)).toArray := by
        apply Array.ext'
        simp only [mkS, Array.toList_map, List.map_map, List.toList_toArray]
        refine List.map_congr_left fun b hb => ?_
        have := toNat_inR (hB b hb)
        simp
        omega
      simp [Builtin.firstCells, e, e2]
    obtain ⟨v', w', hrun, hm'⟩ := app_core (P := P) (ty := ty) (t2 := t2) (x := .string (mkS ys)) (ys := ys) hm hp ht hb (fun m φ o hh =>
      ⟨ys.map (Value.int .u8), ⟨by simp [Kd.int], fun i x hx => by
        have hlt := (List.getElem?_eq_some_iff.1 hx).1
        refine ⟨?_, hB x (List.mem_of_getElem? hx)⟩
        apply List.ext_getElem?
        intro j
        cases j with
        | zero => simp [Kd.int, hx]
        | succ j => simp [Kd.int]; omega⟩, fun c hc => by obtain ⟨b, _, rfl⟩ := List.mem_map.1 hc; rfl, appIn_of ht h2 (by simp [Builtin.lenOf, mkS_size]) (hcells w), appGr_of ht h2 (by simp [Builtin.lenOf, mkS_size]) (hcells w.drew)⟩)
    exact ⟨v', w', by simp [execOp, hS.eval hs, hS.eval hx, resolve, invoke, builtin, hrun], hm'⟩
end
end Go.SL
