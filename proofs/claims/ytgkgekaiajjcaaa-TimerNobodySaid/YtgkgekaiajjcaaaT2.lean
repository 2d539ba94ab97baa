/- Contracts, printed by a program of this session. -/
import Derived.Test.YtgkgekaiajjcaaaT1
import Derived.Test.YtgkgekaiajjcaaaSlWd
import Derived.Shelf.SlSortCmp.Whole1
namespace Go.Proofs.Ytgkgekaiajjcaaa.S
open Go Go.SL Go.RowKit
set_option linter.unusedVariables false
set_option linter.unusedSimpArgs false
/-! A wheel of alarms -/
set_option maxRecDepth 100000
set_option maxHeartbeats 1000000
abbrev LI := List (Nat × TAlarm)
/-- The things that the pointers lead to, each with its place. -/
def its (l : LI) : List Ent := l.mapIdx fun i p => Fld Kitem p.1 0 ⟨p.2, (i : Int)⟩
def ltA (x y : TAlarm) : Bool := decide (x.At < y.At) || (decide (x.At = y.At) && decide (x.Id < y.Id))
theorem its_get {l : LI} {i : Nat} {x : Nat × TAlarm} (h : l[i]? = some x) : (its l)[i]? = some (Fld Kitem x.1 0 ⟨x.2, (i : Int)⟩) := by
  simp [its, List.getElem?_mapIdx, h]
theorem idx_nat {α : Type} {l : List α} {i : Int} {x : α} (h : idx l i = some x) : l[i.toNat]? = some x ∧ 0 ≤ i ∧ i < l.length := ⟨(idx_spec h).2.2, (idx_spec h).1, (idx_spec h).2.1⟩
theorem idx_map {l : LI} {i : Int} {x : Nat × TAlarm} (h : idx l i = some x) : idx (l.map (·.1)) i = some x.1 := by
  obtain ⟨h1, h2, h3⟩ := idx_nat h
  unfold idx
  rw [if_pos h2, List.getElem?_map, h1]; rfl
theorem its_idx {l : LI} {i : Int} {x : Nat × TAlarm} (h : idx l i = some x) : (its l)[i.toNat]? = some (Fld Kitem x.1 0 ⟨x.2, i⟩) := by
  obtain ⟨h1, h2, h3⟩ := idx_nat h
  have := its_get h1
  rwa [show ((i.toNat : Nat) : Int) = i by omega] at this
theorem cmp_is (x y : Int) : cmp_Compare_int.f x y = some (if x < y then -1 else if y < x then 1 else 0) := by
  simp only [cmp_Compare_int.f, cmp_isNaN_int.f, lt, decide_true, Bool.not_true, Option.bind_some, Bool.false_eq_true, if_false, decide_eq_true_eq]
  split
  · rfl
  · split <;> rfl
theorem or_is (x y : Int) : cmp_Or_int.f [x, y] = some (if x = 0 then y else x) := by
  unfold cmp_Or_int.f
  by_cases hx : x = 0
  · subst hx
    by_cases hy : y = 0
    · subst hy
      rw [loop_in (s' := 1) (by simp [idx]; rfl), loop_in (s' := 2) (by simp [idx]; rfl), loop_out (r := .inl ()) (by simp)]
      rfl
    · rw [loop_in (s' := 1) (by simp [idx]; rfl), loop_out (r := .inr y) (by simp [idx, hy])]
      simp
  · rw [loop_out (r := .inr x) (by simp [idx, hx])]
    simp [hx]
theorem less_is (a b : Titem) : timer_item_less.f a b = some (ltA a.Alarm b.Alarm) := by
  unfold timer_item_less.f
  rw [cmp_is, cmp_is]
  simp only [Option.bind_some, or_is, lt, ltA, Option.some.injEq]
  rcases Int.lt_trichotomy a.Alarm.At b.Alarm.At with h | h | h
  · simp [h]
  · simp only [h, Int.lt_irrefl, if_false, if_true]
    rcases Int.lt_trichotomy a.Alarm.Id b.Alarm.Id with h2 | h2 | h2
    · simp [h2]
    · simp [h2]
    · have : ¬ a.Alarm.Id < b.Alarm.Id := by omega
      simp [this, h2]
  · have h1 : ¬ a.Alarm.At < b.Alarm.At := by omega
    have h2 : a.Alarm.At ≠ b.Alarm.At := by omega
    simp [h1, h2, h]
theorem lent_big {L : List Ent} {b o : Nat} {x : Titem} {es : List Ent} (q i : Nat) (hq : L[q]? = some (Big es)) (hi : es[i]? = some (Fld Kitem b o x)) : Lent L (Pfl Kitem b o x) := fun m φ d ho => by
  obtain ⟨f, hf, h⟩ := ho.get hq
  obtain ⟨g, hg, h2⟩ := (show Own es m f from h).get hi
  have dg : g.dj m := d.mono (hg.trans hf) .rfl
  refine (Pfl Kitem b o x).mono (Frag.un_le Frag.le_un_left ((hg.trans hf).trans (Frag.le_un_right d.symm))) .rfl (lent_fld (L := [Fld Kitem b o x]) (ro_per Pitem) 0 rfl m g dg ⟨g, Frag.emp, .rfl, Frag.emp_le, Frag.dj_emp, h2, trivial⟩)
theorem tw_y51 : tyI Try.prog 51 = some (false, 1) := by kernel_rfl
theorem items_Len.spc (v : Value) (xs : List Nat) : Spc Try.prog 70 [v] [] [Val (Kd.osl Kd.adr) v xs] (fun (_ : Unit) => .int .i64 (xs.length : Int)) (fun _ => [Val (Kd.osl Kd.adr) v xs]) := by
  refine Spc.go Try.func70 rfl (by kernel_rfl) rfl rfl all_nil fun F a w h => ?_
  refine T.go h <| T.qr rfl <| T.a (o_assign rfl) <| T.d <| T.qr rfl <| T.mv rfl <| T.a (o_ln rfl (rd_own 0 rfl) t_v45) <| T.a (o_assign rfl) <| T.d <| T.at fun h => ?_
  exact g_ret (vs := [.int .i64 (xs.length : Int)]) h Try.func70 ⟨rfl, trivial⟩ ⟨(), rfl, h.mem⟩
theorem items_Less.spc (v : Value) (l : LI) (i j : Int) (x y : Nat × TAlarm) (hx : idx l i = some x) (hy : idx l j = some y) : Spc Try.prog 71 [v, .int .i64 i, .int .i64 j] [] [Val (Kd.osl Kd.adr) v (l.map (·.1)), Big (its l)] (fun (_ : Unit) => .bool (ltA x.2 y.2)) (fun _ => [Val (Kd.osl Kd.adr) v (l.map (·.1)), Big (its l)]) := by
  refine Spc.go Try.func71 rfl (by kernel_rfl) rfl rfl all_nil fun F a w h => ?_
  refine T.go h <| T.qr rfl <| T.a (o_assign rfl) <| T.d <| T.qr rfl <| T.mv rfl <| T.mv rfl <| T.a (o_ix rfl rfl (rd_own 0 rfl) (idx_map hx) t_v45) <|
    T.a (o_lex rfl (rd_own 0 rfl) (idx_map hx) X_adr tw_y51 (by decide)) <| T.a (o_makeFuncB (us := [pt x.1]) (vs := []) rfl rfl) <| T.a (o_assign rfl) <| T.d <|
    T.qr rfl <| T.mv rfl <| T.mv rfl <| T.mv rfl <| T.a (o_ix rfl rfl (rd_own 0 rfl) (idx_map hy) t_v45) <| T.a (o_lex rfl (rd_own 0 rfl) (idx_map hy) X_adr tw_y51 (by decide)) <|
    T.a (OpS.lend (Lp := [Pfl Kitem x.1 0 ⟨x.2, i⟩, Pfl Kitem y.1 0 ⟨y.2, j⟩]) (lent_cons (lent_big 1 i.toNat rfl (its_idx hx)) (lent_cons (lent_big 1 j.toNat rfl (its_idx hy)) lent_nil)) (o_callw (us := [pt x.1]) (vs := [pt y.1]) (caps := []) rfl rfl (timer_item_less.spc x.1 ⟨x.2, i⟩ y.1 ⟨y.2, j⟩ _ (less_is _ _)) [0, 1] [] (by decide) rfl rfl) (fun _ => clo_nil)) <|
    T.a (o_assign rfl) <| T.d <| T.at fun h => ?_
  exact g_ret (vs := [.bool (ltA x.2 y.2)]) h Try.func71 ⟨rfl, trivial⟩ ⟨(), rfl, h.mem⟩
theorem tw_w51 : (Try.prog.info? 51).map (·.size) = some 1 := by kernel_rfl
theorem tw_w3 : (Try.prog.info? 3).map (·.size) = some 1 := by kernel_rfl
theorem tw_f54_1 : fldI Try.prog 54 1 = some (2, false, 1) := by kernel_rfl
theorem u_place : Upd Kitem 2 (Kd.int .i64) (fun x y => ⟨x.Alarm, y⟩) := upd_iso (fun x : Titem => (x.Alarm, x.place)) (fun a => (⟨a.1, a.2⟩ : Titem)) (fun _ => rfl) (upd_snd (upd_last upd_self))
theorem idx_of {α : Type} {l : List α} {i : Int} {x : α} (h0 : 0 ≤ i) (h : l[i.toNat]? = some x) : idx l i = some x := by unfold idx; rw [if_pos h0, h]
theorem toNat_ne {i j : Int} (hi : 0 ≤ i) (hj : 0 ≤ j) (h : i ≠ j) : i.toNat ≠ j.toNat := by omega
theorem map_swp {l : LI} {i j : Nat} {x y : Nat × TAlarm} (hx : l[i]? = some x) (hy : l[j]? = some y) : ((l.map (·.1)).set i y.1).set j x.1 = (swp l i j).map (·.1) := by
  rw [swp_eq hx hy, List.map_set, List.map_set]
theorem its_swp {l : LI} {i j : Nat} {x y : Nat × TAlarm} (hx : l[i]? = some x) (hy : l[j]? = some y) (hne : i ≠ j) : (((its l).set j (Fld Kitem y.1 0 ⟨y.2, (i : Int)⟩)).set i (Fld Kitem x.1 0 ⟨x.2, (j : Int)⟩)).Perm (its (swp l i j)) := by
  have hi := (List.getElem?_eq_some_iff.1 hx).1
  have hj := (List.getElem?_eq_some_iff.1 hy).1
  have li : (its l).length = l.length := by simp [its]
  have e : its (swp l i j) = swp (((its l).set j (Fld Kitem y.1 0 ⟨y.2, (i : Int)⟩)).set i (Fld Kitem x.1 0 ⟨x.2, (j : Int)⟩)) i j := by
    apply List.ext_getElem?
    intro k
    rw [swp_get (i := i) (j := j) (x := Fld Kitem x.1 0 ⟨x.2, (j : Int)⟩) (y := Fld Kitem y.1 0 ⟨y.2, (i : Int)⟩) (by rw [List.getElem?_set_self (by simp [li, hi])]) (by rw [List.getElem?_set_ne hne, List.getElem?_set_self (by simp [li, hj])])]
    unfold its
    rw [List.getElem?_mapIdx, swp_get hx hy]
    by_cases h1 : k = j
    · subst h1; simp
    · rw [if_neg h1, if_neg h1]
      by_cases h2 : k = i
      · subst h2; simp
      · rw [if_neg h2, if_neg h2, List.getElem?_set_ne (Ne.symm h2), List.getElem?_set_ne (Ne.symm h1), List.getElem?_mapIdx]
  rw [e]
  exact (swp_perm _ _ _).symm
set_option maxRecDepth 100000 in
theorem items_Swap.spc (v : Value) (l : LI) (i j : Int) (ri : InR .i64 i) (rj : InR .i64 j) (x y : Nat × TAlarm) (hx : idx l i = some x) (hy : idx l j = some y) (hne : i ≠ j) : Spc Try.prog 72 [v, .int .i64 i, .int .i64 j] [] [Val (Kd.osl Kd.adr) v (l.map (·.1)), Big (its l)] (fun (_ : Unit) => .tuple #[]) (fun _ => [Val (Kd.osl Kd.adr) v ((swp l i.toNat j.toNat).map (·.1)), Big (its (swp l i.toNat j.toNat))]) := by
  obtain ⟨x1, x2, x3⟩ := idx_nat hx
  obtain ⟨y1, y2, y3⟩ := idx_nat hy
  have hn := toNat_ne x2 y2 hne
  have li : (its l).length = l.length := by simp [its]
  have hy' : idx ((l.map (·.1)).set i.toNat y.1) j = some y.1 := idx_of y2 (by rw [List.getElem?_set_ne hn, List.getElem?_map, y1]; rfl)
  have e1 : idx ((swp l i.toNat j.toNat).map (·.1)) i = some y.1 := idx_of x2 (by rw [List.getElem?_map, swp_get x1 y1, if_neg hn, if_pos rfl]; rfl)
  have e2 : idx ((swp l i.toNat j.toNat).map (·.1)) j = some x.1 := idx_of y2 (by rw [List.getElem?_map, swp_get x1 y1, if_pos rfl]; rfl)
  refine Spc.go Try.func72 rfl (by kernel_rfl) rfl rfl all_nil fun F a w h => ?_
  refine T.go h <| T.qc (by kernel_rfl) t_mxo <| T.mv rfl <| T.mv rfl <| T.mv rfl <| T.mv rfl <| T.mv rfl <| T.mv rfl <|
    T.a (o_ix rfl rfl (rd_own 0 rfl) (idx_map hy) t_v45) <| T.a (o_lex rfl (rd_own 0 rfl) (idx_map hy) X_adr tw_y51 (by decide)) <| T.mv rfl <| T.mv rfl <|
    T.a (o_ix rfl rfl (rd_own 0 rfl) (idx_map hx) t_v45) <| T.a (o_lex rfl (rd_own 0 rfl) (idx_map hx) X_adr tw_y51 (by decide)) <|
    T.a (o_ix rfl rfl (rd_own 0 rfl) (idx_map hx) t_v45) <| T.z (o_ste 0 rfl rfl rfl pv_adr (idx_map hx) tw_w51 (by decide)) <|
    T.a (o_ix rfl rfl (rd_own 0 rfl) hy' t_v45) <| T.z (o_ste 0 rfl rfl rfl pv_adr hy' tw_w51 (by decide)) <| T.d <|
    T.mm (L' := [Val (Kd.osl Kd.adr) v ((swp l i.toNat j.toNat).map (·.1)), Big (its l)]) (fun m => m.eqL (by rw [← map_swp x1 y1]; rfl)) <|
    T.c (by kernel_rfl) t_mxo <| T.mv rfl <| T.mv rfl <| T.a (o_ix rfl rfl (rd_own 0 rfl) e1 t_v45) <| T.a (o_lex rfl (rd_own 0 rfl) e1 X_adr tw_y51 (by decide)) <| T.mv rfl <| T.mv rfl <|
    T.a (o_ix rfl rfl (rd_own 0 rfl) e2 t_v45) <| T.a (o_lex rfl (rd_own 0 rfl) e2 X_adr tw_y51 (by decide)) <| T.mv rfl <| T.mv rfl <| T.a (o_nilc rfl) <| T.a (fa rfl tw_f54_1) <|
    T.mm (fun m => m.btake 1 j.toNat rfl (its_idx hy)) <| T.z (o_stp (x0 := ⟨y.2, j⟩) (y := i) 0 u_place rfl rfl rfl rfl (pv_int ri) tw_w3) <|
    T.mm (L' := [Val (Kd.osl Kd.adr) v ((swp l i.toNat j.toNat).map (·.1)), Big ((its l).set j.toNat (Fld Kitem y.1 0 ⟨y.2, i⟩))]) (fun m => (m.bput 1 j.toNat rfl (by rw [List.getElem?_set_self (by omega)])).eqL (by simp only [List.set_set]; rfl)) <|
    T.a (o_nilc rfl) <| T.a (fa rfl tw_f54_1) <|
    T.mm (fun m => m.btake 1 i.toNat rfl (by rw [List.getElem?_set_ne (Ne.symm hn)]; exact its_idx hx)) <| T.z (o_stp (x0 := ⟨x.2, i⟩) (y := j) 0 u_place rfl rfl rfl rfl (pv_int rj) tw_w3) <|
    T.mm (L' := [Val (Kd.osl Kd.adr) v ((swp l i.toNat j.toNat).map (·.1)), Big (((its l).set j.toNat (Fld Kitem y.1 0 ⟨y.2, i⟩)).set i.toNat (Fld Kitem x.1 0 ⟨x.2, j⟩))]) (fun m => (m.bput 1 i.toNat rfl (by rw [List.getElem?_set_self (by simp; omega)])).eqL (by simp only [List.set_set]; rfl)) <|
    T.mm (fun m => m.bmap (es' := its (swp l i.toNat j.toNat)) 1 rfl fun m φ o => Own.perm (by have := its_swp x1 y1 hn; rwa [show ((i.toNat : Nat) : Int) = i by omega, show ((j.toNat : Nat) : Int) = j by omega] at this) o) <| T.d <| T.at fun h => ?_
  exact g_fin (vs := []) h Try.func72 trivial ⟨(), rfl, h.mem⟩
theorem T.unp {α : Type} {n : Nat} {F : Fr} {E : List (Nat × Value)} {L : List Ent} {Φ : Act → World → Prop} {K : Kd α} {b o : Nat} {x : List α} (i : Nat) (hi : L[i]? = some (Fld (Kd.osl K) b o x)) (k : ∀ v, T n F E (Fld (Kd.eq v) b o () :: L.set i (Val (Kd.osl K) v x)) Φ) : T n F E L Φ := fun a w h => by
  obtain ⟨v, h2⟩ := h.unp i hi
  exact k v a w h2
theorem Mem.bpush {F : Fr} {w : World} {L : List Ent} {es : List Ent} {e : Ent} (q : Nat) (hq : L[q]? = some (Big es)) (h : Mem F (e :: L) w) : Mem F (L.set q (Big (es ++ [e]))) w := h.map fun m φ o => by
  obtain ⟨f1, f2, a, b, d, he, ho⟩ := o
  obtain ⟨g1, g2, a', b', d', hB, _, hset⟩ := ho.split hq
  have d1 : f1.dj g1 := d.mono .rfl a'
  have dq : (f1.un g1).dj g2 := Frag.un_dj (d.mono .rfl b') d'
  exact hset m (f1.un g1) φ (Big (es ++ [e])) .rfl (Frag.un_le a (a'.trans b)) (b'.trans b) dq (Own.perm List.perm_append_comm (show Own (e :: es) m (f1.un g1) from ⟨f1, g1, Frag.le_un_left, Frag.le_un_right d1, d1, he, hB⟩))
theorem its_push (l : LI) (x : Nat × TAlarm) : its (l ++ [x]) = its l ++ [Fld Kitem x.1 0 ⟨x.2, (l.length : Int)⟩] := by
  simp [its, List.mapIdx_append]
theorem tw_y45 : tyI Try.prog 45 = some (false, 1) := by kernel_rfl
theorem tw_w45 : (Try.prog.info? 45).map (·.size) = some 1 := by kernel_rfl
theorem len_in {n : Nat} (h : n ≤ 1000000) : InR .i64 (n : Int) := len_inr (by simp only [maxLen]; omega)
/-- The wheel's own row: the pointers, and what they lead to. -/
abbrev rowE (b : Nat) (l : LI) : List Ent := [Fld (Kd.osl Kd.adr) b 0 (l.map (·.1)), Big (its l)]
theorem app_one {l : LI} {a : Nat} {al : TAlarm} (hl : l.length ≤ 4096) : app (l.map (·.1)) [a] = some ((l ++ [(a, al)]).map (·.1)) := by
  unfold app
  rw [if_pos (by simp; omega)]
  simp
theorem items_Push.spc (b : Nat) (l : LI) (a : Nat) (al : TAlarm) (pl : Int) (hl : l.length ≤ 4096) : Spc Try.prog 74 [pt b, .iface 51 (pt a)] [] (rowE b l ++ [Fld Kitem a 0 ⟨al, pl⟩]) (fun (_ : Unit) => .tuple #[]) (fun _ => rowE b (l ++ [(a, al)])) := by
  refine Spc.go Try.func74 rfl (by kernel_rfl) rfl rfl all_nil fun F _ w h => ?_
  refine T.go h <| T.qr rfl <| T.mv rfl <| T.a (o_ta rfl (by kernel_rfl)) <| T.a (o_assign rfl) <| T.d <|
    T.unp 0 rfl fun v => T.u (fun m => len_own 1 rfl m) fun g =>
    T.qr rfl <| T.mv rfl <| T.mv rfl <| T.a (o_nilc rfl) <| T.a (o_ldx (K := Kd.eq v) 0 rfl rfl X_eq tw_y45) <| T.a (o_ln rfl (rd_own 1 rfl) t_v45) <| T.a (o_nilc rfl) <| T.a (fa rfl tw_f54_1) <|
    T.z (o_stp (x0 := ⟨al, pl⟩) (y := ((l.map (·.1)).length : Int)) 3 u_place rfl rfl rfl rfl (pv_int g) tw_w3) <| T.d <|
    T.r rfl <| T.mv rfl <| T.mv rfl <| T.a (o_nilc rfl) <| T.a (o_ldx (K := Kd.eq v) 0 rfl rfl X_eq tw_y45) <| T.mv rfl <|
    T.s (o_bs (K := Kd.adr) (vs := [pt _]) (xs := [_]) rfl rfl (pvs_cons pv_adr pvs_nil) t_a45 (by decide) (show 1 ≤ 16777216 by decide)) fun u =>
    T.s (o_app (K := Kd.adr) 2 rfl rfl rfl (rd_own 0 rfl) (app_one (al := al) hl) t_a45 t_n45) fun v2 =>
    T.a (o_nilc rfl) <| T.z (o_st 1 rfl rfl rfl (pv_eqo 2 rfl) rfl tw_w45) <| T.d <|
    T.mm (fun m => (m.pull (Lo := [Fld (Kd.eq v2) b 0 (), Val (Kd.osl Kd.adr) v2 _]) [1, 2] (by decide) rfl).pck) <| T.at fun h => ?_
  refine g_fin (vs := []) h Try.func74 trivial ⟨(), rfl, ?_⟩
  have h1 : Mem F [Fld Kitem a 0 ⟨al, ((l.map (·.1)).length : Int)⟩, Fld (Kd.osl Kd.adr) b 0 ((l ++ [(a, al)]).map (·.1)), Big (its l)] _ := h.mem.pick [5, 0, 4] (by decide) rfl
  have h2 := Mem.bpush 1 rfl h1
  rw [List.length_map] at h2
  rw [show rowE b (l ++ [(a, al)]) = [Fld (Kd.osl Kd.adr) b 0 ((l ++ [(a, al)]).map (·.1)), Big (its l ++ [Fld Kitem a 0 ⟨al, (l.length : Int)⟩])] by rw [← its_push l (a, al)]]
  exact h2
theorem Mem.bpop {F : Fr} {w : World} {L : List Ent} {es : List Ent} {e : Ent} (q : Nat) (hq : L[q]? = some (Big (es ++ [e]))) (h : Mem F L w) : Mem F (e :: L.set q (Big es)) w := h.map fun m φ o => by
  obtain ⟨f1, f2, a, b, d, hB, _, hset⟩ := o.split hq
  obtain ⟨g1, g2, a', b', d', h1, h2⟩ := Own.append (show Own (es ++ [e]) m f1 from hB)
  obtain ⟨k1, k2, c1, c2, d2, he, _⟩ := h2
  have dg : g1.dj f2 := d.mono a' .rfl
  exact ⟨k1, g1.un f2, (c1.trans b').trans a, Frag.un_le (a'.trans a) b, Frag.dj_un (d'.symm.mono c1 .rfl) (d.mono (c1.trans b') .rfl), he, hset m g1 (g1.un f2) _ .rfl Frag.le_un_left (Frag.le_un_right dg) dg h1⟩
section
variable {α : Type} {P : Program} {E : List (Nat × Value)} {L : List Ent} {d : Option Tmp} {ty : TypeId} {pos : String} {aft : Array Edge} {g : Option (Nat × Bool)}
theorem o_ownh {x h : Operand} {t : TypeId} {K : Kd α} {v : Value} {xs : List α} {k : IntKind} {hi : Int} (p : Nat) (hx : opv E x = some v) (hp : L[p]? = some (Val (Kd.osl K) v xs)) (hh : opv E h = some (.int k hi)) (hc : 0 ≤ hi ∧ hi ≤ xs.length) (ht : slTy P t K.n = true) :
    OpS (σ := Unit) P E L ⟨d, .slice t x none (some h) none, ty, pos, aft, g⟩ (fun _ => subV v (0 : Int).toNat hi.toNat K.n) (fun _ => L) := by
  obtain ⟨e, ei, h1, h2, h3, _⟩ := slTy_spec ht
  exact o_slo (vlo := none) (vhi := some _) (ilo := 0) (ihi := hi) p hx hp rfl (congrArg some hh) (.inl ⟨rfl, rfl⟩) (.inr ⟨k, rfl⟩) ⟨by omega, hc.1, hc.2⟩ h1 h2 h3
end
theorem wrap_len {n : Nat} (h : n ≤ 1000000) : IntKind.i64.wrap (((n : Nat) : Int) - 1 + 1 - 1) = (n : Int) - 1 := by
  simp [IntKind.wrap, IntKind.bits, IntKind.signed]; omega
theorem items_Pop.spc (b : Nat) (l : LI) (x : Nat × TAlarm) (hl : l.length ≤ 4096) : Spc Try.prog 73 [pt b] [] (rowE b (l ++ [x])) (fun (_ : Unit) => .iface 51 (pt x.1)) (fun _ => rowE b l ++ [Fld Kitem x.1 0 ⟨x.2, (l.length : Int)⟩]) := by
  refine Spc.go Try.func73 rfl (by kernel_rfl) rfl rfl all_nil fun F _ w h => ?_
  have e1 : Value.int .i64 (IntKind.i64.wrap ((((l ++ [x]).map (·.1)).length : Int) - 1)) = .int .i64 (l.length : Int) := by
    congr 1
    simp [IntKind.wrap, IntKind.bits, IntKind.signed]; omega
  have e2 : idx ((l ++ [x]).map (·.1)) (l.length : Int) = some x.1 := idx_of (by omega) (by simp)
  have e3 : cut ((l ++ [x]).map (·.1)) 0 (l.length : Int) = some (l.map (·.1)) := by
    unfold cut
    rw [if_pos ⟨by omega, by omega, by simp; omega⟩]
    simp
  refine T.go h <| T.qr rfl <| T.a (o_assign rfl) <| T.d <| T.unp 0 rfl fun v =>
    T.qr rfl <| T.mv rfl <| T.a (o_nilc rfl) <| T.a (o_ldx (K := Kd.eq v) 0 rfl rfl X_eq tw_y45) <| T.a (o_ln rfl (rd_own 1 rfl) t_v45) <| T.a (o_bin rfl rfl rfl) <| T.a (o_assign' rfl e1) <| T.d <|
    T.qr rfl <| T.mv rfl <| T.a (o_nilc rfl) <| T.a (o_ldx (K := Kd.eq v) 0 rfl rfl X_eq tw_y45) <| T.mv rfl <| T.a (o_ix rfl rfl (rd_own 1 rfl) e2 t_v45) <| T.a (o_lex rfl (rd_own 1 rfl) e2 X_adr tw_y51 (by decide)) <| T.a (o_assign rfl) <| T.d <|
    T.qr rfl <| T.mv rfl <| T.mv rfl <| T.a (o_nilc rfl) <| T.a (o_ldx (K := Kd.eq v) 0 rfl rfl X_eq tw_y45) <| T.mv rfl <| T.a (o_ownh 1 rfl rfl rfl ⟨by omega, by simp; omega⟩ t_v45) <| T.a (o_nilc rfl) <|
    T.mm (fun m => m.shr 1 rfl e3) <| T.z (o_st 0 rfl rfl rfl (pv_eqo 1 rfl) rfl tw_w45) <| T.d <|
    T.qr rfl <| T.mv rfl <| T.a (o_ifc rfl (by kernel_rfl)) <| T.a (o_assign rfl) <| T.d <|
    T.mm (fun m => (m.pull (Lo := [Fld (Kd.eq (subV v (0 : Int).toNat (l.length : Int).toNat 1)) b 0 (), Val (Kd.osl Kd.adr) (subV v (0 : Int).toNat (l.length : Int).toNat 1) (l.map (·.1))]) [0, 1] (by decide) rfl).pck) <| T.at fun {_ w} h => ?_
  have h1 : Mem F [Fld (Kd.osl Kd.adr) b 0 (l.map (·.1)), Big (its l ++ [Fld Kitem x.1 0 ⟨x.2, (l.length : Int)⟩])] w := by rw [← its_push l x]; exact h.mem.pick [0, 3] (by decide) rfl
  exact g_ret (vs := [.iface 51 (pt x.1)]) h Try.func73 ⟨rfl, trivial⟩ ⟨(), rfl, (Mem.bpop 1 rfl h1).pick [1, 2, 0] (by decide) rfl⟩
set_option maxRecDepth 100000
set_option maxHeartbeats 1000000
theorem o_move' {P : Program} {E : List (Nat × Value)} {L : List Ent} {d : Option Tmp} {ty : TypeId} {pos : String} {aft : Array Edge} {g : Option (Nat × Bool)} {x : Operand} {v v' : Value} (hx : opv E x = some v) (he : v = v') : OpS (σ := Unit) P E L ⟨d, .move x, ty, pos, aft, g⟩ (fun _ => v') (fun _ => L) := he ▸ o_move hx
abbrev ltI (x y : Nat × TAlarm) : Bool := ltA x.2 y.2
theorem m_Len : mRow Try.prog 56 "Len" = some (70, false, 45) := by kernel_rfl
theorem m_Less : mRow Try.prog 56 "Less" = some (71, false, 45) := by kernel_rfl
theorem m_Swap : mRow Try.prog 56 "Swap" = some (72, false, 45) := by kernel_rfl
theorem m_Pop : mRow Try.prog 56 "Pop" = some (73, true, 45) := by kernel_rfl
theorem m_Push : mRow Try.prog 56 "Push" = some (74, true, 45) := by kernel_rfl
theorem idx_nat' {α : Type} {l : List α} {i : Nat} {x : α} (h : l[i]? = some x) : idx l (i : Int) = some x := idx_of (by omega) (by simpa using h)
/-- The parent's place, as the text reckons it. -/
theorem par_is {m : Nat} (h : m ≤ 1000000) : IntKind.i64.wrap ((IntKind.i64.wrap ((m : Int) - 1)).tdiv 2) = (((m - 1) / 2 : Nat) : Int) := by
  have e : IntKind.i64.wrap ((m : Int) - 1) = (m : Int) - 1 := by simp [IntKind.wrap, IntKind.bits, IntKind.signed]; omega
  rw [e]
  cases m with
  | zero => decide
  | succ m =>
    rw [show (((m + 1 : Nat) : Int) - 1) = (m : Int) by omega, show m + 1 - 1 = m by omega]
    have : (m : Int).tdiv 2 = ((m / 2 : Nat) : Int) := by rw [Int.tdiv_eq_ediv_of_nonneg (by omega)]; omega
    rw [this]
    simp [IntKind.wrap, IntKind.bits, IntKind.signed]; omega
/-- The row between two calls: the pointers' cell, the pointers, the things. -/
abbrev opnE (b : Nat) (v : Value) (l : LI) : List Ent := [Fld (Kd.eq v) b 0 (), Val (Kd.osl Kd.adr) v (l.map (·.1)), Big (its l)]
theorem T.pck {n : Nat} {F : Fr} {E : List (Nat × Value)} {L : List Ent} {Φ : Act → World → Prop} {b : Nat} {v : Value} {l : LI} (is : List Nat) (k : T n F E (rowE b l) Φ) (nd : is.Nodup := by decide) (hl : is.map (fun i => L[i]?) = (opnE b v l).map some := by rfl) : T n F E L Φ := fun a w h => k a w ⟨h.sl, (h.mem.pick is nd hl).pck⟩
theorem heap_up.spc (b : Nat) (l0 : LI) (j0 : Nat) (hj0 : j0 < l0.length) (hl0 : l0.length ≤ 4097) : Spc Try.prog 32 [.iface 56 (pt b), .int .i64 j0] [] (rowE b l0) (fun (_ : Unit) => .tuple #[]) (fun _ => rowE b (upF ltI l0 j0)) := by
  refine Spc.go Try.func32 rfl (by kernel_rfl) rfl rfl all_nil fun F a w h => ?_
  refine T.go h <| T.bl <| T.at fun h => Go.loop ?_
  refine g_cut (fun G => ∀ (m : Nat) (l : LI) (a : Act) (w : World), m < l.length → l.length ≤ 4097 → upF ltI l m = upF ltI l0 j0 → St Try.f32.ntmps F [(0, .iface 56 (pt b)), (1, .int .i64 m)] (rowE b l) a w → G a w) 0 ?_ fun J => J j0 l0 _ _ hj0 hl0 rfl h
  intro m
  induction m using Nat.strongRecOn with
  | ind m ih =>
    intro l a w hm hl hu h
    refine T.go h <| T.bl <| T.qr rfl <| T.mv rfl <| T.a (o_bin rfl rfl rfl) <| T.a (o_quo rfl rfl (show (2 : Int) ≠ 0 by decide)) <| T.a (o_assign' rfl (congrArg (Value.int .i64) (par_is (m := m) (by omega)))) <| T.d <|
      T.q <| T.qr rfl <| T.mv rfl <| T.mv rfl <| T.a (o_bin rfl rfl rfl) <| T.at fun h => ?_
    by_cases h0 : m = 0
    · refine T.go h <| T.a (o_move' rfl (congrArg Value.bool (show decide ((((m - 1) / 2 : Nat) : Int) = (m : Int)) = true by subst h0; rfl))) <|
        T.gk rfl rfl rfl <| T.gk rfl rfl rfl <| T.gk rfl rfl rfl <| T.gk rfl rfl rfl <| T.gk rfl rfl rfl <| T.a (o_pickT rfl rfl rfl) <| T.d <| T.tt rfl rfl <| T.ex rfl <| T.at fun h => ?_
      refine g_fin (vs := []) h Try.func32 trivial ⟨(), rfl, ?_⟩
      rw [← hu, upF, dif_pos h0]; exact h.mem
    · have hp : (m - 1) / 2 < l.length := by omega
      have hx : l[m]? = some l[m] := List.getElem?_eq_getElem hm
      have hy : l[(m - 1) / 2]? = some l[(m - 1) / 2] := List.getElem?_eq_getElem hp
      generalize hxe : l[m] = x at hx
      generalize hye : l[(m - 1) / 2] = y at hy
      refine T.go h <| T.a (o_move' rfl (congrArg Value.bool (show decide ((((m - 1) / 2 : Nat) : Int) = (m : Int)) = false from decide_eq_false (by omega)))) <|
        T.unp 0 rfl fun v => T.ga rfl rfl rfl (o_move rfl) <| T.ga rfl rfl rfl (o_move rfl) <| T.ga rfl rfl rfl (o_move rfl) <|
        T.ga rfl rfl rfl (o_invv (vs := [.int .i64 m, .int .i64 (((m - 1) / 2 : Nat) : Int)]) 0 rfl rfl m_Less tw_y45 rfl (items_Less.spc v l m ((m - 1) / 2 : Nat) x y (idx_nat' hx) (idx_nat' hy)) [] [1, 2] (by decide) rfl rfl) <|
        T.ga rfl rfl rfl (o_not rfl) <| T.a (o_pickF rfl rfl (by decide)) <| T.d <| T.pck [2, 0, 1] <| T.at fun h => ?_
      by_cases hlt : ltA x.2 y.2 = true
      · refine T.go h <| T.ff rfl (by rw [hlt]; decide) <| T.sk <| T.unp 0 rfl fun v =>
          T.qr rfl <| T.mv rfl <| T.mv rfl <| T.mv rfl <| T.a (o_invv (vs := [.int .i64 (((m - 1) / 2 : Nat) : Int), .int .i64 m]) 0 rfl rfl m_Swap tw_y45 rfl (items_Swap.spc v l ((m - 1) / 2 : Nat) m (len_in (by omega)) (len_in (by omega)) y x (idx_nat' hy) (idx_nat' hx) (by omega)) [] [1, 2] (by decide) rfl rfl) <| T.d <|
          T.pck [2, 0, 1] <| T.r rfl <| T.mv rfl <| T.a (o_assign rfl) <| T.d <| T.ib <| T.at fun h => ?_
        refine Go.inLoop (ih ((m - 1) / 2) (by omega) (swp l ((m - 1) / 2) m) _ _ (by rw [swp_len]; omega) (by rw [swp_len]; omega) ?_ (h.wr [0, 1]))
        rw [← hu]
        conv => rhs; rw [upF, dif_neg h0, hx, hy]
        dsimp only
        rw [if_pos hlt]
      · refine T.go h <| T.tt rfl (by simpa using hlt) <| T.ex rfl <| T.at fun h => ?_
        refine g_fin (vs := []) h Try.func32 trivial ⟨(), rfl, ?_⟩
        rw [← hu, upF, dif_neg h0, hx, hy]
        dsimp only
        rw [if_neg hlt]; exact h.mem
theorem kid_is {m : Nat} (h : m ≤ 1000000) : IntKind.i64.wrap (IntKind.i64.wrap (2 * (m : Int)) + 1) = ((2 * m + 1 : Nat) : Int) := by
  simp [IntKind.wrap, IntKind.bits, IntKind.signed]; omega
theorem kid2_is {m : Nat} (h : m ≤ 1000000) : IntKind.i64.wrap (((2 * m + 1 : Nat) : Int) + 1) = ((2 * m + 2 : Nat) : Int) := by
  simp [IntKind.wrap, IntKind.bits, IntKind.signed]; omega
theorem kid_of {α : Type} {lt : α → α → Bool} {l : List α} {m n : Nat} {x y : α} (h2 : 2 * m + 2 < n) (hx : l[2 * m + 2]? = some x) (hy : l[2 * m + 1]? = some y) : kid lt l m n = if lt x y = true then 2 * m + 2 else 2 * m + 1 := by
  unfold kid; rw [if_pos h2, hx, hy]
theorem heap_down.spc (b : Nat) (l0 : LI) (i0 n0 : Nat) (hn0 : n0 ≤ l0.length) (hi0 : i0 < n0) (hl0 : l0.length ≤ 4097) : Spc Try.prog 31 [.iface 56 (pt b), .int .i64 i0, .int .i64 n0] [] (rowE b l0) (fun (_ : Unit) => .bool (decide ((i0 : Int) < ((downF ltI l0 i0 n0).2 : Int)))) (fun _ => rowE b (downF ltI l0 i0 n0).1) := by
  refine Spc.go Try.func31 rfl (by kernel_rfl) rfl rfl all_nil fun F a w h => ?_
  refine T.go h <| T.qr rfl <| T.a (o_assign rfl) <| T.d <| T.qr rfl <| T.mv rfl <| T.a (o_assign rfl) <| T.d <| T.q <| T.at fun h => ?_
  refine g_cut (fun G => ∀ (m : Nat) (l : LI) (a : Act) (w : World), downF ltI l0 i0 n0 = (l, m) → St Try.f31.ntmps F [(1, .int .i64 i0), (7, .int .i64 m)] (rowE b l) a w → G a w) 1 ?_ fun J2 => ?_
  · intro m l a w e h
    rw [e]
    refine T.go h <| T.qr rfl <| T.mv rfl <| T.mv rfl <| T.a (o_bin rfl rfl rfl) <| T.a (o_assign rfl) <| T.d <| T.at fun h => ?_
    exact g_ret (vs := [.bool (decide ((i0 : Int) < (m : Int)))]) h Try.func31 ⟨rfl, trivial⟩ ⟨(), rfl, h.mem⟩
  refine T.go h <| T.bl <| T.at fun h => Go.loop ?_
  refine g_cut (fun G => ∀ (k m : Nat) (l : LI) (a : Act) (w : World), k = n0 - m → m < n0 → l.length = l0.length → downF ltI l0 i0 n0 = downF ltI l m n0 → St Try.f31.ntmps F [(0, .iface 56 (pt b)), (1, .int .i64 i0), (2, .int .i64 n0), (7, .int .i64 m)] (rowE b l) a w → G a w) 0 ?_ fun J => J _ i0 l0 _ _ rfl hi0 rfl rfl (h.wr [0, 1])
  intro k
  induction k using Nat.strongRecOn with
  | ind k ih =>
    intro m l a w hk hm hl hu h
    refine T.go h <| T.bl <| T.qr rfl <| T.mv rfl <| T.a (o_bin rfl rfl rfl) <| T.a (o_bin rfl rfl rfl) <| T.a (o_assign' rfl (congrArg (Value.int .i64) (kid_is (m := m) (by omega)))) <| T.d <|
      T.q <| T.qr rfl <| T.mv rfl <| T.mv rfl <| T.a (o_bin rfl rfl rfl) <| T.at fun h => ?_
    by_cases h1 : n0 ≤ 2 * m + 1
    · refine T.go h <| T.a (o_move' rfl (congrArg Value.bool (show decide ((n0 : Int) ≤ ((2 * m + 1 : Nat) : Int)) = true from decide_eq_true (by omega)))) <|
        T.gk rfl rfl rfl <| T.gk rfl rfl rfl <| T.a (o_pickT rfl rfl rfl) <| T.d <| T.tt rfl rfl <| T.ex rfl <| T.at fun h => J2 m l _ _ ?_ (h.wr [0, 1])
      rw [hu, downF, dif_neg (by omega)]
    · have hc : 2 * m + 1 < l.length := by omega
      have hyc : l[2 * m + 1]? = some l[2 * m + 1] := List.getElem?_eq_getElem hc
      have hym : l[m]? = some l[m] := List.getElem?_eq_getElem (by omega)
      generalize l[2 * m + 1] = yc at hyc
      generalize l[m] = ym at hym
      refine T.go h <| T.a (o_move' rfl (congrArg Value.bool (show decide ((n0 : Int) ≤ ((2 * m + 1 : Nat) : Int)) = false from decide_eq_false (by omega)))) <|
        T.ga rfl rfl rfl (o_move rfl) <| T.ga rfl rfl rfl (o_bin rfl rfl rfl) <| T.a (o_pickF rfl rfl (by decide)) <| T.d <| T.ff rfl (by simp; omega) <| T.sk <|
        T.qr rfl <| T.mv rfl <| T.a (o_assign rfl) <| T.d <| T.q <| T.at fun h => ?_
      refine g_cut (fun G => ∀ (a : Act) (w : World), St Try.f31.ntmps F [(0, .iface 56 (pt b)), (1, .int .i64 i0), (2, .int .i64 n0), (7, .int .i64 m), (9, .int .i64 (kid ltI l m n0 : Nat))] (rowE b l) a w → G a w) 1 ?_ fun J3 => ?_
      · intro a w h
        have hko := kid_or ltI l m n0
        have hkn : kid ltI l m n0 < n0 := by omega
        have hxc : l[kid ltI l m n0]? = some (l[kid ltI l m n0]'(by omega)) := List.getElem?_eq_getElem (by omega)
        generalize hxe : (l[kid ltI l m n0]'(by omega)) = xc at hxc
        refine T.go h <| T.unp 0 rfl fun v => T.q <| T.qr rfl <| T.mv rfl <| T.mv rfl <| T.mv rfl <|
          T.a (o_invv (vs := [.int .i64 (kid ltI l m n0 : Nat), .int .i64 m]) 0 rfl rfl m_Less tw_y45 rfl (items_Less.spc v l (kid ltI l m n0 : Nat) m xc ym (idx_nat' hxc) (idx_nat' hym)) [] [1, 2] (by decide) rfl rfl) <| T.a (o_not rfl) <| T.d <| T.pck [2, 0, 1] <| T.at fun h => ?_
        by_cases hlt : ltA xc.2 ym.2 = true
        · refine T.go h <| T.ff rfl (by rw [hlt]; decide) <| T.sk <| T.unp 0 rfl fun v =>
            T.qr rfl <| T.mv rfl <| T.mv rfl <| T.mv rfl <| T.a (o_invv (vs := [.int .i64 m, .int .i64 (kid ltI l m n0 : Nat)]) 0 rfl rfl m_Swap tw_y45 rfl (items_Swap.spc v l m (kid ltI l m n0 : Nat) (len_in (by omega)) (len_in (by omega)) ym xc (idx_nat' hym) (idx_nat' hxc) (by omega)) [] [1, 2] (by decide) rfl rfl) <| T.d <|
            T.pck [2, 0, 1] <| T.r rfl <| T.mv rfl <| T.a (o_assign rfl) <| T.d <| T.ib <| T.at fun h => ?_
          refine Go.inLoop (ih (n0 - kid ltI l m n0) (by omega) (kid ltI l m n0) (swp l m (kid ltI l m n0)) _ _ rfl hkn (by rw [swp_len]; exact hl) ?_ (h.wr [0, 1]))
          rw [hu]
          conv => lhs; rw [downF, dif_pos (by omega), hxc, hym]
          dsimp only
          rw [if_pos hlt]
        · refine T.go h <| T.tt rfl (by simpa using hlt) <| T.ex rfl <| T.at fun h => J2 m l _ _ ?_ (h.wr [0, 1])
          rw [hu, downF, dif_pos (by omega), hxc, hym]
          dsimp only
          rw [if_neg hlt]
      refine T.go h <| T.qr rfl <| T.mv rfl <| T.a (o_bin rfl rfl rfl) <| T.a (o_assign' rfl (congrArg (Value.int .i64) (kid2_is (m := m) (by omega)))) <| T.d <|
        T.qr rfl <| T.mv rfl <| T.mv rfl <| T.a (o_bin rfl rfl rfl) <| T.at fun h => ?_
      by_cases h2 : 2 * m + 2 < n0
      · have hxk : l[2 * m + 2]? = some (l[2 * m + 2]'(by omega)) := List.getElem?_eq_getElem (by omega)
        generalize (l[2 * m + 2]'(by omega)) = xk at hxk
        have hkid := kid_of (lt := ltI) h2 hxk hyc
        refine T.go h <| T.a (o_move' rfl (congrArg Value.bool (show decide (((2 * m + 2 : Nat) : Int) < (n0 : Int)) = true from decide_eq_true (by omega)))) <|
          T.unp 0 rfl fun v => T.ga rfl rfl rfl (o_move rfl) <| T.ga rfl rfl rfl (o_move rfl) <| T.ga rfl rfl rfl (o_move rfl) <|
          T.ga rfl rfl rfl (o_invv (vs := [.int .i64 (2 * m + 2 : Nat), .int .i64 (2 * m + 1 : Nat)]) 0 rfl rfl m_Less tw_y45 rfl (items_Less.spc v l (2 * m + 2 : Nat) (2 * m + 1 : Nat) xk yc (idx_nat' hxk) (idx_nat' hyc)) [] [1, 2] (by decide) rfl rfl) <|
          T.a (o_pickT rfl rfl rfl) <| T.d <| T.pck [2, 0, 1] <| T.at fun h => ?_
        by_cases hlt : ltA xk.2 yc.2 = true
        · rw [if_pos hlt] at hkid
          refine T.go h <| T.tt rfl hlt <| T.r rfl <| T.mv rfl <| T.a (o_assign rfl) <| T.d <| T.at fun h => J3 _ _ ?_
          rw [hkid]; exact h.wr [0, 1]
        · rw [if_neg hlt] at hkid
          refine T.go h <| T.ff rfl hlt <| T.sk <| T.at fun h => J3 _ _ ?_
          rw [hkid]; exact h.wr [0, 1]
      · have hkid : kid ltI l m n0 = 2 * m + 1 := by unfold kid; rw [if_neg h2]
        refine T.go h <| T.a (o_move' rfl (congrArg Value.bool (show decide (((2 * m + 2 : Nat) : Int) < (n0 : Int)) = false from decide_eq_false (by omega)))) <|
          T.gk rfl rfl rfl <| T.gk rfl rfl rfl <| T.gk rfl rfl rfl <| T.gk rfl rfl rfl <| T.a (o_pickF rfl rfl (by decide)) <| T.d <| T.ff rfl (by decide) <| T.sk <| T.at fun h => J3 _ _ ?_
        rw [hkid]; exact h.wr [0, 1]
set_option maxRecDepth 100000
set_option maxHeartbeats 1000000
/-- Down, and where it did not move, up. -/
def fixF (l : LI) (i n : Nat) : LI := if i < (downF ltI l i n).2 then (downF ltI l i n).1 else upF ltI (downF ltI l i n).1 i
/-- What was at place i, at the end. -/
def rmF (l : LI) (i : Nat) : LI := if i = l.length - 1 then l else fixF (swp l i (l.length - 1)) i (l.length - 1)
theorem sub_one {n m : Nat} (h : n = m + 1) (hm : m ≤ 1000000) : Value.int .i64 (IntKind.i64.wrap ((n : Int) - 1)) = .int .i64 (m : Int) := by
  congr 1
  simp [IntKind.wrap, IntKind.bits, IntKind.signed]; omega
theorem o_bin' {P : Program} {E : List (Nat × Value)} {L : List Ent} {d : Option Tmp} {ty : TypeId} {pos : String} {aft : Array Edge} {g : Option (Nat × Bool)} {op : BinOp} {t u : TypeId} {x y : Operand} {k : IntKind} {p q : Int} {v v' : Value} (hx : opv E x = some (.int k p)) (hy : opv E y = some (.int k q)) (h : ibin op k p q = some v) (he : v = v') :
    OpS (σ := Unit) P E L ⟨d, .binOp op t x y u, ty, pos, aft, g⟩ (fun _ => v') (fun _ => L) := he ▸ o_bin hx hy h
theorem heap_Fix.spc (b : Nat) (l : LI) (i : Nat) (hi : i < l.length) (hl : l.length ≤ 4096) : Spc Try.prog 23 [.iface 56 (pt b), .int .i64 i] [] (rowE b l) (fun (_ : Unit) => .tuple #[]) (fun _ => rowE b (fixF l i l.length)) := by
  refine Spc.go Try.func23 rfl (by kernel_rfl) rfl rfl all_nil fun F a w h => ?_
  refine T.go h <| T.unp 0 rfl fun v => T.qr rfl <| T.mv rfl <| T.mv rfl <| T.mv rfl <| T.a (o_invv (vs := []) 0 rfl rfl m_Len tw_y45 rfl (items_Len.spc v (l.map (·.1))) [] [1] (by decide) rfl rfl) <|
    T.pck [1, 0, 3] <| T.a (o_call (heap_down.spc b l i (l.map (·.1)).length (by simp) (by simpa using hi) (by omega)) rfl [] [0, 1] (by decide) rfl rfl) <| T.a (o_not rfl) <| T.d <| T.at fun h => ?_
  rw [List.length_map] at h
  unfold fixF
  by_cases hd : i < (downF ltI l i l.length).2
  · rw [if_pos hd]
    refine T.go h <| T.ff rfl (by simp; omega) <| T.sk <| T.at fun h => ?_
    exact g_fin (vs := []) h Try.func23 trivial ⟨(), rfl, h.mem.pick [0, 1] (by decide) rfl⟩
  · rw [if_neg hd]
    refine T.go h <| T.tt rfl (by simp; omega) <| T.r rfl <| T.mv rfl <| T.mv rfl <| T.a (o_call (heap_up.spc b (downF ltI l i l.length).1 i (by rw [downF_len]; exact hi) (by rw [downF_len]; omega)) rfl [] [0, 1] (by decide) rfl rfl) <| T.d <| T.at fun h => ?_
    exact g_fin (vs := []) h Try.func23 trivial ⟨(), rfl, h.mem.pick [0, 1] (by decide) rfl⟩
theorem heap_Push.spc (b : Nat) (l : LI) (p : Nat) (al : TAlarm) (pl : Int) (hl : l.length ≤ 4096) : Spc Try.prog 24 [.iface 56 (pt b), .iface 51 (pt p)] [] (rowE b l ++ [Fld Kitem p 0 ⟨al, pl⟩]) (fun (_ : Unit) => .tuple #[]) (fun _ => rowE b (upF ltI (l ++ [(p, al)]) l.length)) := by
  refine Spc.go Try.func24 rfl (by kernel_rfl) rfl rfl all_nil fun F a w h => ?_
  refine T.go h <| T.qr rfl <| T.mv rfl <| T.mv rfl <| T.a (o_invp (vs := [.iface 51 (pt p)]) rfl m_Push rfl (items_Push.spc b l p al pl hl) [] [0, 1, 2] (by decide) rfl rfl) <| T.d <|
    T.unp 0 rfl fun v => T.r rfl <| T.mv rfl <| T.mv rfl <| T.a (o_invv (vs := []) 0 rfl rfl m_Len tw_y45 rfl (items_Len.spc v ((l ++ [(p, al)]).map (·.1))) [] [1] (by decide) rfl rfl) <|
    T.pck [1, 0, 3] <| T.a (o_bin' rfl rfl rfl (sub_one (m := l.length) (by simp) (by omega))) <|
    T.a (o_call (heap_up.spc b (l ++ [(p, al)]) l.length (by simp) (by simp; omega)) rfl [] [0, 1] (by decide) rfl rfl) <| T.d <| T.at fun h => ?_
  exact g_fin (vs := []) h Try.func24 trivial ⟨(), rfl, h.mem.pick [0, 1] (by decide) rfl⟩
theorem heap_Remove.spc (b : Nat) (l : LI) (i : Nat) (q : LI) (x : Nat × TAlarm) (hi : i < l.length) (hl : l.length ≤ 4096) (hq : rmF l i = q ++ [x]) : Spc Try.prog 25 [.iface 56 (pt b), .int .i64 i] [] (rowE b l) (fun (_ : Unit) => .iface 51 (pt x.1)) (fun _ => rowE b q ++ [Fld Kitem x.1 0 ⟨x.2, (q.length : Int)⟩]) := by
  have hql : q.length ≤ 4096 := by
    have := congrArg List.length hq
    have e : (rmF l i).length = l.length := by
      unfold rmF fixF
      split
      · rfl
      · split <;> simp [downF_len, upF_len, swp_len]
    simp at this; omega
  refine Spc.go Try.func25 rfl (by kernel_rfl) rfl rfl all_nil fun F a w h => ?_
  refine T.go h <| T.qr rfl <| T.a (o_assign rfl) <| T.d <| T.unp 0 rfl fun v => T.qr rfl <| T.mv rfl <| T.a (o_invv (vs := []) 0 rfl rfl m_Len tw_y45 rfl (items_Len.spc v (l.map (·.1))) [] [1] (by decide) rfl rfl) <|
    T.pck [1, 0, 3] <| T.a (o_bin' rfl rfl rfl (sub_one (m := l.length - 1) (by simp; omega) (by omega))) <| T.a (o_assign rfl) <| T.d <| T.q <| T.at fun h => ?_
  refine g_cut (fun G => ∀ (a : Act) (w : World), St Try.f25.ntmps F [(0, .iface 56 (pt b))] (rowE b (rmF l i)) a w → G a w) 1 ?_ fun J => ?_
  · intro a w h
    rw [hq] at h
    refine T.go h <| T.qr rfl <| T.mv rfl <| T.a (o_invp (vs := []) rfl m_Pop rfl (items_Pop.spc b q x hql) [] [0, 1] (by decide) rfl rfl) <| T.a (o_assign rfl) <| T.d <| T.at fun h => ?_
    exact g_ret (vs := [.iface 51 (pt x.1)]) h Try.func25 ⟨rfl, trivial⟩ ⟨(), rfl, h.mem.pick [0, 1, 2] (by decide) rfl⟩
  refine T.go h <| T.qr rfl <| T.mv rfl <| T.mv rfl <| T.a (o_bin rfl rfl rfl) <| T.d <| T.at fun h => ?_
  by_cases he : i = l.length - 1
  · refine T.go h <| T.ff rfl (by simp; omega) <| T.sk <| T.at fun h => J _ _ ?_
    unfold rmF
    rw [if_pos he]; exact h.wr [0, 1]
  · have hx : l[i]? = some l[i] := List.getElem?_eq_getElem hi
    have hy : l[l.length - 1]? = some (l[l.length - 1]'(by omega)) := List.getElem?_eq_getElem (by omega)
    generalize l[i] = xi at hx
    generalize (l[l.length - 1]'(by omega)) = xl at hy
    unfold rmF fixF at J
    rw [if_neg he] at J
    refine T.go h <| T.tt rfl (by simp; omega) <| T.unp 0 rfl fun v => T.qr rfl <| T.mv rfl <| T.mv rfl <| T.mv rfl <|
      T.a (o_invv (vs := [.int .i64 i, .int .i64 (l.length - 1 : Nat)]) 0 rfl rfl m_Swap tw_y45 rfl (items_Swap.spc v l i (l.length - 1 : Nat) (len_in (by omega)) (len_in (by omega)) xi xl (idx_nat' hx) (idx_nat' hy) (by omega)) [] [1, 2] (by decide) rfl rfl) <| T.d <|
      T.pck [2, 0, 1] <| T.qr rfl <| T.mv rfl <| T.mv rfl <| T.mv rfl <| T.a (o_call (heap_down.spc b (swp l i (l.length - 1)) i (l.length - 1) (by rw [swp_len]; omega) (by omega) (by rw [swp_len]; omega)) rfl [] [0, 1] (by decide) rfl rfl) <| T.a (o_not rfl) <| T.d <| T.at fun h => ?_
    by_cases hd : i < (downF ltI (swp l i (l.length - 1)) i (l.length - 1)).2
    · rw [if_pos hd] at J
      refine T.go h <| T.ff rfl (by simp; omega) <| T.sk <| T.at fun h => J _ _ (h.wr [0, 1])
    · rw [if_neg hd] at J
      refine T.go h <| T.tt rfl (by simp; omega) <| T.r rfl <| T.mv rfl <| T.mv rfl <| T.a (o_call (heap_up.spc b (downF ltI (swp l i (l.length - 1)) i (l.length - 1)).1 i (by rw [downF_len, swp_len]; exact hi) (by rw [downF_len, swp_len]; omega)) rfl [] [0, 1] (by decide) rfl rfl) <| T.d <| T.at fun h => J _ _ (h.wr [0, 1])
set_option maxRecDepth 100000
set_option maxHeartbeats 1000000
abbrev Kmap : Kd (List (Int × Option Nat)) := Kd.mp (Kd.int .i64) Kd.adrz
/-- What a wheel's map tells of its row. -/
structure Wh (l : LI) (mm : List (Int × Option Nat)) : Prop where
  nd : (l.map (fun p => p.2.Id)).Nodup
  kd : (mm.map (·.1)).Nodup
  ix : ∀ id q, mget mm id = some q ↔ ∃ p ∈ l, p.2.Id = id ∧ q = some p.1
  len : l.length ≤ 4096
/-- A wheel, as its alarms in the heap's order. -/
def Kwhl : Kd (List TAlarm) where
  n := 2
  agg := true
  C := fun m φ x cs => ∃ (l : LI) (mm : List (Int × Option Nat)) (v1 v2 : Value), cs = [v1, v2] ∧ v1.oneCell' = true ∧ v2.oneCell' = true ∧ l.map (·.2) = x ∧ Wh l mm ∧ Own [Val (Kd.osl Kd.adr) v1 (l.map (·.1)), Big (its l), Val Kmap v2 mm] m φ
  len := fun ⟨l, mm, v1, v2, h, _⟩ => by rw [h]; rfl
  one := fun ⟨l, mm, v1, v2, h, h1, h2, _⟩ c hc => by rw [h] at hc; simp at hc; rcases hc with rfl | rfl <;> assumption
  mono := fun hm hf ⟨l, mm, v1, v2, h, h1, h2, h3, h4, h5⟩ => ⟨l, mm, v1, v2, h, h1, h2, h3, h4, h5.mono hm hf⟩
  sgl := fun h => by cases h
abbrev K2 (v1 v2 : Value) : Kd (Unit × Unit) := Kd.pair (Kd.eq v1) (Kd.last (Kd.eq v2))
/-- A wheel in parts. -/
abbrev whE (b r : Nat) (l : LI) (mm : List (Int × Option Nat)) : List Ent := [Fld (Kd.osl Kd.adr) b 0 (l.map (·.1)), Big (its l), Fld (Kd.eq (.map (some r))) b 1 (), Val Kmap (.map (some r)) mm]
theorem ch2 (v1 v2 : Value) (b : Nat) : Chain (K2 v1 v2) b 0 ((), ()) [Fld (Kd.eq v1) b 0 (), Fld (Kd.eq v2) b 1 ()] := .pair rfl .last
theorem Mem.wopen {F : Fr} {w : World} {L : List Ent} {b : Nat} {x : List TAlarm} (h : Mem F (Fld Kwhl b 0 x :: L) w) : ∃ l mm r, l.map (·.2) = x ∧ Wh l mm ∧ Mem F (whE b r l mm ++ L) w := by
  obtain ⟨m, φ, ⟨f1, f2, a, b', d, ⟨cs, g1, g2, l1, l2, d2, hc, l, mm, v1, v2, rfl, o1, o2, rfl, W, hO⟩, ho2⟩, r⟩ := h
  obtain ⟨r', hr⟩ : ∃ r', v2 = .map (some r') := by
    obtain ⟨f, hf, he⟩ := Own.get (i := 2) rfl hO
    obtain ⟨cs, ⟨r', es, clk, rfl, _⟩, e⟩ := he
    exact ⟨r', e⟩
  subst hr
  refine ⟨l, mm, r', rfl, W, ?_⟩
  have h1 : Mem F (Fld (K2 v1 (.map (some r'))) b 0 ((), ()) :: ([Val (Kd.osl Kd.adr) v1 (l.map (·.1)), Big (its l), Val Kmap (.map (some r')) mm] ++ L)) w := by
    refine ⟨m, φ, ⟨g1, g2.un f2, l1.trans a, Frag.un_le (l2.trans a) b', Frag.dj_un d2 (d.mono l1 .rfl), ⟨_, g1, Frag.emp, .rfl, Frag.emp_le, Frag.dj_emp, hc, ?_⟩, ?_⟩, r⟩
    · exact ⟨[v1], [.map (some r')], Frag.emp, Frag.emp, rfl, .rfl, .rfl, Frag.emp_dj, ⟨rfl, o1⟩, ⟨rfl, o2⟩⟩
    · have dg : g2.dj f2 := d.mono l2 .rfl
      exact Own.join Frag.le_un_left (Frag.le_un_right dg) dg hO ho2
  have h2 := h1.opn (ch2 v1 (.map (some r')) b)
  have h3 := h2.perm (L' := Fld (Kd.eq v1) b 0 () :: Val (Kd.osl Kd.adr) v1 (l.map (·.1)) :: ([Big (its l), Fld (Kd.eq (.map (some r'))) b 1 (), Val Kmap (.map (some r')) mm] ++ L)) (.cons _ ((List.Perm.swap _ _ _).trans (.cons _ (List.Perm.swap _ _ _))))
  exact h3.pck
theorem Mem.wclose {F : Fr} {w : World} {L : List Ent} {b r : Nat} {l : LI} {mm : List (Int × Option Nat)} (W : Wh l mm) (h : Mem F (whE b r l mm ++ L) w) : Mem F (Fld Kwhl b 0 (l.map (·.2)) :: L) w := by
  obtain ⟨v1, h1⟩ := h.unp 0 rfl
  have h2 : Mem F ([Fld (Kd.eq v1) b 0 (), Fld (Kd.eq (.map (some r))) b 1 ()] ++ ([Val (Kd.osl Kd.adr) v1 (l.map (·.1)), Big (its l), Val Kmap (.map (some r)) mm] ++ L)) w :=
    h1.perm (.cons _ (((List.Perm.swap _ _ _).cons _).trans (List.Perm.swap _ _ _)))
  have h3 := h2.cls (ch2 v1 (.map (some r)) b)
  obtain ⟨m, φ, ⟨f1, f2, a, b', d, ⟨cs, g1, g2, l1, l2, d2, hc, c1, c2, k1, k2, e, _, _, _, ⟨rfl, o1⟩, ⟨rfl, o2⟩⟩, ho2⟩, rr⟩ := h3
  subst e
  obtain ⟨q1, q2, s1, s2, dq, hO, hL⟩ := Own.append ho2
  have dg : g1.dj q1 := d.mono l1 s1
  have dg2 : g1.dj q2 := d.mono l1 s2
  exact ⟨m, φ, ⟨g1.un q1, q2, Frag.un_le (l1.trans a) (s1.trans b'), s2.trans b', Frag.un_dj dg2 dq, ⟨_, g1, q1, Frag.le_un_left, Frag.le_un_right dg, dg, hc, l, mm, v1, .map (some r), rfl, o1, o2, rfl, W, hO⟩, hL⟩, rr⟩
theorem T.wo {n : Nat} {F : Fr} {E : List (Nat × Value)} {L : List Ent} {Φ : Act → World → Prop} {b : Nat} {x : List TAlarm} (k : ∀ l mm r, l.map (·.2) = x → Wh l mm → T n F E (whE b r l mm ++ L) Φ) : T n F E (Fld Kwhl b 0 x :: L) Φ := fun a w h => by
  obtain ⟨l, mm, r, e, W, hm⟩ := Mem.wopen h.mem
  exact k l mm r e W a w ⟨h.sl, hm⟩
theorem T.wc {n : Nat} {F : Fr} {E : List (Nat × Value)} {L : List Ent} {Φ : Act → World → Prop} {b r : Nat} {l : LI} {mm : List (Int × Option Nat)} (W : Wh l mm) (k : T n F E (Fld Kwhl b 0 (l.map (·.2)) :: L) Φ) : T n F E (whE b r l mm ++ L) Φ := fun a w h => k a w ⟨h.sl, Mem.wclose W h.mem⟩
theorem T.wcl {n : Nat} {F : Fr} {E : List (Nat × Value)} {L : List Ent} {Φ : Act → World → Prop} {b r : Nat} {v : Value} {l : LI} {mm : List (Int × Option Nat)} (W : Wh l mm) (is : List Nat) (k : T n F E [Fld Kwhl b 0 (l.map (·.2))] Φ) (nd : is.Nodup := by decide) (hl : is.map (fun i => L[i]?) = [Fld (Kd.eq v) b 0 (), Val (Kd.osl Kd.adr) v (l.map (·.1)), Big (its l), Fld (Kd.eq (.map (some r))) b 1 (), Val Kmap (.map (some r)) mm].map some := by rfl) : T n F E L Φ := fun a w h => k a w ⟨h.sl, Mem.wclose W (h.mem.pick is nd hl).pck⟩
theorem T.wcr {n : Nat} {F : Fr} {E : List (Nat × Value)} {L : List Ent} {Φ : Act → World → Prop} {b r : Nat} {l : LI} {mm : List (Int × Option Nat)} (W : Wh l mm) (is : List Nat) (k : T n F E [Fld Kwhl b 0 (l.map (·.2))] Φ) (nd : is.Nodup := by decide) (hl : is.map (fun i => L[i]?) = (whE b r l mm).map some := by rfl) : T n F E L Φ := fun a w h => k a w ⟨h.sl, Mem.wclose (L := []) W (h.mem.pick is nd hl)⟩
theorem tw_f48_0 : fldI Try.prog 48 0 = some (0, false, 1) := by kernel_rfl
theorem tw_f48_1 : fldI Try.prog 48 1 = some (1, false, 1) := by kernel_rfl
theorem tw_y46 : tyI Try.prog 46 = some (false, 1) := by kernel_rfl
theorem tw_u46 : Try.prog.underlying 46 = some (.map 3 51) := by kernel_rfl
theorem tw_u24 : Try.prog.underlying 24 = some (.pointer 48) := by kernel_rfl
theorem timer_none.spc (b : Nat) (x : List TAlarm) : Spc Try.prog 22 [pt b] [] [Fld Kwhl b 0 x] (fun (_ : Unit) => .bool false) (fun _ => [Fld Kwhl b 0 x]) := by
  refine Spc.go Try.func22 rfl (by kernel_rfl) rfl rfl all_nil fun F a w h => ?_
  refine T.go h <| T.wo fun l mm r e W => T.qr rfl <| T.a (o_assign rfl) <| T.d <| T.qr rfl <| T.mv rfl <| T.a (o_ptn rfl tw_u24) <| T.mv rfl <|
    T.ga rfl rfl rfl (o_move rfl) <| T.ga rfl rfl rfl (o_nilc rfl) <| T.ga rfl rfl rfl (fa rfl tw_f48_1) <| T.ga rfl rfl rfl (o_ldx (K := Kd.eq (.map (some r))) 2 rfl rfl X_eq tw_y46) <| T.ga rfl rfl rfl (o_mpn rfl tw_u46) <|
    T.a (o_pickF rfl rfl Bool.false_ne_true) <| T.a (o_assign rfl) <| T.d <| T.wc W <| T.at fun h => ?_
  rw [e] at h
  exact g_ret (vs := [.bool false]) h Try.func22 ⟨rfl, trivial⟩ ⟨(), rfl, h.mem⟩
theorem timer_Len.spc (b : Nat) (x : List TAlarm) : Spc Try.prog 11 [pt b] [] [Fld Kwhl b 0 x] (fun (_ : Unit) => .int .i64 (x.length : Int)) (fun _ => [Ent.pur (InR .i64 (x.length : Int)), Fld Kwhl b 0 x]) := by
  refine Spc.go Try.func11 rfl (by kernel_rfl) rfl rfl all_nil fun F a w h => ?_
  refine T.go h <| T.qr rfl <| T.a (o_assign rfl) <| T.d <| T.q <| T.qr rfl <| T.mv rfl <| T.a (o_call (timer_none.spc b x) rfl [] [0] (by decide) rfl rfl) <| T.d <| T.ff rfl (by decide) <| T.sk <|
    T.wo fun l mm r e W => T.unp 0 rfl fun v => T.qr rfl <| T.mv rfl <| T.a (o_nilc rfl) <| T.a (fa rfl tw_f48_0) <| T.a (o_ldx (K := Kd.eq v) 0 rfl rfl X_eq tw_y45) <| T.a (o_ln rfl (rd_own 1 rfl) t_v45) <| T.a (o_assign rfl) <| T.d <|
    T.wcl W [0, 1, 2, 3, 4] <| T.at fun h => ?_
  have el : (l.map (·.1)).length = x.length := by rw [← e]; simp
  have hx : x.length ≤ 4096 := by rw [← el]; simpa using W.len
  rw [el, e] at h
  exact g_ret (vs := [.int .i64 (x.length : Int)]) h Try.func11 ⟨rfl, trivial⟩ ⟨(), rfl, (h.mem.pick [0] (by decide) rfl).addpur (len_in (by omega))⟩
theorem tw_b48 : flds Try.prog 48 = some (lay 0 [[.slice none 0 0], [.map none]]) := by kernel_rfl
theorem tw_z48 : zeroC Try.prog 48 = some [.slice none 0 0, .map none] := by kernel_rfl
theorem timer_New.sp0 : Spc Try.prog 8 [] [] [] (fun (s : Value) => s) (fun s => [Val (Kd.obx Kwhl) s (some [])]) := by
  refine Spc.go Try.func8 rfl (by kernel_rfl) rfl rfl all_nil fun F a w h => ?_
  refine T.go h <| T.qr rfl <| T.a (o_assign rfl) <| T.d <| T.qr rfl <| T.s (o_mkmap (Kd.int .i64) Kd.adrz) fun v => T.at fun h => ?_
  obtain ⟨r, rfl⟩ : ∃ r, v = .map (some r) := by
    obtain ⟨m, φ, _, _, cs, ⟨r, es, clk, rfl, _⟩, e⟩ := h.mem.get (i := 0) rfl
    exact ⟨r, e⟩
  refine T.go h <| T.s (o_build (K := Kd.pair (Kd.osl Kd.adr) (Kd.last (Kd.eq (.map (some r))))) (x := ([], ())) (ps := [(1, .map (some r))]) rfl (zs := [[.slice none 0 0], [.map none]]) tw_z48 tw_b48 rfl (pb_zero z_osl (pb_lastp (pv_eq rfl) rfl))) fun u =>
    T.s (o_boxo 0 rfl rfl) fun b => T.a (o_assign rfl) <| T.d <| T.at fun {_ w} h => ?_
  have h1 := h.mem.opn (.pair rfl .last)
  have h2 : Mem F (whE b r [] []) w := by
    refine (h1.add (e' := Big []) (fun m fr hh _ => ⟨m, Frag.emp, .rfl, hh, trivial⟩) (Ok.refl w)).pick [1, 0, 2, 4] (by decide) rfl
  have h3 := Mem.wclose (L := []) (show Wh [] [] from ⟨by simp, by simp, fun id q => by simp [mget, mfind], by simp⟩) h2
  exact g_ret (vs := [pt b]) h Try.func8 ⟨rfl, trivial⟩ ⟨pt b, rfl, h3.pkb 0 rfl⟩
set_option maxRecDepth 100000
set_option maxHeartbeats 1000000
section
variable {α β : Type} {lt : α → α → Bool} {lt' : β → β → Bool} (f : α → β)
theorem swp_map (l : List α) (i j : Nat) : (swp l i j).map f = swp (l.map f) i j := by
  unfold swp
  simp only [List.getElem?_map]
  cases l[i]? with
  | none => simp
  | some x => cases l[j]? with
    | none => simp
    | some y => simp [List.map_set]
theorem kid_map (hf : ∀ x y, lt' (f x) (f y) = lt x y) (l : List α) (i n : Nat) : kid lt' (l.map f) i n = kid lt l i n := by
  unfold kid
  simp only [List.getElem?_map]
  split
  · cases l[2 * i + 2]? with
    | none => simp
    | some x => cases l[2 * i + 1]? with
      | none => simp
      | some y => simp [hf]
  · rfl
theorem upF_map (hf : ∀ x y, lt' (f x) (f y) = lt x y) (l : List α) (j : Nat) : (upF lt l j).map f = upF lt' (l.map f) j := by
  fun_induction upF lt l j with
  | case1 l => rw [upF]; simp
  | case2 l j h0 x y hy hx hlt ih =>
    rw [ih, swp_map]
    conv => rhs; rw [upF, dif_neg h0]
    simp only [List.getElem?_map, hx, hy, Option.map_some, hf, hlt, if_true]
  | case3 l j h0 x y hy hx hlt =>
    rw [upF, dif_neg h0]
    simp only [List.getElem?_map, hx, hy, Option.map_some, hf]
    rw [if_neg hlt]
  | case4 l j h0 hno =>
    rw [upF, dif_neg h0]
    simp only [List.getElem?_map]
    cases h1 : l[j]? with
    | none => rfl
    | some x => cases h2 : l[(j - 1) / 2]? with
      | none => rfl
      | some y => exact absurd h2 (fun h2 => hno _ _ h1 h2)
theorem downF_map (hf : ∀ x y, lt' (f x) (f y) = lt x y) (l : List α) (i n : Nat) : downF lt' (l.map f) i n = ((downF lt l i n).1.map f, (downF lt l i n).2) := by
  fun_induction downF lt l i n with
  | case1 l i h x y hy hx hlt ih =>
    rw [← ih, swp_map]
    conv => lhs; rw [downF, dif_pos h]
    simp only [kid_map f hf, List.getElem?_map, hx, hy, Option.map_some, hf, hlt, if_true]
  | case2 l i h x y hy hx hlt =>
    rw [downF, dif_pos h]
    simp only [kid_map f hf, List.getElem?_map, hx, hy, Option.map_some, hf]
    rw [if_neg hlt]
  | case3 l i h hno =>
    rw [downF, dif_pos h]
    simp only [kid_map f hf, List.getElem?_map]
    cases h1 : l[kid lt l i n]? with
    | none => rfl
    | some x => cases h2 : l[i]? with
      | none => rfl
      | some y => exact absurd h2 (fun h2 => hno _ _ h1 h2)
  | case4 l i h => rw [downF, dif_neg h]
end
def fixA (x : List TAlarm) (i n : Nat) : List TAlarm := if i < (downF ltA x i n).2 then (downF ltA x i n).1 else upF ltA (downF ltA x i n).1 i
def rmA (x : List TAlarm) (i : Nat) : List TAlarm := if i = x.length - 1 then x else fixA (swp x i (x.length - 1)) i (x.length - 1)
def findA (x : List TAlarm) (id : Int) : Option Nat := x.findIdx? (fun a => a.Id == id)
/-- A wheel with an alarm set. -/
def setA (x : List TAlarm) (at_ id : Int) : List TAlarm := match findA x id with
  | some i => fixA (x.set i ⟨at_, id⟩) i x.length
  | none => if 4096 ≤ x.length then x else upF ltA (x ++ [⟨at_, id⟩]) x.length
/-- A wheel with an alarm deleted. -/
def delA (x : List TAlarm) (id : Int) : Bool × List TAlarm := match findA x id with
  | some i => (true, (rmA x i).dropLast)
  | none => (false, x)
theorem fix_map (l : LI) (i n : Nat) : (fixF l i n).map (·.2) = fixA (l.map (·.2)) i n := by
  unfold fixF fixA
  rw [downF_map (lt := ltI) (fun p : Nat × TAlarm => p.2) (fun _ _ => rfl)]
  split
  · rfl
  · exact upF_map _ (fun _ _ => rfl) _ _
theorem rm_map (l : LI) (i : Nat) : (rmF l i).map (·.2) = rmA (l.map (·.2)) i := by
  unfold rmF rmA
  simp only [List.length_map]
  split
  · rfl
  · rw [fix_map, swp_map]
theorem fix_perm (l : LI) (i n : Nat) : (fixF l i n).Perm l := by
  unfold fixF
  split
  · exact downF_perm _ _ _ _
  · exact (upF_perm _ _ _).trans (downF_perm _ _ _ _)
theorem rm_perm (l : LI) (i : Nat) : (rmF l i).Perm l := by
  unfold rmF
  split
  · exact .refl _
  · exact (fix_perm _ _ _).trans (swp_perm _ _ _)
theorem Wh.perm {l l' : LI} {mm : List (Int × Option Nat)} (W : Wh l mm) (h : l'.Perm l) : Wh l' mm :=
  ⟨(h.map _).nodup_iff.2 W.nd, W.kd, fun id q => by rw [W.ix]; exact ⟨fun ⟨p, hp, e⟩ => ⟨p, h.mem_iff.2 hp, e⟩, fun ⟨p, hp, e⟩ => ⟨p, h.mem_iff.1 hp, e⟩⟩, by rw [h.length_eq]; exact W.len⟩
theorem findA_some {l : LI} {mm : List (Int × Option Nat)} (W : Wh l mm) {i : Nat} {p : Nat × TAlarm} (h : l[i]? = some p) : findA (l.map (·.2)) p.2.Id = some i := by
  unfold findA
  rw [List.findIdx?_eq_some_iff_getElem]
  obtain ⟨hi, he⟩ := List.getElem?_eq_some_iff.1 h
  refine ⟨by simpa using hi, by simp [he], fun j hj => ?_⟩
  have hj2 : j < l.length := by omega
  have hn := List.pairwise_iff_getElem.1 W.nd j i (by simpa using hj2) (by simpa using hi) hj
  simp only [List.getElem_map, he, ne_eq] at hn
  simpa using hn
theorem findA_none {l : LI} {id : Int} (h : ∀ p ∈ l, p.2.Id ≠ id) : findA (l.map (·.2)) id = none := by
  unfold findA
  rw [List.findIdx?_eq_none_iff]
  intro a ha
  obtain ⟨p, hp, rfl⟩ := List.mem_map.1 ha
  simpa using h p hp
/-! ### Maps as rows -/
section
variable {κ β : Type} [DecidableEq κ]
theorem mfind_sh (k : κ) : ∀ (xs : List (κ × β)) (i : Nat), mfind k xs i = (mfind k xs 0).map (fun q => (q.1 + i, q.2))
  | [], i => rfl
  | p :: xs, i => by
    unfold mfind
    split
    · simp
    · rw [mfind_sh k xs (i + 1), mfind_sh k xs (0 + 1)]
      cases mfind k xs 0 with
      | none => rfl
      | some q => simp; omega
theorem mfind_cons (p : κ × β) (xs : List (κ × β)) (k : κ) : mfind k (p :: xs) 0 = if k = p.1 then some (0, p.2) else (mfind k xs 0).map (fun q => (q.1 + 1, q.2)) := by
  rw [mfind]
  split
  · rfl
  · exact mfind_sh k xs 1
theorem mget_cons (p : κ × β) (xs : List (κ × β)) (k : κ) : mget (p :: xs) k = if k = p.1 then some p.2 else mget xs k := by
  unfold mget
  rw [mfind_cons]
  split
  · rfl
  · cases mfind k xs 0 <;> rfl
theorem mput_cons (p : κ × β) (xs : List (κ × β)) (k : κ) (b : β) : mput (p :: xs) k b = if k = p.1 then (k, b) :: xs else p :: mput xs k b := by
  unfold mput
  rw [mfind_cons]
  by_cases e : k = p.1
  · simp [e]
  · simp only [e, if_false]
    cases mfind k xs 0 <;> rfl
theorem mdel_cons (p : κ × β) (xs : List (κ × β)) (k : κ) : mdel (p :: xs) k = if k = p.1 then xs else p :: mdel xs k := by
  unfold mdel
  rw [mfind_cons]
  by_cases e : k = p.1
  · simp [e]
  · simp only [e, if_false]
    cases mfind k xs 0 <;> rfl
theorem mget_mput (k : κ) (b : β) (k' : κ) : ∀ xs : List (κ × β), mget (mput xs k b) k' = if k' = k then some b else mget xs k'
  | [] => by
    have : mput ([] : List (κ × β)) k b = [(k, b)] := rfl
    rw [this, mget_cons]
  | p :: xs => by
    rw [mput_cons]
    split
    · rename_i e
      rw [mget_cons, mget_cons]
      subst e
      split <;> rfl
    · rename_i e
      rw [mget_cons, mget_mput k b k' xs, mget_cons]
      split
      · rename_i e2; subst e2
        rw [if_neg (fun h => e h.symm)]
      · rfl
theorem keys_mput (k : κ) (b : β) (k' : κ) : ∀ xs : List (κ × β), k' ∈ (mput xs k b).map (·.1) ↔ k' = k ∨ k' ∈ xs.map (·.1)
  | [] => by
    have : mput ([] : List (κ × β)) k b = [(k, b)] := rfl
    rw [this]; simp
  | p :: xs => by
    rw [mput_cons]
    split
    · rename_i e; subst e; simp
    · rw [List.map_cons, List.mem_cons, keys_mput k b k' xs, List.map_cons, List.mem_cons]
      constructor
      · rintro (h | h | h)
        · exact .inr (.inl h)
        · exact .inl h
        · exact .inr (.inr h)
      · rintro (h | h | h)
        · exact .inr (.inl h)
        · exact .inl h
        · exact .inr (.inr h)
theorem nodup_mput (k : κ) (b : β) : ∀ xs : List (κ × β), (xs.map (·.1)).Nodup → ((mput xs k b).map (·.1)).Nodup
  | [], _ => by
    have : mput ([] : List (κ × β)) k b = [(k, b)] := rfl
    rw [this]; simp
  | p :: xs, h => by
    rw [mput_cons]
    rw [List.map_cons, List.nodup_cons] at h
    split
    · rename_i e; subst e; rw [List.map_cons, List.nodup_cons]; exact h
    · rename_i e
      rw [List.map_cons, List.nodup_cons, keys_mput]
      exact ⟨fun hh => hh.elim (fun h1 => e h1.symm) h.1, nodup_mput k b xs h.2⟩
theorem mget_no (k : κ) : ∀ xs : List (κ × β), k ∉ xs.map (·.1) → mget xs k = none
  | [], _ => rfl
  | p :: xs, h => by
    rw [List.map_cons, List.mem_cons, not_or] at h
    rw [mget_cons, if_neg h.1, mget_no k xs h.2]
theorem mget_mdel (k k' : κ) : ∀ xs : List (κ × β), (xs.map (·.1)).Nodup → mget (mdel xs k) k' = if k' = k then none else mget xs k'
  | [], _ => by
    have : mdel ([] : List (κ × β)) k = [] := rfl
    rw [this]; split <;> rfl
  | p :: xs, h => by
    rw [List.map_cons, List.nodup_cons] at h
    rw [mdel_cons]
    split
    · rename_i e
      subst e
      rw [mget_cons]
      by_cases e2 : k' = p.1
      · rw [if_pos e2, e2, mget_no _ _ h.1]
      · rw [if_neg e2, if_neg e2]
    · rename_i e
      rw [mget_cons, mget_mdel k k' xs h.2, mget_cons]
      split
      · rename_i e2; subst e2; rw [if_neg (fun h => e h.symm)]
      · rfl
theorem keys_mdel (k k' : κ) : ∀ xs : List (κ × β), k' ∈ (mdel xs k).map (·.1) → k' ∈ xs.map (·.1)
  | [], h => h
  | p :: xs, h => by
    rw [mdel_cons] at h
    split at h
    · exact List.mem_cons_of_mem _ h
    · rw [List.map_cons, List.mem_cons] at h ⊢
      exact h.imp id (keys_mdel k k' xs)
theorem nodup_mdel (k : κ) : ∀ xs : List (κ × β), (xs.map (·.1)).Nodup → ((mdel xs k).map (·.1)).Nodup
  | [], h => h
  | p :: xs, h => by
    rw [mdel_cons]
    rw [List.map_cons, List.nodup_cons] at h
    split
    · exact h.2
    · rw [List.map_cons, List.nodup_cons]
      exact ⟨fun hh => h.1 (keys_mdel k _ xs hh), nodup_mdel k xs h.2⟩
end
set_option maxRecDepth 100000
set_option maxHeartbeats 1000000
theorem tw_b54 : flds Try.prog 54 = some (lay 0 zsitem) := by kernel_rfl
theorem tw_zz51 : (Try.prog.info? 51).bind (·.zero) = some (.pointer none) := by kernel_rfl
theorem u_At : Upd Kitem 0 (Kd.int .i64) (fun x y => ⟨⟨y, x.Alarm.Id⟩, x.place⟩) := upd_iso (fun x : Titem => (x.Alarm, x.place)) (fun a => (⟨a.1, a.2⟩ : Titem)) (fun _ => rfl) (upd_fst (upd_iso (fun x : TAlarm => (x.At, x.Id)) (fun a => (⟨a.1, a.2⟩ : TAlarm)) (fun _ => rfl) (upd_fst upd_self)))
theorem its_set {l : LI} {i : Nat} {p : Nat × TAlarm} {al : TAlarm} (h : l[i]? = some p) : (its l).set i (Fld Kitem p.1 0 ⟨al, (i : Int)⟩) = its (l.set i (p.1, al)) := by
  have hi := (List.getElem?_eq_some_iff.1 h).1
  apply List.ext_getElem?
  intro k
  unfold its
  by_cases hk : i = k
  · subst hk
    rw [List.getElem?_set_self (by simpa using hi), List.getElem?_mapIdx, List.getElem?_set_self hi]; rfl
  · rw [List.getElem?_set_ne hk, List.getElem?_mapIdx, List.getElem?_mapIdx, List.getElem?_set_ne hk]
theorem fst_set {l : LI} {i : Nat} {p : Nat × TAlarm} {al : TAlarm} (h : l[i]? = some p) : (l.set i (p.1, al)).map (·.1) = l.map (·.1) := by
  apply List.ext_getElem?
  intro k
  rw [List.getElem?_map, List.getElem?_map]
  by_cases hk : i = k
  · subst hk
    rw [List.getElem?_set_self (List.getElem?_eq_some_iff.1 h).1, h]; rfl
  · rw [List.getElem?_set_ne hk]
theorem Wh.set {l : LI} {mm : List (Int × Option Nat)} (W : Wh l mm) {i : Nat} {p : Nat × TAlarm} (h : l[i]? = some p) (at_ : Int) : Wh (l.set i (p.1, ⟨at_, p.2.Id⟩)) mm := by
  obtain ⟨hi, he⟩ := List.getElem?_eq_some_iff.1 h
  have e : ∀ {γ : Type} (g : Nat → Int → γ), (l.set i (p.1, ⟨at_, p.2.Id⟩)).map (fun q => g q.1 q.2.Id) = l.map (fun q => g q.1 q.2.Id) := fun g => by
    apply List.ext_getElem?
    intro k
    rw [List.getElem?_map, List.getElem?_map]
    by_cases hk : i = k
    · subst hk; rw [List.getElem?_set_self hi, h]; rfl
    · rw [List.getElem?_set_ne hk]
  refine ⟨by rw [e (fun _ id => id)]; exact W.nd, W.kd, fun id q => ?_, by simpa using W.len⟩
  rw [W.ix]
  have key : ∀ (l' : LI), (∃ p ∈ l', p.2.Id = id ∧ q = some p.1) ↔ (id, q) ∈ l'.map (fun p => (p.2.Id, some p.1)) := fun l' => by
    simp only [List.mem_map, Prod.mk.injEq]
    exact ⟨fun ⟨p, h1, h2, h3⟩ => ⟨p, h1, h2, h3.symm⟩, fun ⟨p, h1, h2, h3⟩ => ⟨p, h1, h2, h3.symm⟩⟩
  rw [key, key, e (fun a id => (id, some a))]
theorem Mem.bput' {F : Fr} {w : World} {L : List Ent} {es : List Ent} {e : Ent} (q i : Nat) (hi : i < es.length) (hq : L[q]? = some (Big (es.set i Ent.nul))) (h : Mem F (e :: L) w) : Mem F (L.set q (Big (es.set i e))) w := by
  have := h.bput q i hq (List.getElem?_set_self hi)
  rwa [List.set_set] at this
theorem T.pkw {n : Nat} {F : Fr} {E : List (Nat × Value)} {L : List Ent} {Φ : Act → World → Prop} {b r : Nat} {v : Value} {l : LI} {mm : List (Int × Option Nat)} (is : List Nat) (k : T n F E (whE b r l mm) Φ) (nd : is.Nodup := by decide) (hl : is.map (fun i => L[i]?) = [Fld (Kd.eq v) b 0 (), Val (Kd.osl Kd.adr) v (l.map (·.1)), Big (its l), Fld (Kd.eq (.map (some r))) b 1 (), Val Kmap (.map (some r)) mm].map some := by rfl) : T n F E L Φ := fun a w h => k a w ⟨h.sl, (h.mem.pick is nd hl).pck⟩
theorem timer_Set.spc (b : Nat) (x : List TAlarm) (at_ id : Int) (hat : InR .i64 at_) (hid : InR .i64 id) : Spc Try.prog 9 [pt b, .int .i64 at_, .int .i64 id] [] [Fld Kwhl b 0 x] (fun (_ : Unit) => .tuple #[]) (fun _ => [Fld Kwhl b 0 (setA x at_ id)]) := by
  refine Spc.go Try.func9 rfl (by kernel_rfl) rfl rfl all_nil fun F a w h => ?_
  refine T.go h <| T.q <| T.qr rfl <| T.mv rfl <| T.a (o_call (timer_none.spc b x) rfl [] [0] (by decide) rfl rfl) <| T.d <| T.ff rfl (by decide) <| T.sk <| T.wo fun l mm r e W =>
    T.q <| T.qr rfl <| T.mv rfl <| T.a (o_nilc rfl) <| T.a (fa rfl tw_f48_1) <| T.a (o_ldx (K := Kd.eq (.map (some r))) 2 rfl rfl X_eq tw_y46) <| T.mv rfl <|
    T.a (o_mget2 (Kk := Kd.int .i64) (Kv := Kd.adrz) (k := id) (z := none) 3 rfl rfl rfl (pv_int hid) tw_u46 (mkey_int t_u3) tw_zz51 (fun _ => ⟨_, rfl, rfl⟩) X_adrz) <| T.mv rfl <|
    T.a (o_extract rfl rfl) <| T.a (o_extract rfl rfl) <| T.a (o_assign rfl) <| T.a (o_assign rfl) <| T.d <| T.qr rfl <| T.mv rfl <| T.d <| T.at fun h => ?_
  cases hg : mget mm id with
  | some q =>
    obtain ⟨p, hp, hpi, rfl⟩ := (W.ix id q).1 hg
    obtain ⟨i, hi, hpe⟩ := List.getElem_of_mem hp
    have hx : l[i]? = some p := by rw [List.getElem?_eq_getElem hi, hpe]
    have hlen := W.len
    rw [hg] at h
    have W2 := (W.set hx at_).perm (fix_perm (l.set i (p.1, ⟨at_, p.2.Id⟩)) i (l.set i (p.1, ⟨at_, p.2.Id⟩)).length)
    have hx2 : (l.set i (p.1, ⟨at_, p.2.Id⟩))[i]? = some (p.1, ⟨at_, p.2.Id⟩) := List.getElem?_set_self hi
    refine T.go h <| T.tt rfl rfl <| T.qr rfl <| T.mv rfl <| T.mv rfl <| T.a (o_nilc (ad := ⟨p.1, 0, none⟩) rfl) <| T.a (fa rfl t_f54_0) <| T.a (fa rfl t_f28_0) <|
      T.mm (fun m => m.btake 1 i rfl (its_get hx)) <| T.z (o_stp (x0 := ⟨p.2, (i : Int)⟩) (y := at_) 0 u_At rfl rfl rfl rfl (pv_int hat) tw_w3) <|
      T.mm (fun m => Mem.bput' 1 i (by simpa [its] using hi) rfl m) <|
      T.mm (L' := whE b r (l.set i (p.1, ⟨at_, p.2.Id⟩)) mm) (fun m => (m.pick (L' := [Fld (Kd.osl Kd.adr) b 0 (l.map (·.1)), Big ((its l).set i (Fld Kitem p.1 0 ⟨⟨at_, p.2.Id⟩, (i : Int)⟩)), Fld (Kd.eq (.map (some r))) b 1 (), Val Kmap (.map (some r)) mm]) [0, 1, 2, 3] (by decide) rfl).eqL (by rw [its_set hx, ← fst_set (al := ⟨at_, p.2.Id⟩) hx])) <| T.d <|
      T.qc (by kernel_rfl) t_mxo <| T.mv rfl <| T.a (o_nilc rfl) <| T.a (fa rfl tw_f48_0) <| T.a (o_ifc rfl (by kernel_rfl)) <| T.mv rfl <| T.a (o_nilc (ad := ⟨p.1, 0, none⟩) rfl) <| T.a (fa rfl tw_f54_1) <|
      T.a (o_lfb (K := Kitem) (y := ⟨⟨at_, p.2.Id⟩, (i : Int)⟩) 1 i rfl rfl (its_get hx2) sitem_place rfl X_int t_y3) <|
      T.a (o_call (heap_Fix.spc b (l.set i (p.1, ⟨at_, p.2.Id⟩)) i (by simpa using hi) (by simpa using hlen)) rfl [] [0, 1] (by decide) rfl rfl) <| T.d <|
      T.wcr W2 [0, 1, 4, 5] <| T.at fun h => ?_
    have e2 : (fixF (l.set i (p.1, ⟨at_, p.2.Id⟩)) i (l.set i (p.1, ⟨at_, p.2.Id⟩)).length).map (·.2) = setA x at_ id := by
      rw [fix_map, ← e]
      unfold setA
      rw [← hpi, findA_some W hx]
      simp [List.map_set]
    rw [e2] at h
    exact g_ret (vs := []) h Try.func9 trivial ⟨(), rfl, h.mem⟩
  | none =>
    rw [hg] at h
    have hno : ∀ p ∈ l, p.2.Id ≠ id := fun p hp hpi => by
      have := (W.ix id (some p.1)).2 ⟨p, hp, hpi, rfl⟩
      rw [hg] at this; cases this
    have hf := findA_none hno
    refine T.go h <| T.ff rfl (by decide) <| T.sk <| T.unp 0 rfl fun v => T.q <| T.qr rfl <| T.mv rfl <| T.a (o_nilc rfl) <| T.a (fa rfl tw_f48_0) <| T.a (o_ldx (K := Kd.eq v) 0 rfl rfl X_eq tw_y45) <| T.a (o_ln rfl (rd_own 1 rfl) t_v45) <| T.a (o_bin rfl rfl rfl) <| T.d <|
      T.pkw [0, 1, 2, 3, 4] <| T.at fun h => ?_
    by_cases hm : 4096 ≤ l.length
    · refine T.go h <| T.tt rfl (by simp; omega) <| T.wcr W [0, 1, 2, 3] <| T.at fun h => ?_
      have e2 : l.map (·.2) = setA x at_ id := by
        rw [← e]; unfold setA; rw [hf]; simp [hm]
      rw [e2] at h
      exact g_ret (vs := []) h Try.func9 trivial ⟨(), rfl, h.mem⟩
    · have W1 : ∀ p, Wh (l ++ [(p, ⟨at_, id⟩)]) (mput mm id (some p)) := fun p => by
        refine ⟨?_, nodup_mput _ _ _ W.kd, fun id' q => ?_, by simp; omega⟩
        · rw [List.map_append, List.nodup_append]
          refine ⟨W.nd, by simp, fun a ha c hc => ?_⟩
          simp only [List.map_cons, List.map_nil, List.mem_singleton] at hc
          subst hc
          obtain ⟨q, hq, rfl⟩ := List.mem_map.1 ha
          exact hno q hq
        · rw [mget_mput]
          split
          · rename_i hid'
            subst hid'
            constructor
            · intro hh; cases hh; exact ⟨(p, ⟨at_, id'⟩), by simp, rfl, rfl⟩
            · rintro ⟨q', hq', h1, rfl⟩
              rcases List.mem_append.1 hq' with hq' | hq'
              · exact absurd h1 (hno q' hq')
              · simp at hq'; subst hq'; rfl
          · rename_i hid'
            rw [W.ix]
            constructor
            · rintro ⟨q', hq', h1⟩; exact ⟨q', by simp [hq'], h1⟩
            · rintro ⟨q', hq', h1, h2⟩
              rcases List.mem_append.1 hq' with hq' | hq'
              · exact ⟨q', hq', h1, h2⟩
              · simp at hq'; subst hq'; exact absurd h1.symm hid'
      have W2 := fun p => (W1 p).perm (upF_perm ltI (l ++ [(p, ⟨at_, id⟩)]) l.length)
      have e2 : ∀ p, (upF ltI (l ++ [(p, ⟨at_, id⟩)]) l.length).map (·.2) = setA x at_ id := fun p => by
        rw [upF_map (lt' := ltA) (fun q : Nat × TAlarm => q.2) (fun _ _ => rfl), ← e]
        unfold setA
        rw [hf]
        simp [hm]
      refine T.go h <| T.ff rfl (by simp; omega) <| T.sk <| T.qr rfl <| T.mv rfl <| T.mv rfl <|
        T.s (o_build (K := KAlarm) (x := (⟨at_, id⟩ : TAlarm)) (ps := [(0, .int .i64 at_), (1, .int .i64 id)]) rfl (zs := zsAlarm) rfl t_b28 rfl (show PB (Kd.pair (Kd.int .i64) (Kd.last (Kd.int .i64))) (at_, id) 0 zsAlarm _ _ from (pb_part (pv_int hat) rfl (pb_lastp (pv_int hid) rfl)))) fun u1 =>
        T.s (o_build (K := Kitem) (x := (⟨⟨at_, id⟩, 0⟩ : Titem)) (ps := [(0, u1)]) rfl (zs := zsitem) rfl tw_b54 rfl (show PB (Kd.pair KAlarm (Kd.last (Kd.int .i64))) (⟨at_, id⟩, 0) 0 zsitem _ _ from (pb_part (pv_at PAlarm 0 rfl) rfl (pb_lastz z_int)))) fun u2 =>
        T.s (o_box (K := Kitem) rfl (pv_at Pitem 0 rfl)) fun p => T.a (o_assign rfl) <| T.d <|
        T.qr rfl <| T.mv rfl <| T.a (o_nilc rfl) <| T.a (fa rfl tw_f48_1) <| T.a (o_ldx (K := Kd.eq (.map (some r))) 5 rfl rfl X_eq tw_y46) <| T.mv rfl <| T.mv rfl <|
        T.z (o_mput (Kk := Kd.int .i64) (Kv := Kd.adrz) (k := id) (b := some p) 6 rfl rfl rfl rfl (pv_int hid) (pv_adrz (a := some p)) tw_u46 (mkey_int t_u3)) <| T.d <|
        T.r rfl <| T.mv rfl <| T.a (o_nilc rfl) <| T.a (fa rfl tw_f48_0) <| T.a (o_ifc rfl (by kernel_rfl)) <| T.mv rfl <| T.a (o_ifc rfl (by kernel_rfl)) <|
        T.a (o_call (heap_Push.spc b l p ⟨at_, id⟩ 0 W.len) rfl [] [3, 4, 0] (by decide) rfl rfl) <| T.d <| T.wcr (W2 p) [0, 1, 7, 8] <| T.at fun h => ?_
      rw [e2] at h
      exact g_fin (vs := []) h Try.func9 trivial ⟨(), rfl, h.mem⟩
set_option maxRecDepth 100000
set_option maxHeartbeats 1000000
theorem upF_behind {α : Type} (lt : α → α → Bool) (l : List α) (j k : Nat) (hk : j < k) : (upF lt l j)[k]? = l[k]? := by
  fun_induction upF lt l j with
  | case2 l j h0 x y hy hx hlt ih => rw [ih (by omega), swp_get hy hx, if_neg (by omega), if_neg (by omega)]
  | _ => rfl
theorem rm_last {l : LI} {i : Nat} {p : Nat × TAlarm} (h : l[i]? = some p) : ∃ q, rmF l i = q ++ [p] := by
  have hi := (List.getElem?_eq_some_iff.1 h).1
  have hlen : (rmF l i).length = l.length := (rm_perm l i).length_eq
  have hl : (rmF l i)[l.length - 1]? = some p := by
    unfold rmF fixF
    split
    · rename_i e; rw [← e]; exact h
    · rename_i e
      have hy : l[l.length - 1]? = some (l[l.length - 1]'(by omega)) := List.getElem?_eq_getElem (by omega)
      have hs : (swp l i (l.length - 1))[l.length - 1]? = some p := by rw [swp_get h hy, if_pos rfl]
      split
      · rw [downF_behind _ _ _ _ _ (Nat.le_refl _) (by omega)]; exact hs
      · rw [upF_behind _ _ _ _ (by omega), downF_behind _ _ _ _ _ (Nat.le_refl _) (by omega)]; exact hs
  have hne : rmF l i ≠ [] := fun e => by rw [e] at hlen; simp at hlen; omega
  refine ⟨(rmF l i).dropLast, ?_⟩
  have h2 : (rmF l i).getLast hne = p := by
    rw [List.getLast_eq_getElem]
    have := (List.getElem?_eq_some_iff.1 hl).2
    simp only [hlen]; exact this
  rw [← h2]; exact (List.dropLast_concat_getLast hne).symm
theorem Wh.del {l q : LI} {mm : List (Int × Option Nat)} {p : Nat × TAlarm} (W : Wh l mm) (h : (q ++ [p]).Perm l) : Wh q (mdel mm p.2.Id) := by
  have W' := W.perm h
  have hnd := W'.nd
  rw [List.map_append, List.nodup_append] at hnd
  refine ⟨hnd.1, nodup_mdel _ _ W.kd, fun id r => ?_, by have := W'.len; simp at this; omega⟩
  have hno : ∀ p' ∈ q, p'.2.Id ≠ p.2.Id := fun p' hp' => hnd.2.2 _ (List.mem_map.2 ⟨p', hp', rfl⟩) _ (by simp)
  rw [mget_mdel _ _ _ W.kd]
  split
  · rename_i e
    subst e
    constructor
    · intro hh; cases hh
    · rintro ⟨p', hp', h1, _⟩; exact absurd h1 (hno p' hp')
  · rename_i e
    rw [W'.ix]
    constructor
    · rintro ⟨p', hp', h1, h2⟩
      rcases List.mem_append.1 hp' with hp' | hp'
      · exact ⟨p', hp', h1, h2⟩
      · simp at hp'; subst hp'; exact absurd h1.symm e
    · rintro ⟨p', hp', h1⟩; exact ⟨p', by simp [hp'], h1⟩
theorem timer_Del.spc (b : Nat) (x : List TAlarm) (id : Int) (hid : InR .i64 id) : Spc Try.prog 12 [pt b, .int .i64 id] [] [Fld Kwhl b 0 x] (fun (_ : Unit) => .bool (delA x id).1) (fun _ => [Fld Kwhl b 0 (delA x id).2]) := by
  refine Spc.go Try.func12 rfl (by kernel_rfl) rfl rfl all_nil fun F a w h => ?_
  refine T.go h <| T.qr rfl <| T.a (o_assign rfl) <| T.d <| T.q <| T.qr rfl <| T.mv rfl <| T.a (o_call (timer_none.spc b x) rfl [] [0] (by decide) rfl rfl) <| T.d <| T.ff rfl (by decide) <| T.sk <| T.wo fun l mm r e W =>
    T.qr rfl <| T.mv rfl <| T.a (o_nilc rfl) <| T.a (fa rfl tw_f48_1) <| T.a (o_ldx (K := Kd.eq (.map (some r))) 2 rfl rfl X_eq tw_y46) <| T.mv rfl <|
    T.a (o_mget2 (Kk := Kd.int .i64) (Kv := Kd.adrz) (k := id) (z := none) 3 rfl rfl rfl (pv_int hid) tw_u46 (mkey_int t_u3) tw_zz51 (fun _ => ⟨_, rfl, rfl⟩) X_adrz) <| T.mv rfl <|
    T.a (o_extract rfl rfl) <| T.a (o_extract rfl rfl) <| T.a (o_assign rfl) <| T.a (o_assign rfl) <| T.d <| T.q <| T.qr rfl <| T.mv rfl <| T.d <| T.at fun h => ?_
  cases hg : mget mm id with
  | some q =>
    obtain ⟨p, hp, hpi, rfl⟩ := (W.ix id q).1 hg
    obtain ⟨i, hi, hpe⟩ := List.getElem_of_mem hp
    have hx : l[i]? = some p := by rw [List.getElem?_eq_getElem hi, hpe]
    obtain ⟨q, hq⟩ := rm_last hx
    have W2 := W.del (hq ▸ rm_perm l i)
    rw [hg] at h
    rw [hpi] at W2
    have e2 : delA x id = (true, q.map (·.2)) := by
      unfold delA
      rw [← e, ← hpi, findA_some W hx]
      dsimp only
      rw [← rm_map, hq]; simp
    rw [e2]
    refine T.go h <| T.tt rfl rfl <| T.qc (by kernel_rfl) t_mxo <| T.mv rfl <| T.a (o_nilc rfl) <| T.a (fa rfl tw_f48_0) <| T.a (o_ifc rfl (by kernel_rfl)) <| T.mv rfl <| T.a (o_nilc (ad := ⟨p.1, 0, none⟩) rfl) <| T.a (fa rfl tw_f54_1) <|
      T.a (o_lfb (K := Kitem) (y := ⟨p.2, (i : Int)⟩) 1 i rfl rfl (its_get hx) sitem_place rfl X_int t_y3) <|
      T.a (o_call (heap_Remove.spc b l i q p hi W.len hq) rfl [] [0, 1] (by decide) rfl rfl) <| T.d <|
      T.r rfl <| T.mv rfl <| T.a (o_nilc rfl) <| T.a (fa rfl tw_f48_1) <| T.a (o_ldx (K := Kd.eq (.map (some r))) 5 rfl rfl X_eq tw_y46) <| T.mv rfl <|
      T.z (o_mdel (Kk := Kd.int .i64) (Kv := Kd.adrz) (k := id) 6 rfl rfl rfl (pv_int hid) tw_u46 (mkey_int t_u3)) <| T.d <|
      T.wcr W2 [0, 1, 5, 6] <| T.qr rfl <| T.mv rfl <| T.a (o_assign rfl) <| T.d <| T.at fun h => ?_
    exact g_ret (vs := [.bool true]) h Try.func12 ⟨rfl, trivial⟩ ⟨(), rfl, h.mem⟩
  | none =>
    rw [hg] at h
    have hno : ∀ p ∈ l, p.2.Id ≠ id := fun p hp hpi => by
      have := (W.ix id (some p.1)).2 ⟨p, hp, hpi, rfl⟩
      rw [hg] at this; cases this
    have e2 : delA x id = (false, l.map (·.2)) := by
      unfold delA
      rw [← e, findA_none hno]
    rw [e2]
    refine T.go h <| T.ff rfl (by decide) <| T.sk <| T.wcr W [0, 1, 2, 3] <| T.qr rfl <| T.mv rfl <| T.a (o_assign rfl) <| T.d <| T.at fun h => ?_
    exact g_ret (vs := [.bool false]) h Try.func12 ⟨rfl, trivial⟩ ⟨(), rfl, h.mem⟩
def nextA (x : List TAlarm) : TAlarm × Bool := match x with
  | [] => (⟨0, 0⟩, false)
  | a :: _ => (a, true)
theorem timer_Next.spc (b : Nat) (x : List TAlarm) : Spc Try.prog 19 [pt b] [] [Fld Kwhl b 0 x] (fun (s : Value) => .tuple #[s, .bool (nextA x).2]) (fun s => [Val KAlarm s (nextA x).1, Fld Kwhl b 0 x]) := by
  refine Spc.go Try.func19 rfl (by kernel_rfl) rfl rfl all_nil fun F a w h => ?_
  refine T.go h <| T.qr rfl <| T.s (o_alloc (K := KAlarm) (z := .agg #[.int .i64 0, .int .i64 0]) rfl ZAlarm) fun c => T.a (o_assign rfl) <| T.d <| T.q <| T.qr rfl <| T.mv rfl <| T.a (o_call (timer_none.spc b x) rfl [] [1] (by decide) rfl rfl) <| T.mv rfl <|
    T.wo fun l mm r e W => T.unp 0 rfl fun v => T.ga rfl rfl rfl (o_move rfl) <| T.ga rfl rfl rfl (o_nilc rfl) <| T.ga rfl rfl rfl (fa rfl tw_f48_0) <| T.ga rfl rfl rfl (o_ldx (K := Kd.eq v) 0 rfl rfl X_eq tw_y45) <| T.ga rfl rfl rfl (o_ln rfl (rd_own 1 rfl) t_v45) <| T.ga rfl rfl rfl (o_bin rfl rfl rfl) <|
    T.a (o_pickF rfl rfl (by decide)) <| T.d <| T.at fun h => ?_
  cases l with
  | nil =>
    subst e
    refine T.go h <| T.tt rfl (by simp) <| T.qr rfl <| T.s (o_build (K := KAlarm) (x := (⟨0, 0⟩ : TAlarm)) (ps := []) rfl (zs := zsAlarm) rfl t_b28 rfl (show PB (Kd.pair (Kd.int .i64) (Kd.last (Kd.int .i64))) (0, 0) 0 zsAlarm _ _ from (pb_zero z_int (pb_lastz z_int)))) fun v2 =>
      T.z (o_st 6 rfl rfl rfl (pv_at PAlarm 0 rfl) rfl t_w28) <| T.a (o_assign rfl) <| T.d <| T.at fun h => ?_
    obtain ⟨v3, h, u1⟩ := h.peek 6 rfl PAlarm t_y28
    exact g_ret (vs := [v3, .bool false]) h Try.func19 ⟨⟨_, rfl, u1⟩, ⟨rfl, trivial⟩⟩ ⟨v3, rfl, by
      have h1 := Mem.wclose (L := [Val KAlarm v3 ⟨0, 0⟩]) W (h.mem.pick [2, 3, 4, 5, 6, 0] (by decide) rfl).pck
      exact h1.pick [1, 0] (by decide) rfl⟩
  | cons p l =>
    subst e
    refine T.go h <| T.ff rfl (by simp; omega) <| T.sk <| T.qr rfl <| T.mv rfl <| T.a (o_nilc rfl) <| T.a (fa rfl tw_f48_0) <| T.a (o_ldx (K := Kd.eq v) 0 rfl rfl X_eq tw_y45) <|
      T.a (o_ix rfl rfl (rd_own 1 rfl) (show idx ((p :: l).map (·.1)) 0 = some p.1 from rfl) t_v45) <| T.a (o_lex (i := 0) rfl (rd_own 1 rfl) (show idx ((p :: l).map (·.1)) 0 = some p.1 from rfl) X_adr tw_y51 (by decide)) <|
      T.a (o_nilc rfl) <| T.a (fa rfl t_f54_0) <| T.s (o_lfbv (K := Kitem) (y := ⟨p.2, ((0 : Nat) : Int)⟩) 2 0 rfl rfl (its_get (l := p :: l) rfl) sitem_Alarm rfl PAlarm t_y28) fun v2 =>
      T.z (o_st 6 rfl rfl rfl (pv_at PAlarm 0 rfl) rfl t_w28) <| T.a (o_assign rfl) <| T.d <| T.at fun h => ?_
    obtain ⟨v3, h, u1⟩ := h.peek 6 rfl PAlarm t_y28
    exact g_ret (vs := [v3, .bool true]) h Try.func19 ⟨⟨_, rfl, u1⟩, ⟨rfl, trivial⟩⟩ ⟨v3, rfl, by
      have h1 := Mem.wclose (L := [Val KAlarm v3 p.2]) W (h.mem.pick [2, 3, 4, 5, 6, 0] (by decide) rfl).pck
      exact h1.pick [1, 0] (by decide) rfl⟩
set_option maxRecDepth 100000
set_option maxHeartbeats 1000000
def srtR : Go.Shelf.Ren := ⟨fun x => match x with | 14 => 33 | 15 => 34 | 20 => 37 | 21 => 38 | 22 => 39 | 23 => 40 | 24 => 41 | 25 => 42 | 26 => 43 | 27 => 44 | 28 => 45 | 29 => 46 | 46 => 48 | 47 => 49 | 48 => 50 | 49 => 51 | 50 => 52 | 57 => 53 | n => n, fun x => match x with | 0 => 0 | 3 => 3 | 4 => 4 | 5 => 5 | 9 => 9 | 22 => 44 | 24 => 51 | 25 => 62 | 39 => 73 | 45 => 77 | 46 => 78 | 50 => 82 | 53 => 85 | 55 => 87 | 66 => 89 | 70 => 93 | 76 => 95 | 77 => 96 | n => n, fun x => x⟩
set_option maxRecDepth 1000000 in
theorem srtL : SlLaysF.n14 Try.prog srtR where
  mixed := by kernel_rfl
  f14 := ⟨Try.f33.name, by kernel_rfl, Try.func33.trans (congrArg some (by kernel_rfl))⟩
  f15 := Try.func34.trans (congrArg some (by kernel_rfl))
  f20 := ⟨Try.f37.name, by kernel_rfl, Try.func37.trans (congrArg some (by kernel_rfl))⟩
  f21 := ⟨Try.f38.name, by kernel_rfl, Try.func38.trans (congrArg some (by kernel_rfl))⟩
  f22 := ⟨Try.f39.name, by kernel_rfl, Try.func39.trans (congrArg some (by kernel_rfl))⟩
  f23 := ⟨Try.f40.name, by kernel_rfl, Try.func40.trans (congrArg some (by kernel_rfl))⟩
  f24 := ⟨Try.f41.name, by kernel_rfl, Try.func41.trans (congrArg some (by kernel_rfl))⟩
  f25 := ⟨Try.f42.name, by kernel_rfl, Try.func42.trans (congrArg some (by kernel_rfl))⟩
  f26 := ⟨Try.f43.name, by kernel_rfl, Try.func43.trans (congrArg some (by kernel_rfl))⟩
  f27 := ⟨Try.f44.name, by kernel_rfl, Try.func44.trans (congrArg some (by kernel_rfl))⟩
  f28 := Try.func45.trans (congrArg some (by kernel_rfl))
  f29 := Try.func46.trans (congrArg some (by kernel_rfl))
  f46 := ⟨Try.f48.name, by kernel_rfl, Try.func48.trans (congrArg some (by kernel_rfl))⟩
  f47 := Try.func49.trans (congrArg some (by kernel_rfl))
  f48 := Try.func50.trans (congrArg some (by kernel_rfl))
  f49 := ⟨Try.f51.name, by kernel_rfl, Try.func51.trans (congrArg some (by kernel_rfl))⟩
  f50 := ⟨Try.f52.name, by kernel_rfl, Try.func52.trans (congrArg some (by kernel_rfl))⟩
  f57 := ⟨Try.f53.name, by kernel_rfl, Try.func53.trans (congrArg some (by kernel_rfl))⟩
  t0 := Try.underlying0
  a0 := Try.isAgg0
  z0 := Try.sizeOf0
  v0 := Try.zeroValue0
  t3 := Try.underlying3
  a3 := Try.isAgg3
  z3 := Try.sizeOf3
  v3 := Try.zeroValue3
  t4 := Try.underlying4
  a4 := Try.isAgg4
  z4 := Try.sizeOf4
  v4 := Try.zeroValue4
  t5 := Try.underlying5
  a5 := Try.isAgg5
  z5 := Try.sizeOf5
  v5 := Try.zeroValue5
  t9 := Try.underlying9
  a9 := Try.isAgg9
  z9 := Try.sizeOf9
  v9 := Try.zeroValue9
  t22 := Try.underlying44
  a22 := Try.isAgg44
  z22 := Try.sizeOf44
  v22 := Try.zeroValue44
  a24 := Try.isAgg51
  z24 := Try.sizeOf51
  t25 := Try.underlying62
  a25 := Try.isAgg62
  z25 := Try.sizeOf62
  v25 := Try.zeroValue62
  t39 := Try.underlying73
  a39 := Try.isAgg73
  z39 := Try.sizeOf73
  v39 := Try.zeroValue73
  t45 := Try.underlying77
  a45 := Try.isAgg77
  z45 := Try.sizeOf77
  v45 := Try.zeroValue77
  t46 := Try.underlying78
  a46 := Try.isAgg78
  z46 := Try.sizeOf78
  v46 := Try.zeroValue78
  t50 := Try.underlying82
  a50 := Try.isAgg82
  z50 := Try.sizeOf82
  v50 := Try.zeroValue82
  t53 := Try.underlying85
  a53 := Try.isAgg85
  z53 := Try.sizeOf85
  v53 := Try.zeroValue85
  t55 := Try.underlying87
  a55 := Try.isAgg87
  z55 := Try.sizeOf87
  v55 := Try.zeroValue87
  t66 := Try.underlying89
  a66 := Try.isAgg89
  z66 := Try.sizeOf89
  v66 := Try.zeroValue89
  t70 := Try.underlying93
  a70 := Try.isAgg93
  z70 := Try.sizeOf93
  v70 := Try.zeroValue93
  t76 := Try.underlying95
  a76 := Try.isAgg95
  z76 := Try.sizeOf95
  v76 := Try.zeroValue95
  t77 := Try.underlying96
  a77 := Try.isAgg96
  z77 := Try.sizeOf96
  v77 := Try.zeroValue96
theorem hp_grow {w : World} {os : Array Obj} : (hp w).le (hp (Go.Sort.grow w os)) := fun b o c h => by
  have hb : b < w.heap.size := by
    by_cases hlt : b < w.heap.size
    · exact hlt
    · rw [hp_none (by omega)] at h; cases h
  have e : (Go.Sort.grow w os).heap[b]? = w.heap[b]? := by
    show (w.heap ++ os)[b]? = _
    rw [Array.getElem?_append_left hb]
  unfold hp at h ⊢
  rw [e]; exact h
theorem ok_grow {w : World} {os : Array Obj} : SL.Ok w (Go.Sort.grow w os) := ⟨rfl, rfl, rfl, by show _ ≤ (w.heap ++ os).size; simp, fun b hb => by
  show shp (w.heap ++ os)[b]? = _
  rw [Array.getElem?_append_left hb], Nat.le_refl _⟩
theorem grow_of {w0 w : World} (h : (hp w0).le (hp w)) (k : SL.Ok w0 w) : ∃ q os, w = Go.Sort.grow (w0.drewN q) os := by
  have hb := below_of h k
  have hd := k.drawn
  refine ⟨w.drawn - w0.drawn, w.heap.extract w0.heap.size w.heap.size, ?_⟩
  obtain ⟨heap, tape, drawn, os, out⟩ := w
  obtain ⟨heap0, tape0, drawn0, os0, out0⟩ := w0
  obtain ⟨e1, e2, e3, e4, e5⟩ := hb
  simp only at e1 e2 e3 e4 e5 hd
  subst e1 e2 e3
  simp only [Go.Sort.grow, World.drewN, World.mk.injEq, and_true, true_and]
  refine ⟨?_, by omega⟩
  apply Array.ext_getElem?
  intro i
  by_cases hi : i < heap0.size
  · rw [Array.getElem?_append_left hi, e5 i hi]
  · rw [Array.getElem?_append_right (by omega), Array.getElem?_extract]
    split
    · congr 1; omega
    · rw [Array.getElem?_eq_none (by omega)]
theorem hp_row {α : Type} [Inhabited α] {enc : α → Value} {w : World} {blk off : Nat} {d dk : Array α} (hH : Go.Sort.Holds enc w blk off d) (hs : dk.size = d.size) : hp (Go.Sort.putRow enc w blk off dk) = SL.fset (hp w) blk off (dk.toList.map enc) ∧ SL.Ok w (Go.Sort.putRow enc w blk off dk) := by
  have eh : ∀ b, (Go.Sort.putRow enc w blk off dk).heap[b]? = if blk = b then (w.heap[b]?).map (Go.Sort.onCells (Go.Sort.putCells enc off dk)) else w.heap[b]? := fun b => by
    show (w.heap.modify blk _)[b]? = _
    rw [Array.getElem?_modify]
  refine ⟨?_, rfl, rfl, rfl, by show _ ≤ (w.heap.modify blk _).size; simp, fun b hb => ?_, Nat.le_refl _⟩
  · funext b o
    by_cases hb : b = blk
    · subst hb
      have e := eh b
      rw [if_pos rfl] at e
      by_cases ho : off ≤ o ∧ o < off + dk.size
      · have hj := hH (o - off) (by omega)
        rw [show off + (o - off) = o by omega] at hj
        obtain ⟨fz, h1⟩ := hp_of_cell hj.1 rfl
        have h2 := (hp_cell h1).2
        rw [hj.2] at h2
        subst h2
        have er : SL.fset (hp w) b off (dk.toList.map enc) b o = some (.cell (enc dk[o - off]!) false) := by
          have hlt : o - off < dk.size := by omega
          unfold SL.fset
          rw [if_pos ⟨rfl, ho.1, by simpa using ho.2⟩]
          simp [hlt]
        rw [er]
        unfold hp at h1 ⊢
        rw [e]
        cases hx : w.heap[b]? with
        | none => rw [hx] at h1; cases h1
        | some x =>
          rw [hx] at h1
          cases x with
          | cells c t fr =>
            obtain ⟨lo, hi⟩ := fr
            simp only [Option.map_eq_some_iff, Ct.cell.injEq] at h1
            obtain ⟨v', g1, _, g2⟩ := h1
            simp only [Option.map_some, Go.Sort.onCells, Go.Sort.putCells, Array.getElem?_mapIdx, g1, if_pos ho, g2]
          | _ => dsimp only at h1; split at h1 <;> simp at h1
      · rw [fset_off (by simp; omega)]
        unfold hp
        rw [e]
        cases hx : w.heap[b]? with
        | none => rfl
        | some x =>
          cases x with
          | cells c t fr =>
            obtain ⟨lo, hi⟩ := fr
            simp only [Option.map_some, Go.Sort.onCells, Go.Sort.putCells, Array.getElem?_mapIdx, if_neg ho]
            cases c[o]? <;> rfl
          | _ => rfl
    · rw [fset_off fun h => hb h.1]
      unfold hp
      rw [eh, if_neg (Ne.symm hb)]
  · rw [eh]
    split
    · cases hx : w.heap[b]? with
      | none => rfl
      | some x =>
        cases x with
        | cells c t fr => simp [Go.Sort.onCells, Go.Sort.putCells, shp]
        | _ => rfl
    · rfl
theorem hp_drawn {w : World} {n : Nat} : hp (Go.Sort.ahead w n) = hp w := rfl
theorem ok_ahead {w : World} {n : Nat} : SL.Ok w (Go.Sort.ahead w n) := ⟨rfl, rfl, rfl, Nat.le_refl _, fun _ _ => rfl, Nat.le_add_right _ _⟩
/-- What a sort may make of a world. -/
theorem hp_sort {α : Type} [Inhabited α] {enc : α → Value} {w : World} {blk off n : Nat} {d dk : Array α} {os : Array Obj} (hH : Go.Sort.Holds enc w blk off d) (hs : dk.size = d.size) : (SL.fset (hp w) blk off (dk.toList.map enc)).le (hp (sortWorld enc w blk off n dk os)) ∧ SL.Ok w (sortWorld enc w blk off n dk os) := by
  have hH' : Go.Sort.Holds enc (Go.Sort.ahead w n) blk off d := hH
  obtain ⟨h1, h2⟩ := hp_row hH' hs
  refine ⟨?_, ok_ahead.trans (h2.trans ok_grow)⟩
  rw [← hp_drawn (n := n), ← h1]
  exact hp_grow
theorem o_less28 : ∀ args w, (callFunc 28 args).run Try.prog w = .ok (.enter 28 args) w := enters_of Try.func28 (by kernel_rfl) rfl
def cmpA (x y : TAlarm) : Int := if ltA x y = true then -1 else 1
theorem clos.spc (x y : Nat × TAlarm) (i j : Int) : Spc Try.prog 28 [pt x.1, pt y.1] [Pfl Kitem x.1 0 ⟨x.2, i⟩, Pfl Kitem y.1 0 ⟨y.2, j⟩] [] (fun (_ : Unit) => .int .i64 (cmpA x.2 y.2)) (fun _ => []) := by
  refine Spc.go Try.func28 rfl (by kernel_rfl) rfl rfl (all_cons Per_pfl (all_cons Per_pfl all_nil)) fun F a w h => ?_
  refine T.go h <| T.qr rfl <| T.a (o_assign rfl) <| T.d <| T.q <| T.qr rfl <| T.mv rfl <| T.mv rfl <| T.a (o_call (timer_item_less.spc x.1 ⟨x.2, i⟩ y.1 ⟨y.2, j⟩ _ (less_is _ _)) rfl [0, 1] [] (by decide) rfl rfl) <| T.d <| T.at fun h => ?_
  by_cases hl : ltA x.2 y.2 = true
  · refine T.go h <| T.tt rfl (by simpa using hl) <| T.qr rfl <| T.a (o_assign rfl) <| T.d <| T.at fun h => ?_
    have e : cmpA x.2 y.2 = -1 := by unfold cmpA; rw [if_pos hl]
    rw [e]
    exact g_ret (vs := [.int .i64 (-1)]) h Try.func28 ⟨rfl, trivial⟩ ⟨(), rfl, h.mem.pick [] (by decide) rfl⟩
  · refine T.go h <| T.ff rfl (by simpa using hl) <| T.sk <| T.qr rfl <| T.a (o_assign rfl) <| T.d <| T.at fun h => ?_
    have e : cmpA x.2 y.2 = 1 := by unfold cmpA; rw [if_neg hl]
    rw [e]
    exact g_ret (vs := [.int .i64 1]) h Try.func28 ⟨rfl, trivial⟩ ⟨(), rfl, h.mem.pick [] (by decide) rfl⟩
theorem ltA_irrefl (x : TAlarm) : ltA x x = false := by simp [ltA]
theorem ltA_trans {x y z : TAlarm} (h : ltA x y = true) (k : ltA y z = true) : ltA x z = true := by
  simp only [ltA, Bool.or_eq_true, Bool.and_eq_true, decide_eq_true_eq] at *; omega
theorem ltA_ntrans {x y z : TAlarm} (h : ltA x y = false) (k : ltA y z = false) : ltA x z = false := by
  simp only [ltA, Bool.or_eq_false_iff, Bool.and_eq_false_iff, decide_eq_false_iff_not] at *; omega
theorem ltA_eq {x y : TAlarm} (h : ltA x y = false) (k : ltA y x = false) : x = y := by
  cases x; cases y
  simp only [ltA, Bool.or_eq_false_iff, Bool.and_eq_false_iff, decide_eq_false_iff_not, TAlarm.mk.injEq] at *; omega
theorem cmpA_lt {α : Type} {f : α → TAlarm} : ltOf (fun x y : α => cmpA (f x) (f y)) = fun x y => ltA (f x) (f y) := by
  funext x y
  unfold ltOf
  dsimp only
  unfold cmpA
  split <;> simp_all
theorem swo_A {α : Type} {f : α → TAlarm} : Go.Sort.SWO (fun x y : α => ltA (f x) (f y)) := ⟨fun _ => ltA_irrefl _, fun _ _ _ => ltA_trans, fun _ _ _ => ltA_ntrans⟩
/-- A row's cells, of pointers. -/
theorem enc_adr {m : Frag} {xs : List Nat} {cs : List Value} (hl : cs.length = xs.length) (h : ∀ (i x : Nat), xs[i]? = some x → cs[i]? = some (pt x)) : Enc Kd.adr m xs cs := ⟨by rw [hl]; exact (Nat.mul_one _).symm, fun i x hx => by
  show (cs.drop (i * 1)).take 1 = [pt x]
  have := h i x hx
  rw [Nat.mul_one]
  obtain ⟨hi, e⟩ := List.getElem?_eq_some_iff.1 this
  rw [List.drop_eq_getElem_cons hi, e]; rfl⟩
theorem adr_at {m : Frag} {xs : List Nat} {cs : List Value} (h : Enc Kd.adr m xs cs) {i x : Nat} (hx : xs[i]? = some x) : cs[i]? = some (pt x) := by
  have h1 : (cs.drop (i * 1)).take 1 = [pt x] := h.at_ i x hx
  rw [Nat.mul_one] at h1
  have := congrArg (fun l => l[0]?) h1
  simpa [List.getElem?_drop, List.getElem?_take] using this
theorem pdq.spc (l : LI) (hl : l ≠ []) (hl2 : l.length ≤ 4096) (s : Value) (lim : Nat) (hlim : lim < 4611686018427387904) : Spc Try.prog 33 [s, .int .i64 0, .int .i64 (l.length : Int), .int .i64 (lim : Int), .func (.func 28) #[] #[]] [] [Val (Kd.osl Kd.adr) s (l.map (·.1)), Big (its l)] (fun (_ : LI) => .tuple #[]) (fun l' => [Ent.pur (l'.Perm l ∧ ∀ (i j : Nat) (x y : Nat × TAlarm), i < j → l'[i]? = some x → l'[j]? = some y → ltA y.2 x.2 = false), Val (Kd.osl Kd.adr) s (l'.map (·.1)), Big (its l)]) := by
  refine ⟨all_nil, ⟨_, Try.func33, by kernel_rfl, rfl⟩, fun F w hm => ?_⟩
  obtain ⟨m, φ, ⟨f1, f2, l1, l2, d12, hv, f3, f4, l3, l4, d34, hB, _⟩, hh, hp', hk⟩ := (show Mem F [Val (Kd.osl Kd.adr) s (l.map (·.1)), Big (its l)] w from hm)
  obtain ⟨ad, cap, rfl, hcap, hcm, hrow⟩ := Val_osl hv
  rcases hrow with ⟨rfl, rfl, hnil⟩ | ⟨b, o, all, rfl, hal, hcell, hE⟩
  · exact absurd (List.map_eq_nil_iff.1 hnil) hl
  have hal : all.length = cap := by rw [hal]; exact Nat.mul_one _
  have hE : Enc Kd.adr m (l.map (·.1)) (all.take l.length) := by
    have e : (l.map (·.1)).length * 1 = l.length := by simp
    have := hE
    rwa [show (l.map (·.1)).length * Kd.adr.n = l.length from e] at this
  have hcap : l.length ≤ cap := by simpa using hcap
  have x0 : Nat × TAlarm := l.head hl
  obtain ⟨x0, hx0⟩ : ∃ x, x ∈ l := ⟨l.head hl, List.head_mem hl⟩
  letI : Inhabited (Nat × TAlarm) := ⟨x0⟩
  obtain ⟨key, hkey⟩ : ∃ key : Nat × TAlarm → Nat × TAlarm, key = fun p => open Classical in if p ∈ l then p else x0 := ⟨_, rfl⟩
  have hk1 : ∀ p, key p ∈ l := fun p => by rw [hkey]; dsimp only; split <;> assumption
  have hk2 : ∀ p, p ∈ l → key p = p := fun p hp => by rw [hkey]; dsimp only; rw [if_pos hp]
  obtain ⟨enc, henc⟩ : ∃ enc : Nat × TAlarm → Value, enc = fun p => pt (key p).1 := ⟨_, rfl⟩
  have h1c : OneCell enc := fun x => by rw [henc]; rfl
  have hal2 : ∀ (j : Nat) (x : Nat × TAlarm), l[j]? = some x → all[j]? = some (pt x.1) := fun j x hx => by
    have := adr_at hE (i := j) (x := x.1) (by rw [List.getElem?_map, hx]; rfl)
    have hj := (List.getElem?_eq_some_iff.1 hx).1
    rwa [List.getElem?_take, if_pos hj] at this
  have hsz : l.toArray.size = l.length := List.size_toArray
  have hH : Go.Sort.Holds enc w b o l.toArray := fun j hj => by
    rw [hsz] at hj
    have hx : l[j]? = some l[j] := List.getElem?_eq_getElem hj
    have e : enc l.toArray[j]! = pt l[j].1 := by
      rw [henc]
      dsimp only
      rw [getElem!_pos _ _ (by simpa using hj), List.getElem_toArray, hk2 _ (List.getElem_mem hj)]
    rw [e]
    exact hp_cell (hh.l1 _ _ _ (l1 _ _ _ (hcell _ _ (hal2 j _ hx))))
  have hblk : b < w.heap.size := by
    by_cases hlt : b < w.heap.size
    · exact hlt
    · have := hh.l1 _ _ _ (l1 _ _ _ (hcell _ _ (hal2 0 _ (List.getElem?_eq_getElem (List.length_pos_iff.2 hl)))))
      rw [hp_none (by omega)] at this; cases this
  have hrown : ∀ j, j < l.length → φ b (o + j) ≠ none ∧ f1 b (o + j) ≠ none := fun j hj => by
    have := hcell _ _ (hal2 j _ (List.getElem?_eq_getElem hj))
    exact ⟨by rw [l1 _ _ _ this]; simp, by rw [this]; simp⟩
  have hm0 : ∀ j, j < l.length → m b (o + j) = none := fun j hj => (hh.d1 b (o + j)).resolve_left (hrown j hj).1
  have hfr0 : ∀ j, j < l.length → F.own b (o + j) = none := fun j hj => (hh.d2 b (o + j)).resolve_left (hrown j hj).1
  have hf20 : ∀ j, j < l.length → f2 b (o + j) = none := fun j hj => (d12 b (o + j)).resolve_left (hrown j hj).2
  obtain ⟨cf, hcf⟩ : ∃ cf : Nat × TAlarm → Nat × TAlarm → Int, cf = fun x y => cmpA (key x).2 (key y).2 := ⟨_, rfl⟩
  have hlt : ltOf cf = fun x y => ltA (key x).2 (key y).2 := by rw [hcf]; exact cmpA_lt (f := fun x : Nat × TAlarm => (key x).2)
  have hO : Go.Sort.SWO (ltOf cf) := by rw [hlt]; exact swo_A (f := fun x : Nat × TAlarm => (key x).2)
  have hdm2 : f2.dj m := hh.d1.mono l2 .rfl
  have hcmp : CmpLays1 Try.prog 28 #[] enc cf b o l.toArray.size w := fun n os dk hs x y => by
    obtain ⟨hw1, hw2⟩ := hp_sort (n := n) (os := os) hH hs
    obtain ⟨i, hi⟩ := List.mem_iff_getElem?.1 (hk1 x)
    obtain ⟨j, hj⟩ := List.mem_iff_getElem?.1 (hk1 y)
    have hle : (m.un f2).le (hp (sortWorld enc w b o n dk os)) := .trans (le_fset (Frag.un_le hh.l2 (l2.trans hh.l1)) fun k hk => by
      have hk : k < l.length := by simpa [hs, hsz] using hk
      show (m.un f2) b (o + k) = none
      unfold Frag.un
      rw [hm0 k hk, hf20 k hk]) hw1
    have hon : Own [Big (its l)] m f2 := ⟨f2, Frag.emp, .rfl, Frag.emp_le, Frag.dj_emp, (Big (its l)).mono .rfl l3 hB, trivial⟩
    have hown : Own [Pfl Kitem (key x).1 0 ⟨(key x).2, i⟩, Pfl Kitem (key y).1 0 ⟨(key y).2, j⟩] (m.un f2) Frag.emp := lent_cons (L := [Big (its l)]) (lent_big 0 i rfl (its_idx (idx_nat' hi))) (lent_cons (L := [Big (its l)]) (lent_big 0 j rfl (its_idx (idx_nat' hj))) lent_nil) m f2 hdm2 hon
    have hc := (clos.spc (key x) (key y) i j).run ⟨Frag.emp, hp (sortWorld enc w b o n dk os), sortWorld enc w b o n dk os⟩ (sortWorld enc w b o n dk os) ⟨hp (sortWorld enc w b o n dk os), Frag.emp, by simpa using hown.mono hle .rfl, ⟨Frag.emp_dj, Frag.emp_dj, Frag.dj_emp, Frag.emp_le, .rfl, Frag.emp_le⟩, .rfl, SL.Ok.refl _⟩
    have ea : #[enc x, enc y] ++ (#[] : Array Value) = #[pt (key x).1, pt (key y).1] := by rw [henc]; rfl
    rw [ea]
    refine hc.mono ?_
    rintro e w' ⟨_, he, m', φ', _, hh', hp'', hk'⟩
    refine ⟨by rw [he, hcf], ?_⟩
    obtain ⟨q, os', hg⟩ := grow_of (hp''.trans hh'.l2) hk'
    exact ⟨q, os', hg⟩
  have hrun := Any.pdqsortCmpFunc_all srtL enc cf 28 #[] hO b o cap l.toArray w o_less28 hcmp ⟨h1c, hH, hblk⟩ (l.toArray.size + 1) 0 l.toArray.size lim l.toArray w (by omega) rfl (SW.start hH) (Nat.zero_le _) (Nat.le_refl _) (by rw [hsz]; omega) hlim (Or.inl rfl)
  have hsort := Go.Sort.pdq_sorts (ltOf cf) hO l.toArray 0 l.toArray.size lim true true (Nat.zero_le _) (Nat.le_refl _) (Or.inl rfl)
  have ea : [Value.slice (some ⟨b, o, none⟩) (l.map (·.1)).length cap, .int .i64 0, .int .i64 (l.length : Int), .int .i64 (lim : Int), .func (.func 28) #[] #[]].toArray = #[.slice (some ⟨b, o, none⟩) l.toArray.size cap, .int .i64 ((0 : Nat) : Int), .int .i64 (l.toArray.size : Int), .int .i64 (lim : Int), .func (.func 28) #[] #[]] := by
    rw [List.length_map, hsz]; rfl
  rw [ea]
  refine hrun.mono ?_
  generalize Go.Sort.pdq (ltOf cf) l.toArray 0 l.toArray.size lim true true = d' at hsort ⊢
  rintro e w' ⟨rfl, n, os, rfl⟩
  obtain ⟨⟨hs, _, hper⟩, hsrt⟩ := hsort
  have hs' : d'.size = l.length := hs.trans hsz
  have hper' : d'.toList.Perm l := by
    have e1 : (d'.extract 0 l.toArray.size) = d' := by rw [← hs]; exact Array.extract_size
    have e2 : (l.toArray.extract 0 l.toArray.size).toList = l := by rw [Array.extract_size]
    rw [e1, e2] at hper
    exact hper
  obtain ⟨hw1, hw2⟩ := hp_sort (n := n) (os := os) hH hs
  have hvl : (d'.toList.map enc).length = l.length := by simp [hs']
  have hvl' : ∀ j, j < (d'.toList.map enc).length → j < l.length := fun j hj => by rwa [hvl] at hj
  refine ⟨d'.toList, rfl, m, SL.fset φ b o (d'.toList.map enc), ⟨Frag.emp, SL.fset φ b o (d'.toList.map enc), Frag.emp_le, .rfl, Frag.emp_dj, ⟨hper', ?_⟩, SL.fset f1 b o (d'.toList.map enc), f2, fset_mono l1, le_fset l2 fun j hj => hf20 j (hvl' j hj), (dj_fset d12.symm fun j hj => hf20 j (hvl' j hj)).symm, ?_, f3, f4, l3, l4, d34, hB, trivial⟩, ⟨(dj_fset hh.d1.symm fun j hj => hm0 j (hvl' j hj)).symm, (dj_fset hh.d2.symm fun j hj => hfr0 j (hvl' j hj)).symm, hh.d3, (fset_mono hh.l1).trans hw1, (le_fset hh.l2 fun j hj => hm0 j (hvl' j hj)).trans hw1, (le_fset hh.l3 fun j hj => hfr0 j (hvl' j hj)).trans hw1⟩, hp', hk.trans hw2⟩
  · intro i j x y hij hx hy
    have hi := (List.getElem?_eq_some_iff.1 hx)
    have hj := (List.getElem?_eq_some_iff.1 hy)
    obtain ⟨hi1, hi2⟩ := hi
    obtain ⟨hj1, hj2⟩ := hj
    have := hsrt i j (Nat.zero_le _) hij (by rw [hsz, ← hs']; simpa using hj1)
    rw [hlt] at this
    dsimp only at this
    rw [getElem!_pos _ _ (by simpa using hj1), getElem!_pos _ _ (by simpa using hi1)] at this
    rw [show d'[i]'(by simpa using hi1) = x from hi2, show d'[j]'(by simpa using hj1) = y from hj2] at this
    rwa [hk2 _ (hper'.mem_iff.1 (List.mem_of_getElem? hx)), hk2 _ (hper'.mem_iff.1 (List.mem_of_getElem? hy))] at this
  · refine ⟨[_], ⟨_, cap, rfl, ?_, hcm, .inr ⟨b, o, d'.toList.map enc ++ all.drop l.length, rfl, ?_, fun j c hj => ?_, ?_⟩⟩, ?_⟩
    · simpa [hs'] using hcap
    · show _ = cap * 1
      simp [hs', hal]; omega
    · by_cases hjl : j < l.length
      · rw [List.getElem?_append_left (by rw [hvl]; exact hjl)] at hj
        exact fset_at hj
      · rw [List.getElem?_append_right (by rw [hvl]; omega), hvl, List.getElem?_drop, show l.length + (j - l.length) = j by omega] at hj
        rw [fset_off (by rw [hvl]; omega)]
        exact hcell j c hj
    · have e : (d'.toList.map (·.1)).length * Kd.adr.n = (d'.toList.map enc).length := by show _ * 1 = _; simp
      rw [e, List.take_left]
      refine enc_adr (by simp) fun i x hx => ?_
      rw [List.getElem?_map] at hx ⊢
      cases hd : d'.toList[i]? with
      | none => rw [hd] at hx; cases hx
      | some p =>
        rw [hd] at hx
        simp only [Option.map_some, Option.some.injEq] at hx ⊢
        rw [henc]
        dsimp only
        rw [hk2 _ (hper'.mem_iff.1 (List.mem_of_getElem? hd)), hx]
    · show Value.slice _ _ _ = Value.slice _ _ _
      simp [hs']
set_option maxRecDepth 100000
set_option maxHeartbeats 1000000
theorem ins0.spc (s v : Value) : Spc Try.prog 37 [s, .int .i64 0, .int .i64 0, v] [] [] (fun (_ : Unit) => .tuple #[]) (fun _ => []) := by
  refine Spc.go Try.func37 rfl (by kernel_rfl) rfl rfl all_nil fun F a w h => ?_
  refine T.go h <| T.qr rfl <| T.mv rfl <| T.a (o_bin rfl rfl rfl) <| T.a (o_assign rfl) <| T.d <| T.bl <| T.at fun h => Go.loop ?_
  refine T.go h <| T.q <| T.qr rfl <| T.mv rfl <| T.mv rfl <| T.a (o_bin rfl rfl rfl) <| T.d <| T.ff rfl (by decide) <| T.ex rfl <| T.at fun h => ?_
  exact g_fin (vs := []) h Try.func37 trivial ⟨(), rfl, h.mem⟩
theorem pdq0.spc (s v : Value) (lim : Nat) : Spc Try.prog 33 [s, .int .i64 0, .int .i64 0, .int .i64 (lim : Int), v] [] [] (fun (_ : Unit) => .tuple #[]) (fun _ => []) := by
  refine Spc.go Try.func33 rfl (by kernel_rfl) rfl rfl all_nil fun F a w h => ?_
  refine T.go h <| T.qr rfl <| T.a (o_assign rfl) <| T.d <| T.qr rfl <| T.a (o_assign rfl) <| T.d <| T.bl <| T.at fun h => Go.loop ?_
  refine T.go h <| T.bl <| T.qr rfl <| T.mv rfl <| T.mv rfl <| T.a (o_bin rfl rfl rfl) <| T.a (o_assign rfl) <| T.d <| T.q <| T.qr rfl <| T.mv rfl <| T.a (o_bin rfl rfl rfl) <| T.d <| T.tt rfl (by decide) <|
    T.qr rfl <| T.mv rfl <| T.mv rfl <| T.mv rfl <| T.mv rfl <| T.a (o_call (ins0.spc s v) rfl [] [] (by decide) rfl rfl) <| T.d <| T.at fun h => ?_
  exact g_ret (vs := []) h Try.func33 trivial ⟨(), rfl, h.mem⟩
theorem bits_Len.spc (x : Nat) (hx : x ≤ 4096) : Spc Try.prog 34 [.int .u64 (x : Int)] [] [] (fun (_ : Unit) => .int .i64 (Go.Lib.bitLen x : Nat)) (fun _ => []) := by
  refine ⟨all_nil, ⟨_, Try.func34, by kernel_rfl, rfl⟩, fun F w hm => ?_⟩
  have h := Any.bits_Len (SlLaysF0.n15.bits (P := Try.prog) (ρ := srtR) { srtL with }) (x : Int) w (by omega) (by omega)
  rw [Int.toNat_natCast] at h
  exact h.mono fun e w' ⟨h1, h2⟩ => ⟨(), h1, h2 ▸ hm⟩
theorem o_conv' {P : Program} {E : List (Nat × Value)} {L : List Ent} {d : Option Tmp} {ty : TypeId} {pos : String} {aft : Array Edge} {g : Option (Nat × Bool)} {s t : TypeId} {x : Operand} {k k' : IntKind} {p q : Int} (hx : opv E x = some (.int k p)) (hs : (P.underlying s).isSome = true) (ht : P.underlying t = some (.int k')) (he : k'.wrap p = q) : OpS (σ := Unit) P E L ⟨d, .convert s t x, ty, pos, aft, g⟩ (fun _ => .int k' q) (fun _ => L) := he ▸ o_conv hx hs ht
theorem wrap_u64 {n : Nat} (h : n ≤ 4096) : IntKind.u64.wrap (n : Int) = n := by simp [IntKind.wrap, IntKind.bits, IntKind.signed]; omega
theorem bl_len {n : Nat} (h : n ≤ 4096) : Go.Lib.bitLen n < 4611686018427387904 := Nat.lt_of_le_of_lt (Go.Lib.bitLen_le n 62 (by omega) (by omega)) (by omega)
abbrev Srt (l l' : LI) : Prop := l'.Perm l ∧ ∀ (i j : Nat) (x y : Nat × TAlarm), i < j → l'[i]? = some x → l'[j]? = some y → ltA y.2 x.2 = false
theorem sort.spc (l : LI) (hl2 : l.length ≤ 4096) (s : Value) : Spc Try.prog 27 [s, .func (.func 28) #[] #[]] [] [Val (Kd.osl Kd.adr) s (l.map (·.1)), Big (its l)] (fun (_ : LI) => .tuple #[]) (fun l' => [Ent.pur (Srt l l'), Val (Kd.osl Kd.adr) s (l'.map (·.1)), Big (its l)]) := by
  refine Spc.go Try.func27 rfl (by kernel_rfl) rfl rfl all_nil fun F a w h => ?_
  refine T.go h <| T.qr rfl <| T.mv rfl <| T.a (o_ln rfl (rd_own 0 rfl) t_v45) <| T.a (o_assign' (v' := .int .i64 (l.length : Int)) rfl (by rw [List.length_map])) <| T.d <| T.at fun h => ?_
  by_cases hl : l = []
  · subst hl
    refine T.go h <| T.r rfl <| T.mv rfl <| T.mv rfl <| T.mv rfl <| T.a (o_conv' rfl (by kernel_rfl) Try.underlying73 (wrap_u64 (n := 0) (by omega))) <| T.a (o_call (bits_Len.spc 0 (by omega)) rfl [] [] (by decide) rfl rfl) <| T.mv rfl <|
      T.a (o_call (pdq0.spc s (.func (.func 28) #[] #[]) (Go.Lib.bitLen 0)) rfl [] [] (by decide) rfl rfl) <| T.d <| T.at fun h => ?_
    exact g_fin (vs := []) h Try.func27 trivial ⟨[], rfl, (h.mem.pick [0, 1] (by decide) rfl).addpur ⟨.rfl, fun i j x y _ h => by simp at h⟩⟩
  · refine T.go h <| T.r rfl <| T.mv rfl <| T.mv rfl <| T.mv rfl <| T.a (o_conv' rfl (by kernel_rfl) Try.underlying73 (wrap_u64 hl2)) <| T.a (o_call (bits_Len.spc l.length hl2) rfl [] [] (by decide) rfl rfl) <| T.mv rfl <|
      T.s (o_call (pdq.spc l hl hl2 s (Go.Lib.bitLen l.length) (bl_len hl2)) rfl [] [0, 1] (by decide) rfl rfl) fun l' => T.d <| T.at fun h => ?_
    exact g_fin (vs := []) h Try.func27 trivial ⟨l', rfl, h.mem.pick [0, 1, 2] (by decide) rfl⟩
def allA (x : List TAlarm) : List TAlarm := x.mergeSort (fun a b => !ltA b a)
theorem srt_all {l l' : LI} (h : Srt l l') : l'.map (·.2) = allA (l.map (·.2)) := by
  have hp : (l'.map (·.2)).Perm (l.map (·.2)) := h.1.map _
  refine List.Perm.eq_of_pairwise (le := fun a b => ltA b a = false) (fun a b _ _ h1 h2 => ltA_eq h2 h1) ?_ ?_ (hp.trans (List.mergeSort_perm _ _).symm)
  · rw [List.pairwise_iff_getElem]
    intro i j hi hj hij
    have hi' : i < l'.length := by simpa using hi
    have hj' : j < l'.length := by simpa using hj
    have := h.2 i j _ _ hij (List.getElem?_eq_getElem hi') (List.getElem?_eq_getElem hj')
    simpa using this
  · have := List.pairwise_mergeSort (le := fun a b => !ltA b a) (fun a b c h1 h2 => by
      simp only [Bool.not_eq_true'] at *
      exact ltA_ntrans h2 h1) (fun a b => by
      cases h1 : ltA b a with
      | false => rfl
      | true =>
        cases h2 : ltA a b with
        | false => simp
        | true => have := ltA_trans h1 h2; rw [ltA_irrefl] at this; cases this) (l.map (·.2))
    exact this.imp fun h => by simpa using h
theorem cl_adr : Kd.adr.Cl := fun _ _ _ _ h => h
theorem clone_is {xs : List Nat} (h : xs.length ≤ 4096) : slices_Clone_timer_items_timer_item.f xs = some xs := by
  unfold slices_Clone_timer_items_timer_item.f app
  rw [if_pos (by simp; omega)]; rfl
theorem step_is {i : Nat} (h : i ≤ 1000000) : IntKind.i64.wrap ((i : Int) + 1) = ((i + 1 : Nat) : Int) := by
  simp [IntKind.wrap, IntKind.bits, IntKind.signed]; omega
theorem timer_All.spc (b : Nat) (x : List TAlarm) : Spc Try.prog 14 [pt b] [] [Fld Kwhl b 0 x] (fun (s : Value) => s) (fun s => [Val (Kd.osl KAlarm) s (allA x), Fld Kwhl b 0 x]) := by
  refine Spc.go Try.func14 rfl (by kernel_rfl) rfl rfl all_nil fun F a w h => ?_
  refine T.go h <| T.qr rfl <| T.a (o_assign rfl) <| T.d <| T.q <| T.qr rfl <| T.mv rfl <| T.a (o_call (timer_none.spc b x) rfl [] [0] (by decide) rfl rfl) <| T.d <| T.ff rfl (by decide) <| T.sk <|
    T.wo fun l mm r e W => T.unp 0 rfl fun v => T.qr rfl <| T.mv rfl <| T.a (o_nilc rfl) <| T.a (fa rfl tw_f48_0) <| T.a (o_ldx (K := Kd.eq v) 0 rfl rfl X_eq tw_y45) <|
    T.s (OpS.lend (Lp := [Val (Kd.sl Kd.adr) v (l.map (·.1))]) (lent_cons (lent_own 1 rfl) lent_nil) (o_call (slices_Clone_timer_items_timer_item.spc v (l.map (·.1)) (l.map (·.1)) (clone_is (by simpa using W.len))) rfl [0] [] (by decide) rfl rfl) (fun s => clo_cons (cl_val (cl_osl cl_adr)) clo_nil)) fun s => T.a (o_assign rfl) <| T.d <|
    T.qr rfl <| T.mv rfl <| T.s (o_call (sort.spc l W.len s) rfl [] [0, 3] (by decide) rfl rfl) fun l' => T.d <| T.u (fun m => m.pur 0 rfl) fun hs => T.qr rfl <| T.a (o_assign rfl) <| T.d <| T.mm (fun m => m.nilo KAlarm) <| T.q <| T.qr rfl <| T.mv rfl <|
    T.a (o_ln rfl (rd_own 2 rfl) t_v45) <| T.mv rfl <| T.d <| T.at fun h => ?_
  have hs : Srt l l' := hs
  have hl' : l'.length ≤ 4096 := by rw [hs.1.length_eq]; exact W.len
  refine g_cut (fun G => ∀ (u : Value) (a : Act) (w : World), St Try.f14.ntmps F [(4, u)] [Val (Kd.osl KAlarm) u (l'.map (·.2)), Val (Kd.osl Kd.adr) s (l'.map (·.1)), Big (its l), Fld (Kd.eq v) b 0 (), Val (Kd.osl Kd.adr) v (l.map (·.1)), Fld (Kd.eq (.map (some r))) b 1 (), Val Kmap (.map (some r)) mm] a w → G a w) 1 ?_ fun J2 => ?_
  · intro u a w h
    refine T.go h <| T.qr rfl <| T.mv rfl <| T.a (o_assign rfl) <| T.d <| T.at fun h => ?_
    have h1 := Mem.wclose (L := [Val (Kd.osl KAlarm) u (l'.map (·.2))]) W (h.mem.pick [3, 4, 2, 5, 6, 0] (by decide) rfl).pck
    have e3 : l'.map (·.2) = allA x := by rw [srt_all hs, e]
    rw [e, e3] at h1
    exact g_ret (vs := [u]) h Try.func14 ⟨rfl, trivial⟩ ⟨u, rfl, h1.pick [1, 0] (by decide) rfl⟩
  refine T.go h <| T.bl <| T.at fun h => Go.loop ?_
  refine g_cut (fun G => ∀ (k i : Nat) (u : Value) (a : Act) (w : World), k = l'.length - i → i ≤ l'.length → St Try.f14.ntmps F [(4, u), (16, s), (17, .int .i64 ((l'.map (·.1)).length : Int)), (18, .int .i64 (i : Int))] [Val (Kd.osl KAlarm) u ((l'.take i).map (·.2)), Val (Kd.osl Kd.adr) s (l'.map (·.1)), Big (its l), Fld (Kd.eq v) b 0 (), Val (Kd.osl Kd.adr) v (l.map (·.1)), Fld (Kd.eq (.map (some r))) b 1 (), Val Kmap (.map (some r)) mm] a w → G a w) 0 ?_ fun J => J _ 0 _ _ _ rfl (Nat.zero_le _) (h.wr [0, 2, 3, 5, 6, 8, 9])
  intro k
  induction k with
  | zero =>
    intro i u a w hk hi h
    have hil : i = l'.length := by omega
    subst hil
    rw [List.take_length] at h
    refine T.go h <| T.qr rfl <| T.a (o_bin rfl rfl rfl) <| T.d <| T.q <| T.ff rfl (by simp) <| T.ex rfl <| T.at fun h => J2 u _ _ (h.wr [0, 1, 2, 3, 4, 5, 6])
  | succ k ih =>
    intro i u a w hk hi h
    have hi' : i < l'.length := by omega
    have hx : l'[i]? = some l'[i] := List.getElem?_eq_getElem hi'
    generalize hxe : l'[i] = p at hx
    have hx1 : idx (l'.map (·.1)) (i : Int) = some p.1 := idx_nat' (by rw [List.getElem?_map, hx]; rfl)
    obtain ⟨j, hj⟩ := List.mem_iff_getElem?.1 (hs.1.mem_iff.1 (List.mem_of_getElem? hx))
    have ex : app ((l'.take i).map (·.2)) [p.2] = some ((l'.take (i + 1)).map (·.2)) := by
      unfold app
      rw [if_pos (by simp; omega), List.take_add_one, hx, List.map_append]; rfl
    refine T.go h <| T.qr rfl <| T.a (o_bin rfl rfl rfl) <| T.d <| T.q <| T.tt rfl (by simpa using hi') <| T.sk <| T.q <| T.bl <|
      T.qr rfl <| T.a (o_ix rfl rfl (rd_own 1 rfl) hx1 t_v45) <| T.a (o_lex rfl (rd_own 1 rfl) hx1 X_adr tw_y51 (by decide)) <| T.a (o_assign rfl) <| T.d <|
      T.r rfl <| T.mv rfl <| T.mv rfl <| T.a (o_nilc rfl) <| T.a (fa rfl t_f54_0) <| T.s (o_lfbv (K := Kitem) (y := ⟨p.2, (j : Int)⟩) 2 j rfl rfl (its_get hj) sitem_Alarm rfl PAlarm t_y28) fun v26 =>
      T.s (o_bs (K := KAlarm) (vs := [v26]) (xs := [p.2]) rfl rfl (pvs_cons (pv_at PAlarm 0 rfl) pvs_nil) t_a22 (by decide) (by decide)) fun v27 =>
      T.s (o_app (K := KAlarm) 2 rfl rfl rfl (rd_own 0 rfl) ex t_a22 t_n22) fun v28 => T.a (o_assign rfl) <| T.d <| T.ib <|
      T.r rfl <| T.a (o_bin rfl rfl rfl) <| T.a (o_move' rfl (congrArg (Value.int .i64) (step_is (i := i) (by omega)))) <| T.d <| T.at fun h => ?_
    exact Go.inLoop (ih (i + 1) v28 _ _ (by omega) (by omega) (h.wr [2, 3, 4, 5, 6, 7, 8]))
set_option maxRecDepth 100000
set_option maxHeartbeats 1000000
theorem zip_snd (x : List TAlarm) : (x.map fun a => ((0 : Nat), a)).map (·.2) = x := by rw [List.map_map]; exact List.map_id x
theorem rmA_perm (x : List TAlarm) (i : Nat) : (rmA x i).Perm x := by
  have h := (rm_perm (x.map fun a => (0, a)) i).map (·.2)
  rwa [rm_map, zip_snd] at h
theorem findA_head (a : TAlarm) (t : List TAlarm) : findA (a :: t) a.Id = some 0 := by simp [findA, List.findIdx?_cons]
theorem del_head (a : TAlarm) (t : List TAlarm) : delA (a :: t) a.Id = (true, (rmA (a :: t) 0).dropLast) := by unfold delA; rw [findA_head]
theorem del_head_len (a : TAlarm) (t : List TAlarm) : (delA (a :: t) a.Id).2.length = t.length := by
  rw [del_head, List.length_dropLast, (rmA_perm _ _).length_eq]; rfl
/-- What is due, and what stays. -/
def dueA : Nat → List TAlarm → Int → List TAlarm × List TAlarm
  | 0, x, _ => ([], x)
  | _ + 1, [], _ => ([], [])
  | n + 1, a :: t, now => if a.At ≤ now then (a :: (dueA n (delA (a :: t) a.Id).2 now).1, (dueA n (delA (a :: t) a.Id).2 now).2) else ([], a :: t)
theorem Mem.whl {F : Fr} {w : World} {L : List Ent} {b : Nat} {x : List TAlarm} (i : Nat) (hi : L[i]? = some (Fld Kwhl b 0 x)) (h : Mem F L w) : x.length ≤ 4096 := by
  obtain ⟨m, φ, _, _, cs, g1, g2, _, _, _, _, l, mm, v1, v2, _, _, _, rfl, W, _⟩ := h.get hi
  simpa using W.len
theorem timer_Due.spc (b : Nat) (x : List TAlarm) (now : Int) : Spc Try.prog 10 [pt b, .int .i64 now] [] [Fld Kwhl b 0 x] (fun (s : Value) => s) (fun s => [Val (Kd.osl KAlarm) s (dueA x.length x now).1, Fld Kwhl b 0 (dueA x.length x now).2]) := by
  refine Spc.go Try.func10 rfl (by kernel_rfl) rfl rfl all_nil fun F a w h => ?_
  refine T.go h <| T.qr rfl <| T.a (o_assign rfl) <| T.d <| T.qr rfl <| T.a (o_assign rfl) <| T.d <| T.mm (fun m => m.nilo KAlarm) <| T.q <| T.qr rfl <| T.mv rfl <| T.s (o_call (timer_Next.spc b x) rfl [] [1] (by decide) rfl rfl) fun s => T.mv rfl <|
    T.a (o_extract rfl rfl) <| T.a (o_extract rfl rfl) <| T.s (o_alloc (K := KAlarm) (z := .agg #[.int .i64 0, .int .i64 0]) rfl ZAlarm) fun c => T.z (o_st 0 rfl rfl rfl (pv_at PAlarm 1 rfl) rfl t_w28) <| T.a (o_assign rfl) <| T.d <| T.at fun h => ?_
  refine g_cut (fun G => ∀ (u : Value) (a : Act) (w : World), St Try.f10.ntmps F [(5, u)] [Val (Kd.osl KAlarm) u (dueA x.length x now).1, Fld Kwhl b 0 (dueA x.length x now).2] a w → G a w) 1 ?_ fun J2 => ?_
  · intro u a w h
    refine T.go h <| T.qr rfl <| T.mv rfl <| T.a (o_assign rfl) <| T.d <| T.at fun h => ?_
    exact g_ret (vs := [u]) h Try.func10 ⟨rfl, trivial⟩ ⟨u, rfl, h.mem⟩
  refine T.go h <| T.bl <| T.at fun h => Go.loop ?_
  have hx0 := Mem.whl 2 rfl h.mem
  refine g_cut (fun G => ∀ (k : Nat) (y out : List TAlarm) (c : Nat) (u : Value) (a : Act) (w : World), k = y.length → out.length + y.length ≤ 4096 → (dueA x.length x now) = (out ++ (dueA k y now).1, (dueA k y now).2) → St Try.f10.ntmps F [(0, pt b), (1, .int .i64 now), (5, u), (6, pt c), (7, .bool (nextA y).2)] [Val (Kd.osl KAlarm) u out, Fld KAlarm c 0 (nextA y).1, Fld Kwhl b 0 y] a w → G a w) 0 ?_ fun J => J _ x [] c _ _ _ rfl (by simpa using hx0) rfl (h.wr [3, 0, 2])
  intro k
  induction k with
  | zero =>
    intro y out c u a w hk hl hd h
    obtain rfl : y = [] := List.eq_nil_of_length_eq_zero hk.symm
    refine T.go h <| T.q <| T.qr rfl <| T.mv rfl <| T.mv rfl <| T.gk rfl rfl rfl <| T.gk rfl rfl rfl <| T.gk rfl rfl rfl <| T.gk rfl rfl rfl <| T.a (o_pickF rfl rfl (by decide)) <| T.d <| T.ff rfl (by decide) <| T.ex rfl <| T.at fun h => J2 u _ _ ?_
    rw [hd]
    have e : out ++ (dueA 0 [] now).1 = out := List.append_nil _
    rw [e]
    exact h.wr [0, 2]
  | succ k ih =>
    intro y out c u a w hk hl hd h
    cases y with
    | nil => cases hk
    | cons p t =>
      have hp : (nextA (p :: t)).1 = p := rfl
      refine T.go h <| T.q <| T.qr rfl <| T.mv rfl <| T.mv rfl <| T.ga rfl rfl rfl (fa rfl t_f28_0) <| T.ga rfl rfl rfl (o_lfx (K := KAlarm) (y := p) 1 rfl rfl sAlarm_At rfl X_int t_y3) <| T.ga rfl rfl rfl (o_move rfl) <| T.ga rfl rfl rfl (o_bin rfl rfl rfl) <| T.a (o_pickT rfl rfl rfl) <| T.d <| T.at fun h => ?_
      by_cases hle : p.At ≤ now
      · have hdl := del_head_len p t
        have hd2 : dueA (k + 1) (p :: t) now = (p :: (dueA k (delA (p :: t) p.Id).2 now).1, (dueA k (delA (p :: t) p.Id).2 now).2) := by
          show (if p.At ≤ now then _ else _) = _
          rw [if_pos hle]
        have hl' : out.length + (t.length + 1) ≤ 4096 := by simpa using hl
        have ex : app out [p] = some (out ++ [p]) := by unfold app; rw [if_pos (by simp; omega)]
        have hid : InR .i64 p.Id := in2 (fd_sub (y := p) sAlarm_Id 1 rfl h.mem)
        refine T.go h <| T.tt rfl (by simpa using hle) <| T.sk <| T.q <| T.bl <| T.qr rfl <| T.mv rfl <| T.s (o_ldv (K := KAlarm) (y := p) 1 rfl rfl PAlarm t_y28) fun v26 =>
          T.s (o_bs (K := KAlarm) (vs := [v26]) (xs := [p]) rfl rfl (pvs_cons (pv_at PAlarm 0 rfl) pvs_nil) t_a22 (by decide) (by decide)) fun v27 => T.s (o_app (K := KAlarm) 2 rfl rfl rfl (rd_own 0 rfl) ex t_a22 t_n22) fun v28 => T.a (o_assign rfl) <| T.d <|
          T.r rfl <| T.mv rfl <| T.a (fa rfl t_f28_1) <| T.a (o_lfx (K := KAlarm) (y := p) 3 rfl rfl sAlarm_Id rfl X_int t_y3) <| T.a (o_call (timer_Del.spc b (p :: t) p.Id hid) rfl [] [4] (by decide) rfl rfl) <| T.d <| T.ib <|
          T.q <| T.qr rfl <| T.s (o_ldv (K := KAlarm) (y := p) 4 rfl rfl PAlarm t_y28) fun v33 => T.d <| T.r rfl <| T.s (o_alloc (K := KAlarm) (z := .agg #[.int .i64 0, .int .i64 0]) rfl ZAlarm) fun c2 => T.z (o_st 0 rfl rfl rfl (pv_at PAlarm 1 rfl) rfl t_w28) <| T.d <|
          T.r rfl <| T.mv rfl <| T.s (o_call (timer_Next.spc b (delA (p :: t) p.Id).2) rfl [] [2] (by decide) rfl rfl) fun s2 => T.mv rfl <| T.a (o_extract rfl rfl) <| T.a (o_extract rfl rfl) <| T.z (o_st 2 rfl rfl rfl (pv_at PAlarm 0 rfl) rfl t_w28) <| T.a (o_assign rfl) <| T.d <| T.at fun h => ?_
        refine Go.inLoop (ih (delA (p :: t) p.Id).2 (out ++ [p]) c2 v28 _ _ ?_ ?_ ?_ (h.wr [7, 2, 1]))
        · rw [hdl]; simpa using hk
        · rw [hdl]; simp; omega
        · rw [hd, hd2]; simp
      · have hd2 : dueA (k + 1) (p :: t) now = ([], p :: t) := by
          show (if p.At ≤ now then _ else _) = _
          rw [if_neg hle]
        refine T.go h <| T.ff rfl (by simpa using hle) <| T.ex rfl <| T.at fun h => J2 u _ _ ?_
        rw [hd, hd2, List.append_nil]
        exact h.wr [0, 2]
theorem inr_len {n : Nat} (h : n ≤ 4096) : InR .i64 (n : Int) := len_in (by omega)
def timer_New.f : Option (Option (List TAlarm)) := some (some [])
theorem timer_New.spc (r : Option (List TAlarm)) (H : timer_New.f = some r) : Spc Try.prog 8 [] [] [] (fun (s : Value) => s) (fun s => [Val (Kd.obx Kwhl) s r]) := by cases H; exact timer_New.sp0
def timer_New.g (k_ : Nat) : Option (Option (List TAlarm)) := timer_New.f
theorem timer_New.le (k_ : Nat) : Le (timer_New.g k_) timer_New.f := le_refl _
def timer_Wheel_Set.f (a1 : List TAlarm) (a2 a3 : Int) : Option (List TAlarm) := some (setA a1 a2 a3)
theorem timer_Wheel_Set.spc (b1 : Nat) (a1 : List TAlarm) (a2 : Int) (ha2 : InR .i64 a2) (a3 : Int) (ha3 : InR .i64 a3) (r : List TAlarm) (H : timer_Wheel_Set.f a1 a2 a3 = some r) : Spc Try.prog 9 [pt b1, .int .i64 a2, .int .i64 a3] [] [Fld Kwhl b1 0 a1] (fun (s : Unit) => .tuple #[]) (fun s => [Fld Kwhl b1 0 r]) := by cases H; exact timer_Set.spc b1 a1 a2 a3 ha2 ha3
def timer_Wheel_Set.g (k_ : Nat) (a1 : List TAlarm) (a2 a3 : Int) : Option (List TAlarm) := timer_Wheel_Set.f a1 a2 a3
theorem timer_Wheel_Set.le (k_ : Nat) (a1 : List TAlarm) (a2 a3 : Int) : Le (timer_Wheel_Set.g k_ a1 a2 a3) (timer_Wheel_Set.f a1 a2 a3) := le_refl _
def timer_Wheel_Del.f (a1 : List TAlarm) (a2 : Int) : Option (Bool × List TAlarm) := some (delA a1 a2)
theorem timer_Wheel_Del.spc (b1 : Nat) (a1 : List TAlarm) (a2 : Int) (ha2 : InR .i64 a2) (r : Bool × List TAlarm) (H : timer_Wheel_Del.f a1 a2 = some r) : Spc Try.prog 12 [pt b1, .int .i64 a2] [] [Fld Kwhl b1 0 a1] (fun (s : Unit) => .bool r.1) (fun s => [Fld Kwhl b1 0 r.2]) := by cases H; exact timer_Del.spc b1 a1 a2 ha2
def timer_Wheel_Del.g (k_ : Nat) (a1 : List TAlarm) (a2 : Int) : Option (Bool × List TAlarm) := timer_Wheel_Del.f a1 a2
theorem timer_Wheel_Del.le (k_ : Nat) (a1 : List TAlarm) (a2 : Int) : Le (timer_Wheel_Del.g k_ a1 a2) (timer_Wheel_Del.f a1 a2) := le_refl _
def timer_Wheel_Next.f (a1 : List TAlarm) : Option (TAlarm × Bool × List TAlarm) := some ((nextA a1).1, (nextA a1).2, a1)
theorem timer_Wheel_Next.spc (b1 : Nat) (a1 : List TAlarm) (r : TAlarm × Bool × List TAlarm) (H : timer_Wheel_Next.f a1 = some r) : Spc Try.prog 19 [pt b1] [] [Fld Kwhl b1 0 a1] (fun (s : Value) => .tuple #[s, .bool r.2.1]) (fun s => [Val KAlarm s r.1, Fld Kwhl b1 0 r.2.2]) := by cases H; exact timer_Next.spc b1 a1
def timer_Wheel_Next.g (k_ : Nat) (a1 : List TAlarm) : Option (TAlarm × Bool × List TAlarm) := timer_Wheel_Next.f a1
theorem timer_Wheel_Next.le (k_ : Nat) (a1 : List TAlarm) : Le (timer_Wheel_Next.g k_ a1) (timer_Wheel_Next.f a1) := le_refl _
def timer_Wheel_All.f (a1 : List TAlarm) : Option (List TAlarm × List TAlarm) := some (allA a1, a1)
theorem timer_Wheel_All.spc (b1 : Nat) (a1 : List TAlarm) (r : List TAlarm × List TAlarm) (H : timer_Wheel_All.f a1 = some r) : Spc Try.prog 14 [pt b1] [] [Fld Kwhl b1 0 a1] (fun (s : Value) => s) (fun s => [Val (Kd.osl KAlarm) s r.1, Fld Kwhl b1 0 r.2]) := by cases H; exact timer_All.spc b1 a1
def timer_Wheel_All.g (k_ : Nat) (a1 : List TAlarm) : Option (List TAlarm × List TAlarm) := timer_Wheel_All.f a1
theorem timer_Wheel_All.le (k_ : Nat) (a1 : List TAlarm) : Le (timer_Wheel_All.g k_ a1) (timer_Wheel_All.f a1) := le_refl _
def timer_Wheel_Len.f (a1 : List TAlarm) : Option (Int × List TAlarm) := some ((a1.length : Int), a1)
theorem timer_Wheel_Len.spc (b1 : Nat) (a1 : List TAlarm) (r : Int × List TAlarm) (H : timer_Wheel_Len.f a1 = some r) : Spc Try.prog 11 [pt b1] [] [Fld Kwhl b1 0 a1] (fun (s : Unit) => .int .i64 r.1) (fun s => [Ent.pur (InR .i64 r.1), Fld Kwhl b1 0 r.2]) := by cases H; exact timer_Len.spc b1 a1
def timer_Wheel_Len.g (k_ : Nat) (a1 : List TAlarm) : Option (Int × List TAlarm) := timer_Wheel_Len.f a1
theorem timer_Wheel_Len.le (k_ : Nat) (a1 : List TAlarm) : Le (timer_Wheel_Len.g k_ a1) (timer_Wheel_Len.f a1) := le_refl _
def timer_Wheel_Due.f (a1 : List TAlarm) (a2 : Int) : Option (List TAlarm × List TAlarm) := some (dueA a1.length a1 a2)
theorem timer_Wheel_Due.spc (b1 : Nat) (a1 : List TAlarm) (a2 : Int) (ha2 : InR .i64 a2) (r : List TAlarm × List TAlarm) (H : timer_Wheel_Due.f a1 a2 = some r) : Spc Try.prog 10 [pt b1, .int .i64 a2] [] [Fld Kwhl b1 0 a1] (fun (s : Value) => s) (fun s => [Val (Kd.osl KAlarm) s r.1, Fld Kwhl b1 0 r.2]) := by cases H; exact timer_Due.spc b1 a1 a2
def timer_Wheel_Due.g (k_ : Nat) (a1 : List TAlarm) (a2 : Int) : Option (List TAlarm × List TAlarm) := timer_Wheel_Due.f a1 a2
theorem timer_Wheel_Due.le (k_ : Nat) (a1 : List TAlarm) (a2 : Int) : Le (timer_Wheel_Due.g k_ a1 a2) (timer_Wheel_Due.f a1 a2) := le_refl _
end Go.Proofs.Ytgkgekaiajjcaaa.S
