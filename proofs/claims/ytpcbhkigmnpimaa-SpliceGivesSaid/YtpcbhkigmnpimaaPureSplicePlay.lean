/- A played connection that may be stays so; each lemma states its own conditions. -/
import Derived.Test.YtpcbhkigmnpimaaPureSpliceHear
namespace Go.Proofs.Ytpcbhkigmnpimaa.S
open Go Go.SL
set_option linter.unusedVariables false
set_option linter.unusedSimpArgs false
theorem or_k (a b : Int) : ∃ r, cmp_Or_int.f [a, b] = some r := by
  unfold cmp_Or_int.f
  by_cases c1 : a = 0
  · by_cases c2 : b = 0
    · rw [loop_in (s' := (1 : Int)) (by simp [idx, c1]; decide), loop_in (s' := (2 : Int)) (by simp [idx, c2]; decide), loop_out (r := (.inl () : Unit ⊕ Int)) (by simp)]
      exact ⟨_, rfl⟩
    · rw [loop_in (s' := (1 : Int)) (by simp [idx, c1]; decide), loop_out (r := (.inr b : Unit ⊕ Int)) (by simp [idx, c2])]
      exact ⟨_, rfl⟩
  · rw [loop_out (r := (.inr a : Unit ⊕ Int)) (by simp [idx, c1])]
    exact ⟨_, rfl⟩
theorem open0_k (x : TSeg) (f : Int) (hf : 0 ≤ f ∧ f < 4294967296) : ∃ c ok, splice_Open.f x 1 2 1 f = some (c, ok) ∧ (ok = true → Kc c ∧ CvK [] f x.Dst x.Src c ∧ ∀ V : Int → Int, Gc V x.Seq [] c) := by
  unfold splice_Open.f
  simp only [lt]
  obtain ⟨b, hb⟩ : ∃ b, decide (bits .and .i64 x.Flags 23 = 2) = b := ⟨_, rfl⟩
  rw [hb]
  cases b with
  | false => exact ⟨_, false, rfl, fun e => by cases e⟩
  | true =>
  by_cases c1 : ishr .i64 x.Src 16 = 0
  case neg => simp only [c1, decide_false, Bool.not_false, Bool.not_true, Bool.false_eq_true, if_false, if_true, Option.bind_some]; exact ⟨_, false, rfl, fun e => by cases e⟩
  by_cases c2 : ishr .i64 x.Dst 16 = 0
  case neg => simp only [c1, c2, decide_true, decide_false, Bool.not_false, Bool.not_true, Bool.false_eq_true, if_false, if_true, Option.bind_some]; exact ⟨_, false, rfl, fun e => by cases e⟩
  by_cases c3 : ishr .i64 x.Win 16 = 0
  case neg => simp only [c1, c2, c3, decide_true, decide_false, Bool.not_false, Bool.not_true, Bool.false_eq_true, if_false, if_true, Option.bind_some]; exact ⟨_, false, rfl, fun e => by cases e⟩
  have k1 : ¬ ((1 : Int) < 1) := by decide
  have k2 : ¬ ((8 : Int) < 1) := by decide
  obtain ⟨r, hr⟩ := or_k x.Mss 536
  simp only [c1, c2, c3, k1, k2, decide_true, decide_false, Bool.not_false, Bool.not_true, Bool.false_eq_true, if_false, if_true, Option.bind_some, hr]
  refine ⟨_, true, rfl, fun _ => ⟨⟨⟨Nat.zero_le _, Nat.zero_le _, Nat.zero_le _, c1, c2, c3, ⟨(show (1 : Int) ≤ 1 by decide), (show (1 : Int) ≤ 8 by decide)⟩, ?_, ⟨(show (0 : Int) ≤ 0 by decide), (show (0 : Int) ≤ 1099511627776 by decide)⟩, ⟨(show (0 : Int) ≤ 0 by decide), (show (0 : Int) ≤ 32 by decide)⟩, ⟨(show (0 : Int) ≤ 0 by decide), (show (0 : Int) ≤ 6 by decide)⟩⟩, fun y hy => (by cases hy), fun e => (by cases e), fun _ => ⟨rfl, rfl, rfl, rfl, rfl, rfl, fun _ => ⟨rfl, rfl, rfl, rfl⟩, fun e => (by cases e)⟩, hf⟩, ⟨Nat.zero_le _, rfl, rfl, rfl, fun _ => rfl, fun e => (by cases e)⟩, fun V => ⟨fun i y hy => (by simp at hy), fun _ => ?_, fun y hy => (by cases hy)⟩⟩⟩
  rotate_left
  · show (IntKind.u32.wrap (x.Seq + 1) - x.Seq - 1 - 0) % 4294967296 = 0
    rw [u32w']; omega
  show 64 ≤ min (max r 64) 1460 ∧ min (max r 64) 1460 ≤ 1460
  omega
/-- What a played connection may be, k events played. -/
structure Pk (P : Prop) (V : Int → Int) (q0 : Int) (f rp gp : Int) (p : Tplay) (k : Nat) : Prop where
  gi : P → Vp V → Gc V q0 p.given p.c
  c : Kc p.c
  now : 0 ≤ p.now ∧ p.now ≤ 100 * k
  sg : p.segs.length ≤ 1000 * k
  gv : p.given.length ≤ 500000 * k
  ge : p.gave.length ≤ 5000 * k
  ct : CvK p.gave f rp gp p.c ∧ CvS p.gave f rp gp p.segs
theorem Pk.up {P : Prop} {V : Int → Int} {q0 : Int} {f rp gp : Int} {p : Tplay} {k : Nat} (h : Pk P V q0 f rp gp p k) : Pk P V q0 f rp gp p (k + 1) := ⟨h.gi, h.c, ⟨h.now.1, by have := h.now.2; omega⟩, by have := h.sg; omega, by have := h.gv; omega, by have := h.ge; omega, h.ct⟩
def EvOk (x : TEv) : Prop := x.Seg.Data.length ≤ 3000 ∧ x.Tell.Data.length ≤ 5000 ∧ 0 ≤ x.N ∧ x.N ≤ 100 ∧ Byt x.Seg.Data ∧ (0 ≤ x.Seg.Ack ∧ x.Seg.Ack < 4294967296)
theorem wr_take (cl : List TCall) (i : Nat) (hi : i < cl.length) : wr (cl.take (i + 1)) = wr (cl.take i) ++ (if cl[i].Kind = 2 then cl[i].Data else []) := by
  unfold wr
  rw [List.take_add_one, List.getElem?_eq_getElem hi, List.map_append, List.flatten_append]
  simp only [Option.toList_some, List.map_cons, List.map_nil, List.flatten_cons, List.flatten_nil, List.append_nil]
theorem fin_k {P : Prop} {V : Int → Int} {q0 : Int} {f rp gp : Int} (j5 : List TSeg × List TCall × Tplay) (k : Nat) (hk : k ≤ 61) (hc : Kc j5.2.2.c) (hn : 0 ≤ j5.2.2.now ∧ j5.2.2.now ≤ 100 * (k + 1)) (hs : j5.2.2.segs.length ≤ 1000 * k) (hv : j5.2.2.given.length ≤ 500000 * k) (he : j5.2.2.gave.length ≤ 5000 * (k + 1)) (hsg : j5.1.length ≤ 1000) (hcl : j5.2.1.length ≤ 100) (hd : ∀ y ∈ j5.2.1, y.Data.length ≤ 4096) (ht : CvK j5.2.2.gave f rp gp j5.2.2.c ∧ CvS j5.2.2.gave f rp gp j5.2.2.segs ∧ CvS j5.2.2.gave f rp gp j5.1) (hgi : P → Vp V → Gc V q0 (j5.2.2.given ++ wr j5.2.1) j5.2.2.c) : ∃ p', ((app j5.2.2.segs j5.1).bind fun x5 => (loop (fun s2 => (if decide (s2.1 < (j5.2.1.length : Int)) = true then ((idx j5.2.1 s2.1).bind fun x6 => (if decide (x6.Kind = 2) = true then (idx j5.2.1 s2.1).bind fun x7 => (app s2.2.given x7.Data).bind fun x8 => some ((⟨s2.2.c, s2.2.now, x8, s2.2.gave, s2.2.segs, s2.2.gone, s2.2.calls⟩ : Tplay)) else some (s2.2))).bind (fun j6 => lt (⟨j6.c, j6.now, j6.given, j6.gave, j6.segs, j6.gone, IntKind.i64.wrap (j6.calls + 1)⟩ : Tplay) fun y8 => lt (IntKind.i64.wrap (s2.1 + 1)) fun y9 => some (.inl (y9, y8))) else some (.inr (s2.2)))) (0, (⟨j5.2.2.c, j5.2.2.now, j5.2.2.given, j5.2.2.gave, x5, j5.2.2.gone, j5.2.2.calls⟩ : Tplay))).bind (fun z_ => some (z_))) = some p' ∧ Pk P V q0 f rp gp p' (k + 1) := by
  obtain ⟨sg, cl, p⟩ := j5
  dsimp only at hc hn hs hv he hsg hcl hd ht hgi ⊢
  rw [app_k _ _ (by omega), Option.bind_some]
  refine loop_exit (fun o => ∃ p', o = some p' ∧ Pk P V q0 f rp gp p' (k + 1)) (fun (i : Nat) (z : Int × Tplay) => z.1 = (i : Int) ∧ z.2.c = p.c ∧ z.2.now = p.now ∧ z.2.segs = p.segs ++ sg ∧ z.2.gave = p.gave ∧ z.2.given.length ≤ p.given.length + 4096 * i ∧ z.2.given = p.given ++ wr (cl.take i)) (fun z => Pk P V q0 f rp gp z (k + 1)) cl.length ?_ ?_ ?_ ?_
  · exact ⟨rfl, rfl, rfl, rfl, rfl, by show p.given.length ≤ _; omega, by simp [wr]⟩
  · rintro i ⟨i', z⟩ hi ⟨q0, q1, q2, q3, q4, q5, q6⟩
    dsimp only at q0 q1 q2 q3 q4 q5 q6
    subst q0
    left
    have c : ((i : Int) < (cl.length : Int)) := by omega
    have hdi := hd _ (List.getElem_mem hi)
    simp only [c, decide_true, if_true, ix cl i hi, Option.bind_some]
    by_cases c2 : cl[i].Kind = 2
    · simp only [c2, decide_true, if_true]
      rw [app_k _ _ (by omega), Option.bind_some]
      simp only [Option.bind_some, lt]
      rw [stepw hi (by omega)]
      exact ⟨_, rfl, rfl, q1, q2, q3, q4, by show (z.given ++ cl[i].Data).length ≤ _; rw [List.length_append]; omega, by show z.given ++ cl[i].Data = _; rw [wr_take cl i hi, if_pos c2, q6, List.append_assoc]⟩
    · simp only [c2, decide_false, Bool.false_eq_true, if_false, Option.bind_some, lt]
      rw [stepw hi (by omega)]
      exact ⟨_, rfl, rfl, q1, q2, q3, q4, by show z.given.length ≤ _; omega, by show z.given = _; rw [wr_take cl i hi, if_neg c2, List.append_nil, q6]⟩
  · rintro ⟨i', z⟩ ⟨q0, q1, q2, q3, q4, q5, q6⟩
    dsimp only at q0 q1 q2 q3 q4 q5 q6
    subst q0
    have c : ¬ (((cl.length : Nat) : Int) < (cl.length : Int)) := by omega
    simp only [c, decide_false, Bool.false_eq_true, if_false]
    refine ⟨z, rfl, ⟨fun hP hV => by rw [q6, q1, List.take_length]; exact hgi hP hV, by rw [q1]; exact hc, by rw [q2]; exact hn, by rw [q3, List.length_append]; omega, by omega, by rw [q4]; exact he, by
      rw [q4, q1, q3]; exact ⟨ht.1, fun y hy => (List.mem_append.1 hy).elim (ht.2.1 y) (ht.2.2 y)⟩⟩⟩
  · rintro z hz
    exact ⟨z, rfl, hz⟩
theorem do_k {P : Prop} {V : Int → Int} {q0 : Int} {f rp gp : Int} (p : Tplay) (k : Nat) (hk : k ≤ 60) (h : Pk P V q0 f rp gp p k) (x : TEv) (hx : EvOk x) (hD : P → x.Kind = 0 → Dx x.Seg V) : ∃ p', law28_play_do.f p x = some p' ∧ Pk P V q0 f rp gp p' (k + 1) := by
  obtain ⟨x1, x2, x3, x4, x5, x6⟩ := hx
  unfold law28_play_do.f
  cases hg : p.gone with
  | true => exact ⟨p, rfl, h.up⟩
  | false =>
  simp only [Bool.false_eq_true, if_false, lt]
  have hnow := h.now
  have hsg := h.sg
  have hgv := h.gv
  have hge := h.ge
  by_cases c0 : x.Kind = 0
  · obtain ⟨c', sg, cl, g, q1, q2, q3, q4, q5, q6, q7⟩ := take_k p.c h.c p.now ⟨by omega, by omega⟩ x.Seg (by omega) x5 x6
    simp only [c0, decide_true, if_true, q1, Option.bind_some]
    exact fin_k (sg, cl, (⟨c', p.now, p.given, p.gave, p.segs, g, p.calls⟩ : Tplay)) k (by omega) q2 ⟨by show 0 ≤ p.now; omega, by show p.now ≤ _; omega⟩ hsg hgv (by show p.gave.length ≤ _; omega) (by show sg.length ≤ _; omega) (by show cl.length ≤ _; omega) q5 ⟨(q6 _ _ _ _ h.ct.1).1, h.ct.2, (q6 _ _ _ _ h.ct.1).2⟩ (fun hP hV => q7 V q0 _ hV (hD hP c0) (h.gi hP hV))
  by_cases c1 : x.Kind = 1
  · obtain ⟨c', sg, cl, n, g, q1, q2, q3, q4, q5, q6, q7⟩ := hear_k p.c h.c p.now ⟨by omega, by omega⟩ x.Tell x2
    have n0 : ¬ ((1 : Int) = 0) := by decide
    simp only [c1, n0, decide_true, decide_false, Bool.false_eq_true, if_false, if_true, q1, Option.bind_some]
    obtain ⟨j, hj, hj2, hj3, hj4⟩ : ∃ j, (if decide (x.Tell.Kind = 3) = true then (if decide (0 ≤ n) = true then some (decide (n ≤ (x.Tell.Data.length : Int))) else some (false)) else some (false)) = some j ∧ (j = true → 0 ≤ n ∧ n ≤ (x.Tell.Data.length : Int)) ∧ (j = true → gain x.Tell n = x.Tell.Data.take n.toNat) ∧ (j = false → gain x.Tell n = []) := by
      by_cases a1 : x.Tell.Kind = 3
      · by_cases a2 : 0 ≤ n
        · exact ⟨decide (n ≤ (x.Tell.Data.length : Int)), by rw [if_pos (by simpa using a1), if_pos (by simpa using a2)], fun e => ⟨a2, of_decide_eq_true e⟩, fun e => if_pos ⟨a1, a2, of_decide_eq_true e⟩, fun e => if_neg fun e2 => absurd e2.2.2 (of_decide_eq_false e)⟩
        · exact ⟨false, by rw [if_pos (by simpa using a1), if_neg (by simpa using a2)], fun e => (by cases e), fun e => (by cases e), fun _ => if_neg fun e2 => a2 e2.2.1⟩
      · exact ⟨false, by rw [if_neg (by simpa using a1)], fun e => (by cases e), fun e => (by cases e), fun _ => if_neg fun e2 => a1 e2.1⟩
    rw [hj, Option.bind_some]
    have q6' := q6 _ _ _ _ (by omega) h.ct.1
    have hsm : CvS (p.gave ++ gain x.Tell n) f rp gp p.segs := fun y hy => (h.ct.2 y hy).more _
    cases j with
    | true =>
      rw [hj3 rfl] at q6' hsm
      obtain ⟨j1, j2⟩ := hj2 rfl
      obtain ⟨b, hb, hbl⟩ := cut_some x.Tell.Data 0 n (by omega) j1 j2
      have hbe : b = x.Tell.Data.take n.toNat := by rw [cut_eq hb]; simp
      rw [← hbe] at q6' hsm
      rw [if_pos rfl, hb, Option.bind_some, app_k _ _ (by omega), Option.bind_some, Option.bind_some, Option.bind_some]
      exact fin_k (sg, cl, (⟨c', p.now, p.given, p.gave ++ b, p.segs, g, p.calls⟩ : Tplay)) k (by omega) q2 ⟨by show 0 ≤ p.now; omega, by show p.now ≤ _; omega⟩ hsg hgv (by show (p.gave ++ b).length ≤ _; rw [List.length_append]; omega) (by show sg.length ≤ _; omega) (by show cl.length ≤ _; omega) q5 ⟨q6'.1, hsm, q6'.2⟩ (fun hP hV => q7 V q0 _ hV (h.gi hP hV))
    | false =>
      rw [hj4 rfl, List.append_nil] at q6' hsm
      rw [if_neg (by simp), Option.bind_some, Option.bind_some]
      exact fin_k (sg, cl, (⟨c', p.now, p.given, p.gave, p.segs, g, p.calls⟩ : Tplay)) k (by omega) q2 ⟨by show 0 ≤ p.now; omega, by show p.now ≤ _; omega⟩ hsg hgv (by show p.gave.length ≤ _; omega) (by show sg.length ≤ _; omega) (by show cl.length ≤ _; omega) q5 ⟨q6'.1, hsm, q6'.2⟩ (fun hP hV => q7 V q0 _ hV (h.gi hP hV))
  simp only [c0, c1, decide_false, Bool.false_eq_true, if_false]
  have key : ∀ o : Option (List TSeg × List TCall × Tplay), (∃ sg cl, ∃ z : Tplay, o = some (sg, cl, z) ∧ sg.length ≤ 1000 ∧ cl.length ≤ 100 ∧ (∀ y ∈ cl, y.Data.length ≤ 4096) ∧ Kc z.c ∧ (p.now ≤ z.now ∧ z.now ≤ p.now + 100) ∧ z.segs = p.segs ∧ z.given = p.given ∧ z.gave = p.gave ∧ CvK p.gave f rp gp z.c ∧ CvS p.gave f rp gp sg ∧ (P → Vp V → Gc V q0 (p.given ++ wr cl) z.c)) → ∃ p', (((o.bind fun j3 => some (j3.1, j3.2.1, j3.2.2)).bind (fun j4 => some (j4.1, j4.2.1, j4.2.2))).bind fun j5 => (app j5.2.2.segs j5.1).bind fun x5 => (loop (fun s2 => (if decide (s2.1 < (j5.2.1.length : Int)) = true then ((idx j5.2.1 s2.1).bind fun x6 => (if decide (x6.Kind = 2) = true then (idx j5.2.1 s2.1).bind fun x7 => (app s2.2.given x7.Data).bind fun x8 => some ((⟨s2.2.c, s2.2.now, x8, s2.2.gave, s2.2.segs, s2.2.gone, s2.2.calls⟩ : Tplay)) else some (s2.2))).bind (fun j6 => lt (⟨j6.c, j6.now, j6.given, j6.gave, j6.segs, j6.gone, IntKind.i64.wrap (j6.calls + 1)⟩ : Tplay) fun y8 => lt (IntKind.i64.wrap (s2.1 + 1)) fun y9 => some (.inl (y9, y8))) else some (.inr (s2.2)))) (0, (⟨j5.2.2.c, j5.2.2.now, j5.2.2.given, j5.2.2.gave, x5, j5.2.2.gone, j5.2.2.calls⟩ : Tplay))).bind (fun z_ => some (z_))) = some p' ∧ Pk P V q0 f rp gp p' (k + 1) := by
    rintro o ⟨sg, cl, z, rfl, e1, e2, e3, e4, e5, e6, e7, e8, e9, e10, e11⟩
    simp only [Option.bind_some]
    exact fin_k (sg, cl, z) k (by omega) e4 ⟨by show 0 ≤ z.now; omega, by show z.now ≤ _; omega⟩ (by show z.segs.length ≤ _; rw [e6]; exact hsg) (by show z.given.length ≤ _; rw [e7]; exact hgv) (by show z.gave.length ≤ _; rw [e8]; omega) e1 e2 e3 (by show CvK z.gave f rp gp z.c ∧ CvS z.gave f rp gp z.segs ∧ CvS z.gave f rp gp sg; rw [e8, e6]; exact ⟨e9, h.ct.2, e10⟩) (by show P → Vp V → Gc V q0 (z.given ++ wr cl) z.c; rw [e7]; exact e11)
  have key' := key
  simp only [lt] at key'
  refine key' _ ?_
  have gen : ∀ (o : Option (List TSeg × List TCall × Tplay)), (fun o => ∃ sg cl, ∃ z : Tplay, o = some (sg, cl, z) ∧ sg.length ≤ 1000 ∧ cl.length ≤ 100 ∧ (∀ y ∈ cl, y.Data.length ≤ 4096) ∧ Kc z.c ∧ (p.now ≤ z.now ∧ z.now ≤ p.now + 100) ∧ z.segs = p.segs ∧ z.given = p.given ∧ z.gave = p.gave ∧ CvK p.gave f rp gp z.c ∧ CvS p.gave f rp gp sg ∧ (P → Vp V → Gc V q0 (p.given ++ wr cl) z.c)) (o.bind some) → (∃ sg cl, ∃ z : Tplay, o = some (sg, cl, z) ∧ sg.length ≤ 1000 ∧ cl.length ≤ 100 ∧ (∀ y ∈ cl, y.Data.length ≤ 4096) ∧ Kc z.c ∧ (p.now ≤ z.now ∧ z.now ≤ p.now + 100) ∧ z.segs = p.segs ∧ z.given = p.given ∧ z.gave = p.gave ∧ CvK p.gave f rp gp z.c ∧ CvS p.gave f rp gp sg ∧ (P → Vp V → Gc V q0 (p.given ++ wr cl) z.c)) := fun o ho => by
    cases o with
    | none => obtain ⟨_, _, _, e, _⟩ := ho; cases e
    | some w => exact ho
  refine gen _ ?_
  refine loop_exit (fun (o : Option (List TSeg × List TCall × Tplay)) => ∃ sg cl, ∃ z : Tplay, o = some (sg, cl, z) ∧ sg.length ≤ 1000 ∧ cl.length ≤ 100 ∧ (∀ y ∈ cl, y.Data.length ≤ 4096) ∧ Kc z.c ∧ (p.now ≤ z.now ∧ z.now ≤ p.now + 100) ∧ z.segs = p.segs ∧ z.given = p.given ∧ z.gave = p.gave ∧ CvK p.gave f rp gp z.c ∧ CvS p.gave f rp gp sg ∧ (P → Vp V → Gc V q0 (p.given ++ wr cl) z.c))
    (fun (i : Nat) (s : List TSeg × List TCall × Int × Tplay) => s.2.2.1 = (i : Int) ∧ s.1.length ≤ i ∧ s.2.1.length ≤ i ∧ (∀ y ∈ s.2.1, y.Data.length ≤ 4096) ∧ Kc s.2.2.2.c ∧ s.2.2.2.now = p.now + (i : Int) ∧ s.2.2.2.segs = p.segs ∧ s.2.2.2.given = p.given ∧ s.2.2.2.gave = p.gave ∧ CvK p.gave f rp gp s.2.2.2.c ∧ CvS p.gave f rp gp s.1 ∧ (P → Vp V → Gc V q0 (p.given ++ wr s.2.1) s.2.2.2.c))
    (fun (r : List TSeg × List TCall × Tplay) => r.1.length ≤ 1000 ∧ r.2.1.length ≤ 100 ∧ (∀ y ∈ r.2.1, y.Data.length ≤ 4096) ∧ Kc r.2.2.c ∧ (p.now ≤ r.2.2.now ∧ r.2.2.now ≤ p.now + 100) ∧ r.2.2.segs = p.segs ∧ r.2.2.given = p.given ∧ r.2.2.gave = p.gave ∧ CvK p.gave f rp gp r.2.2.c ∧ CvS p.gave f rp gp r.1 ∧ (P → Vp V → Gc V q0 (p.given ++ wr r.2.1) r.2.2.c)) 100 ?_ ?_ ?_ ?_
  · exact ⟨rfl, by simp, by simp, fun y hy => (by cases hy), h.c, by show p.now = _; omega, rfl, rfl, rfl, h.ct.1, fun y hy => (by cases hy), fun hP hV => by show Gc V q0 (p.given ++ wr []) p.c; rw [show wr [] = [] from rfl, List.append_nil]; exact h.gi hP hV⟩
  · rintro i ⟨sg, cl, i', z⟩ hi ⟨q0, q1, q2, q3, q4, q5, q6, q7, q8, q9, q10, q11⟩
    dsimp only at q0 q1 q2 q3 q4 q5 q6 q7 q8 q9 q10 q11
    subst q0
    by_cases c : (i : Int) < x.N
    · cases hz : z.gone with
      | true =>
        right
        simp only [c, hz, decide_true, if_true, Bool.not_true, Option.bind_some, Bool.false_eq_true, if_false]
        exact ⟨_, rfl, by show sg.length ≤ _; omega, by show cl.length ≤ _; omega, q3, q4, ⟨by show p.now ≤ z.now; omega, by show z.now ≤ _; omega⟩, q6, q7, q8, q9, q10, q11⟩
      | false =>
        left
        have ew : IntKind.i64.wrap (z.now + 1) = z.now + 1 := i64w (by omega) (by omega)
        obtain ⟨c', sg2, cl2, g, t1, t2, t3, t4, t5, t6, t7⟩ := tick_k z.c q4 (z.now + 1) ⟨by omega, by omega⟩
        simp only [c, hz, decide_true, if_true, Bool.not_false, Option.bind_some, ew, t1]
        rw [app_k _ _ (by omega), Option.bind_some, app_k _ _ (by omega), Option.bind_some, stepw hi (by omega)]
        refine ⟨_, rfl, rfl, by show (sg ++ sg2).length ≤ _; rw [List.length_append]; omega, by show (cl ++ cl2).length ≤ _; rw [List.length_append]; omega, fun y hy => ?_, t2, by show z.now + 1 = _; omega, q6, q7, q8, (t6 _ _ _ _ q9).1, fun y hy => (List.mem_append.1 hy).elim (q10 y) ((t6 _ _ _ _ q9).2 y), fun hP hV => by
          show Gc V q0 (p.given ++ wr (cl ++ cl2)) c'
          rw [wr_app, ← List.append_assoc]
          exact t7 V q0 _ hV (q11 hP hV)⟩
        rcases List.mem_append.1 hy with hy | hy
        · exact q3 y hy
        · exact t5 y hy
    · right
      simp only [c, decide_false, Bool.false_eq_true, if_false, Option.bind_some]
      exact ⟨_, rfl, by show sg.length ≤ _; omega, by show cl.length ≤ _; omega, q3, q4, ⟨by show p.now ≤ z.now; omega, by show z.now ≤ _; omega⟩, q6, q7, q8, q9, q10, q11⟩
  · rintro ⟨sg, cl, i', z⟩ ⟨q0, q1, q2, q3, q4, q5, q6, q7, q8, q9, q10, q11⟩
    dsimp only at q0 q1 q2 q3 q4 q5 q6 q7 q8 q9 q10 q11
    subst q0
    have c : ¬ (((100 : Nat) : Int) < x.N) := by omega
    simp only [c, decide_false, Bool.false_eq_true, if_false, Option.bind_some]
    exact ⟨_, rfl, by show sg.length ≤ _; omega, by show cl.length ≤ _; omega, q3, q4, ⟨by show p.now ≤ z.now; omega, by show z.now ≤ _; omega⟩, q6, q7, q8, q9, q10, q11⟩
  · rintro ⟨sg, cl, z⟩ hz
    exact ⟨sg, cl, z, rfl, hz⟩
theorem fits_k (l : List TEv) (hl : l.length ≤ 9223372036854775807) : ∃ b, law28_fits.f l = some b ∧ (b = true → l.length ≤ 60 ∧ ∀ x ∈ l, x.Seg.Data.length ≤ 3000 ∧ x.Tell.Data.length ≤ 5000 ∧ 0 ≤ x.N ∧ x.N ≤ 100) := by
  unfold law28_fits.f
  have hb : ∀ i (hi : i < l.length), ∃ j, (if decide (3000 < (l[i].Seg.Data.length : Int)) = true then some (true) else (idx l (i : Int)).bind fun x2 => (if decide (5000 < (x2.Tell.Data.length : Int)) = true then some (true) else (idx l (i : Int)).bind fun x3 => (if decide (x3.N < 0) = true then some (true) else (idx l (i : Int)).bind fun x4 => some (decide (100 < x4.N))))) = some j ∧ (j = false → l[i].Seg.Data.length ≤ 3000 ∧ l[i].Tell.Data.length ≤ 5000 ∧ 0 ≤ l[i].N ∧ l[i].N ≤ 100) := fun i hi => by
    rw [ix l i hi]
    simp only [Option.bind_some]
    by_cases c1 : 3000 < (l[i].Seg.Data.length : Int)
    · simp only [c1, decide_true, if_true]; exact ⟨_, rfl, fun e => by cases e⟩
    by_cases c2 : 5000 < (l[i].Tell.Data.length : Int)
    · simp only [c1, c2, decide_true, decide_false, Bool.false_eq_true, if_false, if_true]; exact ⟨_, rfl, fun e => by cases e⟩
    by_cases c3 : l[i].N < 0
    · simp only [c1, c2, c3, decide_true, decide_false, Bool.false_eq_true, if_false, if_true]; exact ⟨_, rfl, fun e => by cases e⟩
    simp only [c1, c2, c3, decide_false, Bool.false_eq_true, if_false]
    exact ⟨_, rfl, fun e => ⟨by omega, by omega, by omega, by have := of_decide_eq_false e; omega⟩⟩
  refine loop_exit (fun o => ∃ b, o = some b ∧ (b = true → l.length ≤ 60 ∧ ∀ x ∈ l, x.Seg.Data.length ≤ 3000 ∧ x.Tell.Data.length ≤ 5000 ∧ 0 ≤ x.N ∧ x.N ≤ 100)) (fun (i : Nat) (s : Int) => s = (i : Int) ∧ ∀ k (hk : k < l.length), k < i → l[k].Seg.Data.length ≤ 3000 ∧ l[k].Tell.Data.length ≤ 5000 ∧ 0 ≤ l[k].N ∧ l[k].N ≤ 100) (fun r => r = .inr false ∨ (r = .inl () ∧ ∀ k (hk : k < l.length), l[k].Seg.Data.length ≤ 3000 ∧ l[k].Tell.Data.length ≤ 5000 ∧ 0 ≤ l[k].N ∧ l[k].N ≤ 100)) l.length ?_ ?_ ?_ ?_
  · exact ⟨rfl, fun k _ hk => by omega⟩
  · rintro i _ hi ⟨rfl, hall⟩
    have c : ((i : Int) < (l.length : Int)) := by omega
    obtain ⟨j, hj, hj2⟩ := hb i hi
    simp only [c, decide_true, if_true, ix l i hi, Option.bind_some] at hj ⊢
    rw [hj, Option.bind_some]
    cases j with
    | true => right; exact ⟨_, rfl, .inl rfl⟩
    | false =>
      left
      have hw : IntKind.i64.wrap ((i : Int) + 1) = ((i + 1 : Nat) : Int) := by rw [i64w (by omega) (by omega)]; rfl
      rw [if_neg (by simp)]
      simp only [lt, hw]
      refine ⟨_, rfl, rfl, fun k hk hki => ?_⟩
      by_cases e : k = i
      · subst e; exact hj2 rfl
      · exact hall k hk (by omega)
  · rintro _ ⟨rfl, hall⟩
    have c : ¬ (((l.length : Nat) : Int) < (l.length : Int)) := by omega
    simp only [c, decide_false, Bool.false_eq_true, if_false]
    exact ⟨_, rfl, .inr ⟨rfl, fun k hk => hall k hk hk⟩⟩
  · rintro r (rfl | ⟨rfl, hall⟩)
    · exact ⟨false, rfl, fun e => by cases e⟩
    · refine ⟨decide ((l.length : Int) ≤ 60), rfl, fun e => ⟨by have := of_decide_eq_true e; omega, fun x hx => ?_⟩⟩
      obtain ⟨i, hi, rfl⟩ := List.getElem_of_mem hx
      exact hall i hi
def gTell (t : TTell) : Prop := InR .i64 t.Kind ∧ InR .i64 t.Id ∧ (t.Data.length ≤ maxLen ∧ ∀ z ∈ t.Data, InR .u8 z) ∧ InR .i64 t.N
def gEv (x : TEv) : Prop := InR .i64 x.Kind ∧ gSeg x.Seg ∧ gTell x.Tell ∧ InR .i64 x.N
theorem begin_k {P : Prop} {V : Int → Int} (x : TSeg) (f : Int) (hf : 0 ≤ f ∧ f < 4294967296) : ∃ o ok, law28_begin.f x f = some (o, ok) ∧ (ok = true → ∃ p, o = some p ∧ Pk P V x.Seq f x.Dst x.Src p 1) := by
  unfold law28_begin.f
  obtain ⟨c, ok, h1, h2⟩ := open0_k x f hf
  rw [h1, Option.bind_some]
  cases ok with
  | false => exact ⟨none, false, rfl, fun e => by cases e⟩
  | true =>
    obtain ⟨p, h3, h4⟩ := do_k (P := P) (V := V) (q0 := x.Seq) (f := f) (rp := x.Dst) (gp := x.Src) ⟨c, 0, [], [], [], false, 0⟩ 0 (by omega) ⟨fun _ _ => (h2 rfl).2.2 V, (h2 rfl).1, ⟨(show (0 : Int) ≤ 0 by decide), (show (0 : Int) ≤ 100 * ((0 : Nat) : Int) by decide)⟩, by simp, by simp, by simp, (h2 rfl).2.1, fun y hy => by cases hy⟩ ⟨1, zSeg, ⟨1, 1, [], 0⟩, 0⟩ ⟨by simp [zSeg], by simp, (show (0 : Int) ≤ 0 by decide), (show (0 : Int) ≤ 100 by decide), fun b hb => by simp [zSeg] at hb, ⟨(show (0 : Int) ≤ 0 by decide), (show (0 : Int) < 4294967296 by decide)⟩⟩ (fun _ e => absurd e (show ¬ (1 : Int) = 0 by decide))
    simp only [Bool.not_true, Bool.false_eq_true, if_false]
    rw [h3]
    exact ⟨some p, true, rfl, fun _ => ⟨p, rfl, h4⟩⟩
end Go.Proofs.Ytpcbhkigmnpimaa.S
