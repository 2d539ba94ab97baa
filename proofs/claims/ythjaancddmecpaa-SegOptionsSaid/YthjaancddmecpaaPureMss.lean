/- Plain facts on options; each states its own conditions. -/
import Derived.Test.YthjaancddmecpaaPureSeg
import Derived.Test.YthjaancddmecpaaPureRef
namespace Go.Proofs.Ythjaancddmecpaa.S
open Go Go.SL
set_option linter.unusedVariables false
set_option linter.unusedSimpArgs false
/-- What options say of the Mss; false: they are none. -/
def mssW : Nat → List Int → Int → Bool → Int × Bool
  | 0, _, n, _ => (n, true)
  | k + 1, [], n, f => (n, true)
  | k + 1, x :: t, n, f => if x = 0 then (n, true) else if x = 1 then mssW k t n f else
      if t = [] then (0, false) else if t.headD 0 < 2 ∨ ((t.length + 1 : Nat) : Int) < t.headD 0 then (0, false) else
        if x = 2 ∧ t.headD 0 = 4 ∧ f = false then mssW k ((x :: t).drop (t.headD 0).toNat) ((t.drop 1).headD 0 * 256 + (t.drop 2).headD 0) true else
        mssW k ((x :: t).drop (t.headD 0).toNat) n f
theorem idx0 {l : List Int} {x : Int} {t : List Int} (h : l = x :: t) : idx l 0 = some x := by subst h; rfl
theorem cut_to_end (l : List Int) (i : Int) (h0 : 0 ≤ i) (h1 : i ≤ l.length) : cut l i (l.length : Int) = some (l.drop i.toNat) := by
  unfold cut
  rw [if_pos ⟨h0, h1, Int.le_refl _⟩, show ((l.length : Int)).toNat = l.length by omega, List.take_length]
theorem seg_mss_loop : ∀ (k : Nat) (l : List Int) (n : Int) (f : Bool), l.length ≤ k → Byt l → l.length ≤ 100000 →
    (((loop (fun s1 => (if decide (0 < (s1.1.length : Int)) = true then ((idx s1.1 0).bind fun x1 => lt (decide (x1 = 0)) fun y1 => (if y1 = true then some (.inl (())) else lt (decide (x1 = 1)) fun y2 => (if y2 = true then (cut s1.1 1 (s1.1.length : Int)).bind fun x2 => some (.inr (.inl ((x2, s1.2.1, s1.2.2)))) else ((if decide ((s1.1.length : Int) < 2) = true then some (true) else (idx s1.1 1).bind fun x3 => (if decide (x3 < 2) = true then some (true) else (idx s1.1 1).bind fun x4 => some (decide ((s1.1.length : Int) < x4))))).bind (fun j1 => (if j1 = true then some (.inr (.inr ((0, false)))) else (((idx s1.1 0).bind fun x5 => (if decide (x5 = 2) = true then (idx s1.1 1).bind fun x6 => (if decide (x6 = 4) = true then some ((!s1.2.2)) else some (false)) else some (false))).bind (fun j2 => (if j2 = true then (cut s1.1 2 4).bind fun x7 => (bits_Get.f x7 true).bind fun r1 => lt (IntKind.i64.wrap r1) fun y3 => some ((y3, true)) else some ((s1.2.1, s1.2.2))))).bind (fun j3 => (idx s1.1 1).bind fun x8 => (cut s1.1 x8 (s1.1.length : Int)).bind fun x9 => some (.inr (.inl ((x9, j3.1, j3.2)))))))))).bind (Sum.elim (fun j4 => some (.inr (.inl (s1.2.1)))) (Sum.elim (fun j5 => some (.inl (j5.1, j5.2.1, j5.2.2))) (fun z_ => some (.inr (.inr (z_)))))) else some (.inr (.inl (s1.2.1))))) (l, n, f)).bind (Sum.elim (fun j6 => some (.inl (j6))) (fun z_ => some (.inr (z_))))).bind (Sum.elim (fun j7 => some ((j7, true))) (fun z_ => some (z_))) : Option (Int × Bool)) = some (mssW k l n f) := by
  intro k
  induction k with
  | zero =>
    intro l n f hl hb hlen
    have : l = [] := List.eq_nil_of_length_eq_zero (by omega)
    subst this
    rw [loop_out (r := Sum.inl n) (by simp)]
    rfl
  | succ k ih =>
    intro l n f hl hb hlen
    cases l with
    | nil =>
      rw [loop_out (r := Sum.inl n) (by simp)]
      rfl
    | cons x t =>
      have hx := hb x (by simp)
      have hbt : Byt t := fun b h => hb b (by simp [h])
      simp only [List.length_cons] at hl hlen
      have hi0 : idx (x :: t) 0 = some x := rfl
      have hpos : (0 : Int) < ((x :: t).length : Int) := by simp
      rw [mssW]
      by_cases c0 : x = 0
      · subst c0
        rw [loop_out (r := Sum.inl n) (by simp only [hi0, lt, hpos, decide_true, if_true, Option.bind_some]; rfl), if_pos rfl]
        rfl
      rw [if_neg c0]
      by_cases c1 : x = 1
      · subst c1
        have hc : cut (1 :: t) 1 ((1 :: t).length : Int) = some t := by rw [cut_to_end _ _ (by omega) (by simp; omega)]; rfl
        rw [if_pos rfl, loop_in (s' := (t, n, f)) (by simp only [hi0, lt, hpos, decide_true, if_true, Option.bind_some]; rw [hc]; rfl), ih t n f (by omega) hbt (by omega)]
      rw [if_neg c1]
      cases t with
      | nil =>
        rw [if_pos rfl, loop_out (r := Sum.inr (0, false)) (by simp [hi0, c0, c1, lt])]
        rfl
      | cons y u =>
        have hy := hbt y (by simp)
        have hi1 : idx (x :: y :: u) 1 = some y := rfl
        rw [if_neg (by simp)]
        simp only [List.headD_cons, List.length_cons, List.drop_succ_cons, List.drop_zero] at *
        by_cases c2 : y < 2 ∨ ((u.length + 1 + 1 : Nat) : Int) < y
        · rw [if_pos c2, loop_out (r := Sum.inr (0, false)) (by
            simp only [List.length_cons, hi0, hi1, hpos, c0, c1, decide_true, decide_false, if_true, Option.bind_some, lt, Bool.false_eq_true, if_false]
            rw [if_neg (by simp; omega)]
            rcases c2 with c2 | c2
            · simp [c2]
            · by_cases c3 : y < 2
              · simp [c3]
              · rw [if_neg (by simpa using c3)]; simp only [Option.bind_some]; rw [if_pos (by simpa using c2)]; rfl)]
          rfl
        rw [if_neg c2]
        have c3 : 2 ≤ y := by omega
        have c4 : y ≤ ((u.length + 1 + 1 : Nat) : Int) := by omega
        have hcut : cut (x :: y :: u) y ((x :: y :: u).length : Int) = some ((x :: y :: u).drop y.toNat) := cut_to_end _ _ (by omega) (by simp only [List.length_cons]; omega)
        have hdl : ((x :: y :: u).drop y.toNat).length ≤ k := by rw [List.length_drop]; simp only [List.length_cons]; omega
        have hdb : Byt ((x :: y :: u).drop y.toNat) := fun b h => hb b (List.mem_of_mem_drop h)
        have hpos' : (0 : Int) < ((u.length + 1 + 1 : Nat) : Int) := by omega
        have e2 : ¬ (((u.length + 1 + 1 : Nat) : Int) < 2) := by omega
        by_cases c5 : x = 2 ∧ y = 4 ∧ f = false
        · obtain ⟨rfl, rfl, rfl⟩ := c5
          rw [if_pos ⟨rfl, rfl, rfl⟩]
          match u, c4, hbt with
          | p :: q :: u', c4, hbt =>
            have hp := hbt p (by simp)
            have hq := hbt q (by simp)
            have hc7 : cut (2 :: 4 :: p :: q :: u') 2 4 = some [p, q] := by
              unfold cut; rw [if_pos ⟨by omega, by omega, by simp; omega⟩]; rfl
            rw [loop_in (s' := ((2 :: 4 :: p :: q :: u').drop (4 : Int).toNat, p * 256 + q, true)) (by
              simp only [List.length_cons] at hcut e2 hpos' c4 ⊢
              simp only [hi0, hi1, hpos', e2, hc7, get2 hp hq, decide_true, decide_false, if_true, Option.bind_some, lt, Bool.false_eq_true, if_false, Bool.not_false]
              rw [if_neg (by decide), if_neg (by decide), if_neg (by decide)]
              simp only [Option.bind_some]
              rw [if_neg (by simp; omega)]
              rw [hcut, i64w (by omega) (by omega)]; rfl)]
            rw [ih _ _ _ hdl hdb (by rw [List.length_drop]; simp only [List.length_cons] at hlen ⊢; omega)]
            rfl
          | [], c4, _ => simp at c4
          | [p], c4, _ => simp at c4
        · rw [if_neg c5, loop_in (s' := ((x :: y :: u).drop y.toNat, n, f)) (by
            simp only [List.length_cons] at hcut ⊢
            simp only [hi0, hi1, hpos', e2, c0, c1, decide_true, decide_false, if_true, Option.bind_some, lt, Bool.false_eq_true, if_false]
            rw [if_neg (by simp; omega)]
            simp only [Option.bind_some]
            rw [if_neg (by simp; omega)]
            have : (if decide (x = 2) = true then if decide (y = 4) = true then some (!f) else some false else some false : Option Bool) = some false := by
              by_cases d1 : x = 2
              · by_cases d2 : y = 4
                · have : f = true := by cases f with | true => rfl | false => exact absurd ⟨d1, d2, rfl⟩ c5
                  simp [d1, d2, this]
                · simp [d1, d2]
              · simp [d1]
            rw [this]
            simp only [Option.bind_some, Bool.false_eq_true, if_false]
            rw [hcut]; rfl)]
          rw [ih _ _ _ hdl hdb (by rw [List.length_drop]; simp only [List.length_cons] at hlen ⊢; omega)]
theorem seg_mss_is (l : List Int) (hb : Byt l) (hl : l.length ≤ 100000) : seg_mss.f l = some (mssW l.length l 0 false) := by
  unfold seg_mss.f
  exact seg_mss_loop _ _ _ _ (Nat.le_refl _) hb hl
theorem ref_mss_loop (l : List Int) (hb : Byt l) (hlen : l.length ≤ 100000) : ∀ (k i : Nat) (n : Int) (f : Bool), l.length - i ≤ k → i ≤ l.length →
    (((loop (fun s1 => (if decide (s1.2.2 < (l.length : Int)) = true then ((idx l s1.2.2).bind fun x1 => (if decide (x1 = 0) = true then some (.inr ((s1.1, true))) else (idx l s1.2.2).bind fun x2 => (if decide (x2 = 1) = true then lt (IntKind.i64.wrap (s1.2.2 + 1)) fun y1 => some (.inl ((s1.1, s1.2.1, y1))) else ((if decide ((l.length : Int) ≤ (IntKind.i64.wrap (s1.2.2 + 1))) = true then some (true) else (idx l (IntKind.i64.wrap (s1.2.2 + 1))).bind fun x3 => (if decide (x3 < 2) = true then some (true) else (idx l (IntKind.i64.wrap (s1.2.2 + 1))).bind fun x4 => some (decide ((IntKind.i64.wrap ((l.length : Int) - s1.2.2)) < x4))))).bind (fun j1 => (if j1 = true then some (.inr ((0, false))) else (((idx l s1.2.2).bind fun x5 => (if decide (x5 = 2) = true then (idx l (IntKind.i64.wrap (s1.2.2 + 1))).bind fun x6 => (if decide (x6 = 4) = true then some ((!s1.2.1)) else some (false)) else some (false))).bind (fun j2 => (if j2 = true then (cut l (IntKind.i64.wrap (s1.2.2 + 2)) (IntKind.i64.wrap (s1.2.2 + 4))).bind fun x7 => (ref19_get.f x7).bind fun r1 => lt (IntKind.i64.wrap r1) fun y2 => some ((y2, true)) else some ((s1.1, s1.2.1))))).bind (fun j3 => (idx l (IntKind.i64.wrap (s1.2.2 + 1))).bind fun x8 => lt (IntKind.i64.wrap (s1.2.2 + x8)) fun y3 => some (.inl ((j3.1, j3.2, y3))))))))).bind (Sum.elim (fun j4 => some (.inl (j4.1, j4.2.1, j4.2.2))) (fun z_ => some (.inr (.inr (z_))))) else some (.inr (.inl (s1.1))))) (n, f, (i : Int))).bind (Sum.elim (fun j5 => some ((j5, true))) (fun z_ => some (z_)))) : Option (Int × Bool)) = some (mssW k (l.drop i) n f) := by
  intro k
  induction k with
  | zero =>
    intro i n f hk hi
    have hd : l.drop i = [] := List.drop_of_length_le (by omega)
    rw [loop_out (r := Sum.inl n) (by rw [if_neg (by simp; omega)]), hd]
    rfl
  | succ k ih =>
    intro i n f hk hi
    cases hd : l.drop i with
    | nil =>
      have : l.length ≤ i := by have := congrArg List.length hd; simp at this; omega
      rw [loop_out (r := Sum.inl n) (by rw [if_neg (by simp; omega)])]
      rfl
    | cons x t =>
      have hlt : l.length = i + (t.length + 1) := by have := congrArg List.length hd; simp at this; omega
      have hx : 0 ≤ x ∧ x < 256 := hb x (List.mem_of_mem_drop (i := i) (by rw [hd]; simp))
      have hi0 : idx l (i : Int) = some x := by
        have : l[i]? = some x := by have := congrArg (fun l => l[0]?) hd; simpa using this
        unfold idx; rw [if_pos (by omega), show ((i : Nat) : Int).toNat = i by omega, this]
      have hpos : (i : Int) < (l.length : Int) := by omega
      have ei : IntKind.i64.wrap ((i : Int) + 1) = ((i + 1 : Nat) : Int) := by rw [i64w (by omega) (by omega)]; push_cast; rfl
      have hdt : l.drop (i + 1) = t := by rw [← List.drop_drop, hd]; rfl
      rw [mssW]
      by_cases c0 : x = 0
      · subst c0
        rw [loop_out (r := Sum.inr (n, true)) (by simp only [hi0, lt, hpos, decide_true, if_true, Option.bind_some]; rfl), if_pos rfl]
        rfl
      rw [if_neg c0]
      by_cases c1 : x = 1
      · subst c1
        rw [if_pos rfl, loop_in (s' := (n, f, ((i + 1 : Nat) : Int))) (by simp only [hi0, lt, hpos, decide_true, if_true, Option.bind_some, ei]; rfl), ih (i + 1) n f (by omega) (by omega), hdt]
      rw [if_neg c1]
      cases t with
      | nil =>
        simp only [List.length_nil] at hlt
        rw [if_pos rfl, loop_out (r := Sum.inr (0, false)) (by
          simp only [hi0, lt, hpos, decide_true, if_true, Option.bind_some, ei]
          rw [if_neg (by simpa using c0), if_neg (by simpa using c1), if_pos (by simp; omega)]; rfl)]
        rfl
      | cons y u =>
        simp only [List.length_cons] at hlt
        have hy : 0 ≤ y ∧ y < 256 := hb y (List.mem_of_mem_drop (i := i) (by rw [hd]; simp))
        have hi1 : idx l ((i + 1 : Nat) : Int) = some y := by
          have : l[i + 1]? = some y := by have := congrArg (fun l => l[1]?) hd; simpa using this
          unfold idx; rw [if_pos (by omega), show ((i + 1 : Nat) : Int).toNat = i + 1 by omega, this]
        rw [if_neg (by simp)]
        simp only [List.headD_cons, List.length_cons, List.drop_succ_cons, List.drop_zero]
        have n1 : ¬ ((l.length : Int) ≤ ((i + 1 : Nat) : Int)) := by omega
        have el : IntKind.i64.wrap ((l.length : Int) - (i : Int)) = ((u.length + 1 + 1 : Nat) : Int) := by rw [i64w (by omega) (by omega)]; omega
        have key : ∀ (c : Bool) , (decide (y < 2 ∨ ((u.length + 1 + 1 : Nat) : Int) < y)) = c → ((if decide ((l.length : Int) ≤ ((i + 1 : Nat) : Int)) = true then some true else (some y).bind fun x3 => if decide (x3 < 2) = true then some true else (some y).bind fun x4 => some (decide (((u.length + 1 + 1 : Nat) : Int) < x4))) : Option Bool) = some c := fun c hc => by
          rw [if_neg (by simpa using n1)]
          simp only [Option.bind_some]
          by_cases q : y < 2
          · rw [if_pos (by simpa using q), ← hc]; simp [q]
          · rw [if_neg (by simpa using q), ← hc]; simp [q]
        by_cases c2 : y < 2 ∨ ((u.length + 1 + 1 : Nat) : Int) < y
        · rw [if_pos c2, loop_out (r := Sum.inr (0, false)) (by
            simp only [hi0, lt, hpos, decide_true, if_true, ei, hi1, el]
            rw [key true (by simpa using c2)]
            simp only [Option.bind_some]
            rw [if_neg (by simpa using c0), if_neg (by simpa using c1)]
            rfl)]
          rfl
        rw [if_neg c2]
        have c3 : 2 ≤ y := by omega
        have c4 : y ≤ ((u.length + 1 + 1 : Nat) : Int) := by omega
        have enx : IntKind.i64.wrap ((i : Int) + y) = ((i + y.toNat : Nat) : Int) := by rw [i64w (by omega) (by omega)]; omega
        have hdn : l.drop (i + y.toNat) = (x :: y :: u).drop y.toNat := by rw [← List.drop_drop, hd]
        by_cases c5 : x = 2 ∧ y = 4 ∧ f = false
        · obtain ⟨rfl, rfl, rfl⟩ := c5
          rw [if_pos ⟨rfl, rfl, rfl⟩]
          match u, c4, hd, hlt with
          | p :: q :: u', c4, hd, hlt =>
            have hp : 0 ≤ p ∧ p < 256 := hb p (List.mem_of_mem_drop (i := i) (by rw [hd]; simp))
            have hq : 0 ≤ q ∧ q < 256 := hb q (List.mem_of_mem_drop (i := i) (by rw [hd]; simp))
            simp only [List.length_cons] at hlt
            have e2 : IntKind.i64.wrap ((i : Int) + 2) = (i : Int) + 2 := i64w (by omega) (by omega)
            have e4 : IntKind.i64.wrap ((i : Int) + 4) = (i : Int) + 4 := i64w (by omega) (by omega)
            have hc7 : cut l ((i : Int) + 2) ((i : Int) + 4) = some [p, q] := by
              unfold cut; rw [if_pos ⟨by omega, by omega, by omega⟩, show ((i : Int) + 4).toNat = (i + 2) + 2 by omega, show ((i : Int) + 2).toNat = i + 2 by omega, List.drop_take, ← List.drop_drop, hd]
              simp
            rw [loop_in (s' := (p * 256 + q, true, ((i + (4 : Int).toNat : Nat) : Int))) (by
              simp only [hi0, lt, hpos, decide_true, if_true, ei, hi1, el, e2, e4, enx]
              rw [key false (by simpa using c2)]
              simp only [Option.bind_some]
              rw [if_neg (by decide), if_neg (by decide), if_neg (by decide), if_pos (by decide)]
              simp only [ref19_get.f, hc7, rget2 hp hq, Option.bind_some, enx]
              rw [i64w (by omega) (by omega)]; rfl)]
            rw [ih (i + (4 : Int).toNat) _ _ (by omega) (by omega), hdn]
            rfl
          | [], c4, _, _ => simp at c4
          | [p], c4, _, _ => simp at c4
        · rw [if_neg c5, loop_in (s' := (n, f, ((i + y.toNat : Nat) : Int))) (by
            simp only [hi0, lt, hpos, decide_true, if_true, ei, hi1, el]
            rw [key false (by simpa using c2)]
            simp only [Option.bind_some]
            rw [if_neg (by simpa using c0), if_neg (by simpa using c1), if_neg (by decide)]
            have : (if decide (x = 2) = true then if decide (y = 4) = true then some (!f) else some false else some false : Option Bool) = some false := by
              by_cases d1 : x = 2
              · by_cases d2 : y = 4
                · have : f = true := by cases f with | true => rfl | false => exact absurd ⟨d1, d2, rfl⟩ c5
                  simp [d1, d2, this]
                · simp [d1, d2]
              · simp [d1]
            rw [this]
            simp only [Option.bind_some, enx]
            rfl)]
          rw [ih (i + y.toNat) _ _ (by omega) (by omega), hdn]
theorem ref_mss_is (l : List Int) (hb : Byt l) (hl : l.length ≤ 100000) : ref19_mss.f l = some (mssW l.length l 0 false) := by
  unfold ref19_mss.f
  exact ref_mss_loop l hb hl l.length 0 0 false (by omega) (by omega)
end Go.Proofs.Ythjaancddmecpaa.S
