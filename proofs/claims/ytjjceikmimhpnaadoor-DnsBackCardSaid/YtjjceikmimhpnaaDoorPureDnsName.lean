/- Plain facts on questions for names: a name read, as the program and as the document read it; each states its own conditions. -/
import Derived.Test.YtjjceikmimhpnaaDoorPureDns
namespace Go.Proofs.YtjjceikmimhpnaaDoor.S
open Go Go.SL
set_option linter.unusedVariables false
set_option linter.unusedSimpArgs false
/-- A name's labels, from a list on, o bytes behind its beginning; and where it ends. -/
def nms : Nat → List Int → Nat → Int ⊕ (List (List Int) × Nat)
  | 0, _, _ => .inl 160
  | _ + 1, [], _ => .inl 160
  | k + 1, n :: t, o => if n = 0 then .inr ([], o + 1) else if 63 < n then .inl 161 else
    match lbl n.toNat t with
    | .inl e => .inl e
    | .inr l => if 255 < o + n.toNat + 2 then .inl 161 else
      match nms k (t.drop n.toNat) (o + 1 + n.toNat) with
      | .inl e => .inl e
      | .inr (ls, p) => .inr (l :: ls, p)
theorem nms_err : ∀ (k : Nat) (t : List Int) (o : Nat) (e : Int), nms k t o = .inl e → e = 160 ∨ e = 161
  | 0, t, o, e, h => by cases h; simp
  | k + 1, [], o, e, h => by cases h; simp
  | k + 1, n :: t, o, e, h => by
    unfold nms at h
    split at h
    · cases h
    split at h
    · cases h; simp
    cases hl : lbl n.toNat t with
    | inl x => rw [hl] at h; cases h; exact lbl_err _ _ _ hl
    | inr l =>
      rw [hl] at h
      dsimp only at h
      split at h
      · cases h; simp
      cases hn : nms k (t.drop n.toNat) (o + 1 + n.toNat) with
      | inl x => rw [hn] at h; cases h; exact nms_err _ _ _ _ hn
      | inr x => rw [hn] at h; cases h
theorem nms_pos : ∀ (k : Nat) (t : List Int) (o : Nat) (ls : List (List Int)) (p : Nat), Byl t → nms k t o = .inr (ls, p) → o < p ∧ p ≤ o + t.length ∧ (∀ l ∈ ls, l ≠ []) ∧ (p ≤ o + 1 ∨ p ≤ 256)
  | 0, t, o, ls, p, _, h => by cases h
  | k + 1, [], o, ls, p, _, h => by cases h
  | k + 1, n :: t, o, ls, p, hb, h => by
    unfold nms at h
    split at h
    · cases h; simp
    rename_i h0
    split at h
    · cases h
    rename_i h1
    cases hl : lbl n.toNat t with
    | inl x => rw [hl] at h; cases h
    | inr l =>
      rw [hl] at h
      dsimp only at h
      split at h
      · cases h
      cases hn : nms k (t.drop n.toNat) (o + 1 + n.toNat) with
      | inl x => rw [hn] at h; cases h
      | inr x =>
        obtain ⟨ls2, p2⟩ := x
        rw [hn] at h
        cases h
        obtain ⟨a1, a2, a3, a4⟩ := nms_pos _ _ _ _ _ (fun x hx => hb x (List.mem_cons_of_mem _ (List.mem_of_mem_drop hx))) hn
        obtain ⟨b1, b2⟩ := lbl_len _ _ _ hl
        rw [List.length_drop] at a2
        refine ⟨by omega, by simp; omega, fun x hx => ?_, by omega⟩
        rcases List.mem_cons.1 hx with rfl | hx
        · have hbn := hb n (by simp)
          unfold By at hbn
          intro e; rw [e] at b1; simp at b1; omega
        · exact a3 x hx
def num2 (t : List Int) : Int := t.headD 0 * 256 + t.tail.headD 0
/-- What bytes ask for: a fault, or labels, a kind, where it ends. -/
def qn (b : List Int) : Int ⊕ (List (List Int) × Int × Nat) :=
  if b.length < 12 then .inl 160 else if ¬ num2 (b.drop 4) = 1 then .inl 161 else
    match nms (b.length + 1) (b.drop 12) 0 with
    | .inl e => .inl e
    | .inr (ls, p) => if b.length < 12 + p + 4 then .inl 160 else .inr (ls, num2 (b.drop (12 + p)), 12 + p + 4)
theorem get2_g (a b : Int) : bits_Get.g 20 [a, b] true = some (bits .or .u64 (bits .or .u64 0 (IntKind.u64.wrap (b * 1))) (IntKind.u64.wrap (a * 256))) := by kernel_rfl
theorem get2 {a b : Int} (ha : 0 ≤ a ∧ a < 256) (hb : 0 ≤ b ∧ b < 256) : bits_Get.f [a, b] true = some (a * 256 + b) := by
  have := bits_Get.le 20 _ _ _ (get2_g a b)
  rw [this, u64w (by omega) (by omega), u64w (by omega) (by omega)]
  rw [or_add (x := 0) (n := 0) (by omega) (by decide) (by omega) (by omega) (by omega), or_add (x := 0 + b * 1) (n := 8) (by omega) (by omega) (by omega) (by omega) (by omega)]
  congr 1; omega
theorem rget2_g (a b : Int) : ref01_Get.g 20 [a, b] true = some (IntKind.u64.wrap (IntKind.u64.wrap (IntKind.u64.wrap (IntKind.u64.wrap (0 * 256) + a) * 256) + b)) := by kernel_rfl
theorem rnum_is {a b : Int} (ha : By a) (hb : By b) : ref21_number.f [a, b] = some (a * 256 + b) := by
  unfold By at ha hb
  unfold ref21_number.f
  rw [ref01_Get.le 20 _ _ _ (rget2_g a b), Option.bind_some]
  rw [u64w (x := 0 * 256) (by omega) (by omega), u64w (x := 0 * 256 + a) (by omega) (by omega), u64w (x := (0 * 256 + a) * 256) (by omega) (by omega), u64w (by omega) (by omega)]
  unfold lt
  rw [i64w (by omega) (by omega)]
  congr 1; omega
theorem two_of {t : List Int} (h : 2 ≤ t.length) : ∃ x y r, t = x :: y :: r := by
  match t, h with
  | x :: y :: r, _ => exact ⟨x, y, r, rfl⟩
theorem num_is {t : List Int} (h : 2 ≤ t.length) (hb : Byl t) : dns_num.f t = some (num2 t) := by
  obtain ⟨x, y, r, rfl⟩ := two_of h
  have hx := hb x (by simp)
  have hy := hb y (by simp)
  unfold By at hx hy
  unfold dns_num.f
  have hc : cut (x :: y :: r) 0 2 = some [x, y] := by
    unfold cut
    rw [if_pos (by simp; omega)]; rfl
  rw [hc, Option.bind_some, get2 hx hy, Option.bind_some]
  unfold lt num2
  rw [i64w (by omega) (by omega)]; rfl
theorem cut_drop (l : List Int) (a : Nat) (h : a ≤ l.length) : cut l (a : Int) (l.length : Int) = some (l.drop a) := by
  unfold cut
  rw [if_pos (by omega)]; simp
theorem cut2 (l : List Int) (a : Nat) (h : a + 2 ≤ l.length) : cut l (a : Int) ((a + 2 : Nat) : Int) = some ((l.drop a).take 2) := by
  unfold cut
  rw [if_pos (by omega)]
  congr 1
  rw [Int.toNat_natCast, Int.toNat_natCast, List.drop_take]; congr 1; omega
theorem rnum2_is {t : List Int} (h : 2 ≤ t.length) (hb : Byl t) : ref21_number.f (t.take 2) = some (num2 t) := by
  obtain ⟨x, y, r, rfl⟩ := two_of h
  exact rnum_is (hb x (by simp)) (hb y (by simp))
/-! ### The program's reading -/
theorem read_loop (a1 : List Int) (hl : a1.length ≤ 90000) (hb : Byl a1) : ∀ (k o : Nat) (ls : List (List Int)), 12 + o ≤ a1.length + 1 → a1.length < 12 + o + k → ls.length ≤ o →
    ∃ q : Tquestion, loop (ρ := Tquestion ⊕ (Tquestion × Option Tfault)) (fun s1 => (if decide ((a1.length : Int) ≤ s1.end_) = true then (dns_no.f 160).bind fun r4 => some (.inr (.inr ((s1, r4)))) else (cut a1 s1.end_ (a1.length : Int)).bind fun x2 => (dns_label.f x2).bind fun r5 => (if (!r5.2.isNone) = true then some (.inr (.inr ((s1, r5.2)))) else lt (⟨s1.labels, s1.kind, IntKind.i64.wrap (s1.end_ + (IntKind.i64.wrap (1 + (r5.1.length : Int))))⟩ : Tquestion) fun y3 => (if decide (r5.1 = []) = true then some (.inr (.inl (y3))) else (if decide (255 < (IntKind.i64.wrap ((IntKind.i64.wrap (y3.end_ - 12)) + 1))) = true then (dns_no.f 161).bind fun r6 => some (.inr (.inr ((y3, r6)))) else (app y3.labels ([r5.1] : List (List Int))).bind fun x3 => some (.inl (⟨x3, y3.kind, y3.end_⟩ : Tquestion))))))) (⟨ls, 0, ((12 + o : Nat) : Int)⟩ : Tquestion) = some (match nms k (a1.drop (12 + o)) o with | .inl e => .inr (q, flt e) | .inr (l2, p) => .inl ⟨ls ++ l2, 0, ((12 + p : Nat) : Int)⟩) := by
  intro k
  induction k with
  | zero =>
    intro o ls h1 h2 h3
    have e : 12 + o = a1.length + 1 := by omega
    refine ⟨⟨ls, 0, ((12 + o : Nat) : Int)⟩, ?_⟩
    have c : ((a1.length : Int) ≤ ((12 + o : Nat) : Int)) := by omega
    rw [loop_out (r := .inr (⟨ls, 0, ((12 + o : Nat) : Int)⟩, flt 160)) (by simp only [c, decide_true, if_true, no_is, Option.bind_some])]
    rfl
  | succ k ih =>
    intro o ls h1 h2 h3
    by_cases c : ((a1.length : Int) ≤ ((12 + o : Nat) : Int))
    · refine ⟨⟨ls, 0, ((12 + o : Nat) : Int)⟩, ?_⟩
      rw [loop_out (r := .inr (⟨ls, 0, ((12 + o : Nat) : Int)⟩, flt 160)) (by simp only [c, decide_true, if_true, no_is, Option.bind_some])]
      rw [List.drop_eq_nil_of_le (by omega)]; rfl
    · have hlt : 12 + o < a1.length := by omega
      have hd : a1.drop (12 + o) = a1[12 + o] :: a1.drop (12 + o + 1) := List.drop_eq_getElem_cons hlt
      have hn := hb _ (List.getElem_mem hlt)
      have hlab := label_is a1[12 + o] (a1.drop (12 + o + 1)) hn (by rw [List.length_drop]; omega)
      have hn' := hn
      unfold By at hn'
      rw [hd]
      generalize a1[12 + o] = n at *
      have hcut := cut_drop a1 (12 + o) (by omega)
      rw [hd] at hcut
      rw [nms]
      by_cases n0 : n = 0
      · subst n0
        refine ⟨⟨[], 0, 0⟩, ?_⟩
        rw [if_pos rfl]
        have e1 : IntKind.i64.wrap (((12 + o : Nat) : Int) + IntKind.i64.wrap (1 + (([] : List Int).length : Int))) = ((12 + (o + 1) : Nat) : Int) := by
          rw [i64w (x := 1 + (([] : List Int).length : Int)) (by simp) (by simp), i64w (by simp; omega) (by simp; omega)]; simp; omega
        rw [loop_out (r := .inl ⟨ls, 0, ((12 + (o + 1) : Nat) : Int)⟩) (by
          have : ¬ ((63 : Int) < 0) := by decide
          simp only [c, decide_false, Bool.false_eq_true, if_false, hcut, Option.bind_some, hlab, this, lbl, Int.toNat_zero, Option.isNone_none, Bool.not_true, lt, e1, decide_true, if_true])]
        simp
      rw [if_neg n0]
      by_cases n1 : 63 < n
      · refine ⟨⟨ls, 0, ((12 + o : Nat) : Int)⟩, ?_⟩
        rw [if_pos n1]
        rw [if_pos n1] at hlab
        rw [loop_out (r := .inr (⟨ls, 0, ((12 + o : Nat) : Int)⟩, flt 161)) (by
          simp only [c, decide_false, Bool.false_eq_true, if_false, hcut, Option.bind_some, hlab]
          rfl)]
      rw [if_neg n1]
      rw [if_neg n1] at hlab
      cases hl2 : lbl n.toNat (a1.drop (12 + o + 1)) with
      | inl e =>
        rw [hl2] at hlab
        refine ⟨⟨ls, 0, ((12 + o : Nat) : Int)⟩, ?_⟩
        rw [loop_out (r := .inr (⟨ls, 0, ((12 + o : Nat) : Int)⟩, flt e)) (by
          simp only [c, decide_false, Bool.false_eq_true, if_false, hcut, Option.bind_some, hlab]
          rfl)]
      | inr l =>
        rw [hl2] at hlab
        obtain ⟨b1, b2⟩ := lbl_len _ _ _ hl2
        rw [List.length_drop] at b2
        have lne : ¬ l = [] := fun e => by rw [e] at b1; simp at b1; omega
        have e1 : IntKind.i64.wrap (((12 + o : Nat) : Int) + IntKind.i64.wrap (1 + (l.length : Int))) = ((12 + (o + 1 + n.toNat) : Nat) : Int) := by
          rw [i64w (x := 1 + (l.length : Int)) (by omega) (by omega), i64w (by omega) (by omega)]; omega
        have e2 : IntKind.i64.wrap (IntKind.i64.wrap (((12 + (o + 1 + n.toNat) : Nat) : Int) - 12) + 1) = ((o + n.toNat + 2 : Nat) : Int) := by
          rw [i64w (x := ((12 + (o + 1 + n.toNat) : Nat) : Int) - 12) (by omega) (by omega), i64w (by omega) (by omega)]; omega
        dsimp only
        by_cases c2 : 255 < o + n.toNat + 2
        · refine ⟨⟨ls, 0, ((12 + (o + 1 + n.toNat) : Nat) : Int)⟩, ?_⟩
          rw [if_pos c2]
          have c2' : (255 : Int) < ((o + n.toNat + 2 : Nat) : Int) := by omega
          rw [loop_out (r := .inr (⟨ls, 0, ((12 + (o + 1 + n.toNat) : Nat) : Int)⟩, flt 161)) (by
            simp only [c, decide_false, Bool.false_eq_true, if_false, hcut, Option.bind_some, hlab, Option.isNone_none, Bool.not_true, lt, e1, lne, e2, c2', decide_true, if_true, no_is])]
        · rw [if_neg c2]
          have c2' : ¬ (255 : Int) < ((o + n.toNat + 2 : Nat) : Int) := by omega
          obtain ⟨q, hq⟩ := ih (o + 1 + n.toNat) (ls ++ [l]) (by omega) (by omega) (by simp; omega)
          refine ⟨q, ?_⟩
          rw [loop_in (s' := ⟨ls ++ [l], 0, ((12 + (o + 1 + n.toNat) : Nat) : Int)⟩) (by
            simp only [c, decide_false, Bool.false_eq_true, if_false, hcut, Option.bind_some, hlab, Option.isNone_none, Bool.not_true, lt, e1, lne, e2, c2']
            rw [app_k _ _ (by simp; omega)]; rfl)]
          rw [hq, List.drop_drop, show 12 + o + 1 + n.toNat = 12 + (o + 1 + n.toNat) by omega]
          cases nms k (a1.drop (12 + (o + 1 + n.toNat))) (o + 1 + n.toNat) with
          | inl e => rfl
          | inr x => obtain ⟨l2, p⟩ := x; simp
theorem read_is (a1 : List Int) (hl : a1.length ≤ 90000) (hb : Byl a1) : ∃ q : Tquestion, dns_read.f a1 = some (match qn a1 with | .inl e => (q, flt e) | .inr (ls, k, e) => (⟨ls, k, (e : Int)⟩, none)) := by
  unfold dns_read.f qn
  by_cases c1 : a1.length < 12
  · have c1' : (a1.length : Int) < 12 := by omega
    rw [if_pos c1]
    simp only [lt, c1', decide_true, if_true, no_is, Option.bind_some]
    exact ⟨_, rfl⟩
  have c1' : ¬ (a1.length : Int) < 12 := by omega
  have h4 := cut_drop a1 4 (by omega)
  have h4' : cut a1 4 (a1.length : Int) = some (a1.drop 4) := h4
  rw [if_neg c1]
  simp only [lt, c1', decide_false, Bool.false_eq_true, if_false, h4', Option.bind_some]
  rw [num_is (by rw [List.length_drop]; omega) (hb.drop 4), Option.bind_some]
  by_cases c2 : num2 (a1.drop 4) = 1
  case neg =>
    rw [if_pos c2]
    simp only [c2, decide_false, Bool.not_false, if_true, no_is, Option.bind_some]
    exact ⟨_, rfl⟩
  rw [if_neg (show ¬ ¬ num2 (a1.drop 4) = 1 from fun h => h c2)]
  simp only [c2, decide_true, Bool.not_true, Bool.false_eq_true, if_false]
  obtain ⟨q, hq⟩ := read_loop a1 hl hb (a1.length + 1) 0 [] (by omega) (by omega) (by simp)
  have hq' := hq
  simp only [lt, Nat.add_zero] at hq'
  rw [show loop _ (⟨[], 0, 12⟩ : Tquestion) = _ from hq', Option.bind_some]
  cases hn : nms (a1.length + 1) (a1.drop 12) 0 with
  | inl e => exact ⟨q, rfl⟩
  | inr x =>
    obtain ⟨ls, p⟩ := x
    have hp := (nms_pos _ _ _ _ _ (hb.drop _) hn).2.1
    rw [List.length_drop] at hp
    simp only [Sum.elim_inl, List.nil_append]
    have e4 : IntKind.i64.wrap (((12 + p : Nat) : Int) + 4) = ((12 + p + 4 : Nat) : Int) := by rw [i64w (by omega) (by omega)]; omega
    rw [e4]
    by_cases c3 : a1.length < 12 + p + 4
    · have c3' : (a1.length : Int) < ((12 + p + 4 : Nat) : Int) := by omega
      rw [if_pos c3]
      simp only [c3', decide_true, if_true, no_is, Option.bind_some]
      exact ⟨_, rfl⟩
    · have c3' : ¬ (a1.length : Int) < ((12 + p + 4 : Nat) : Int) := by omega
      rw [if_neg c3]
      simp only [c3', decide_false, Bool.false_eq_true, if_false, cut_drop a1 (12 + p) (by omega), Option.bind_some]
      rw [num_is (by rw [List.length_drop]; omega) (hb.drop _), Option.bind_some]
      exact ⟨q, rfl⟩
/-! ### The document's reading -/
def inter (ls : List (List Int)) : List Int := ([46] : List Int).intercalate ls
theorem inter_snoc : ∀ (ls : List (List Int)) (l : List Int), ls ≠ [] → inter (ls ++ [l]) = inter ls ++ [46] ++ l
  | [], l, h => absurd rfl h
  | [x], l, _ => by simp [inter, List.intercalate, List.intersperse]
  | x :: y :: t, l, _ => by
    have h := inter_snoc (y :: t) l (by simp)
    simp only [inter, List.intercalate, List.cons_append, List.intersperse, List.flatten_cons] at h ⊢
    rw [h]; simp
theorem inter_nil {ls : List (List Int)} (h : ∀ l ∈ ls, l ≠ []) : inter ls = [] ↔ ls = [] := by
  constructor
  · intro e
    match ls, h, e with
    | [], _, _ => rfl
    | [x], h, e =>
      have : inter [x] = x := by simp [inter, List.intercalate, List.intersperse]
      exact absurd (this ▸ e) (h x (by simp))
    | x :: y :: t, h, e =>
      have : inter (x :: y :: t) = x ++ ([46] ++ inter (y :: t)) := by simp [inter, List.intercalate, List.intersperse]
      rw [this] at e
      exact absurd (List.append_eq_nil_iff.1 e).1 (h x (by simp))
  · rintro rfl; rfl
theorem names_loop (a1 : List Int) (a2 : Int) (ha2 : a2 = 12) (hl : a1.length ≤ 90000) (hb : Byl a1) : ∀ (k o : Nat) (ls : List (List Int)), 12 + o ≤ a1.length + 1 → a1.length < 12 + o + k → (∀ l ∈ ls, l ≠ []) → (inter ls).length ≤ o →
    loop (ρ := (List Int × Int) ⊕ (List Int × Int × Int)) (fun s1 => (if decide ((a1.length : Int) ≤ s1.2) = true then some (.inr (.inr (([], 0, 160)))) else (idx a1 s1.2).bind fun x1 => (if decide (x1 = 0) = true then some (.inr (.inl ((s1.1, s1.2)))) else (if decide (63 < x1) = true then some (.inr (.inr (([], 0, 161)))) else ((if (!decide (s1.1 = [])) = true then (app s1.1 [46]).bind fun x2 => some (x2) else some (s1.1))).bind (fun j1 => (loop (fun s2 => (if decide (s2.2 ≤ x1) = true then (if decide ((a1.length : Int) ≤ (IntKind.i64.wrap (s1.2 + s2.2))) = true then some (.inr (.inr (([], 0, 160)))) else (idx a1 (IntKind.i64.wrap (s1.2 + s2.2))).bind fun x3 => (ref21_letter.f x3).bind fun r1 => (if (!r1.2) = true then some (.inr (.inr (([], 0, 161)))) else (app s2.1 ([r1.1] : List Int)).bind fun x4 => lt (IntKind.i64.wrap (s2.2 + 1)) fun y1 => some (.inl (x4, y1)))) else some (.inr (.inl (s2.1))))) (j1, 1)).bind (Sum.elim (fun j2 => lt (IntKind.i64.wrap ((IntKind.i64.wrap (s1.2 + 1)) + x1)) fun y2 => (if decide (255 < (IntKind.i64.wrap ((IntKind.i64.wrap (y2 - a2)) + 1))) = true then some (.inr (.inr (([], 0, 161)))) else some (.inl (j2, y2)))) (fun z_ => some (.inr (.inr (z_)))))))))) (inter ls, ((12 + o : Nat) : Int)) = some (match nms k (a1.drop (12 + o)) o with | .inl e => .inr ([], 0, e) | .inr (l2, p) => .inl (inter (ls ++ l2), ((12 + p : Nat) : Int) - 1)) := by
  intro k
  induction k with
  | zero =>
    intro o ls h1 h2 h3 h4
    have c : ((a1.length : Int) ≤ ((12 + o : Nat) : Int)) := by omega
    rw [loop_out (r := .inr ([], 0, 160)) (by simp only [c, decide_true, if_true])]
    rfl
  | succ k ih =>
    intro o ls h1 h2 h3 h4
    by_cases c : ((a1.length : Int) ≤ ((12 + o : Nat) : Int))
    · rw [loop_out (r := .inr ([], 0, 160)) (by simp only [c, decide_true, if_true])]
      rw [List.drop_eq_nil_of_le (by omega)]; rfl
    have hlt : 12 + o < a1.length := by omega
    have hd : a1.drop (12 + o) = a1[12 + o] :: a1.drop (12 + o + 1) := List.drop_eq_getElem_cons hlt
    have hn := hb _ (List.getElem_mem hlt)
    have hix := ix a1 (12 + o) hlt
    unfold By at hn
    rw [hd]
    generalize a1[12 + o] = x1 at *
    rw [nms]
    by_cases n0 : x1 = 0
    · subst n0
      rw [if_pos rfl]
      rw [loop_out (r := .inl (inter ls, ((12 + o : Nat) : Int))) (by simp only [c, decide_false, Bool.false_eq_true, if_false, hix, Option.bind_some, decide_true, if_true])]
      simp
      omega
    rw [if_neg n0]
    by_cases n1 : 63 < x1
    · rw [if_pos n1]
      rw [loop_out (r := .inr ([], 0, 161)) (by simp only [c, n0, n1, decide_false, Bool.false_eq_true, if_false, hix, Option.bind_some, decide_true, if_true])]
    rw [if_neg n1]
    -- the text so far
    obtain ⟨j1, hj1, hj2, hj3⟩ : ∃ j1, (if (!decide (inter ls = [])) = true then (app (inter ls) [46]).bind fun x2 => some (x2) else some (inter ls)) = some j1 ∧ (∀ l, l ≠ [] → inter (ls ++ [l]) = j1 ++ l) ∧ j1.length ≤ o + 1 := by
      by_cases e : inter ls = []
      · refine ⟨inter ls, by simp [e], fun l hl => ?_, by omega⟩
        rw [(inter_nil h3).1 e]
        simp [inter, List.intercalate, List.intersperse]
      · refine ⟨inter ls ++ [46], ?_, fun l hl => inter_snoc ls l fun e2 => e ((inter_nil h3).2 e2), by simp; omega⟩
        rw [if_pos (by simp [e]), app_k _ _ (by simp; omega)]; rfl
    have hin := lbl_loop (B := fun s2 : List Int × Int => (if decide (s2.2 ≤ x1) = true then (if decide ((a1.length : Int) ≤ (IntKind.i64.wrap (((12 + o : Nat) : Int) + s2.2))) = true then some (.inr (.inr (([], 0, 160)))) else (idx a1 (IntKind.i64.wrap (((12 + o : Nat) : Int) + s2.2))).bind fun x3 => (ref21_letter.f x3).bind fun r1 => (if (!r1.2) = true then some (.inr (.inr (([], 0, 161)))) else (app s2.1 ([r1.1] : List Int)).bind fun x4 => lt (IntKind.i64.wrap (s2.2 + 1)) fun y1 => some (.inl (x4, y1)))) else some (.inr (.inl (s2.1))))) (fun acc i => (acc, ((i + 1 : Nat) : Int))) (fun acc => (.inl acc : List Int ⊕ (List Int × Int × Int))) (fun e => .inr ([], 0, e)) (a1.drop (12 + o + 1)) x1.toNat (o + 1) (fun acc i ha hi => by
        have c2 : (((i + 1 : Nat) : Int) ≤ x1) := by omega
        have ew : IntKind.i64.wrap (((12 + o : Nat) : Int) + ((i + 1 : Nat) : Int)) = ((12 + o + 1 + i : Nat) : Int) := by rw [i64w (by omega) (by omega)]; omega
        have ew2 : IntKind.i64.wrap (((i + 1 : Nat) : Int) + 1) = ((i + 1 + 1 : Nat) : Int) := by rw [i64w (by omega) (by omega)]; rfl
        simp only [c2, decide_true, if_true, ew, ew2, lt]
        by_cases h : i < (a1.drop (12 + o + 1)).length
        · rw [List.length_drop] at h
          have c3 : ¬ ((a1.length : Int) ≤ ((12 + o + 1 + i : Nat) : Int)) := by omega
          have hi2 : 12 + o + 1 + i < a1.length := by omega
          obtain ⟨z, hz1, hz2⟩ := rletter_is a1[12 + o + 1 + i] (hb _ (List.getElem_mem hi2))
          rw [dif_pos (by rw [List.length_drop]; omega), List.getElem_drop]
          simp only [c3, decide_false, Bool.false_eq_true, if_false, ix a1 _ hi2, Option.bind_some, hz1]
          by_cases ho : okc a1[12 + o + 1 + i] = true
          · simp only [ho, if_true, Bool.not_true, Bool.false_eq_true, if_false, hz2 ho]
            rw [app_k _ _ (by simp; omega)]; rfl
          · have ho' : okc a1[12 + o + 1 + i] = false := by simpa using ho
            simp only [ho', Bool.not_false, if_true, Bool.false_eq_true, if_false]
        · rw [dif_neg h]
          rw [List.length_drop] at h
          have c3 : ((a1.length : Int) ≤ ((12 + o + 1 + i : Nat) : Int)) := by omega
          simp only [c3, decide_true, if_true])
      (fun acc => by
        have c2 : ¬ (((x1.toNat + 1 : Nat) : Int) ≤ x1) := by omega
        simp only [c2, decide_false, Bool.false_eq_true, if_false])
      x1.toNat 0 j1 (by omega) (by omega)
    rw [List.drop_zero] at hin
    have hin' : loop (ρ := List Int ⊕ (List Int × Int × Int)) (fun s2 : List Int × Int => (if decide (s2.2 ≤ x1) = true then (if decide ((a1.length : Int) ≤ (IntKind.i64.wrap (((12 + o : Nat) : Int) + s2.2))) = true then some (.inr (.inr (([], 0, 160)))) else (idx a1 (IntKind.i64.wrap (((12 + o : Nat) : Int) + s2.2))).bind fun x3 => (ref21_letter.f x3).bind fun r1 => (if (!r1.2) = true then some (.inr (.inr (([], 0, 161)))) else (app s2.1 ([r1.1] : List Int)).bind fun x4 => lt (IntKind.i64.wrap (s2.2 + 1)) fun y1 => some (.inl (x4, y1)))) else some (.inr (.inl (s2.1))))) (j1, 1) = some (match lbl x1.toNat (a1.drop (12 + o + 1)) with | .inl e => .inr ([], 0, e) | .inr l => .inl (j1 ++ l)) := hin
    cases hl2 : lbl x1.toNat (a1.drop (12 + o + 1)) with
    | inl e =>
      rw [hl2] at hin'
      rw [loop_out (r := .inr ([], 0, e)) (by
        simp only [c, n0, n1, decide_false, Bool.false_eq_true, if_false, hix, Option.bind_some]
        rw [hj1, Option.bind_some, hin', Option.bind_some]; rfl)]
    | inr l =>
      rw [hl2] at hin'
      obtain ⟨b1, b2⟩ := lbl_len _ _ _ hl2
      rw [List.length_drop] at b2
      have lne : ¬ l = [] := fun e => by rw [e] at b1; simp at b1; omega
      have e1 : IntKind.i64.wrap (IntKind.i64.wrap (((12 + o : Nat) : Int) + 1) + x1) = ((12 + (o + 1 + x1.toNat) : Nat) : Int) := by
        rw [i64w (x := ((12 + o : Nat) : Int) + 1) (by omega) (by omega), i64w (by omega) (by omega)]; omega
      have e2 : IntKind.i64.wrap (IntKind.i64.wrap (((12 + (o + 1 + x1.toNat) : Nat) : Int) - a2) + 1) = ((o + x1.toNat + 2 : Nat) : Int) := by
        rw [ha2, i64w (x := ((12 + (o + 1 + x1.toNat) : Nat) : Int) - 12) (by omega) (by omega), i64w (by omega) (by omega)]; omega
      dsimp only at hin' ⊢
      by_cases c2 : 255 < o + x1.toNat + 2
      · rw [if_pos c2]
        have c2' : (255 : Int) < ((o + x1.toNat + 2 : Nat) : Int) := by omega
        rw [loop_out (r := .inr ([], 0, 161)) (by
          simp only [c, n0, n1, decide_false, Bool.false_eq_true, if_false, hix, Option.bind_some]
          rw [hj1, Option.bind_some, hin', Option.bind_some]
          simp only [Sum.elim_inl, lt, e1, e2, c2', decide_true, if_true])]
      · rw [if_neg c2]
        have c2' : ¬ (255 : Int) < ((o + x1.toNat + 2 : Nat) : Int) := by omega
        have hsn := hj2 l lne
        have := ih (o + 1 + x1.toNat) (ls ++ [l]) (by omega) (by omega) (fun y hy => by
          rcases List.mem_append.1 hy with hy | hy
          · exact h3 y hy
          · rw [List.mem_singleton.1 hy]; exact lne) (by rw [hsn, List.length_append]; omega)
        rw [loop_in (s' := (inter (ls ++ [l]), ((12 + (o + 1 + x1.toNat) : Nat) : Int))) (by
          simp only [c, n0, n1, decide_false, Bool.false_eq_true, if_false, hix, Option.bind_some]
          rw [hj1, Option.bind_some, hin', Option.bind_some, hsn]
          simp only [Sum.elim_inl, lt, e1, e2, c2', decide_false, Bool.false_eq_true, if_false])]
        rw [this, List.drop_drop, show 12 + o + 1 + x1.toNat = 12 + (o + 1 + x1.toNat) by omega]
        cases nms k (a1.drop (12 + (o + 1 + x1.toNat))) (o + 1 + x1.toNat) with
        | inl e => rfl
        | inr x => obtain ⟨l2, p⟩ := x; simp
theorem rnames_is (a1 : List Int) (hl : a1.length ≤ 90000) (h12 : 12 ≤ a1.length) (hb : Byl a1) : ref21_names.f a1 12 = some (match nms (a1.length + 1) (a1.drop 12) 0 with | .inl e => ([], 0, e) | .inr (ls, p) => (inter ls, ((12 + p : Nat) : Int), 0)) := by
  obtain ⟨a2, ha2⟩ : ∃ a2 : Int, a2 = 12 := ⟨_, rfl⟩
  rw [← ha2]
  unfold ref21_names.f
  have h := names_loop a1 a2 ha2 hl hb (a1.length + 1) 0 [] (by omega) (by omega) (fun l hl => by cases hl) (by simp [inter, List.intercalate])
  have e0 : inter [] = [] := rfl
  rw [e0, show ((12 + 0 : Nat) : Int) = a2 by rw [ha2]; rfl] at h
  rw [show loop _ (([] : List Int), a2) = _ from h, Option.bind_some]
  cases hn : nms (a1.length + 1) (a1.drop (12 + 0)) 0 with
  | inl e => rfl
  | inr x =>
    obtain ⟨ls, p⟩ := x
    have h2 := (nms_pos _ _ _ _ _ (hb.drop _) hn).2.1
    rw [List.length_drop] at h2
    simp only [Sum.elim_inl, lt, List.nil_append]
    have e : IntKind.i64.wrap (((12 + p : Nat) : Int) - 1 + 1) = ((12 + p : Nat) : Int) := by rw [i64w (by omega) (by omega)]; omega
    rw [e]
theorem rquestion_is (a1 : List Int) (hl : a1.length ≤ 90000) (hb : Byl a1) : ref21_question.f a1 = some (match qn a1 with | .inl e => ([], 0, 0, e) | .inr (ls, k, e) => (inter ls, k, (e : Int), 0)) := by
  unfold ref21_question.f qn
  by_cases c1 : a1.length < 12
  · have c1' : (a1.length : Int) < 12 := by omega
    rw [if_pos c1]
    simp only [c1', decide_true, if_true]
  have c1' : ¬ (a1.length : Int) < 12 := by omega
  have h4 : cut a1 4 6 = some ((a1.drop 4).take 2) := cut2 a1 4 (by omega)
  rw [if_neg c1]
  simp only [c1', decide_false, Bool.false_eq_true, if_false, h4, Option.bind_some]
  rw [rnum2_is (by rw [List.length_drop]; omega) (hb.drop 4), Option.bind_some]
  by_cases c2 : num2 (a1.drop 4) = 1
  case neg =>
    rw [if_pos c2]
    simp only [c2, decide_false, Bool.not_false, if_true]
  rw [if_neg (show ¬ ¬ num2 (a1.drop 4) = 1 from fun h => h c2)]
  simp only [c2, decide_true, Bool.not_true, Bool.false_eq_true, if_false]
  rw [rnames_is a1 hl (by omega) hb, Option.bind_some]
  cases hn : nms (a1.length + 1) (a1.drop 12) 0 with
  | inl e =>
    have he : ¬ e = 0 := by rcases nms_err _ _ _ _ hn with rfl | rfl <;> decide
    simp only [he, decide_false, Bool.not_false, if_true]
  | inr x =>
    obtain ⟨ls, p⟩ := x
    have hp := (nms_pos _ _ _ _ _ (hb.drop _) hn).2.1
    rw [List.length_drop] at hp
    have e4 : IntKind.i64.wrap (((12 + p : Nat) : Int) + 4) = ((12 + p + 4 : Nat) : Int) := by rw [i64w (by omega) (by omega)]; omega
    have e5 : IntKind.i64.wrap (((12 + p : Nat) : Int) + 2) = ((12 + p + 2 : Nat) : Int) := by rw [i64w (by omega) (by omega)]; omega
    simp only [decide_true, Bool.not_true, Bool.false_eq_true, if_false, e4, e5]
    by_cases c3 : a1.length < 12 + p + 4
    · have c3' : (a1.length : Int) < ((12 + p + 4 : Nat) : Int) := by omega
      rw [if_pos c3]
      simp only [c3', decide_true, if_true]
    · have c3' : ¬ (a1.length : Int) < ((12 + p + 4 : Nat) : Int) := by omega
      rw [if_neg c3]
      simp only [c3', decide_false, Bool.false_eq_true, if_false, cut2 a1 (12 + p) (by omega), Option.bind_some]
      rw [rnum2_is (by rw [List.length_drop]; omega) (hb.drop _), Option.bind_some]
      rfl
end Go.Proofs.YtjjceikmimhpnaaDoor.S
