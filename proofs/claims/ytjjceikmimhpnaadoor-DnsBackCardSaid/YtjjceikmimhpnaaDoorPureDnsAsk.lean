/- Plain facts on questions for names: what is asked for a name, as the program and as the document write it; each states its own conditions. -/
import Derived.Test.YtjjceikmimhpnaaDoorPureDnsName
namespace Go.Proofs.YtjjceikmimhpnaaDoor.S
open Go Go.SL
set_option linter.unusedVariables false
set_option linter.unusedSimpArgs false
def pok (p : List Int) : Bool := decide (p ≠ []) && (decide (p.length ≤ 63) && p.all okc)
def enc (ps : List (List Int)) : List Int := (ps.map fun p => (p.length : Int) :: p).flatten
theorem enc_cons (p : List Int) (ps : List (List Int)) : enc (p :: ps) = (p.length : Int) :: (p ++ enc ps) := by simp [enc]
/-- A name's labels, as bytes; none: it has none. -/
def nmo (t : List Int) : Option (List Int) := if t = [] then some [] else if (splitc 46 t).all pok = true then some (enc (splitc 46 t)) else none
def trim (s : List Int) : List Int := if s.getLast? = some 46 then s.dropLast else s
theorem trim_len (s : List Int) : (trim s).length ≤ s.length := by unfold trim; split <;> simp
theorem trim_mem {s : List Int} {b : Int} (h : b ∈ trim s) : b ∈ s := by
  unfold trim at h
  split at h
  · exact List.dropLast_subset _ h
  · exact h
theorem last_cases (s : List Int) : s = [] ∨ ∃ a b, s = a ++ [b] := by
  by_cases h : s = []
  · exact .inl h
  · exact .inr ⟨s.dropLast, s.getLast h, (List.dropLast_concat_getLast h).symm⟩
theorem trim_snoc (a : List Int) (b : Int) : trim (a ++ [b]) = if b = 46 then a else a ++ [b] := by
  unfold trim; simp
theorem hasSuffix_is (s : List Int) (hs : s.length ≤ 90000) : stringslite_HasSuffix.f s [46] = some (decide (s.getLast? = some 46)) := by
  unfold stringslite_HasSuffix.f
  rcases last_cases s with rfl | ⟨a, b, rfl⟩
  · rfl
  · have e1 : IntKind.i64.wrap (((a ++ [b]).length : Int) - (([46] : List Int).length : Int)) = (a.length : Int) := by
      rw [List.length_append] at *
      rw [i64w (by simp <;> omega) (by simp <;> omega)]; simp
    have hc : cut (a ++ [b]) (a.length : Int) ((a ++ [b]).length : Int) = some [b] := by
      rw [cut_drop _ _ (by simp)]; simp
    have c1 : ((([46] : List Int).length : Int) ≤ ((a ++ [b]).length : Int)) := by simp <;> omega
    simp only [lt, c1, decide_true, if_true, e1, hc, Option.bind_some, List.getLast?_concat]
    by_cases h : b = 46 <;> simp [h]
theorem trim_is (s : List Int) (hs : s.length ≤ 90000) : strings_TrimSuffix.f s [46] = some (trim s) := by
  unfold strings_TrimSuffix.f stringslite_TrimSuffix.f
  rw [hasSuffix_is s hs, Option.bind_some]
  rcases last_cases s with rfl | ⟨a, b, rfl⟩
  · rfl
  · have e1 : IntKind.i64.wrap (((a ++ [b]).length : Int) - (([46] : List Int).length : Int)) = (a.length : Int) := by
      rw [List.length_append] at *
      rw [i64w (by simp <;> omega) (by simp <;> omega)]; simp
    have hc : cut (a ++ [b]) 0 (a.length : Int) = some a := by
      unfold cut
      rw [if_pos (by simp; omega)]; simp
    rw [trim_snoc]
    by_cases h : b = 46
    · simp [h, e1, hc]
      rw [h] at hc e1
      simp at e1 hc
      simp [e1, hc]
    · simp [h]
theorem any_is (l : List Int) (hl : l.length ≤ 90000) : slices_ContainsFunc_s_byte_byte_at_dns_name_1.f l = some (!l.all okc) := by
  unfold slices_ContainsFunc_s_byte_byte_at_dns_name_1.f slices_IndexFunc_s_byte_byte_at_dns_name_1.f
  have hf : ∀ c, dns_name_1.f c = some (!okc c) := fun c => by
    unfold dns_name_1.f
    rw [letter_is, Option.bind_some]
    cases okc c <;> rfl
  obtain ⟨k, hk, h1, h2, hlp⟩ := find_run (B := fun s1 : Int => (if decide (s1 < (l.length : Int)) = true then (idx l s1).bind fun x1 => (dns_name_1.f x1).bind fun r1 => (if r1 = true then some (.inr (.inr (s1))) else some (.inl (IntKind.i64.wrap (s1 + 1)))) else some (.inr (.inl (())))))
    (fun i => if h : i < l.length then !okc l[i] else false) l.length (fun i => (i : Int)) (fun i => if i < l.length then (.inr (i : Int) : Unit ⊕ Int) else .inl ())
    (fun i hi hf2 => by
      rw [dif_pos hi] at hf2
      have c : ((i : Int) < (l.length : Int)) := by omega
      simp only [c, decide_true, if_true, ix l i hi, Option.bind_some, hf, hf2, Bool.false_eq_true, if_false]
      rw [stepw hi (by omega)])
    (fun i hi hf2 => by
      rw [dif_pos hi] at hf2
      have c : ((i : Int) < (l.length : Int)) := by omega
      simp only [c, decide_true, if_true, ix l i hi, Option.bind_some, hf, hf2]
      rw [if_pos hi])
    (by simp)
  rw [show loop _ (0 : Int) = _ from hlp, Option.bind_some]
  by_cases hkl : k < l.length
  · rw [if_pos hkl]
    have := h2 hkl
    rw [dif_pos hkl] at this
    have ha : l.all okc = false := by
      rw [Bool.eq_false_iff]
      intro h
      have := List.all_eq_true.1 h _ (List.getElem_mem hkl)
      simp_all
    rw [ha]
    simp [lt]
  · rw [if_neg hkl]
    have ha : l.all okc = true := List.all_eq_true.2 fun x hx => by
      obtain ⟨i, hi, rfl⟩ := List.getElem_of_mem hx
      have := h1 i (by omega)
      rw [dif_pos hi] at this
      simpa using this
    rw [ha]
    simp [lt]
theorem rnx_name (B : List Int → List Int → Option (List Int ⊕ List Int)) (hB : ∀ s y : List Int, s.length + y.length + 1 ≤ 90000 → B s y = some (if pok y = true then .inl (s ++ ((y.length : Int) :: y)) else .inr s)) : ∀ (ps : List (List Int)) (s : List Int), s.length + (enc ps).length ≤ 90000 → ∃ s', rnx B ps s = some (if ps.all pok = true then .inl (s ++ enc ps) else .inr s')
  | [], s, _ => ⟨s, by simp [rnx, enc]⟩
  | y :: ps, s, h => by
    rw [enc_cons] at h
    simp only [List.length_cons, List.length_append] at h
    rw [rnx, hB s y (by omega), Option.bind_some]
    cases hy : pok y with
    | false =>
      refine ⟨s, ?_⟩
      rw [if_neg (by simp), List.all_cons, hy]
      rfl
    | true =>
      obtain ⟨s', hs⟩ := rnx_name B hB ps (s ++ ((y.length : Int) :: y)) (by simp; omega)
      refine ⟨s', ?_⟩
      rw [if_pos rfl, Sum.elim_inl, hs, List.all_cons, hy, Bool.true_and, enc_cons]
      simp
theorem enc_splitc (c : Int) : ∀ t : List Int, (enc (splitc c t)).length = t.length + 1
  | [] => rfl
  | x :: t => by
    have ih := enc_splitc c t
    unfold splitc
    split
    · rw [enc_cons]; simp [ih]
    · cases hs : splitc c t with
      | nil => exact absurd hs (splitc_ne c t)
      | cons h r =>
        rw [hs, enc_cons] at ih
        rw [enc_cons]
        simp at ih ⊢
        omega
theorem name_is (s : List Int) (hs : s.length ≤ 2000) : dns_name.f s = some (match nmo (trim s) with | none => ([], false) | some l => (l ++ [0], decide (l.length + 1 ≤ 255))) := by
  unfold dns_name.f
  have htl := trim_len s
  rw [trim_is s (by omega), Option.bind_some]
  generalize trim s = t at *
  unfold nmo
  by_cases ht : t = []
  · subst ht; rfl
  rw [if_neg ht]
  simp only [ht, decide_false, Bool.not_false, if_true]
  have hsp : strings_SplitSeq.f t [46] = some (splitc 46 t) := by
    unfold strings_SplitSeq.f strings_splitSeq.f
    have : ((([46] : List Int).length : Int) = 1 ∧ (0 : Int) = 0 ∧ (t.length : Int) ≤ 68719476736) := ⟨rfl, rfl, by omega⟩
    simp only [this]
    rfl
  rw [hsp, Option.bind_some]
  have hel := enc_splitc 46 t
  obtain ⟨s', hr⟩ := rnx_name (fun s1 y1 => (s2b y1).bind fun x1 => (slices_ContainsFunc_s_byte_byte_at_dns_name_1.f x1).bind fun r3 => ((if decide (y1 = []) = true then some (true) else (if decide (63 < (y1.length : Int)) = true then some (true) else some (r3)))).bind (fun j1 => (if j1 = true then some (.inr s1) else (app s1 ([IntKind.u8.wrap (y1.length : Int)] : List Int)).bind fun x2 => (app x2 y1).bind fun x3 => some (.inl x3)))) (fun s1 y hy => by
      have h2 : s2b y = some y := if_pos (by omega)
      rw [h2, Option.bind_some, any_is y (by omega), Option.bind_some]
      unfold pok
      by_cases c1 : y = []
      · simp [c1]
      by_cases c2 : y.length ≤ 63
      · have c2' : ¬ (63 : Int) < y.length := by omega
        have ew : IntKind.u8.wrap (y.length : Int) = y.length := by rw [u8w]; omega
        simp only [c1, c2, c2', decide_false, decide_true, Bool.false_eq_true, if_false, Option.bind_some, ne_eq, not_false_eq_true, Bool.true_and, ew]
        cases y.all okc with
        | true =>
          simp only [Bool.not_true, Bool.false_eq_true, if_false, if_true]
          rw [app_k _ _ (by simp; omega), Option.bind_some, app_k _ _ (by simp; omega), Option.bind_some]
          simp
        | false => simp
      · have c2' : (63 : Int) < y.length := by omega
        simp [c1, c2, c2']) (splitc 46 t) [] (by simp; omega)
  rw [hr, Option.bind_some]
  cases hall : (splitc 46 t).all pok with
  | false => rfl
  | true =>
    simp only [if_true, Sum.elim_inl, List.nil_append]
    rw [app_k _ _ (by simp; omega), Option.bind_some]
    congr 2
    simp only [List.length_append, List.length_singleton, decide_eq_decide]
    omega
/-! ### As the document writes them -/
def labs : List Int → List Int → Option (List Int)
  | cur, [] => if 1 ≤ cur.length ∧ cur.length ≤ 63 then some ((cur.length : Int) :: cur) else none
  | cur, c :: t => if c = 46 then (if 1 ≤ cur.length ∧ cur.length ≤ 63 then (labs [] t).map (((cur.length : Int) :: cur) ++ ·) else none) else if okc c = true then labs (cur ++ [c]) t else none
theorem pok_iff {p : List Int} (h : p.all okc = true) : pok p = decide (1 ≤ p.length ∧ p.length ≤ 63) := by
  unfold pok
  rw [h, Bool.and_true]
  by_cases h1 : p = []
  · simp [h1]
  · have : 1 ≤ p.length := List.length_pos_iff.2 h1
    simp [h1, this]
theorem labs_is : ∀ (t cur : List Int), cur.all okc = true → labs cur t = if (((cur ++ (splitc 46 t).headD []) :: (splitc 46 t).tail).all pok) = true then some (enc ((cur ++ (splitc 46 t).headD []) :: (splitc 46 t).tail)) else none
  | [], cur, h => by
    have e : splitc 46 ([] : List Int) = [[]] := rfl
    rw [labs, e]
    simp only [List.headD_cons, List.append_nil, List.tail_cons, List.all_cons, List.all_nil, Bool.and_true, pok_iff h, decide_eq_true_eq]
    simp [enc]
  | c :: t, cur, h => by
    rw [labs]
    by_cases hc : c = 46
    · subst hc
      have e : splitc 46 (46 :: t) = [] :: splitc 46 t := by rw [splitc, if_pos rfl]
      have ih := labs_is t [] rfl
      rw [if_pos rfl, e, ih]
      have e2 : (([] : List Int) ++ (splitc 46 t).headD []) :: (splitc 46 t).tail = splitc 46 t := by
        cases hs : splitc 46 t with
        | nil => exact absurd hs (splitc_ne 46 t)
        | cons a b => rfl
      rw [e2]
      simp only [List.headD_cons, List.append_nil, List.tail_cons, List.all_cons, pok_iff h]
      by_cases h1 : 1 ≤ cur.length ∧ cur.length ≤ 63
      · rw [if_pos h1]
        simp only [h1, and_self, decide_true, Bool.true_and]
        split
        · simp [enc_cons]
        · rfl
      · rw [if_neg h1]
        have : decide (1 ≤ cur.length ∧ cur.length ≤ 63) = false := decide_eq_false h1
        rw [this]; rfl
    · have e : splitc 46 (c :: t) = (c :: (splitc 46 t).headD []) :: (splitc 46 t).tail := by rw [splitc, if_neg hc]
      rw [if_neg hc, e]
      simp only [List.headD_cons, List.tail_cons]
      by_cases ho : okc c = true
      · rw [if_pos ho, labs_is t (cur ++ [c]) (by simp [h, ho])]
        simp
      · rw [if_neg ho]
        have hn : ¬ ((cur ++ c :: (splitc 46 t).headD []) :: (splitc 46 t).tail).all pok = true := fun hh => by
          rw [List.all_cons, Bool.and_eq_true] at hh
          have h3 := hh.1
          unfold pok at h3
          rw [Bool.and_eq_true, Bool.and_eq_true] at h3
          have := List.all_eq_true.1 h3.2.2 c (by simp)
          exact ho this
        exact (if_neg hn).symm
theorem labels_loop (j2 : List Int) (hl : j2.length ≤ 2000) (hb : Byl j2) (hne : j2 ≠ []) : ∀ (k i f : Nat) (out : List Int), i + k = j2.length → f ≤ i → out.length ≤ 2 * f → ((j2.drop f).take (i - f)).all okc = true →
    loop (ρ := List Int ⊕ (List Int × Bool)) (fun s1 => ((if decide (s1.2.2 ≤ (j2.length : Int)) = true then some ((!decide (j2 = []))) else some (false))).bind (fun j3 => (if j3 = true then ((((if decide (s1.2.2 < (j2.length : Int)) = true then (idx j2 s1.2.2).bind fun x3 => some ((!decide (x3 = 46))) else some (false))).bind (fun j4 => (if j4 = true then (idx j2 s1.2.2).bind fun x4 => (ref21_letter.f x4).bind fun r1 => (if (!r1.2) = true then some (.inr (([], false))) else some (.inl ((s1.1, s1.2.1)))) else ((if decide ((IntKind.i64.wrap (s1.2.2 - s1.2.1)) < 1) = true then some (true) else some (decide (63 < (IntKind.i64.wrap (s1.2.2 - s1.2.1)))))).bind (fun j5 => (if j5 = true then some (.inr (([], false))) else (app s1.1 ([IntKind.u8.wrap (IntKind.i64.wrap (s1.2.2 - s1.2.1))] : List Int)).bind fun x5 => (cut j2 s1.2.1 s1.2.2).bind fun x6 => (app x5 x6).bind fun x7 => lt (IntKind.i64.wrap (s1.2.2 + 1)) fun y1 => some (.inl ((x7, y1)))))))).bind (Sum.elim (fun j6 => some (.inl ((j6.1, j6.2)))) (fun z_ => some (.inr (z_))))).bind (Sum.elim (fun j7 => lt (IntKind.i64.wrap (s1.2.2 + 1)) fun y2 => some (.inl (j7.1, j7.2, y2))) (fun z_ => some (.inr (.inr (z_))))) else some (.inr (.inl (s1.1)))))) (out, (f : Int), (i : Int)) = some (match labs ((j2.drop f).take (i - f)) (j2.drop i) with | none => .inr ([], false) | some l => .inl (out ++ l)) := by
  have flush : ∀ (i f : Nat) (out : List Int), i ≤ j2.length → f ≤ i → out.length ≤ 2 * f → (((if decide ((IntKind.i64.wrap ((i : Int) - (f : Int))) < 1) = true then some (true) else some (decide (63 < (IntKind.i64.wrap ((i : Int) - (f : Int))))))).bind (fun j5 => (if j5 = true then (some (.inr (([], false))) : Option ((List Int × Int) ⊕ (List Int × Bool))) else (app out ([IntKind.u8.wrap (IntKind.i64.wrap ((i : Int) - (f : Int)))] : List Int)).bind fun x5 => (cut j2 (f : Int) (i : Int)).bind fun x6 => (app x5 x6).bind fun x7 => lt (IntKind.i64.wrap ((i : Int) + 1)) fun y1 => some (.inl ((x7, y1)))))) = some (if 1 ≤ ((j2.drop f).take (i - f)).length ∧ ((j2.drop f).take (i - f)).length ≤ 63 then .inl (out ++ ((((j2.drop f).take (i - f)).length : Int) :: ((j2.drop f).take (i - f))), ((i + 1 : Nat) : Int)) else .inr ([], false)) := fun i f out hi hf ho => by
    have hlen : ((j2.drop f).take (i - f)).length = i - f := by rw [List.length_take, List.length_drop]; omega
    have e1 : IntKind.i64.wrap ((i : Int) - (f : Int)) = ((i - f : Nat) : Int) := by rw [i64w (by omega) (by omega)]; omega
    have e2 : IntKind.i64.wrap ((i : Int) + 1) = ((i + 1 : Nat) : Int) := by rw [i64w (by omega) (by omega)]; rfl
    have hc : cut j2 (f : Int) (i : Int) = some ((j2.drop f).take (i - f)) := by
      unfold cut
      rw [if_pos (by omega), Int.toNat_natCast, Int.toNat_natCast, List.drop_take]
    rw [hlen, e1]
    by_cases c1 : 1 ≤ i - f
    · by_cases c2 : i - f ≤ 63
      · have c1' : ¬ (((i - f : Nat) : Int) < 1) := by omega
        have c2' : ¬ ((63 : Int) < ((i - f : Nat) : Int)) := by omega
        have e3 : IntKind.u8.wrap ((i - f : Nat) : Int) = ((i - f : Nat) : Int) := by rw [u8w]; omega
        rw [if_pos (show 1 ≤ i - f ∧ i - f ≤ 63 from ⟨c1, c2⟩)]
        simp only [c1', c2', decide_false, Bool.false_eq_true, if_false, Option.bind_some, e3, hc, lt, e2]
        rw [app_k _ _ (by simp; omega), Option.bind_some, app_k _ _ (by simp [hlen]; omega), Option.bind_some]
        simp
      · have c1' : ¬ (((i - f : Nat) : Int) < 1) := by omega
        have c2' : ((63 : Int) < ((i - f : Nat) : Int)) := by omega
        rw [if_neg (show ¬ (1 ≤ i - f ∧ i - f ≤ 63) by omega)]
        simp only [c1', c2', decide_false, decide_true, Bool.false_eq_true, if_false, if_true, Option.bind_some]
    · have c1' : (((i - f : Nat) : Int) < 1) := by omega
      rw [if_neg (show ¬ (1 ≤ i - f ∧ i - f ≤ 63) by omega)]
      simp only [c1', decide_true, if_true, Option.bind_some]
  intro k
  induction k with
  | zero =>
    intro i f out hi hf ho hall
    have : i = j2.length := by omega
    subst this
    have hfl := flush j2.length f out (Nat.le_refl _) hf ho
    have c1 : ((j2.length : Int) ≤ (j2.length : Int)) := Int.le_refl _
    have c2 : ¬ ((j2.length : Int) < (j2.length : Int)) := by omega
    have e2 : IntKind.i64.wrap ((j2.length : Int) + 1) = ((j2.length + 1 : Nat) : Int) := by rw [i64w (by omega) (by omega)]; rfl
    rw [List.drop_length, labs]
    by_cases h1 : 1 ≤ ((j2.drop f).take (j2.length - f)).length ∧ ((j2.drop f).take (j2.length - f)).length ≤ 63
    · rw [if_pos h1] at hfl ⊢
      rw [loop_in (s' := (out ++ ((((j2.drop f).take (j2.length - f)).length : Int) :: ((j2.drop f).take (j2.length - f))), ((j2.length + 1 : Nat) : Int), ((j2.length + 1 : Nat) : Int))) (by
        simp only [c1, c2, hne, decide_true, decide_false, if_true, Option.bind_some, Bool.not_false, Bool.false_eq_true, if_false]
        rw [hfl]
        simp only [Option.bind_some, Sum.elim_inl, lt, e2])]
      have c3 : ¬ (((j2.length + 1 : Nat) : Int) ≤ (j2.length : Int)) := by omega
      rw [loop_out (r := .inl (out ++ ((((j2.drop f).take (j2.length - f)).length : Int) :: ((j2.drop f).take (j2.length - f))))) (by simp only [c3, decide_false, Bool.false_eq_true, if_false, Option.bind_some])]
    · rw [if_neg h1] at hfl ⊢
      rw [loop_out (r := .inr ([], false)) (by
        simp only [c1, c2, hne, decide_true, decide_false, if_true, Option.bind_some, Bool.not_false, Bool.false_eq_true, if_false]
        rw [hfl]
        simp only [Option.bind_some, Sum.elim_inr])]
  | succ k ih =>
    intro i f out hi hf ho hall
    have hlt : i < j2.length := by omega
    have hd : j2.drop i = j2[i] :: j2.drop (i + 1) := List.drop_eq_getElem_cons hlt
    have c1 : ((i : Int) ≤ (j2.length : Int)) := by omega
    have c2 : ((i : Int) < (j2.length : Int)) := by omega
    have e2 : IntKind.i64.wrap ((i : Int) + 1) = ((i + 1 : Nat) : Int) := by rw [i64w (by omega) (by omega)]; rfl
    have hix := ix j2 i hlt
    obtain ⟨z, hz1, hz2⟩ := rletter_is j2[i] (hb _ (List.getElem_mem hlt))
    have hnx : (j2.drop f).take (i + 1 - f) = (j2.drop f).take (i - f) ++ [j2[i]] := by
      rw [show i + 1 - f = (i - f) + 1 by omega, List.take_succ_eq_append_getElem (by rw [List.length_drop]; omega), List.getElem_drop]
      congr 3; omega
    rw [hd, labs]
    by_cases h46 : j2[i] = 46
    · rw [if_pos h46]
      have hfl := flush i f out (by omega) hf ho
      have hlen : ((j2.drop f).take (i - f)).length = i - f := by rw [List.length_take, List.length_drop]; omega
      by_cases h1 : 1 ≤ ((j2.drop f).take (i - f)).length ∧ ((j2.drop f).take (i - f)).length ≤ 63
      · rw [if_pos h1] at hfl ⊢
        rw [loop_in (s' := (out ++ ((((j2.drop f).take (i - f)).length : Int) :: ((j2.drop f).take (i - f))), ((i + 1 : Nat) : Int), ((i + 1 : Nat) : Int))) (by
          simp only [c1, c2, hne, hix, h46, decide_true, decide_false, if_true, Option.bind_some, Bool.not_false, Bool.not_true, Bool.false_eq_true, if_false]
          rw [hfl]
          simp only [Option.bind_some, Sum.elim_inl, lt, e2])]
        rw [ih (i + 1) (i + 1) _ (by omega) (Nat.le_refl _) (by simp [hlen]; omega) (by simp)]
        simp only [Nat.sub_self, List.take_zero]
        cases labs [] (j2.drop (i + 1)) with
        | none => rfl
        | some l => simp
      · rw [if_neg h1] at hfl ⊢
        rw [loop_out (r := .inr ([], false)) (by
          simp only [c1, c2, hne, hix, h46, decide_true, decide_false, if_true, Option.bind_some, Bool.not_false, Bool.not_true, Bool.false_eq_true, if_false]
          rw [hfl]
          simp only [Option.bind_some, Sum.elim_inr])]
    · rw [if_neg h46]
      by_cases hok : okc j2[i] = true
      · rw [if_pos hok]
        rw [loop_in (s' := (out, (f : Int), ((i + 1 : Nat) : Int))) (by
          simp only [c1, c2, hne, hix, h46, hz1, hok, decide_true, decide_false, if_true, Option.bind_some, Bool.not_false, Bool.not_true, Bool.false_eq_true, if_false, Sum.elim_inl, lt, e2])]
        rw [ih (i + 1) f out (by omega) (by omega) (by omega) (by rw [hnx]; simp [hall, hok]), hnx]
      · rw [if_neg hok]
        have hok' : okc j2[i] = false := by simpa using hok
        rw [loop_out (r := .inr ([], false)) (by
          simp only [c1, c2, hne, hix, h46, hz1, hok', decide_true, decide_false, if_true, Option.bind_some, Bool.not_false, Bool.not_true, Bool.false_eq_true, if_false, Sum.elim_inr])]
theorem labels_is (s : List Int) (hs : s.length ≤ 2000) (hb : Byl s) : ref21_labels.f s = some (match nmo (trim s) with | none => ([], false) | some l => (l ++ [0], decide (l.length + 1 ≤ 255))) := by
  unfold ref21_labels.f
  have htr : (((if decide (0 < (s.length : Int)) = true then (idx s (IntKind.i64.wrap ((s.length : Int) - 1))).bind fun x1 => some (decide (x1 = 46)) else some (false))).bind (fun j1 => (if j1 = true then (cut s 0 (IntKind.i64.wrap ((s.length : Int) - 1))).bind fun x2 => some (x2) else some (s)))) = some (trim s) := by
    rcases last_cases s with rfl | ⟨a, b, rfl⟩
    · rfl
    · have e1 : IntKind.i64.wrap (((a ++ [b]).length : Int) - 1) = (a.length : Int) := by
        rw [List.length_append] at *
        rw [i64w (by simp <;> omega) (by simp <;> omega)]; simp
      have hi : idx (a ++ [b]) (a.length : Int) = some b := by rw [ix _ _ (by simp)]; simp
      have hc : cut (a ++ [b]) 0 (a.length : Int) = some a := by
        unfold cut
        rw [if_pos (by simp; omega)]; simp
      have c1 : (0 : Int) < ((a ++ [b]).length : Int) := by simp <;> omega
      simp only [c1, decide_true, if_true, e1, hi, hc, Option.bind_some, trim_snoc]
      by_cases h : b = 46 <;> simp [h]
  rw [htr, Option.bind_some]
  have htl := trim_len s
  have htb : Byl (trim s) := fun b h => hb b (trim_mem h)
  generalize trim s = j2 at *
  unfold nmo
  by_cases hne : j2 = []
  · subst hne
    rw [loop_out (r := .inl []) (by simp)]
    rfl
  rw [if_neg hne]
  have h := labels_loop j2 (by omega) htb hne j2.length 0 0 [] (by omega) (Nat.le_refl _) (by simp) (by simp)
  rw [show loop _ (([] : List Int), (0 : Int), (0 : Int)) = _ from h, Option.bind_some]
  simp only [List.drop_zero, Nat.sub_self, List.take_zero, List.nil_append]
  have hli := labs_is j2 [] rfl
  have e2 : (([] : List Int) ++ (splitc 46 j2).headD []) :: (splitc 46 j2).tail = splitc 46 j2 := by
    cases hs : splitc 46 j2 with
    | nil => exact absurd hs (splitc_ne 46 j2)
    | cons a b => rfl
  rw [e2] at hli
  rw [hli]
  have hel := enc_splitc 46 j2
  cases hall : (splitc 46 j2).all pok with
  | false => rfl
  | true =>
    simp only [if_true, Sum.elim_inl]
    rw [app_k _ _ (by simp; omega), Option.bind_some]
    unfold lt
    rw [i64w (by omega) (by omega)]
    have : decide (((enc (splitc 46 j2)).length : Int) + 1 ≤ 255) = decide ((enc (splitc 46 j2)).length + 1 ≤ 255) := decide_eq_decide.2 (by omega)
    rw [this]
end Go.Proofs.YtjjceikmimhpnaaDoor.S
