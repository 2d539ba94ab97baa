/- What the law DnsBack answers: true; a name that is asked for is read, in small letters. Its conditions: what the data are. -/
import Derived.Test.YtjjceikmimhpnaaDoorPureDnsTells
namespace Go.Proofs.YtjjceikmimhpnaaDoor.S
open Go Go.SL
set_option linter.unusedVariables false
set_option linter.unusedSimpArgs false
theorem low_46 (c : Int) : low c = 46 ↔ c = 46 := by unfold low; split <;> omega
theorem lbl_app : ∀ (p r : List Int), p.all okc = true → lbl p.length (p ++ r) = .inr (p.map low)
  | [], r, _ => rfl
  | c :: p, r, h => by
    rw [List.all_cons, Bool.and_eq_true] at h
    rw [List.length_cons, List.cons_append, lbl, if_pos h.1, lbl_app p r h.2]; rfl
theorem nms_enc : ∀ (ps : List (List Int)) (rest : List Int) (k o : Nat), ps.all pok = true → o + (enc ps).length + 1 ≤ 255 → ps.length < k → nms k (enc ps ++ 0 :: rest) o = .inr (ps.map (fun p => p.map low), o + (enc ps).length + 1)
  | [], rest, k, o, _, h, hk => by
    obtain ⟨k2, rfl⟩ : ∃ k2, k = k2 + 1 := ⟨k - 1, by simp at hk; omega⟩
    show nms (k2 + 1) (0 :: rest) o = _
    rw [nms, if_pos rfl]; rfl
  | p :: ps, rest, k, o, hp, h, hk => by
    obtain ⟨k2, rfl⟩ : ∃ k2, k = k2 + 1 := ⟨k - 1, by simp at hk; omega⟩
    rw [List.all_cons, Bool.and_eq_true] at hp
    have hpk := hp.1
    unfold pok at hpk
    rw [Bool.and_eq_true, Bool.and_eq_true, decide_eq_true_eq, decide_eq_true_eq] at hpk
    obtain ⟨q1, q2, q3⟩ := hpk
    have hpos : 0 < p.length := List.length_pos_iff.2 q1
    rw [enc_cons, List.length_cons, List.length_append] at h
    rw [enc_cons, List.cons_append, List.append_assoc, nms]
    rw [if_neg (by omega), if_neg (by omega), Int.toNat_natCast, lbl_app p _ q3]
    dsimp only
    rw [if_neg (by omega), List.drop_left, nms_enc ps rest k2 (o + 1 + p.length) hp.2 (by omega) (by simp at hk; omega)]
    simp only [List.map_cons, List.length_cons, List.length_append]
    congr 2
    omega
theorem inter_cons2 (x y : List Int) (t : List (List Int)) : inter (x :: y :: t) = x ++ ([46] ++ inter (y :: t)) := by simp [inter, List.intercalate, List.intersperse]
theorem inter_one (x : List Int) : inter [x] = x := by simp [inter, List.intercalate, List.intersperse]
theorem inter_splitc : ∀ t : List Int, inter (splitc 46 t) = t
  | [] => by rw [show splitc 46 ([] : List Int) = [[]] from rfl, inter_one]
  | c :: t => by
    have ih := inter_splitc t
    unfold splitc
    by_cases hc : c = 46
    · rw [if_pos hc]
      cases hs : splitc 46 t with
      | nil => exact absurd hs (splitc_ne 46 t)
      | cons a r => rw [hs] at ih; rw [inter_cons2, ih, hc]; rfl
    · rw [if_neg hc]
      cases hs : splitc 46 t with
      | nil => exact absurd hs (splitc_ne 46 t)
      | cons a r =>
        rw [hs] at ih
        simp only [List.headD_cons, List.tail_cons]
        cases r with
        | nil => rw [inter_one] at ih ⊢; rw [ih]
        | cons b r => rw [inter_cons2] at ih ⊢; rw [← ih]; rfl
theorem inter_low : ∀ ps : List (List Int), inter (ps.map fun p => p.map low) = (inter ps).map low
  | [] => rfl
  | [x] => by rw [List.map_singleton, inter_one, inter_one]
  | x :: y :: t => by
    have ih := inter_low (y :: t)
    rw [List.map_cons] at ih
    rw [List.map_cons, List.map_cons, inter_cons2, inter_cons2, ih]
    simp [low]
theorem trim_low (s : List Int) : trim (s.map low) = (trim s).map low := by
  rcases last_cases s with rfl | ⟨a, b, rfl⟩
  · rfl
  · rw [List.map_append, List.map_singleton, trim_snoc, trim_snoc]
    by_cases h : b = 46
    · rw [if_pos ((low_46 b).2 h), if_pos h]
    · rw [if_neg (fun e => h ((low_46 b).1 e)), if_neg h]; simp
theorem small_is (s : List Int) (hs : s.length ≤ 2000) (hb : Byl s) : law21_small.f s = some ((trim s).map low) := by
  unfold law21_small.f
  have hlo : ∀ c, By c → (((if decide (65 ≤ c) = true then some (decide (c ≤ 90)) else some (false))).bind (fun j1 => (if j1 = true then lt (IntKind.u8.wrap (c + 32)) fun y1 => some (y1) else some (c)))) = some (low c) := fun c hc => by
    unfold By at hc
    unfold low lt
    by_cases h1 : 65 ≤ c
    · by_cases h2 : c ≤ 90
      · have : IntKind.u8.wrap (c + 32) = c + 32 := by rw [u8w]; omega
        simp [h1, h2, this]
      · simp [h1, h2]
    · simp [h1]
  refine loop_bind_inv (fun o => o = some ((trim s).map low)) (fun (i : Nat) (z : List Int × Int) => z.1 = (s.take i).map low ∧ z.2 = (i : Int)) (fun r => r = s.map low) s.length ?_ ?_ ?_ ?_
  · exact ⟨by simp, rfl⟩
  · rintro i ⟨out, i'⟩ hi ⟨q1, q2⟩
    dsimp only at q1 q2
    subst q1 q2
    have c : ((i : Int) < (s.length : Int)) := by omega
    have e2 : IntKind.i64.wrap ((i : Int) + 1) = ((i + 1 : Nat) : Int) := stepw hi (by omega)
    simp only [c, decide_true, if_true, ix s i hi, Option.bind_some]
    have hlo2 := hlo s[i] (hb _ (List.getElem_mem hi))
    simp only [lt] at hlo2 ⊢
    rw [hlo2, Option.bind_some, app_k _ _ (by simp; omega), Option.bind_some, e2]
    refine ⟨_, rfl, ?_, rfl⟩
    rw [List.take_succ_eq_append_getElem hi, List.map_append, List.map_singleton]
  · rintro ⟨out, i'⟩ ⟨q1, q2⟩
    dsimp only at q1 q2
    subst q1 q2
    have c : ¬ (((s.length : Nat) : Int) < (s.length : Int)) := by omega
    simp only [c, decide_false, Bool.false_eq_true, if_false, List.take_length]
    exact ⟨_, rfl, rfl⟩
  · rintro _ rfl
    rw [← trim_low]
    have hl : (s.map low).length = s.length := List.length_map _
    generalize s.map low = t at *
    rcases last_cases t with rfl | ⟨a, b, rfl⟩
    · rfl
    · have e1 : IntKind.i64.wrap (((a ++ [b]).length : Int) - 1) = (a.length : Int) := by
        rw [List.length_append] at *
        rw [i64w (by simp <;> omega) (by simp <;> omega)]; simp
      have hi : idx (a ++ [b]) (a.length : Int) = some b := by rw [ix _ _ (by simp)]; simp
      have hc : cut (a ++ [b]) 0 (a.length : Int) = some a := by
        unfold cut
        rw [if_pos (by simp <;> omega)]; simp
      have c1 : (0 : Int) < ((a ++ [b]).length : Int) := by simp <;> omega
      simp only [c1, decide_true, if_true, e1, hi, hc, Option.bind_some, trim_snoc]
      by_cases h : b = 46 <;> simp [h]
theorem okc_by {c : Int} (h : okc c = true) : By c := by
  unfold okc at h
  unfold By
  simp at h
  omega
theorem enc_by : ∀ ps : List (List Int), ps.all pok = true → Byl (enc ps)
  | [], _ => fun b hb => by simp [enc] at hb
  | p :: ps, h => by
    rw [List.all_cons, Bool.and_eq_true] at h
    have hpk := h.1
    unfold pok at hpk
    rw [Bool.and_eq_true, Bool.and_eq_true, decide_eq_true_eq, decide_eq_true_eq] at hpk
    rw [enc_cons]
    intro b hb
    rcases List.mem_cons.1 hb with rfl | hb
    · unfold By; omega
    rcases List.mem_append.1 hb with hb | hb
    · exact okc_by (List.all_eq_true.1 hpk.2.2 b hb)
    · exact enc_by ps h.2 b hb
theorem splitc_len (c : Int) : ∀ t : List Int, (splitc c t).length ≤ t.length + 1
  | [] => by simp [splitc]
  | x :: t => by
    have ih := splitc_len c t
    unfold splitc
    split
    · simp; omega
    · cases hs : splitc c t with
      | nil => simp
      | cons a r => rw [hs] at ih; simp at ih ⊢; omega
theorem nmo_len2 {t l : List Int} (h : nmo t = some l) : t.length ≤ l.length := by
  unfold nmo at h
  split at h
  · rename_i e; rw [e]; simp
  split at h
  · cases h; rw [enc_splitc]; omega
  · cases h
/-- A name's labels, read again. -/
theorem nmo_read {t l : List Int} (h : nmo t = some l) (hl : l.length + 1 ≤ 255) (rest : List Int) (k : Nat) (hk : t.length + 2 ≤ k) : ∃ ls, nms k (l ++ 0 :: rest) 0 = .inr (ls, l.length + 1) ∧ inter ls = t.map low ∧ Byl l := by
  unfold nmo at h
  split at h
  · rename_i e
    cases h
    obtain ⟨k2, rfl⟩ : ∃ k2, k = k2 + 1 := ⟨k - 1, by omega⟩
    refine ⟨[], by show nms (k2 + 1) (0 :: rest) 0 = _; rw [nms, if_pos rfl]; rfl, by rw [e]; rfl, fun b hb => by cases hb⟩
  split at h
  · rename_i ha
    cases h
    have hsl := splitc_len 46 t
    refine ⟨_, by have := nms_enc (splitc 46 t) rest k 0 ha (by omega) (by omega); rw [Nat.zero_add] at this; exact this, ?_, enc_by _ ha⟩
    rw [inter_low, inter_splitc]
  · cases h
theorem num2_w2 {x : Int} (h : 0 ≤ x ∧ x < 65536) (r : List Int) : num2 (w2 x ++ r) = x := by
  show x / 256 % 256 * 256 + x % 256 = x
  omega
theorem dnsBack (id : Int) (gi : InR .i64 id) (s : List Int) (gs : Bs s) (kind : Int) (gk : InR .i64 kind) (more : List Int) (gm : more.length ≤ maxLen ∧ ∀ z ∈ more, InR .u8 z) : law21_DnsBack.f id s kind more = some true := by
  unfold law21_DnsBack.f
  by_cases c1 : 2000 < (s.length : Int)
  · simp [c1, heads]
  by_cases c2 : 1000 < (more.length : Int)
  · simp [c1, c2, heads]
  have hs : Byl s := Byl.of gs
  have hm : Byl more := Byl.of gm.2
  simp only [c1, c2, decide_false, Bool.false_eq_true, if_false, Option.bind_some]
  rw [ask_is id kind s (by omega), Option.bind_some]
  have htl := trim_len s
  cases hn : nmo (trim s) with
  | none =>
    have e : askd id s kind = ([], 2) := by unfold askd; rw [hn]
    rw [e]; simp [heads]
  | some l =>
    by_cases hok : cOk l id kind
    case neg =>
      have e : askd id s kind = ([], 2) := by unfold askd; rw [hn]; exact if_neg hok
      rw [e]; simp [heads]
    obtain ⟨o1, o2, o3⟩ := hok
    obtain ⟨b, hbd⟩ : ∃ b, b = w2 id ++ ([1, 0, 0, 1, 0, 0, 0, 0, 0, 0] ++ ((l ++ [0]) ++ (w2 kind ++ [0, 1]))) := ⟨_, rfl⟩
    have e : askd id s kind = (b, 0) := by unfold askd; rw [hn, hbd]; exact if_pos ⟨o1, o2, o3⟩
    rw [e]
    have hw : ∀ x : Int, Byl (w2 x) := fun x z hz => by
      simp [w2] at hz
      unfold By
      omega
    obtain ⟨ls, r1, r2, r3⟩ := nmo_read hn o1 (w2 kind ++ ([0, 1] ++ more)) (b.length + more.length + 1) (by
      have : b.length = l.length + 17 := by rw [hbd]; simp [w2]
      have hnl := nmo_len2 hn
      omega)
    have hbl : b.length = l.length + 17 := by rw [hbd]; simp [w2]
    have hbb : Byl b := by
      rw [hbd]
      refine Byl.app (hw id) (Byl.app (fun z hz => ?_) (Byl.app (Byl.app r3 fun z hz => ?_) (Byl.app (hw kind) fun z hz => ?_)))
      all_goals (simp at hz; unfold By; omega)
    have hq : qn (b ++ more) = .inr (ls, kind, 12 + (l.length + 1) + 4) := by
      have hd : (b ++ more).drop 12 = l ++ 0 :: (w2 kind ++ ([0, 1] ++ more)) := by
        rw [hbd]; simp [w2]
      have h4 : num2 ((b ++ more).drop 4) = 1 := by rw [hbd]; rfl
      have hk : num2 ((b ++ more).drop (12 + (l.length + 1))) = kind := by
        rw [← List.drop_drop, hd, show l ++ 0 :: (w2 kind ++ ([0, 1] ++ more)) = (l ++ [0]) ++ (w2 kind ++ ([0, 1] ++ more)) by simp, show l.length + 1 = (l ++ [0]).length by simp, List.drop_left]
        exact num2_w2 o3 _
      unfold qn
      have hl : (b ++ more).length = b.length + more.length := List.length_append
      rw [if_neg (by omega), if_neg (show ¬ ¬ num2 ((b ++ more).drop 4) = 1 from fun h => h h4), hd, hl, r1]
      dsimp only
      rw [if_neg (by omega), hk]
    have haf : askf (b ++ more) = ((trim s).map low, kind, 0) := by unfold askf; rw [hq, ← r2]
    have hid : num2 b = id := by rw [hbd]; exact num2_w2 o2 _
    have hqy : qry b = true := by
      have h12 : 12 ≤ b.length := by omega
      have : (b.drop 2).headD 0 = 1 := by rw [hbd]; rfl
      unfold qry
      rw [this]; simp [h12]
    have hlb : ¬ b.length < 12 := by omega
    simp only [decide_true, Bool.not_true, Bool.false_eq_true, if_false]
    rw [app_k _ _ (by simp; omega), Option.bind_some, List.nil_append, app_k _ _ (by omega), Option.bind_some, question_is _ (by rw [List.length_append]; omega) (hbb.app hm), Option.bind_some, id_is b hbb, Option.bind_some, haf, if_neg hlb, hid]
    simp only [decide_true, if_true]
    rw [small_is s (by omega) hs, Option.bind_some]
    simp only [decide_true, if_true]
    rw [query_is b hbb, hqy]
    simp only [Option.bind_some, if_true, heads]
end Go.Proofs.YtjjceikmimhpnaaDoor.S
