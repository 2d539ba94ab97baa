/- What the law DnsTells answers: true; the program and the document agree on questions for names. Its conditions: what the data are. -/
import Derived.Test.YtjjceikmimhpnaaDoorPureDnsAsk
namespace Go.Proofs.YtjjceikmimhpnaaDoor.S
open Go Go.SL
set_option linter.unusedVariables false
set_option linter.unusedSimpArgs false
def w2 (x : Int) : List Int := [x / 256 % 256, x % 256]
theorem u64m (x : Int) : IntKind.u64.wrap x = x % 18446744073709551616 := by simp [IntKind.wrap, IntKind.bits, IntKind.signed]
theorem two_is (x : Int) : dns_two.f x = some (w2 x) := by
  unfold dns_two.f w2
  rw [put2, Option.bind_some, u64m]
  have e1 : x % 18446744073709551616 / 256 % 256 = x / 256 % 256 := by omega
  have e2 : x % 18446744073709551616 % 256 = x % 256 := by omega
  rw [e1, e2]
theorem rput2_g (x : Int) : ref01_Put.g 20 x 2 true = some [IntKind.u8.wrap (x / 256), IntKind.u8.wrap (x / 1)] := by kernel_rfl
theorem rtwo_is (x : Int) : ref21_two.f x = some (w2 x) := by
  unfold ref21_two.f w2
  rw [ref01_Put.le 20 _ _ _ _ (rput2_g _), Option.bind_some, u64m, u8w, u8w]
  have e1 : x % 18446744073709551616 / 256 % 256 = x / 256 % 256 := by omega
  have e2 : x % 18446744073709551616 / 1 % 256 = x % 256 := by omega
  rw [e1, e2]
theorem shr16 (x : Int) : ishr .i64 x 16 = x / 65536 := by unfold ishr; rw [show (2 : Int) ^ min (16 : Int).toNat IntKind.i64.bits = 65536 by decide]
def cOk (l : List Int) (id kind : Int) : Prop := l.length + 1 ≤ 255 ∧ (0 ≤ id ∧ id < 65536) ∧ (0 ≤ kind ∧ kind < 65536)
instance (l : List Int) (id kind : Int) : Decidable (cOk l id kind) := inferInstanceAs (Decidable (_ ∧ _))
/-- What is asked. -/
def askd (id : Int) (s : List Int) (kind : Int) : List Int × Int :=
  match nmo (trim s) with
  | none => ([], 2)
  | some l => if cOk l id kind then (w2 id ++ ([1, 0, 0, 1, 0, 0, 0, 0, 0, 0] ++ ((l ++ [0]) ++ (w2 kind ++ [0, 1]))), 0) else ([], 2)
theorem mk6 : mk 6 (0 : Int) = some [0, 0, 0, 0, 0, 0] := by kernel_rfl
theorem nmo_len {t l : List Int} (h : nmo t = some l) : l.length ≤ t.length + 1 := by
  unfold nmo at h
  split at h
  · cases h; simp
  split at h
  · cases h; rw [enc_splitc]; omega
  · cases h
theorem ask_is (id kind : Int) (s : List Int) (hs : s.length ≤ 2000) : dns_Ask.f id s kind = some (askd id s kind) := by
  unfold dns_Ask.f askd
  rw [name_is s hs, Option.bind_some, shr16, shr16]
  have htl := trim_len s
  cases hn : nmo (trim s) with
  | none => simp
  | some l =>
    have hnl := nmo_len hn
    dsimp only
    by_cases c1 : l.length + 1 ≤ 255
    · by_cases c2 : 0 ≤ id ∧ id < 65536
      · by_cases c3 : 0 ≤ kind ∧ kind < 65536
        · have d2 : id / 65536 = 0 := by omega
          have d3 : kind / 65536 = 0 := by omega
          rw [if_pos (show cOk l id kind from ⟨c1, c2, c3⟩)]
          simp only [c1, d2, d3, decide_true, Bool.not_true, Bool.false_eq_true, if_false, Option.bind_some, two_is, mk6]
          rw [concat_is _ (by simp [w2]; omega) (by simp), Option.bind_some]
          simp [w2]
        · have d2 : id / 65536 = 0 := by omega
          have d3 : ¬ kind / 65536 = 0 := by omega
          rw [if_neg (show ¬ cOk l id kind from fun h => c3 h.2.2)]
          simp [c1, d2, d3]
      · have d2 : ¬ id / 65536 = 0 := by omega
        rw [if_neg (show ¬ cOk l id kind from fun h => c2 h.2.1)]
        simp [c1, d2]
    · rw [if_neg (show ¬ cOk l id kind from fun h => c1 h.1)]
      simp [c1]
theorem rask_is (id kind : Int) (s : List Int) (hs : s.length ≤ 2000) (hb : Byl s) : ref21_Ask.f id s kind = some (askd id s kind) := by
  unfold ref21_Ask.f askd
  rw [labels_is s hs hb, Option.bind_some]
  have htl := trim_len s
  cases hn : nmo (trim s) with
  | none => simp
  | some l =>
    have hnl := nmo_len hn
    dsimp only
    by_cases c1 : l.length + 1 ≤ 255
    · by_cases c2 : 0 ≤ id ∧ id < 65536
      · have d2 : ¬ id < 0 := by omega
        have d2' : ¬ 65535 < id := by omega
        by_cases c3 : 0 ≤ kind ∧ kind < 65536
        · have d3 : ¬ kind < 0 := by omega
          have d3' : ¬ 65535 < kind := by omega
          rw [if_pos (show cOk l id kind from ⟨c1, c2, c3⟩)]
          simp only [c1, d2, d3, d2', d3', decide_true, decide_false, Bool.not_true, Bool.false_eq_true, if_false, Option.bind_some, rtwo_is]
          rw [app_k _ _ (by simp [w2]), Option.bind_some, app_k _ _ (by simp [w2]; omega), Option.bind_some, app_k _ _ (by simp [w2]; omega), Option.bind_some, app_k _ _ (by simp [w2]; omega), Option.bind_some]
          simp [w2]
        · rw [if_neg (show ¬ cOk l id kind from fun h => c3 h.2.2)]
          by_cases d3 : kind < 0
          · simp [c1, d2, d2', d3]
          · have d3' : 65535 < kind := by omega
            simp [c1, d2, d2', d3, d3']
      · rw [if_neg (show ¬ cOk l id kind from fun h => c2 h.2.1)]
        by_cases d2 : id < 0
        · simp [c1, d2]
        · have d2' : 65535 < id := by omega
          simp [c1, d2, d2']
    · rw [if_neg (show ¬ cOk l id kind from fun h => c1 h.1)]
      simp [c1]
theorem id_is (b : List Int) (hb : Byl b) : dns_Id.f b = some (if b.length < 12 then (0, false) else (num2 b, true)) := by
  unfold dns_Id.f
  by_cases c : b.length < 12
  · have c' : (b.length : Int) < 12 := by omega
    simp [c, c']
  · have c' : ¬ (b.length : Int) < 12 := by omega
    simp only [c, c', decide_false, Bool.false_eq_true, if_false]
    rw [num_is (by omega) hb]; rfl
theorem rid_is (b : List Int) (hb : Byl b) : ref21_Id.f b = some (if b.length < 12 then (0, false) else (num2 b, true)) := by
  unfold ref21_Id.f
  by_cases c : b.length < 12
  · have c' : (b.length : Int) < 12 := by omega
    simp [c, c']
  · have c' : ¬ (b.length : Int) < 12 := by omega
    have h : cut b 0 2 = some ((b.drop 0).take 2) := cut2 b 0 (by omega)
    simp only [c, c', decide_false, Bool.false_eq_true, if_false, h, Option.bind_some, List.drop_zero]
    rw [rnum2_is (by omega) hb]; rfl
theorem and128a : (List.range 256).all (fun n => decide (bits .and .u8 (n : Int) 128 = 0) == decide ((n : Int) < 128)) = true := by kernel_rfl
theorem and128 {x : Int} (h : By x) : decide (bits .and .u8 x 128 = 0) = decide (x < 128) := by
  unfold By at h
  have := List.all_eq_true.1 and128a x.toNat (by rw [List.mem_range]; omega)
  have e : ((x.toNat : Nat) : Int) = x := by omega
  rw [e] at this
  exact eq_of_beq this
def qry (b : List Int) : Bool := decide (12 ≤ b.length) && decide ((b.drop 2).headD 0 < 128)
theorem at2 {b : List Int} (h : 12 ≤ b.length) : idx b 2 = some ((b.drop 2).headD 0) := by
  have : idx b ((2 : Nat) : Int) = some b[2] := ix b 2 (by omega)
  rw [show (2 : Int) = ((2 : Nat) : Int) from rfl, this, List.drop_eq_getElem_cons (by omega)]; rfl
theorem query_is (b : List Int) (hb : Byl b) : dns_Query.f b = some (qry b) := by
  unfold dns_Query.f qry
  by_cases c : 12 ≤ b.length
  · have c' : (12 : Int) ≤ b.length := by omega
    simp only [c, c', decide_true, if_true, at2 c, Option.bind_some, lt, Bool.true_and]
    rw [and128]
    have h2 : 2 < b.length := by omega
    rw [List.drop_eq_getElem_cons h2]
    exact hb _ (List.getElem_mem h2)
  · have c' : ¬ (12 : Int) ≤ b.length := by omega
    simp [c, c']
theorem rquery_is (b : List Int) : ref21_Query.f b = some (qry b) := by
  unfold ref21_Query.f qry
  by_cases c : 12 ≤ b.length
  · have c' : (12 : Int) ≤ b.length := by omega
    simp only [c, c', decide_true, if_true, at2 c, Option.bind_some, lt, Bool.true_and]
  · have c' : ¬ (12 : Int) ≤ b.length := by omega
    simp [c, c']
theorem and15 (x : Int) : bits .and .i64 x 15 = x % 16 := by
  have e1 : bits .and .i64 x 15 = IntKind.i64.wrap ((BitVec.ofInt 64 x &&& BitVec.ofInt 64 15 : BitVec 64).toNat : Int) := rfl
  rw [e1, BitVec.toNat_and, BitVec.toNat_ofInt]
  have e2 : (BitVec.ofInt 64 15).toNat = 15 := by decide
  rw [e2, show (15 : Nat) = 2 ^ 4 - 1 from rfl, Nat.and_two_pow_sub_one_eq_mod, i64w (by omega) (by omega)]
  omega
theorem or128a : (List.range 16).all (fun n => decide (bits .or .u8 128 (IntKind.u8.wrap (n : Int)) = 128 + (n : Int))) = true := by kernel_rfl
theorem or128 {x : Int} (h0 : 0 ≤ x) (h1 : x < 16) : bits .or .u8 128 (IntKind.u8.wrap x) = 128 + x := by
  have := List.all_eq_true.1 or128a x.toNat (by rw [List.mem_range]; omega)
  have := of_decide_eq_true this
  have e : ((x.toNat : Nat) : Int) = x := by omega
  rw [e] at this; exact this
/-- An answer that fails. -/
def faild (b : List Int) (code : Int) : List Int × Bool :=
  match qn b with
  | .inl _ => ([], false)
  | .inr (_, _, e) => if qry b = true then (b.take 2 ++ ([129, 128 + code % 16, 0, 1, 0, 0, 0, 0, 0, 0] ++ (b.drop 12).take (e - 12)), true) else ([], false)
theorem qn_end {b : List Int} {ls : List (List Int)} {k : Int} {e : Nat} (hb : Byl b) (h : qn b = .inr (ls, k, e)) : 12 ≤ b.length ∧ 17 ≤ e ∧ e ≤ b.length := by
  unfold qn at h
  split at h
  · cases h
  split at h
  · cases h
  cases hn : nms (b.length + 1) (b.drop 12) 0 with
  | inl x => rw [hn] at h; cases h
  | inr x =>
    obtain ⟨l, p⟩ := x
    rw [hn] at h
    dsimp only at h
    split at h
    · cases h
    · cases h
      have := (nms_pos _ _ _ _ _ (hb.drop _) hn).1
      omega
theorem cut_in (b : List Int) (e : Nat) (h : 12 ≤ e) (h2 : e ≤ b.length) : cut b 12 (e : Int) = some ((b.drop 12).take (e - 12)) := by
  unfold cut
  rw [if_pos (by omega)]
  congr 1
  rw [Int.toNat_natCast, List.drop_take]; rfl
theorem fail_is (b : List Int) (code : Int) (hl : b.length ≤ 90000) (hb : Byl b) : dns_Fail.f b code = some (faild b code) := by
  unfold dns_Fail.f faild
  obtain ⟨q, hq⟩ := read_is b hl hb
  rw [hq, Option.bind_some]
  cases hn : qn b with
  | inl e => rfl
  | inr x =>
    obtain ⟨ls, k, e⟩ := x
    obtain ⟨h1, h2, h3⟩ := qn_end hb hn
    have hc0 : cut b 0 2 = some ((b.drop 0).take 2) := cut2 b 0 (by omega)
    simp only [Option.isNone_none, Bool.not_true, Bool.false_eq_true, if_false, query_is b hb, Option.bind_some]
    cases hqr : qry b with
    | false => rfl
    | true =>
      simp only [Bool.not_true, Bool.false_eq_true, if_false, if_true, hc0, Option.bind_some, two_is, mk6, cut_in b e (by omega) h3, and15, List.drop_zero]
      rw [or128 (by omega) (by omega), concat_is _ (by simp [w2]; omega) (by simp), Option.bind_some]
      simp [w2]
theorem rfail_is (b : List Int) (code : Int) (hl : b.length ≤ 90000) (hb : Byl b) : ref21_Fail.f b code = some (faild b code) := by
  unfold ref21_Fail.f faild
  rw [rquestion_is b hl hb, Option.bind_some]
  cases hn : qn b with
  | inl e =>
    have he : ¬ e = 0 := by
      unfold qn at hn
      split at hn
      · cases hn; decide
      split at hn
      · cases hn; decide
      cases hm : nms (b.length + 1) (b.drop 12) 0 with
      | inl x => rw [hm] at hn; cases hn; rcases nms_err _ _ _ _ hm with rfl | rfl <;> decide
      | inr x =>
        rw [hm] at hn
        dsimp only at hn
        split at hn
        · cases hn; decide
        · cases hn
    simp [he]
  | inr x =>
    obtain ⟨ls, k, e⟩ := x
    obtain ⟨h1, h2, h3⟩ := qn_end hb hn
    simp only [decide_true, Bool.not_true, Bool.false_eq_true, if_false, rquery_is b, Option.bind_some]
    cases hqr : qry b with
    | false => rfl
    | true =>
      obtain ⟨x, y, r, rfl⟩ := two_of (show 2 ≤ b.length by omega)
      have i0 : idx (x :: y :: r) 0 = some x := rfl
      have i1 : idx (x :: y :: r) 1 = some y := rfl
      have ew : IntKind.u8.wrap (IntKind.i64.wrap (128 + code % 16)) = 128 + code % 16 := by rw [i64w (by omega) (by omega), u8w]; omega
      simp only [Bool.not_true, Bool.false_eq_true, if_false, if_true, i0, i1, Option.bind_some, mk6, cut_in _ e (by omega) h3, and15, ew]
      rw [app_k _ _ (by simp), Option.bind_some, app_k _ _ (by simp at h3 hl ⊢; omega), Option.bind_some]
      simp
/-- With another number. -/
def withd (b : List Int) (id : Int) : List Int := if 12 ≤ b.length then w2 id ++ b.drop 2 else b
theorem clone_is (b : List Int) (hl : b.length ≤ 90000) : slices_Clone_s_byte_byte.f b = some b := by
  unfold slices_Clone_s_byte_byte.f
  rw [app_k _ _ (by simp; omega)]; rfl
theorem with_is (b : List Int) (id : Int) (hl : b.length ≤ 90000) : dns_With.f b id = some (withd b id) := by
  unfold dns_With.f withd
  rw [clone_is b hl, Option.bind_some]
  by_cases c : 12 ≤ b.length
  · have c' : (12 : Int) ≤ b.length := by omega
    rw [if_pos c]
    simp only [c', decide_true, if_true, two_is, Option.bind_some, lt]
    obtain ⟨x, y, r, rfl⟩ := two_of (show 2 ≤ b.length by omega)
    congr 1
    unfold ovr w2
    simp [Go.splice]
    have e1 : ((r.length : Int) + 1 + 1).toNat = r.length + 2 := by omega
    rw [e1, List.take_of_length_le (by simp), show min (r.length + 2) 2 = 2 by omega]
    rfl
  · have c' : ¬ (12 : Int) ≤ b.length := by omega
    rw [if_neg c]
    simp [c']
theorem rwith_is (b : List Int) (id : Int) (hl : b.length ≤ 90000) : ref21_With.f b id = some (withd b id) := by
  unfold ref21_With.f withd
  rw [app_k _ _ (by simp; omega), Option.bind_some, List.nil_append]
  have hsh : ishr .i64 id 8 = id / 256 := by unfold ishr; rw [show (2 : Int) ^ min (8 : Int).toNat IntKind.i64.bits = 256 by decide]
  by_cases c : 12 ≤ b.length
  · have c' : (12 : Int) ≤ b.length := by omega
    rw [if_pos c]
    obtain ⟨x, y, r, rfl⟩ := two_of (show 2 ≤ b.length by omega)
    have i0 : idx (x :: y :: r) 0 = some x := rfl
    have i1 : ∀ z, idx (z :: y :: r) 1 = some y := fun z => rfl
    simp only [c', decide_true, if_true, i0, Option.bind_some, lt, hsh, u8w]
    have s0 : (x :: y :: r).set (0 : Int).toNat (id / 256 % 256) = (id / 256 % 256) :: y :: r := rfl
    have s1 : ((id / 256 % 256) :: y :: r).set (1 : Int).toNat (id % 256) = (id / 256 % 256) :: (id % 256) :: r := rfl
    rw [s0, i1, Option.bind_some, s1]
    rfl
  · have c' : ¬ (12 : Int) ≤ b.length := by omega
    rw [if_neg c]
    simp [c']
theorem join_is (ls : List (List Int)) (h1 : ls.length ≤ 90000) (h2 : (inter ls).length ≤ 90000) : strings_Join.f ls [46] = some (inter ls) := by
  unfold strings_Join.f
  exact if_pos ⟨by omega, by show (inter ls).length ≤ _; omega⟩
/-- Labels are no longer than the bytes that they stand in. -/
theorem nms_inter : ∀ (k : Nat) (t : List Int) (o : Nat) (ls : List (List Int)) (p : Nat), nms k t o = .inr (ls, p) → (inter ls).length ≤ t.length ∧ ls.length ≤ t.length
  | 0, t, o, ls, p, h => by cases h
  | k + 1, [], o, ls, p, h => by cases h
  | k + 1, n :: t, o, ls, p, h => by
    unfold nms at h
    split at h
    · cases h; simp [inter, List.intercalate]
    split at h
    · cases h
    cases hl : lbl n.toNat t with
    | inl x => rw [hl] at h; cases h
    | inr l =>
      rw [hl] at h
      dsimp only at h
      split at h
      · cases h
      cases hn : nms k (t.drop n.toNat) (o + 1 + n.toNat) with
      | inl x => rw [hn] at h; cases h
      | inr x =>
        obtain ⟨ls2, p2⟩ := x
        rw [hn] at h
        cases h
        obtain ⟨a1, a2⟩ := nms_inter _ _ _ _ _ hn
        obtain ⟨b1, b2⟩ := lbl_len _ _ _ hl
        rw [List.length_drop] at a1 a2
        cases ls2 with
        | nil =>
          have : inter [l] = l := by simp [inter, List.intercalate, List.intersperse]
          rw [this]; simp; omega
        | cons y t2 =>
          have : inter (l :: y :: t2) = l ++ ([46] ++ inter (y :: t2)) := by simp [inter, List.intercalate, List.intersperse]
          have hpos : (t.drop n.toNat).length = t.length - n.toNat := List.length_drop
          have hne : 0 < t.length - n.toNat := by
            rw [← hpos]
            cases hd : t.drop n.toNat with
            | nil => rw [hd] at hn; cases k <;> cases hn
            | cons _ _ => simp
          rw [this]
          simp at a2 ⊢
          omega
/-- What bytes ask for, as it is handed back. -/
def askf (b : List Int) : List Int × Int × Int := match qn b with | .inl e => ([], 0, e) | .inr (ls, k, _) => (inter ls, k, 0)
theorem question_is (b : List Int) (hl : b.length ≤ 9000) (hb : Byl b) : dns_Question.f b = some (askf b) := by
  unfold dns_Question.f askf
  obtain ⟨q, hq⟩ := read_is b (by omega) hb
  rw [hq, Option.bind_some]
  cases hn : qn b with
  | inl e => rfl
  | inr x =>
    obtain ⟨ls, k, e⟩ := x
    have hin : (inter ls).length ≤ b.length ∧ ls.length ≤ b.length := by
      unfold qn at hn
      split at hn
      · cases hn
      split at hn
      · cases hn
      cases hm : nms (b.length + 1) (b.drop 12) 0 with
      | inl x => rw [hm] at hn; cases hn
      | inr x =>
        obtain ⟨l, p⟩ := x
        rw [hm] at hn
        dsimp only at hn
        split at hn
        · cases hn
        · cases hn
          have := nms_inter _ _ _ _ _ hm
          rw [List.length_drop] at this
          omega
    simp only [Option.isNone_none, Bool.not_true, Bool.false_eq_true, if_false]
    rw [join_is ls (by omega) (by omega), Option.bind_some]
theorem rquestionf_is (b : List Int) (hl : b.length ≤ 9000) (hb : Byl b) : ref21_Question.f b = some (askf b) := by
  unfold ref21_Question.f askf
  rw [rquestion_is b (by omega) hb, Option.bind_some]
  cases qn b with
  | inl e => rfl
  | inr x => obtain ⟨ls, k, e⟩ := x; rfl
theorem same_self (l : List Int) : ref01_Same.f l l = some true := by unfold ref01_Same.f lt; simp
theorem dnsTells (b : List Int) (gb : b.length ≤ maxLen ∧ ∀ z ∈ b, InR .u8 z) (s : List Int) (gs : Bs s) (id : Int) (gi : InR .i64 id) (kind : Int) (gk : InR .i64 kind) : law21_DnsTells.f b s id kind = some true := by
  unfold law21_DnsTells.f
  by_cases c1 : 2000 < (b.length : Int)
  · simp [c1, heads]
  by_cases c2 : 2000 < (s.length : Int)
  · simp [c1, c2, heads]
  have hb : Byl b := Byl.of gb.2
  have hs : Byl s := Byl.of gs
  simp only [c1, c2, decide_false, Bool.false_eq_true, if_false, Option.bind_some]
  rw [question_is b (by omega) hb, rquestionf_is b (by omega) hb, ask_is id kind s (by omega), rask_is id kind s (by omega) hs, id_is b hb, rid_is b hb, fail_is b kind (by omega) hb, rfail_is b kind (by omega) hb]
  simp only [Option.bind_some, same_self, decide_true, Bool.not_true, Bool.false_eq_true, if_false, beq_self_eq_true]
  rw [with_is b id (by omega), rwith_is b id (by omega), query_is b hb, rquery_is b]
  simp only [Option.bind_some, same_self, if_true, beq_self_eq_true, heads]
end Go.Proofs.YtjjceikmimhpnaaDoor.S
