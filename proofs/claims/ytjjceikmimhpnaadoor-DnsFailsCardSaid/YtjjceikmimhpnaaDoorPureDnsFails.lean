/- What the law DnsFails answers: true; an answer that fails has the question. Its conditions: what the data are. -/
import Derived.Test.YtjjceikmimhpnaaDoorPureDnsTells
namespace Go.Proofs.YtjjceikmimhpnaaDoor.S
open Go Go.SL
set_option linter.unusedVariables false
set_option linter.unusedSimpArgs false
theorem lbl_take : ∀ (n : Nat) (t l : List Int) (q : Nat), lbl n t = .inr l → n ≤ q → lbl n (t.take q) = .inr l
  | 0, t, l, q, h, _ => by cases h; rfl
  | n + 1, [], l, q, h, _ => by cases h
  | n + 1, c :: t, l, 0, h, hq => by omega
  | n + 1, c :: t, l, q + 1, h, hq => by
    unfold lbl at h
    rw [List.take_succ_cons, lbl]
    split at h
    · rename_i ho
      rw [if_pos ho]
      cases e : lbl n t with
      | inl x => rw [e] at h; cases h
      | inr x =>
        rw [e] at h; cases h
        rw [lbl_take n t x q e (by omega)]
    · cases h
theorem nms_loc : ∀ (k : Nat) (t : List Int) (o : Nat) (ls : List (List Int)) (p : Nat), Byl t → nms k t o = .inr (ls, p) → ∀ k' m, p ≤ o + m → p ≤ o + k' → nms k' (t.take m) o = .inr (ls, p)
  | 0, t, o, ls, p, _, h => by cases h
  | k + 1, [], o, ls, p, _, h => by cases h
  | k + 1, n :: t, o, ls, p, hb, h => by
    intro k' m hm hk
    have hlt := (nms_pos _ _ _ _ _ hb h).1
    obtain ⟨k2, rfl⟩ : ∃ k2, k' = k2 + 1 := ⟨k' - 1, by omega⟩
    obtain ⟨m2, rfl⟩ : ∃ m2, m = m2 + 1 := ⟨m - 1, by omega⟩
    unfold nms at h
    rw [List.take_succ_cons, nms]
    split at h
    · rename_i h0; rw [if_pos h0]; exact h
    rename_i h0
    rw [if_neg h0]
    split at h
    · cases h
    rename_i h1
    rw [if_neg h1]
    cases hl : lbl n.toNat t with
    | inl x => rw [hl] at h; cases h
    | inr l =>
      rw [hl] at h
      dsimp only at h
      split at h
      · cases h
      rename_i h2
      cases hn : nms k (t.drop n.toNat) (o + 1 + n.toNat) with
      | inl x => rw [hn] at h; cases h
      | inr x =>
        obtain ⟨ls2, p2⟩ := x
        rw [hn] at h
        cases h
        have hbt : Byl (t.drop n.toNat) := fun x hx => hb x (List.mem_cons_of_mem _ (List.mem_of_mem_drop hx))
        have hp := (nms_pos _ _ _ _ _ hbt hn).1
        rw [lbl_take _ _ _ m2 hl (by omega)]
        dsimp only
        rw [if_neg h2, List.drop_take, nms_loc k _ _ _ _ hbt hn k2 (m2 - n.toNat) (by omega) (by omega)]
theorem num2_take (t : List Int) (n : Nat) (h : 2 ≤ n) : num2 (t.take n) = num2 t := by
  obtain ⟨m, rfl⟩ : ∃ m, n = m + 1 + 1 := ⟨n - 2, by omega⟩
  match t with
  | [] => rfl
  | [x] => rfl
  | x :: y :: r => rfl
theorem dnsFails (b : List Int) (gb : b.length ≤ maxLen ∧ ∀ z ∈ b, InR .u8 z) (code : Int) (gi : InR .i64 code) : law21_DnsFails.f b code = some true := by
  unfold law21_DnsFails.f
  by_cases c1 : 2000 < (b.length : Int)
  · simp [c1, heads]
  have hb : Byl b := Byl.of gb.2
  simp only [c1, decide_false, Bool.false_eq_true, if_false]
  rw [fail_is b code (by omega) hb, Option.bind_some, question_is b (by omega) hb, Option.bind_some]
  cases hn : qn b with
  | inl e =>
    have he : ¬ e = 0 := by
      unfold qn at hn
      split at hn
      · cases hn; decide
      split at hn
      · cases hn; decide
      cases hm : nms (b.length + 1) (b.drop 12) 0 with
      | inl x => rw [hm] at hn; cases hn; rcases nms_err _ _ _ _ hm with rfl | rfl <;> decide
      | inr x =>
        rw [hm] at hn
        dsimp only at hn
        split at hn
        · cases hn; decide
        · cases hn
    have e1 : faild b code = ([], false) := by unfold faild; rw [hn]
    have e2 : askf b = ([], 0, e) := by unfold askf; rw [hn]
    rw [e1, e2]
    simp [he, heads]
  | inr x =>
    obtain ⟨ls, k, e⟩ := x
    obtain ⟨h1, h2, h3⟩ := qn_end hb hn
    have e2 : askf b = (inter ls, k, 0) := by unfold askf; rw [hn]
    rw [e2]
    cases hq : qry b with
    | false =>
      have e1 : faild b code = ([], false) := by unfold faild; rw [hn]; dsimp only; rw [hq]; rfl
      rw [e1]
      simp [query_is b hb, hq, heads]
    | true =>
      obtain ⟨c, hc⟩ : ∃ c, c = b.take 2 ++ ([129, 128 + code % 16, 0, 1, 0, 0, 0, 0, 0, 0] ++ (b.drop 12).take (e - 12)) := ⟨_, rfl⟩
      have e1 : faild b code = (c, true) := by unfold faild; rw [hn]; dsimp only; rw [hq, hc]; rfl
      obtain ⟨x, y, r, hr⟩ := two_of (show 2 ≤ b.length by omega)
      have hc2 : c = x :: y :: 129 :: (128 + code % 16) :: 0 :: 1 :: 0 :: 0 :: 0 :: 0 :: 0 :: 0 :: (b.drop 12).take (e - 12) := by rw [hc, hr]; rfl
      have hcl : c.length = e := by rw [hc2]; simp; omega
      have hbc : Byl c := by
        rw [hc]
        refine Byl.app (fun z hz => hb z (List.mem_of_mem_take hz)) (Byl.app (fun z hz => ?_) fun z hz => hb z (List.mem_of_mem_drop (List.mem_of_mem_take hz)))
        unfold By
        simp at hz
        omega
      have hqc : qn c = .inr (ls, k, e) := by
        unfold qn at hn
        rw [if_neg (by omega)] at hn
        split at hn
        · cases hn
        cases hm : nms (b.length + 1) (b.drop 12) 0 with
        | inl x => rw [hm] at hn; cases hn
        | inr z =>
          obtain ⟨l2, p⟩ := z
          rw [hm] at hn
          dsimp only at hn
          split at hn
          · cases hn
          · cases hn
            have hd : c.drop 12 = (b.drop 12).take (12 + p + 4 - 12) := by rw [hc2]; rfl
            have h4 : num2 (c.drop 4) = 1 := by rw [hc2]; rfl
            have hl := nms_loc _ _ _ _ _ (hb.drop _) hm (c.length + 1) (12 + p + 4 - 12) (by omega) (by omega)
            have hk : num2 (c.drop (12 + p)) = num2 (b.drop (12 + p)) := by
              rw [← List.drop_drop, hd, List.drop_take, num2_take _ _ (by omega), List.drop_drop]
            unfold qn
            rw [if_neg (by omega), if_neg (show ¬ ¬ num2 (c.drop 4) = 1 from fun h => h h4), hd, hl]
            dsimp only
            rw [if_neg (by omega), hk]
      have e3 : askf c = (inter ls, k, 0) := by unfold askf; rw [hqc]
      have hn2 : num2 c = num2 b := by rw [hc2, hr]; rfl
      have hqy : qry c = false := by
        rw [hc2]
        simp [qry]
      have hlb : ¬ b.length < 12 := by omega
      have hlc : ¬ c.length < 12 := by omega
      rw [e1]
      simp only [Bool.not_true, Bool.false_eq_true, if_false]
      rw [question_is c (by omega) hbc, Option.bind_some, id_is b hb, Option.bind_some, id_is c hbc, Option.bind_some, e3, if_neg hlb, if_neg hlc, hn2]
      simp only [decide_true, if_true]
      rw [query_is c hbc, hqy, Option.bind_some]
      have hle : (c.length : Int) ≤ (b.length : Int) := by omega
      have hi : idx c 3 = some (128 + code % 16) := by rw [hc2]; rfl
      have ht : Int.tmod (128 + code % 16) 16 = code % 16 := by
        rw [Int.tmod_eq_emod_of_nonneg (by omega)]; omega
      simp only [Bool.not_false, if_true, hle, decide_true, hi, Option.bind_some, ht, and15, heads]
end Go.Proofs.YtjjceikmimhpnaaDoor.S
