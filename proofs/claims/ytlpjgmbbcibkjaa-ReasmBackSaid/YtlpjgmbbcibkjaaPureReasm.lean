/- Plain facts on pieces that wait; each states its own conditions. -/
import Derived.Test.YtlpjgmbbcibkjaaPureLoop
import Derived.Test.YtlpjgmbbcibkjaaPureSum
namespace Go.Proofs.Ytlpjgmbbcibkjaa.S
open Go Go.SL
set_option linter.unusedVariables false
set_option linter.unusedSimpArgs false
theorem heads_g : law24_heads.g 100 = some true := by kernel_rfl
theorem heads : law24_heads.f = some true := law24_heads.le 100 _ heads_g
/-- One that waits may be. -/
def Rt (x : TPiece) : Prop := (ishr .i64 x.Id 16 = 0 ∧ ishr .i64 x.Proto 8 = 0) ∧ (0 ≤ x.Until ∧ x.Until ≤ 1099511627776) ∧ x.Have.length = x.Data.length ∧ x.Data.length ≤ 8192 ∧ (x.Total = -1 ∨ (x.Data.length : Int) ≤ x.Total ∧ x.Total ≤ 8192)
instance (x : TPiece) : Decidable (Rt x) := inferInstanceAs (Decidable (_ ∧ _))
theorem right_is' (x : TPiece) : reasm_right.f x = some (decide (Rt x)) := by
  unfold reasm_right.f Rt lt
  by_cases c1 : ishr .i64 x.Id 16 = 0
  · by_cases c2 : ishr .i64 x.Proto 8 = 0
    · by_cases c3 : x.Until < 0
      · have : ¬ 0 ≤ x.Until := by omega
        simp [c1, c2, c3, this]
      · have c3' : 0 ≤ x.Until := by omega
        by_cases c4 : 1099511627776 < x.Until
        · have : ¬ x.Until ≤ 1099511627776 := by omega
          simp [c1, c2, c3, c4, this]
        · have c4' : x.Until ≤ 1099511627776 := by omega
          by_cases c5 : (x.Have.length : Int) = x.Data.length
          · have c5' : x.Have.length = x.Data.length := by omega
            by_cases c6 : 8192 < (x.Data.length : Int)
            · have : ¬ x.Data.length ≤ 8192 := by omega
              simp [c1, c2, c3, c3', c4, c4', c5, c5', c6, this]
            · have c6' : x.Data.length ≤ 8192 := by omega
              by_cases c7 : x.Total = -1
              · simp [c1, c2, c3, c3', c4, c4', c5, c5', c6, c6', c7]
              · by_cases c8 : (x.Data.length : Int) ≤ x.Total
                · simp [c1, c2, c3, c3', c4, c4', c5, c5', c6, c6', c7, c8]
                · simp [c1, c2, c3, c3', c4, c4', c5, c5', c6, c6', c7, c8]
          · have c5' : ¬ x.Have.length = x.Data.length := by omega
            simp [c1, c2, c3, c3', c4, c4', c5, c5']
    · simp [c1, c2]
  · simp [c1]
def who (x : TPiece) : Twho := ⟨x.Src, x.Dst, x.Id, x.Proto⟩
theorem whose_is (x : TPiece) : reasm_whose.f x = some (who x) := rfl
/-- A row may be. -/
def Ck (l : List TPiece) : Prop := l.length ≤ 4 ∧ ∀ i (h : i < l.length), Rt l[i] ∧ ∀ j (h' : j < i), who l[j] ≠ who l[i]
def mets (l : List TPiece) (n : Nat) : List (Twho × Bool) := (l.take n).foldl (fun m x => mput m (who x) true) []
theorem mets_succ (l : List TPiece) (n : Nat) (h : n < l.length) : mets l (n + 1) = mput (mets l n) (who l[n]) true := by
  unfold mets
  rw [List.take_succ_eq_append_getElem h, List.foldl_append]; rfl
theorem mets_get (l : List TPiece) (w : Twho) : ∀ n, n ≤ l.length → ((mget (mets l n) w).getD false = true ↔ ∃ j, ∃ (h : j < l.length), j < n ∧ who l[j] = w)
  | 0, _ => by simp [mets, mget_nil]
  | n + 1, h => by
    have ih := mets_get l w n (by omega)
    rw [mets_succ l n (by omega), mget_mput]
    split
    · rename_i e
      simp only [Option.getD_some, true_iff]
      exact ⟨n, by omega, by omega, e.symm⟩
    · rename_i e
      rw [ih]
      constructor
      · rintro ⟨j, hj, h1, h2⟩; exact ⟨j, hj, by omega, h2⟩
      · rintro ⟨j, hj, h1, h2⟩
        refine ⟨j, hj, ?_, h2⟩
        by_cases q : j = n
        · subst q; exact absurd h2.symm e
        · omega
theorem check_is (l : List TPiece) : ∃ c, reasm_Check.f l = some c ∧ (c = true ↔ Ck l) := by
  unfold reasm_Check.f
  by_cases h4 : 4 < (l.length : Int)
  · refine ⟨false, by rw [if_pos (by simpa using h4)], ?_⟩
    simp only [Bool.false_eq_true, false_iff]
    exact fun h => by have := h.1; omega
  have h4' : l.length ≤ 4 := by omega
  rw [if_neg (by simpa using h4)]
  obtain ⟨k, hk, hb, he, hl⟩ := find_run (B := fun s1 : List (Twho × Bool) × Int => (if decide (s1.2 < (l.length : Int)) = true then (idx l s1.2).bind fun x1 => ((reasm_right.f x1).bind fun r1 => (if (!r1) = true then some (true) else (reasm_whose.f x1).bind fun r2 => some ((mget s1.1 r2).getD false))).bind (fun j1 => (if j1 = true then some (.inr (.inr (false))) else (reasm_whose.f x1).bind fun r3 => lt (mput s1.1 r3 true) fun y1 => some (.inl (y1, IntKind.i64.wrap (s1.2 + 1))))) else some (.inr (.inl (())))))
    (fun i => if h : i < l.length then (!decide (Rt l[i])) || (mget (mets l i) (who l[i])).getD false else false) l.length (fun i => (mets l i, (i : Int))) (fun i => if i < l.length then (.inr false : Unit ⊕ Bool) else .inl ())
    (fun i hi hf => by
      rw [dif_pos hi] at hf
      simp only [Bool.or_eq_false_iff, Bool.not_eq_false'] at hf
      have c : ((i : Int) < (l.length : Int)) := by omega
      simp only [c, decide_true, if_true, ix l i hi, Option.bind_some, right_is', hf.1, Bool.not_true, Bool.false_eq_true, if_false, whose_is, hf.2, lt]
      rw [stepw hi (by omega), mets_succ l i hi])
    (fun i hi hf => by
      rw [dif_pos hi] at hf
      have c : ((i : Int) < (l.length : Int)) := by omega
      simp only [c, decide_true, if_true, ix l i hi, Option.bind_some, right_is', whose_is]
      rw [if_pos hi]
      by_cases q : Rt l[i]
      · simp only [q, decide_true, Bool.not_true, Bool.false_or] at hf
        simp [q, hf]
      · simp [q])
    (by simp)
  rw [show (([] : List (Twho × Bool)), (0 : Int)) = (mets l 0, ((0 : Nat) : Int)) from rfl, hl, Option.bind_some]
  by_cases hkn : k < l.length
  · rw [if_pos hkn]
    refine ⟨false, rfl, ?_⟩
    simp only [Bool.false_eq_true, false_iff]
    intro hc
    have h1 := he hkn
    rw [dif_pos hkn] at h1
    obtain ⟨r1, r2⟩ := hc.2 k hkn
    simp only [r1, decide_true, Bool.not_true, Bool.false_or] at h1
    obtain ⟨j, hj, h2, h3⟩ := (mets_get l _ k (by omega)).1 h1
    exact r2 j h2 h3
  · rw [if_neg hkn]
    refine ⟨true, rfl, ?_⟩
    simp only [true_iff]
    refine ⟨h4', fun i hi => ?_⟩
    have h1 := hb i (by omega)
    rw [dif_pos hi] at h1
    simp only [Bool.or_eq_false_iff, Bool.not_eq_false', decide_eq_true_eq] at h1
    refine ⟨h1.1, fun j hj e => ?_⟩
    have := (mets_get l (who l[i]) i (by omega)).2 ⟨j, by omega, hj, e⟩
    rw [this] at h1
    exact absurd h1.2 (by simp)
theorem seek_is (l : List TPiece) (w : Twho) (hl : l.length ≤ 4) : ∃ k : Nat, k ≤ l.length ∧ (∀ i (h : i < l.length), i < k → who l[i] ≠ w) ∧ (∀ h : k < l.length, who l[k] = w) ∧ reasm_seek.f l w = some (k : Int) := by
  unfold reasm_seek.f
  have hb : ∀ x : TPiece, (decide ((who x).src = w.src) && (decide ((who x).dst = w.dst) && (decide ((who x).id = w.id) && (decide ((who x).proto = w.proto))))) = decide (who x = w) := fun x => by
    obtain ⟨a, b, c, d⟩ := w
    rw [Bool.eq_iff_iff]
    simp only [Bool.and_eq_true, decide_eq_true_eq]
    simp [who]
  obtain ⟨k, hk, h1, h2, hlp⟩ := find_run (B := fun s1 : Int × Int => (if decide (s1.2 < (l.length : Int)) = true then (idx l s1.2).bind fun x1 => (reasm_whose.f x1).bind fun r1 => (if (decide (r1.src = w.src) && (decide (r1.dst = w.dst) && (decide (r1.id = w.id) && (decide (r1.proto = w.proto))))) = true then some (.inr (s1.1)) else lt (IntKind.i64.wrap (s1.1 + 1)) fun y1 => some (.inl (y1, IntKind.i64.wrap (s1.2 + 1)))) else some (.inr (s1.1))))
    (fun i => if h : i < l.length then decide (who l[i] = w) else false) l.length (fun i => ((i : Int), (i : Int))) (fun i => (i : Int))
    (fun i hi hf => by
      rw [dif_pos hi] at hf
      have c : ((i : Int) < (l.length : Int)) := by omega
      simp only [c, decide_true, if_true, ix l i hi, Option.bind_some, whose_is, hb, hf, Bool.false_eq_true, if_false, lt]
      rw [stepw hi (by omega)])
    (fun i hi hf => by
      rw [dif_pos hi] at hf
      have c : ((i : Int) < (l.length : Int)) := by omega
      simp only [c, decide_true, if_true, ix l i hi, Option.bind_some, whose_is, hb, hf])
    (by simp)
  refine ⟨k, hk, fun i h hi => ?_, fun h => ?_, ?_⟩
  · have := h1 i hi
    rw [dif_pos h] at this
    simpa using this
  · have := h2 h
    rw [dif_pos h] at this
    simpa using this
  · rw [show ((0 : Int), (0 : Int)) = (((0 : Nat) : Int), ((0 : Nat) : Int)) from rfl, hlp]; rfl
theorem drops_is (x : TPiece) (last : Bool) (e : Int) : reasm_drops.f x last e = some (if last = true then decide ((0 ≤ x.Total ∧ x.Total ≠ e) ∨ e < x.Data.length) else decide (0 ≤ x.Total ∧ x.Total < e)) := by
  unfold reasm_drops.f lt
  cases last with
  | true =>
    by_cases c1 : 0 ≤ x.Total
    · by_cases c2 : x.Total = e
      · simp [c1, c2]
      · simp [c1, c2]
    · simp [c1]
  | false =>
    by_cases c1 : 0 ≤ x.Total
    · simp [c1]
    · simp [c1]
theorem mk_ok {α : Type} (n : Int) (z : α) (h0 : 0 ≤ n) (h1 : n ≤ 100000) : mk n z = some (List.replicate n.toNat z) := by
  unfold mk
  first
    | rw [if_pos ⟨h0, by omega⟩]
    | (rw [if_pos]; omega)
theorem ovr_len {α : Type} (xs ys : List α) (h : ys.length ≤ xs.length) : ovr xs 0 (xs.length : Int) ys = ys ++ xs.drop ys.length := by
  unfold ovr Go.splice
  simp
  rw [List.take_of_length_le h]
  simp
  omega
theorem put_is (x : TPiece) (at_ : Int) (b : List Int) (h0 : 0 ≤ at_) (h1 : at_ + b.length ≤ 20000) (h2 : x.Data.length ≤ 8192) (h3 : x.Have.length = x.Data.length) : ∃ d h, d.length = max x.Data.length (at_.toNat + b.length) ∧ h.length = d.length ∧ reasm_put.f x at_ b = some ⟨x.Src, x.Dst, x.Id, x.Proto, x.Until, d, h, x.Total⟩ := by
  unfold reasm_put.f
  have e1 : max (x.Data.length : Int) (IntKind.i64.wrap (at_ + (b.length : Int))) = ((max x.Data.length (at_.toNat + b.length) : Nat) : Int) := by
    rw [i64w (by omega) (by omega)]; omega
  simp only [lt, e1]
  generalize hn : max x.Data.length (at_.toNat + b.length) = n
  rw [mk_ok _ _ (by omega) (by omega), Option.bind_some, mk_ok _ _ (by omega) (by omega), Option.bind_some]
  rw [ovr_len _ _ (by simp; omega), ovr_len _ _ (by simp; omega)]
  refine loop_bind_inv (fun o => ∃ d h, d.length = n ∧ h.length = d.length ∧ o = some (⟨x.Src, x.Dst, x.Id, x.Proto, x.Until, d, h, x.Total⟩ : TPiece)) (fun (i : Nat) (s : List Int × List Bool × Int) => s.1.length = n ∧ s.2.1.length = n ∧ s.2.2 = (i : Int)) (fun (r : List Int × List Bool) => r.1.length = n ∧ r.2.length = n) b.length ?_ ?_ ?_ ?_
  · refine ⟨?_, ?_, rfl⟩ <;> simp <;> omega
  · rintro i ⟨d, h, j⟩ hi ⟨q1, q2, q3⟩
    dsimp only at q1 q2 q3
    subst q3
    have c : ((i : Int) < (b.length : Int)) := by omega
    have ei : IntKind.i64.wrap (at_ + (i : Int)) = ((at_.toNat + i : Nat) : Int) := by rw [i64w (by omega) (by omega)]; omega
    have hin : at_.toNat + i < n := by omega
    simp only [c, decide_true, if_true, ix b i hi, Option.bind_some, ei, ix h _ (show at_.toNat + i < h.length by omega), ix d _ (show at_.toNat + i < d.length by omega)]
    rw [stepw hi (by omega)]
    cases h[at_.toNat + i] with
    | true => exact ⟨_, rfl, q1, q2, rfl⟩
    | false => 
      simp only [Bool.not_false, if_true, Option.bind_some]
      exact ⟨_, rfl, by simp [q1], by simp [q2], rfl⟩
  · rintro ⟨d, h, j⟩ ⟨q1, q2, q3⟩
    dsimp only at q1 q2 q3
    subst q3
    exact ⟨(d, h), by simp, q1, q2⟩
  · rintro ⟨d, h⟩ ⟨q1, q2⟩
    exact ⟨d, h, q1, q2.trans q1.symm, rfl⟩
theorem cut_take' {α : Type} (l : List α) (i : Int) (h0 : 0 ≤ i) (h1 : i ≤ l.length) : cut l 0 i = some (l.take i.toNat) := by
  unfold cut
  rw [if_pos ⟨by omega, h0, h1⟩]
  simp
theorem contains_is (l : List Bool) (v : Bool) (hl : l.length ≤ 100000) : ∃ c, slices_Contains_s_bool_bool.f l v = some c := by
  unfold slices_Contains_s_bool_bool.f slices_Index_s_bool_bool.f
  obtain ⟨k, hk, h1, h2, hlp⟩ := find_run (B := fun s1 : Int => (if decide (s1 < (l.length : Int)) = true then (idx l s1).bind fun x1 => (if (v == x1) = true then some (.inr (.inr (s1))) else some (.inl (IntKind.i64.wrap (s1 + 1)))) else some (.inr (.inl (())))))
    (fun i => if h : i < l.length then v == l[i] else false) l.length (fun i => (i : Int)) (fun i => if i < l.length then (.inr (i : Int) : Unit ⊕ Int) else .inl ())
    (fun i hi hf => by
      rw [dif_pos hi] at hf
      have c : ((i : Int) < (l.length : Int)) := by omega
      simp only [c, decide_true, if_true, ix l i hi, Option.bind_some, hf, Bool.false_eq_true, if_false]
      rw [stepw hi (by omega)])
    (fun i hi hf => by
      rw [dif_pos hi] at hf
      have c : ((i : Int) < (l.length : Int)) := by omega
      simp only [c, decide_true, if_true, ix l i hi, Option.bind_some, hf]
      rw [if_pos hi])
    (by simp)
  rw [show (0 : Int) = ((0 : Nat) : Int) from rfl, hlp, Option.bind_some]
  by_cases c : k < l.length
  · rw [if_pos c]; exact ⟨_, rfl⟩
  · rw [if_neg c]; exact ⟨_, rfl⟩
theorem delete_is (l : List TPiece) (i : Nat) (hi : i < l.length) (hl : l.length ≤ 100000) : slices_Delete_s_api_Piece_api_Piece.f l (i : Int) ((i : Int) + 1) = some (l.take i ++ l.drop (i + 1)) := by
  unfold slices_Delete_s_api_Piece_api_Piece.f
  have c1 : ¬ ((i : Int) = (i : Int) + 1) := by omega
  have c2 : ((i : Int) + 1).toNat = i + 1 := by omega
  have c3 : ((i : Int) + ((l.length : Int) - ((i : Int) + 1))) = ((l.length - 1 : Nat) : Int) := by omega
  rw [if_pos ⟨⟨by omega, by omega⟩, by omega, by omega⟩, if_neg (by simpa using c1)]
  simp only [lt, c2, c3]
  rw [if_pos ⟨by omega, by omega⟩, if_pos ⟨by omega, by omega, by omega⟩, if_pos ⟨by omega, by omega, by omega⟩, if_pos (by omega), if_pos ⟨by omega, by omega, by omega⟩]
  have hs : Go.splice l ((i : Int)).toNat (l.drop (i + 1)) = l.take i ++ (l.drop (i + 1) ++ l.drop (l.length - 1)) := by
    unfold Go.splice
    simp
    congr 1
    omega
  have hlen : (Go.splice l ((i : Int)).toNat (l.drop (i + 1))).length = l.length := by rw [hs]; simp; omega
  rw [if_pos ⟨by omega, by omega, by rw [hlen]; omega⟩]
  rw [cut_take' _ _ (by omega) (by unfold Go.splice; simp; omega), Option.bind_some]
  congr 1
  rw [hs]
  unfold Go.splice
  simp
  have hAB : (List.take i l ++ List.drop (i + 1) l).length = l.length - 1 := by simp; omega
  rw [← List.append_assoc (List.take i l) (List.drop (i + 1) l), List.take_left' hAB, List.take_left' hAB]
def keep (now : Int) (x : TPiece) : Bool := !decide (x.Until ≤ now)
theorem gone_is (x : TPiece) (now : Int) : reasm_Expire_1.f x now = some (!keep now x) := by
  unfold reasm_Expire_1.f lt keep; simp
theorem filter_take_succ {α : Type} (f : α → Bool) (l : List α) (n : Nat) (h : n < l.length) : (l.take (n + 1)).filter f = (l.take n).filter f ++ (if f l[n] then [l[n]] else []) := by
  rw [List.take_succ_eq_append_getElem h, List.filter_append]
  cases c : f l[n] <;> simp [c]
theorem deleteFunc_is (l : List TPiece) (now : Int) (hl : l.length ≤ 100000) : slices_DeleteFunc_s_api_Piece_api_Piece_at_reasm_Expire_1.f l now = some (l.filter (keep now)) := by
  unfold slices_DeleteFunc_s_api_Piece_api_Piece_at_reasm_Expire_1.f slices_IndexFunc_s_api_Piece_api_Piece_at_reasm_Expire_1.f
  obtain ⟨k, hk, h1, h2, hlp⟩ := find_run (B := fun s1 : Int => (if decide (s1 < (l.length : Int)) = true then (idx l s1).bind fun x1 => (reasm_Expire_1.f x1 now).bind fun r1 => (if r1 = true then some (.inr (.inr (s1))) else some (.inl (IntKind.i64.wrap (s1 + 1)))) else some (.inr (.inl (())))))
    (fun i => if h : i < l.length then !keep now l[i] else false) l.length (fun i => (i : Int)) (fun i => if i < l.length then (.inr (i : Int) : Unit ⊕ Int) else .inl ())
    (fun i hi hf => by
      rw [dif_pos hi] at hf
      have c : ((i : Int) < (l.length : Int)) := by omega
      simp only [c, decide_true, if_true, ix l i hi, Option.bind_some, gone_is, hf, Bool.false_eq_true, if_false]
      rw [stepw hi (by omega)])
    (fun i hi hf => by
      rw [dif_pos hi] at hf
      have c : ((i : Int) < (l.length : Int)) := by omega
      simp only [c, decide_true, if_true, ix l i hi, Option.bind_some, gone_is, hf]
      rw [if_pos hi])
    (by simp)
  rw [show loop _ (0 : Int) = _ from hlp, Option.bind_some]
  have hall : ∀ i (h : i < l.length), i < k → keep now l[i] = true := fun i h hi => by
    have := h1 i hi
    rw [dif_pos h] at this
    simpa using this
  by_cases c : k < l.length
  · rw [if_pos c]
    have hkk := h2 c
    rw [dif_pos c] at hkk
    have hkk' : keep now l[k] = false := by simpa using hkk
    simp only [Sum.elim_inr, Option.bind_some]
    have c1 : ¬ ((k : Int) = -1) := by omega
    rw [if_neg (by simp)]
    simp only [lt]
    have hf0 : (l.take k).filter (keep now) = l.take k := List.filter_eq_self.2 fun x hx => by
      obtain ⟨i, hi, rfl⟩ := List.getElem_of_mem hx
      rw [List.getElem_take]
      rw [List.length_take] at hi
      exact hall i (by omega) (by omega)
    have e1 : IntKind.i64.wrap ((k : Int) + 1) = ((k + 1 : Nat) : Int) := stepw c (by omega)
    rw [e1]
    refine loop_bind_inv (fun o => o = some (l.filter (keep now))) (fun (i : Nat) (s : List TPiece × Int × Int) => s.1.length = l.length ∧ s.2.2 = ((k + 1 + i : Nat) : Int) ∧ s.2.1 = (((l.take (k + 1 + i)).filter (keep now)).length : Int) ∧ s.1.take ((l.take (k + 1 + i)).filter (keep now)).length = (l.take (k + 1 + i)).filter (keep now) ∧ s.1.drop (k + 1 + i) = l.drop (k + 1 + i)) (fun (r : List TPiece × Int) => r.1.length = l.length ∧ r.2 = ((l.filter (keep now)).length : Int) ∧ r.1.take (l.filter (keep now)).length = l.filter (keep now)) (l.length - (k + 1)) ?_ ?_ ?_ ?_
    · have e2 : (l.take (k + 1)).filter (keep now) = l.take k := by rw [filter_take_succ _ _ _ c, hf0, hkk']; simp
      refine ⟨rfl, by simp, ?_, ?_, ?_⟩
      · show (k : Int) = _
        rw [Nat.add_zero, e2, List.length_take]; congr 1; omega
      · rw [Nat.add_zero, e2, List.length_take, show min k l.length = k by omega]
      · rfl
    · rintro i ⟨arr, w, j⟩ hi ⟨q1, q2, q3, q4, q5⟩
      dsimp only at q1 q2 q3 q4 q5
      subst q2 q3
      have hj : k + 1 + i < l.length := by omega
      have hja : k + 1 + i < arr.length := by omega
      have hel : arr[k + 1 + i] = l[k + 1 + i] := by
        have := congrArg (fun z => z[0]?) q5
        simp only [List.getElem?_drop, Nat.add_zero] at this
        rw [List.getElem?_eq_getElem hja, List.getElem?_eq_getElem hj] at this
        exact Option.some.inj this
      have hfl : ((l.take (k + 1 + i)).filter (keep now)).length ≤ k + 1 + i := Nat.le_trans (List.length_filter_le _ _) (by simp; omega)
      have c2 : (((k + 1 + i : Nat) : Int) < (arr.length : Int)) := by omega
      have e3 : IntKind.i64.wrap (((k + 1 + i : Nat) : Int) + 1) = ((k + 1 + (i + 1) : Nat) : Int) := stepw hj (by omega)
      have hfs := filter_take_succ (keep now) l (k + 1 + i) hj
      simp only [c2, decide_true, if_true, ix arr _ hja, Option.bind_some, gone_is, hel, Bool.not_not, e3]
      cases hkp : keep now l[k + 1 + i] with
      | false =>
        simp only [Bool.false_eq_true, if_false, Option.bind_some]
        have e4 : (l.take (k + 1 + (i + 1))).filter (keep now) = (l.take (k + 1 + i)).filter (keep now) := by rw [show k + 1 + (i + 1) = k + 1 + i + 1 by omega, hfs, hkp]; simp
        refine ⟨_, rfl, q1, rfl, ?_, ?_, ?_⟩
        · show _ = _; rw [e4]
        · show arr.take _ = _; rw [e4]; exact q4
        · show arr.drop _ = _
          rw [show k + 1 + (i + 1) = k + 1 + i + 1 by omega, ← List.drop_drop, q5, List.drop_drop]
      | true =>
        have e4 : (l.take (k + 1 + (i + 1))).filter (keep now) = (l.take (k + 1 + i)).filter (keep now) ++ [l[k + 1 + i]] := by rw [show k + 1 + (i + 1) = k + 1 + i + 1 by omega, hfs, hkp]; simp
        have e5 : IntKind.i64.wrap ((((l.take (k + 1 + i)).filter (keep now)).length : Int) + 1) = ((((l.take (k + 1 + (i + 1))).filter (keep now)).length : Nat) : Int) := by rw [e4, i64w (by omega) (by omega)]; simp
        simp only [if_true, Option.bind_some, ix arr _ (show ((l.take (k + 1 + i)).filter (keep now)).length < arr.length by omega), e5]
        refine ⟨_, rfl, by simp [q1], rfl, rfl, ?_, ?_⟩
        · show (arr.set _ _).take _ = _
          rw [Int.toNat_natCast, e4, List.length_append, List.length_singleton, List.take_succ_eq_append_getElem (by simp; omega), List.getElem_set_self, List.take_set_of_le (by simp), q4]
        · show (arr.set _ _).drop _ = _
          rw [List.drop_set_of_lt (by simp; omega), show k + 1 + (i + 1) = k + 1 + i + 1 by omega, ← List.drop_drop, q5, List.drop_drop]
    · rintro ⟨arr, w, j⟩ ⟨q1, q2, q3, q4, q5⟩
      dsimp only at q1 q2 q3 q4 q5
      subst q2 q3
      have e6 : k + 1 + (l.length - (k + 1)) = l.length := by omega
      rw [e6, List.take_length] at q4 ⊢
      exact ⟨(arr, _), by simp [q1], q1, rfl, q4⟩
    · rintro ⟨arr, w⟩ ⟨q1, q2, q3⟩
      dsimp only at q1 q2 q3
      subst q2
      have hfl := List.length_filter_le (keep now) l
      dsimp only
      rw [if_pos ⟨by omega, by omega, by omega⟩]
      rw [cut_take' _ _ (by omega) (by unfold Go.splice; simp; omega), Option.bind_some]
      congr 1
      unfold Go.splice
      have ez : ((l.filter (keep now)).length : Int).toNat = (l.filter (keep now)).length := by omega
      rw [ez, List.take_left' (by simp; omega)]
      exact q3
  · rw [if_neg c]
    simp only [Sum.elim_inl, Option.bind_some]
    rw [if_pos (by rfl)]
    congr 1
    refine (List.filter_eq_self.2 fun x hx => ?_).symm
    obtain ⟨i, hi, rfl⟩ := List.getElem_of_mem hx
    exact hall i hi (by omega)
end Go.Proofs.Ytlpjgmbbcibkjaa.S
