/- Plain facts on questions for names: letters, labels, names; each states its own conditions. -/
import Derived.Test.YtjjceikmimhpnaaDoorPureLoop
namespace Go.Proofs.YtjjceikmimhpnaaDoor.S
open Go Go.SL
set_option linter.unusedVariables false
set_option linter.unusedSimpArgs false
theorem heads_g : law21_heads.g 100 = some true := by kernel_rfl
theorem heads : law21_heads.f = some true := law21_heads.le 100 _ heads_g
def By (b : Int) : Prop := 0 ≤ b ∧ b < 256
def Byl (l : List Int) : Prop := ∀ b ∈ l, By b
theorem Byl.of {l : List Int} (h : Bs l) : Byl l := fun b hb => by
  have := h b hb; unfold InR at this; rw [u8w] at this; unfold By; omega
theorem Byl.drop {l : List Int} (h : Byl l) (n : Nat) : Byl (l.drop n) := fun b hb => h b (List.mem_of_mem_drop hb)
theorem Byl.app {a b : List Int} (h : Byl a) (k : Byl b) : Byl (a ++ b) := fun x hx => (List.mem_append.1 hx).elim (h x) (k x)
/-! ### Letters -/
def low (c : Int) : Int := if 65 ≤ c ∧ c ≤ 90 then c + 32 else c
def okc (c : Int) : Bool := decide (65 ≤ c ∧ c ≤ 90) || (decide (97 ≤ c ∧ c ≤ 122) || (decide (48 ≤ c ∧ c ≤ 57) || (decide (c = 45) || decide (c = 95))))
theorem or32a : (List.range 26).all (fun n => decide (bits .or .u8 (65 + (n : Int)) 32 = 97 + (n : Int))) = true := by kernel_rfl
theorem or32 {c : Int} (h : 65 ≤ c ∧ c ≤ 90) : bits .or .u8 c 32 = c + 32 := by
  have := List.all_eq_true.1 or32a (c - 65).toNat (by rw [List.mem_range]; omega)
  have := of_decide_eq_true this
  have e : (65 : Int) + ((c - 65).toNat : Int) = c := by omega
  rw [e] at this
  omega
theorem letter_is (c : Int) : dns_letter.f c = some (if okc c = true then (low c, true) else (0, false)) := by
  unfold dns_letter.f okc low lt
  by_cases h1 : 65 ≤ c
  · by_cases h2 : c ≤ 90
    · simp [h1, h2, or32 ⟨h1, h2⟩]
    · have h3 : ¬ c ≤ 57 := by omega
      have h4 : ¬ c = 45 := by omega
      by_cases h5 : 97 ≤ c <;> by_cases h6 : c ≤ 122 <;> by_cases h7 : c = 95 <;> simp [h1, h2, h3, h4, h5, h6, h7] <;> omega
  · have h2 : ¬ 97 ≤ c := by omega
    by_cases h3 : 48 ≤ c <;> by_cases h4 : c ≤ 57 <;> by_cases h5 : c = 45 <;> by_cases h6 : c = 95 <;> simp [h1, h2, h3, h4, h5, h6] <;> omega
theorem rletter_is (c : Int) (hc : By c) : ∃ z, ref21_letter.f c = some (z, okc c) ∧ (okc c = true → z = low c) := by
  unfold ref21_letter.f okc low lt
  have hc' := hc
  unfold By at hc'
  by_cases h1 : 65 ≤ c
  · by_cases h2 : c ≤ 90
    · have : IntKind.u8.wrap (c + 32) = c + 32 := by rw [u8w]; omega
      simp [h1, h2, this]
    · have h3 : ¬ c ≤ 57 := by omega
      have h3' : 48 ≤ c := by omega
      have h4 : ¬ c = 45 := by omega
      by_cases h5 : 97 ≤ c <;> by_cases h6 : c ≤ 122 <;> by_cases h7 : c = 95 <;> simp [h1, h2, h3, h3', h4, h5, h6, h7]
  · have h2 : ¬ 97 ≤ c := by omega
    by_cases h3 : 48 ≤ c <;> by_cases h4 : c ≤ 57 <;> by_cases h5 : c = 45 <;> by_cases h6 : c = 95 <;> simp [h1, h2, h3, h4, h5, h6]
/-! ### Labels read -/
/-- n letters of a list: a fault, or the letters, small. -/
def lbl : Nat → List Int → Int ⊕ List Int
  | 0, _ => .inr []
  | _ + 1, [] => .inl 160
  | n + 1, c :: t => if okc c = true then (match lbl n t with | .inl e => .inl e | .inr l => .inr (low c :: l)) else .inl 161
theorem lbl_len : ∀ (n : Nat) (t l : List Int), lbl n t = .inr l → l.length = n ∧ n ≤ t.length
  | 0, t, l, h => by cases h; simp
  | n + 1, [], l, h => by cases h
  | n + 1, c :: t, l, h => by
    unfold lbl at h
    split at h
    · cases e : lbl n t with
      | inl x => rw [e] at h; cases h
      | inr x =>
        rw [e] at h; cases h
        have := lbl_len n t x e
        simp; omega
    · cases h
theorem lbl_err : ∀ (n : Nat) (t : List Int) (e : Int), lbl n t = .inl e → e = 160 ∨ e = 161
  | 0, t, e, h => by cases h
  | n + 1, [], e, h => by cases h; simp
  | n + 1, c :: t, e, h => by
    unfold lbl at h
    split at h
    · cases e2 : lbl n t with
      | inl x => rw [e2] at h; cases h; exact lbl_err n t _ e2
      | inr x => rw [e2] at h; cases h
    · cases h; simp
/-- The rounds of a loop that reads letters one by one. -/
theorem lbl_loop {σ ρ : Type} {B : σ → Option (σ ⊕ ρ)} (st : List Int → Nat → σ) (fine : List Int → ρ) (bad : Int → ρ) (t : List Int) (n C : Nat)
    (hstep : ∀ (acc : List Int) (i : Nat), acc.length ≤ i + C → i < n → B (st acc i) = some (if h : i < t.length then (if okc t[i] = true then .inl (st (acc ++ [low t[i]]) (i + 1)) else .inr (bad 161)) else .inr (bad 160)))
    (hend : ∀ acc, B (st acc n) = some (.inr (fine acc))) :
    ∀ (k i : Nat) (acc : List Int), i + k = n → acc.length ≤ i + C → loop B (st acc i) = some (match lbl k (t.drop i) with | .inl e => bad e | .inr l => fine (acc ++ l)) := by
  intro k
  induction k with
  | zero =>
    intro i acc hi ha
    have : i = n := by omega
    subst this
    rw [loop_out (hend acc)]
    simp [lbl]
  | succ k ih =>
    intro i acc hi ha
    have hs := hstep acc i ha (by omega)
    by_cases h : i < t.length
    · rw [dif_pos h] at hs
      have hd : t.drop i = t[i] :: t.drop (i + 1) := List.drop_eq_getElem_cons h
      rw [hd, lbl]
      by_cases ho : okc t[i] = true
      · rw [if_pos ho] at hs ⊢
        rw [loop_in hs, ih (i + 1) _ (by omega) (by simp; omega)]
        cases lbl k (t.drop (i + 1)) with
        | inl e => rfl
        | inr l => simp
      · rw [if_neg ho] at hs ⊢
        rw [loop_out hs]
    · rw [dif_neg h] at hs
      have hd : t.drop i = [] := List.drop_eq_nil_of_le (by omega)
      rw [hd, lbl, loop_out hs]
def flt (e : Int) : Option Tfault := some ⟨e⟩
theorem no_is (e : Int) : dns_no.f e = some (flt e) := rfl
theorem label_is (x1 : Int) (t : List Int) (hn : By x1) (ht : t.length ≤ 100000) : dns_label.f (x1 :: t) = some (if 63 < x1 then ([], flt 161) else match lbl x1.toNat t with | .inl e => ([], flt e) | .inr l => (l, none)) := by
  obtain ⟨a1, ha1⟩ : ∃ a1, a1 = x1 :: t := ⟨_, rfl⟩
  rw [← ha1]
  unfold dns_label.f
  have i0 : idx a1 0 = some x1 := by rw [ha1]; rfl
  rw [i0, Option.bind_some]
  unfold By at hn
  by_cases c1 : 63 < x1
  · simp only [c1, decide_true, if_true, no_is, Option.bind_some]
  · simp only [c1, decide_false, Bool.false_eq_true, if_false]
    have h := lbl_loop (B := (fun s1 => (if decide (s1.2 < x1) = true then (if decide ((a1.length : Int) ≤ (IntKind.i64.wrap (1 + s1.2))) = true then (dns_no.f 160).bind fun r2 => some (.inr (.inr (([], r2)))) else (idx a1 (IntKind.i64.wrap (1 + s1.2))).bind fun x2 => (dns_letter.f x2).bind fun r3 => (if (!r3.2) = true then (dns_no.f 161).bind fun r4 => some (.inr (.inr (([], r4)))) else (app s1.1 ([r3.1] : List Int)).bind fun x3 => some (.inl (x3, IntKind.i64.wrap (s1.2 + 1))))) else some (.inr (.inl (s1.1)))))) (fun acc i => (acc, (i : Int))) (fun acc => (.inl acc : List Int ⊕ (List Int × Option Tfault))) (fun e => .inr ([], flt e)) t x1.toNat 0 (fun acc i ha hi => by
        have c2 : ((i : Int) < x1) := by omega
        have ew : IntKind.i64.wrap (1 + (i : Int)) = ((i + 1 : Nat) : Int) := by rw [i64w (by omega) (by omega)]; omega
        have ew2 : IntKind.i64.wrap ((i : Int) + 1) = ((i + 1 : Nat) : Int) := by rw [i64w (by omega) (by omega)]; rfl
        simp only [c2, decide_true, if_true, ew, ew2]
        by_cases h : i < t.length
        · have c3 : ¬ ((a1.length : Int) ≤ ((i + 1 : Nat) : Int)) := by rw [ha1, List.length_cons]; omega
          have i1 : idx a1 ((i + 1 : Nat) : Int) = some t[i] := by rw [ha1, ix (x1 :: t) (i + 1) (by simp; omega)]; rfl
          rw [dif_pos h]
          simp only [c3, decide_false, Bool.false_eq_true, if_false, i1, Option.bind_some, letter_is, no_is]
          by_cases ho : okc t[i] = true
          · simp only [ho, if_true, Bool.not_true, Bool.false_eq_true, if_false]
            rw [app_k _ _ (by simp; omega)]; rfl
          · simp only [ho, if_false, Bool.not_false, if_true, Bool.false_eq_true]
        · have c3 : ((a1.length : Int) ≤ ((i + 1 : Nat) : Int)) := by rw [ha1, List.length_cons]; omega
          rw [dif_neg h]
          simp only [c3, decide_true, if_true, no_is, Option.bind_some])
      (fun acc => by
        have c2 : ¬ (((x1.toNat : Nat) : Int) < x1) := by omega
        simp only [c2, decide_false, Bool.false_eq_true, if_false])
      x1.toNat 0 [] (by omega) (by simp)
    rw [show loop _ (([] : List Int), (0 : Int)) = _ from h, Option.bind_some]
    simp only [List.drop_zero, List.nil_append]
    cases lbl x1.toNat t <;> rfl
end Go.Proofs.YtjjceikmimhpnaaDoor.S
