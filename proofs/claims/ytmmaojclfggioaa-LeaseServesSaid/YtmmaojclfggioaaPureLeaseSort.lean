/- A row of leases with one more put in its place; each states its own conditions. -/
import Derived.Test.YtmmaojclfggioaaPureLeaseServe
namespace Go.Proofs.Ytmmaojclfggioaa.S
open Go Go.SL
set_option linter.unusedVariables false
set_option linter.unusedSimpArgs false
theorem cmp_is (x y : TLease) : ∃ r, lease_server_request_2.f x y = some r ∧ (r < 0 ↔ x.Ip < y.Ip) := by
  unfold lease_server_request_2.f cmp_Compare_uint32.f cmp_isNaN_uint32.f
  simp only [lt, decide_true, Bool.not_true, Option.bind_some, Bool.false_eq_true, if_false]
  by_cases c1 : x.Ip < y.Ip
  · simp only [c1, decide_true, if_true, Option.bind_some]; exact ⟨-1, rfl, by decide⟩
  · by_cases c2 : y.Ip < x.Ip
    · simp only [c1, c2, decide_true, decide_false, Bool.false_eq_true, if_false, if_true, Option.bind_some]; exact ⟨1, rfl, by decide⟩
    · simp only [c1, c2, decide_false, Bool.false_eq_true, if_false, Option.bind_some]; exact ⟨0, rfl, by decide⟩
theorem swap_e (P Q : List TLease) (x y : TLease) : ((P ++ y :: x :: Q).set (P.length + 1) y).set P.length x = P ++ x :: y :: Q := by
  rw [List.set_append_right _ _ (by omega), show P.length + 1 - P.length = 1 by omega]
  rw [List.set_append_right _ _ (by omega), Nat.sub_self]
  rfl
/-- The inner rounds, from place i: it stays where it is, or goes down. -/
theorem inner_stay (l : List TLease) (i : Nat) (hi : i < l.length) (hl : l.length ≤ 100) (hs : ∀ h : 0 < i, ¬ l[i].Ip < (l[i - 1]'(by omega)).Ip) : loop (fun s2 => ((if decide (((0:Int)) < s2.2) = true then (idx s2.1 s2.2).bind fun x1 => (idx s2.1 (IntKind.i64.wrap (s2.2 - 1))).bind fun x2 => (lease_server_request_2.f x1 x2).bind fun r1 => some (decide (r1 < 0)) else some (false))).bind (fun j1 => (if j1 = true then (idx s2.1 (IntKind.i64.wrap (s2.2 - 1))).bind fun x3 => (idx s2.1 s2.2).bind fun x4 => (idx s2.1 s2.2).bind fun x5 => (idx (s2.1.set s2.2.toNat x3) (IntKind.i64.wrap (s2.2 - 1))).bind fun x6 => lt ((s2.1.set s2.2.toNat x3).set (IntKind.i64.wrap (s2.2 - 1)).toNat x4) fun y2 => lt (IntKind.i64.wrap (s2.2 - 1)) fun y3 => some (.inl (y2, y3)) else some (.inr (s2.1))))) (l, (i : Int)) = some l := by
  refine loop_out ?_
  by_cases h0 : 0 < i
  · have c : ((0 : Int) < (i : Int)) := by omega
    have e1 : IntKind.i64.wrap ((i : Int) - 1) = ((i - 1 : Nat) : Int) := by rw [i64w (by omega) (by omega)]; omega
    obtain ⟨r, hr, hr2⟩ := cmp_is l[i] (l[i - 1]'(by omega))
    have c2 : ¬ r < 0 := fun h => hs h0 (hr2.1 h)
    simp only [c, decide_true, if_true, ix l i hi, Option.bind_some, e1, ix l (i - 1) (by omega), hr, c2, decide_false, Bool.false_eq_true, if_false]
  · have c : ¬ ((0 : Int) < (i : Int)) := by omega
    simp only [c, decide_false, Bool.false_eq_true, if_false, Option.bind_some]
theorem inner_down (A : List TLease) (x : TLease) (hA : ∀ y ∈ A, y.Ip < x.Ip) : ∀ (n : Nat) (B Q : List TLease), B.length = n → (∀ y ∈ B, x.Ip < y.Ip) → A.length + B.length + Q.length ≤ 90 → loop (fun s2 => ((if decide (((0:Int)) < s2.2) = true then (idx s2.1 s2.2).bind fun x1 => (idx s2.1 (IntKind.i64.wrap (s2.2 - 1))).bind fun x2 => (lease_server_request_2.f x1 x2).bind fun r1 => some (decide (r1 < 0)) else some (false))).bind (fun j1 => (if j1 = true then (idx s2.1 (IntKind.i64.wrap (s2.2 - 1))).bind fun x3 => (idx s2.1 s2.2).bind fun x4 => (idx s2.1 s2.2).bind fun x5 => (idx (s2.1.set s2.2.toNat x3) (IntKind.i64.wrap (s2.2 - 1))).bind fun x6 => lt ((s2.1.set s2.2.toNat x3).set (IntKind.i64.wrap (s2.2 - 1)).toNat x4) fun y2 => lt (IntKind.i64.wrap (s2.2 - 1)) fun y3 => some (.inl (y2, y3)) else some (.inr (s2.1))))) (A ++ B ++ x :: Q, ((A.length + B.length : Nat) : Int)) = some (A ++ x :: (B ++ Q)) := by
  intro n
  induction n with
  | zero =>
    intro B Q hn hB hl
    have hb : B = [] := List.length_eq_zero_iff.1 hn
    subst hb
    simp only [List.append_nil, List.nil_append, List.length_nil, Nat.add_zero]
    refine inner_stay _ A.length (by simp) (by simp at hl ⊢; omega) fun h => ?_
    have e1 : (A ++ x :: Q)[A.length]'(by simp) = x := by simp
    have e2 : (A ++ x :: Q)[A.length - 1]'(by simp; omega) = A[A.length - 1]'(by omega) := List.getElem_append_left (by omega)
    rw [e1, e2]
    have := hA _ (List.getElem_mem (show A.length - 1 < A.length by omega))
    omega
  | succ n ih =>
    intro B Q hn hB hl
    obtain ⟨B', y, rfl⟩ : ∃ B' y, B = B' ++ [y] := ⟨B.dropLast, B.getLast (by intro h; rw [h] at hn; simp at hn), (List.dropLast_concat_getLast _).symm⟩
    simp only [List.length_append, List.length_singleton] at hn hl ⊢
    have hn' : B'.length = n := by omega
    have e0 : A ++ (B' ++ [y]) ++ x :: Q = (A ++ B') ++ y :: x :: Q := by simp
    rw [e0]
    have hP : (A ++ B').length = A.length + B'.length := List.length_append
    have hi1 : A.length + (B'.length + 1) < ((A ++ B') ++ y :: x :: Q).length := by simp <;> omega
    have hi0 : A.length + B'.length < ((A ++ B') ++ y :: x :: Q).length := by simp <;> omega
    have g1 : ((A ++ B') ++ y :: x :: Q)[A.length + (B'.length + 1)]'hi1 = x := by
      rw [List.getElem_append_right (by omega)]
      have : A.length + (B'.length + 1) - (A.length + B'.length) = 1 := by omega
      simp [this]
    have g0 : ((A ++ B') ++ y :: x :: Q)[A.length + B'.length]'hi0 = y := by
      rw [List.getElem_append_right (by omega)]
      have : A.length + B'.length - (A.length + B'.length) = 0 := by omega
      simp [this]
    have c : ((0 : Int) < ((A.length + (B'.length + 1) : Nat) : Int)) := by omega
    have e1 : IntKind.i64.wrap (((A.length + (B'.length + 1) : Nat) : Int) - 1) = ((A.length + B'.length : Nat) : Int) := by rw [i64w (by omega) (by omega)]; omega
    obtain ⟨r, hr, hr2⟩ := cmp_is x y
    have c2 : r < 0 := hr2.2 (hB y (by simp))
    have hset : (((A ++ B') ++ y :: x :: Q).set (A.length + (B'.length + 1)) y).set (A.length + B'.length) x = (A ++ B') ++ x :: y :: Q := by
      have := swap_e (A ++ B') Q x y
      rw [hP] at this; exact this
    have ix3 : ∃ v, idx (((A ++ B') ++ y :: x :: Q).set (A.length + (B'.length + 1)) y) ((A.length + B'.length : Nat) : Int) = some v := ⟨_, ix _ _ (by rw [List.length_set]; exact hi0)⟩
    obtain ⟨v3, hv3⟩ := ix3
    refine (loop_in (s' := ((A ++ B') ++ x :: y :: Q, ((A.length + B'.length : Nat) : Int))) ?_).trans ?_
    · simp only [c, decide_true, if_true, ix _ _ hi1, e1, ix _ _ hi0, Option.bind_some, g1, g0, hr, c2, Int.toNat_natCast, hv3, lt, hset]
    · have := ih B' (y :: Q) hn' (fun z hz => hB z (by simp [hz])) (by simp; omega)
      rw [this]; simp
theorem sort_e (A B : List TLease) (x : TLease) (hp : (A ++ B).Pairwise fun a b => a.Ip < b.Ip) (hA : ∀ y ∈ A, y.Ip < x.Ip) (hB : ∀ y ∈ B, x.Ip < y.Ip) (hl : A.length + B.length ≤ 8) : slices_SortFunc_s_api_Lease_api_Lease_at_lease_server_request_2.f (A ++ B ++ [x]) = some (A ++ x :: B) := by
  unfold slices_SortFunc_s_api_Lease_api_Lease_at_lease_server_request_2.f
  have hn : (A ++ B ++ [x]).length = A.length + B.length + 1 := by simp; omega
  obtain ⟨r, hr⟩ : ∃ r, math_bits_Len.f (IntKind.u64.wrap ((A.length + B.length + 1 : Nat) : Int)) = some r := by
    generalize A.length + B.length = n at hl
    rcases (by omega : n = 0 ∨ n = 1 ∨ n = 2 ∨ n = 3 ∨ n = 4 ∨ n = 5 ∨ n = 6 ∨ n = 7 ∨ n = 8) with rfl | rfl | rfl | rfl | rfl | rfl | rfl | rfl | rfl
    · exact ⟨1, math_bits_Len.le 50 _ _ (by kernel_rfl)⟩
    · exact ⟨2, math_bits_Len.le 50 _ _ (by kernel_rfl)⟩
    · exact ⟨2, math_bits_Len.le 50 _ _ (by kernel_rfl)⟩
    · exact ⟨3, math_bits_Len.le 50 _ _ (by kernel_rfl)⟩
    · exact ⟨3, math_bits_Len.le 50 _ _ (by kernel_rfl)⟩
    · exact ⟨3, math_bits_Len.le 50 _ _ (by kernel_rfl)⟩
    · exact ⟨3, math_bits_Len.le 50 _ _ (by kernel_rfl)⟩
    · exact ⟨4, math_bits_Len.le 50 _ _ (by kernel_rfl)⟩
    · exact ⟨4, math_bits_Len.le 50 _ _ (by kernel_rfl)⟩
  simp only [lt, hn]
  rw [hr, Option.bind_some]
  have hins : slices_insertionSortCmpFunc_api_Lease_at_lease_server_request_2.f (A ++ B ++ [x]) 0 ((A.length + B.length + 1 : Nat) : Int) = some (A ++ x :: B) := by
    unfold slices_insertionSortCmpFunc_api_Lease_at_lease_server_request_2.f
    have e1 : IntKind.i64.wrap ((0 : Int) + 1) = 1 := by decide
    simp only [lt, e1]
    refine loop_exit (fun (o : Option (List TLease)) => o = some (A ++ x :: B)) (fun (i : Nat) (s : List TLease × Int) => s.2 = ((i + 1 : Nat) : Int) ∧ s.1 = if i < A.length + B.length then A ++ B ++ [x] else A ++ x :: B) (fun r => r = A ++ x :: B) (A.length + B.length) ?_ ?_ ?_ ?_
    · refine ⟨rfl, ?_⟩
      by_cases h : 0 < A.length + B.length
      · rw [if_pos h]
      · rw [if_neg h]
        have h1 : A = [] := List.length_eq_zero_iff.1 (by omega)
        have h2 : B = [] := List.length_eq_zero_iff.1 (by omega)
        rw [h1, h2]; rfl
    · rintro i ⟨d, i'⟩ hi ⟨q0, q1⟩
      dsimp only at q0 q1
      rw [if_pos hi] at q1
      subst q0 q1
      left
      have c : (((i + 1 : Nat) : Int) < ((A.length + B.length + 1 : Nat) : Int)) := by omega
      have ew : IntKind.i64.wrap (((i + 1 : Nat) : Int) + 1) = ((i + 1 + 1 : Nat) : Int) := by rw [i64w (by omega) (by omega)]; rfl
      by_cases h : i + 1 < A.length + B.length
      · have hst := inner_stay (A ++ B ++ [x]) (i + 1) (by rw [hn]; omega) (by rw [hn]; omega) (fun _ => by
          have a1 : (A ++ B ++ [x])[i + 1]'(by rw [hn]; omega) = (A ++ B)[i + 1]'(by rw [List.length_append]; omega) := List.getElem_append_left (by rw [List.length_append]; omega)
          have a2 : (A ++ B ++ [x])[i + 1 - 1]'(by rw [hn]; omega) = (A ++ B)[i]'(by rw [List.length_append]; omega) := List.getElem_append_left (by rw [List.length_append]; omega)
          rw [a1, a2]
          have := List.pairwise_iff_getElem.1 hp i (i + 1) (by rw [List.length_append]; omega) (by rw [List.length_append]; omega) (by omega)
          omega)
        simp only [lt] at hst
        simp only [c, decide_true, if_true]
        rw [hst, Option.bind_some, ew]
        exact ⟨_, rfl, rfl, by rw [if_pos h]⟩
      · have hd := inner_down A x hA B.length B [] rfl hB (by simp; omega)
        have e2 : i + 1 = A.length + B.length := by omega
        simp only [lt, List.append_nil] at hd
        simp only [c, decide_true, if_true]
        rw [e2, hd, Option.bind_some, ← e2, ew]
        exact ⟨_, rfl, rfl, by rw [if_neg (by omega)]⟩
    · rintro ⟨d, i'⟩ ⟨q0, q1⟩
      dsimp only at q0 q1
      rw [if_neg (by omega)] at q1
      subst q0 q1
      have c : ¬ (((A.length + B.length + 1 : Nat) : Int) < ((A.length + B.length + 1 : Nat) : Int)) := by omega
      simp only [c, decide_false, Bool.false_eq_true, if_false]
      exact ⟨_, rfl, rfl⟩
    · rintro z rfl; rfl
  unfold slices_pdqsortCmpFunc_api_Lease_at_lease_server_request_2.f
  have e0 : IntKind.i64.wrap (((A.length + B.length + 1 : Nat) : Int) - 0) = ((A.length + B.length + 1 : Nat) : Int) := by rw [i64w (by omega) (by omega)]; omega
  have c12 : (((A.length + B.length + 1 : Nat) : Int) ≤ 12) := by omega
  rw [loop_out (r := A ++ x :: B) (by simp only [lt, e0, c12, decide_true, if_true, hins, Option.bind_some])]
  rfl
end Go.Proofs.Ytmmaojclfggioaa.S
