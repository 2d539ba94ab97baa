/- What the law ReasmBack answers: true; what the pieces of a packet make of a row, in whichever order they come. Its conditions: what the packet's and the row's data are. -/
import Derived.Test.YtlpjgmbbcibkjaaPureReasmStays
namespace Go.Proofs.Ytlpjgmbbcibkjaa.S
open Go Go.SL
set_option linter.unusedVariables false
set_option linter.unusedSimpArgs false
theorem loop_exit {σ ρ τ : Type} {B : σ → Option (σ ⊕ ρ)} {s0 : σ} {K : ρ → Option τ} (G : Option τ → Prop) (I : Nat → σ → Prop) (Q : ρ → Prop) (N : Nat) (h0 : I 0 s0) (hs : ∀ i s, i < N → I i s → (∃ s', B s = some (.inl s') ∧ I (i + 1) s') ∨ (∃ r, B s = some (.inr r) ∧ Q r)) (hN : ∀ s, I N s → ∃ r, B s = some (.inr r) ∧ Q r) (hk : ∀ r, Q r → G (K r)) : G ((loop B s0).bind K) := by
  have key : ∀ k i s, i + k = N → I i s → ∃ r, loop B s = some r ∧ Q r := by
    intro k
    induction k with
    | zero =>
      intro i s hi h
      have e : i = N := by omega
      subst e
      obtain ⟨r, h1, h2⟩ := hN s h
      exact ⟨r, loop_out h1, h2⟩
    | succ k ih =>
      intro i s hi h
      rcases hs i s (by omega) h with ⟨s', h1, h2⟩ | ⟨r, h1, h2⟩
      · obtain ⟨r, h3, h4⟩ := ih (i + 1) s' (by omega) h2
        exact ⟨r, by rw [loop_in h1]; exact h3, h4⟩
      · exact ⟨r, loop_out h1, h2⟩
  obtain ⟨r, h1, h2⟩ := key N 0 s0 (by omega) h0
  rw [h1]
  exact hk r h2
theorem getD_set {α : Type} (l : List α) (q i : Nat) (v z : α) (hq : q < l.length) : (l.set q v).getD i z = if i = q then v else l.getD i z := by
  rw [List.getD_eq_getElem?_getD, List.getD_eq_getElem?_getD, List.getElem?_set]
  by_cases h : q = i
  · subst h; simp [hq]
  · rw [if_neg h, if_neg (fun e => h e.symm)]
theorem getD_pad {α : Type} (l : List α) (m i : Nat) (z : α) : (l ++ List.replicate m z).getD i z = l.getD i z := by
  rw [List.getD_eq_getElem?_getD, List.getD_eq_getElem?_getD, List.getElem?_append]
  split
  · rfl
  · rename_i h
    rw [List.getElem?_eq_none (l := l) (by omega), List.getElem?_replicate]
    split <;> rfl
theorem getD_lt {α : Type} (l : List α) (i : Nat) (z : α) (h : i < l.length) : l.getD i z = l[i] := by
  rw [List.getD_eq_getElem?_getD, List.getElem?_eq_getElem h]; rfl
theorem getD_ge {α : Type} (l : List α) (i : Nat) (z : α) (h : l.length ≤ i) : l.getD i z = z := by
  rw [List.getD_eq_getElem?_getD, List.getElem?_eq_none h]; rfl
theorem put_full (x : TPiece) (a : Nat) (b : List Int) (h1 : a + b.length ≤ 20000) (h2 : x.Data.length ≤ 8192) (h3 : x.Have.length = x.Data.length) : ∃ d h, d.length = max x.Data.length (a + b.length) ∧ h.length = d.length ∧ (∀ i, h.getD i false = (x.Have.getD i false || decide (a ≤ i ∧ i < a + b.length))) ∧ (∀ i, d.getD i 0 = if x.Have.getD i false = false ∧ a ≤ i ∧ i < a + b.length then b.getD (i - a) 0 else x.Data.getD i 0) ∧ reasm_put.f x (a : Int) b = some ⟨x.Src, x.Dst, x.Id, x.Proto, x.Until, d, h, x.Total⟩ := by
  unfold reasm_put.f
  have e1 : max (x.Data.length : Int) (IntKind.i64.wrap ((a : Int) + (b.length : Int))) = ((max x.Data.length (a + b.length) : Nat) : Int) := by
    rw [i64w (by omega) (by omega)]; omega
  simp only [lt, e1]
  generalize hn : max x.Data.length (a + b.length) = n
  rw [mk_ok _ _ (by omega) (by omega), Option.bind_some, mk_ok _ _ (by omega) (by omega), Option.bind_some]
  rw [ovr_len _ _ (by simp; omega), ovr_len _ _ (by simp; omega)]
  refine loop_bind_inv (fun o => ∃ d h, d.length = n ∧ h.length = d.length ∧ (∀ i, h.getD i false = (x.Have.getD i false || decide (a ≤ i ∧ i < a + b.length))) ∧ (∀ i, d.getD i 0 = if x.Have.getD i false = false ∧ a ≤ i ∧ i < a + b.length then b.getD (i - a) 0 else x.Data.getD i 0) ∧ o = some (⟨x.Src, x.Dst, x.Id, x.Proto, x.Until, d, h, x.Total⟩ : TPiece)) (fun (j : Nat) (s : List Int × List Bool × Int) => s.1.length = n ∧ s.2.1.length = n ∧ s.2.2 = (j : Int) ∧ (∀ i, s.2.1.getD i false = (x.Have.getD i false || decide (a ≤ i ∧ i < a + j))) ∧ (∀ i, s.1.getD i 0 = if x.Have.getD i false = false ∧ a ≤ i ∧ i < a + j then b.getD (i - a) 0 else x.Data.getD i 0)) (fun (r : List Int × List Bool) => r.1.length = n ∧ r.2.length = n ∧ (∀ i, r.2.getD i false = (x.Have.getD i false || decide (a ≤ i ∧ i < a + b.length))) ∧ (∀ i, r.1.getD i 0 = if x.Have.getD i false = false ∧ a ≤ i ∧ i < a + b.length then b.getD (i - a) 0 else x.Data.getD i 0)) b.length ?_ ?_ ?_ ?_
  · refine ⟨?_, ?_, rfl, fun i => ?_, fun i => ?_⟩
    · simp; omega
    · simp; omega
    · show (x.Have ++ List.drop x.Have.length (List.replicate (n : Int).toNat false)).getD i false = _
      rw [List.drop_replicate, getD_pad, decide_eq_false (show ¬ (a ≤ i ∧ i < a + 0) by omega), Bool.or_false]
    · show (x.Data ++ List.drop x.Data.length (List.replicate (n : Int).toNat 0)).getD i 0 = _
      rw [List.drop_replicate, getD_pad, if_neg (by omega)]
  · rintro j ⟨d, h, j'⟩ hj ⟨q1, q2, q3, q4, q5⟩
    dsimp only at q1 q2 q3 q4 q5
    subst q3
    have c : ((j : Int) < (b.length : Int)) := by omega
    have ei : IntKind.i64.wrap ((a : Int) + (j : Int)) = ((a + j : Nat) : Int) := by rw [i64w (by omega) (by omega)]; omega
    have hin : a + j < n := by omega
    have hq := q4 (a + j)
    rw [getD_lt _ _ _ (by omega)] at hq
    have hno : ¬ (a ≤ a + j ∧ a + j < a + j) := by omega
    simp only [hno, decide_false, Bool.or_false] at hq
    simp only [c, decide_true, if_true, ix b j hj, Option.bind_some, ei, ix h _ (show a + j < h.length by omega), ix d _ (show a + j < d.length by omega)]
    rw [stepw hj (by omega), hq]
    have hne1 : ∀ i, i ≠ a + j → decide (a ≤ i ∧ i < a + (j + 1)) = decide (a ≤ i ∧ i < a + j) := fun i e => decide_eq_decide.2 ⟨fun _ => by omega, fun _ => by omega⟩
    have hne2 : ∀ i, i ≠ a + j → (if x.Have.getD i false = false ∧ a ≤ i ∧ i < a + j then b.getD (i - a) 0 else x.Data.getD i 0) = (if x.Have.getD i false = false ∧ a ≤ i ∧ i < a + (j + 1) then b.getD (i - a) 0 else x.Data.getD i 0) := fun i e => by
      by_cases hc : x.Have.getD i false = false ∧ a ≤ i ∧ i < a + j
      · rw [if_pos hc, if_pos ⟨hc.1, hc.2.1, by omega⟩]
      · rw [if_neg hc, if_neg (fun h => hc ⟨h.1, h.2.1, by omega⟩)]
    cases hh : x.Have.getD (a + j) false with
    | true =>
      refine ⟨_, rfl, q1, q2, rfl, fun i => ?_, fun i => ?_⟩
      · show h.getD i false = _
        rw [q4 i]
        by_cases e : i = a + j
        · subst e; rw [hh]; rfl
        · rw [hne1 i e]
      · show d.getD i 0 = _
        rw [q5 i]
        by_cases e : i = a + j
        · subst e
          rw [if_neg (fun h => by rw [hh] at h; exact absurd h.1 (by decide)), if_neg (fun h => by rw [hh] at h; exact absurd h.1 (by decide))]
        · exact hne2 i e
    | false => 
      simp only [Bool.not_false, if_true, Option.bind_some, Int.toNat_natCast]
      refine ⟨_, rfl, by simp [q1], by simp [q2], rfl, fun i => ?_, fun i => ?_⟩
      · show (h.set (a + j) true).getD i false = _
        rw [getD_set _ _ _ _ _ (by omega), q4 i]
        by_cases e : i = a + j
        · subst e
          rw [if_pos rfl, decide_eq_true (show a ≤ a + j ∧ a + j < a + (j + 1) by omega), Bool.or_true]
        · rw [if_neg e, hne1 i e]
      · show (d.set (a + j) b[j]).getD i 0 = _
        rw [getD_set _ _ _ _ _ (by omega), q5 i]
        by_cases e : i = a + j
        · subst e
          rw [if_pos rfl, if_pos ⟨hh, by omega, by omega⟩, show a + j - a = j by omega, getD_lt _ _ _ hj]
        · rw [if_neg e]; exact hne2 i e
  · rintro ⟨d, h, j⟩ ⟨q1, q2, q3, q4, q5⟩
    dsimp only at q1 q2 q3 q4 q5
    subst q3
    exact ⟨(d, h), by simp, q1, q2, q4, q5⟩
  · rintro ⟨d, h⟩ ⟨q1, q2, q4, q5⟩
    exact ⟨d, h, q1, q2.trans q1.symm, q4, q5, rfl⟩
theorem contains_iff (l : List Bool) (v : Bool) (hl : l.length ≤ 100000) : ∃ c, slices_Contains_s_bool_bool.f l v = some c ∧ (c = true ↔ ∃ i, ∃ h : i < l.length, l[i] = v) := by
  unfold slices_Contains_s_bool_bool.f slices_Index_s_bool_bool.f
  obtain ⟨k, hk, h1, h2, hlp⟩ := find_run (B := fun s1 : Int => (if decide (s1 < (l.length : Int)) = true then (idx l s1).bind fun x1 => (if (v == x1) = true then some (.inr (.inr (s1))) else some (.inl (IntKind.i64.wrap (s1 + 1)))) else some (.inr (.inl (())))))
    (fun i => if h : i < l.length then v == l[i] else false) l.length (fun i => (i : Int)) (fun i => if i < l.length then (.inr (i : Int) : Unit ⊕ Int) else .inl ())
    (fun i hi hf => by
      rw [dif_pos hi] at hf
      have c : ((i : Int) < (l.length : Int)) := by omega
      simp only [c, decide_true, if_true, ix l i hi, Option.bind_some, hf, Bool.false_eq_true, if_false]
      rw [stepw hi (by omega)])
    (fun i hi hf => by
      rw [dif_pos hi] at hf
      have c : ((i : Int) < (l.length : Int)) := by omega
      simp only [c, decide_true, if_true, ix l i hi, Option.bind_some, hf]
      rw [if_pos hi])
    (by simp)
  rw [show (0 : Int) = ((0 : Nat) : Int) from rfl, hlp, Option.bind_some]
  by_cases c : k < l.length
  · rw [if_pos c]
    refine ⟨_, rfl, ?_⟩
    have := h2 c
    rw [dif_pos c] at this
    simp only [decide_eq_true_eq]
    exact ⟨fun _ => ⟨k, c, (by simpa using this : v = l[k]).symm⟩, fun _ => by omega⟩
  · rw [if_neg c]
    refine ⟨_, rfl, ?_⟩
    simp only [decide_eq_true_eq]
    refine ⟨fun h => absurd h (by decide), fun ⟨i, hi, e⟩ => ?_⟩
    have := h1 i (by omega)
    rw [dif_pos hi, e] at this
    simp at this
theorem and3 (n : Nat) (h : n < 1000) : bits .and .i64 (n : Int) 3 = ((n % 4 : Nat) : Int) := by
  have e2 : bits .and .i64 (n : Int) 3 = IntKind.i64.wrap ((BitVec.ofNat 64 n &&& BitVec.ofNat 64 3 : BitVec 64).toNat : Int) := by
    unfold bits
    show IntKind.i64.wrap ((BitVec.ofInt 64 (n : Int) &&& BitVec.ofInt 64 3 : BitVec 64).toNat : Int) = _
    rw [show BitVec.ofInt 64 (n : Int) = BitVec.ofNat 64 n from BitVec.ofInt_natCast _ _]; rfl
  have e3 : n &&& 3 = n % 4 := Nat.and_two_pow_sub_one_eq_mod n 2
  rw [e2, BitVec.toNat_and, BitVec.toNat_ofNat, BitVec.toNat_ofNat, Nat.mod_eq_of_lt (by omega), Nat.mod_eq_of_lt (by decide), e3, i64w (by omega) (by omega)]
theorem within_is (x y : Int) : ref17_within.f x y = some (decide (0 ≤ x ∧ x ≤ y)) := by
  unfold ref17_within.f lt
  by_cases c : 0 ≤ x
  · by_cases d : x ≤ y <;> simp [c, d]
  · simp [c]
/-- What the document's answer asks of a packet, as numbers. -/
def RR (p : TIp) : Prop := (0 ≤ p.Tos ∧ p.Tos ≤ 255) ∧ (0 ≤ p.Ttl ∧ p.Ttl ≤ 255) ∧ (0 ≤ p.Proto ∧ p.Proto ≤ 255) ∧ (0 ≤ p.Id ∧ p.Id ≤ 65535) ∧ (0 ≤ p.Flags ∧ p.Flags ≤ 7) ∧ (0 ≤ p.Off ∧ p.Off ≤ 8191) ∧ p.Options.length ≤ 40 ∧ p.Options.length % 4 = 0 ∧ (p.Data.length : Int) ≤ 65515 - p.Options.length
theorem refright_is (p : TIp) (hl : p.Options.length ≤ 9223372036854775807) : ∃ c, ref17_right.f p = some c ∧ (c = true ↔ RR p) := by
  unfold ref17_right.f RR lt
  simp only [within_is, Option.bind_some]
  by_cases c1 : 0 ≤ p.Tos ∧ p.Tos ≤ 255
  · by_cases c2 : 0 ≤ p.Ttl ∧ p.Ttl ≤ 255
    · by_cases c3 : 0 ≤ p.Proto ∧ p.Proto ≤ 255
      · by_cases c4 : 0 ≤ p.Id ∧ p.Id ≤ 65535
        · by_cases c5 : 0 ≤ p.Flags ∧ p.Flags ≤ 7
          · by_cases c6 : 0 ≤ p.Off ∧ p.Off ≤ 8191
            · by_cases c7 : (p.Options.length : Int) ≤ 40
              · have c7' : p.Options.length ≤ 40 := by omega
                have e8 : Int.tmod (p.Options.length : Int) 4 = ((p.Options.length % 4 : Nat) : Int) := by rw [Int.tmod_eq_emod_of_nonneg (by omega)]; omega
                by_cases c8 : p.Options.length % 4 = 0
                · refine ⟨decide ((p.Data.length : Int) ≤ 65515 - p.Options.length), ?_, ?_⟩
                  · simp only [c1, c2, c3, c4, c5, c6, c7, e8, c8, and_self, decide_true, if_true, Option.bind_some]
                    rw [i64w (by omega) (by omega)]; rfl
                  · simp only [c1, c2, c3, c4, c5, c6, c7', c8, and_self, true_and, decide_eq_true_eq]
                · refine ⟨false, ?_, by simp [c8]⟩
                  have : ¬ ((p.Options.length % 4 : Nat) : Int) = 0 := by omega
                  simp only [c1, c2, c3, c4, c5, c6, c7, e8, this, and_self, decide_true, decide_false, Bool.false_eq_true, if_false, if_true, Option.bind_some]
              · have c7' : ¬ p.Options.length ≤ 40 := by omega
                exact ⟨false, by simp only [c1, c2, c3, c4, c5, c6, c7, and_self, decide_true, decide_false, Bool.false_eq_true, if_false, if_true, Option.bind_some], by simp [c7']⟩
            · exact ⟨false, by simp only [c1, c2, c3, c4, c5, c6, and_self, decide_true, decide_false, Bool.false_eq_true, if_false, if_true, Option.bind_some], by simp [c6]⟩
          · exact ⟨false, by simp only [c1, c2, c3, c4, c5, and_self, decide_true, decide_false, Bool.false_eq_true, if_false, if_true, Option.bind_some], by simp [c5]⟩
        · exact ⟨false, by simp only [c1, c2, c3, c4, and_self, decide_true, decide_false, Bool.false_eq_true, if_false, if_true, Option.bind_some], by simp [c4]⟩
      · exact ⟨false, by simp only [c1, c2, c3, and_self, decide_true, decide_false, Bool.false_eq_true, if_false, if_true, Option.bind_some], by simp [c3]⟩
    · exact ⟨false, by simp only [c1, c2, and_self, decide_true, decide_false, Bool.false_eq_true, if_false, if_true, Option.bind_some], by simp [c2]⟩
  · exact ⟨false, by simp only [c1, decide_true, decide_false, Bool.false_eq_true, if_false, if_true, Option.bind_some], by simp [c1]⟩
/-- The k-th piece of m bytes. -/
def pc (p : TIp) (m k : Nat) : TIp := ⟨p.Tos, p.Id, if p.Data.length ≤ (k + 1) * m then 0 else 1, ((k * m / 8 : Nat) : Int), p.Ttl, p.Proto, p.Src, p.Dst, p.Options, (p.Data.take ((k + 1) * m)).drop (k * m)⟩
theorem cut_is (p : TIp) (hf : p.Flags = 0) (ho : p.Off = 0) (mtu : Int) (hm : InR .i64 mtu) (hd : p.Data.length ≤ 3000) (hl : p.Options.length ≤ 9223372036854775807) : ∃ l e, ref17_Cut.f p mtu = some (l, e) ∧ (e ≠ 0 ∨ l.length < 2 ∨ (RR p ∧ ∃ u n : Nat, 1 ≤ u ∧ 2 ≤ n ∧ (n - 1) * (8 * u) < p.Data.length ∧ p.Data.length ≤ n * (8 * u) ∧ l = (List.range n).map (pc p (8 * u)))) := by
  have hmb : -9223372036854775808 ≤ mtu ∧ mtu ≤ 9223372036854775807 := by
    unfold InR at hm
    simp only [IntKind.wrap, IntKind.bits, IntKind.signed] at hm
    simp at hm
    omega
  unfold ref17_Cut.f
  obtain ⟨c, hc, hc2⟩ := refright_is p hl
  rw [hc, Option.bind_some]
  cases c with
  | false => exact ⟨_, _, rfl, .inl (by decide)⟩
  | true =>
  have hR := hc2.1 rfl
  have h40 : p.Options.length ≤ 40 := hR.2.2.2.2.2.2.1
  simp only [Bool.not_true, Bool.false_eq_true, if_false, lt]
  rw [i64w (x := 20 + (p.Options.length : Int)) (by omega) (by omega), i64w (x := 20 + (p.Options.length : Int) + (p.Data.length : Int)) (by omega) (by omega)]
  by_cases c1 : 20 + (p.Options.length : Int) + (p.Data.length : Int) ≤ mtu
  · rw [if_pos (by simpa using c1)]
    exact ⟨_, _, rfl, .inr (.inl (by simp))⟩
  rw [if_neg (by simpa using c1), hf, ho, i64w (x := 20 + (p.Options.length : Int) + 8) (by omega) (by omega)]
  rw [if_neg (by decide)]
  by_cases c2 : mtu < 20 + (p.Options.length : Int) + 8
  · simp only [c2, decide_true, if_true, Option.bind_some]
    exact ⟨_, _, rfl, .inl (by decide)⟩
  simp only [c2, decide_false, Bool.false_eq_true, if_false, Option.bind_some]
  split
  · exact ⟨_, _, rfl, .inl (by decide)⟩
  obtain ⟨u, hu⟩ : ∃ u : Nat, IntKind.i64.wrap ((IntKind.i64.wrap (Int.tdiv (IntKind.i64.wrap (mtu - (20 + (p.Options.length : Int)))) 8)) * 8) = ((8 * u : Nat) : Int) ∧ 1 ≤ u ∧ 8 * u < p.Data.length := by
    refine ⟨((mtu - (20 + (p.Options.length : Int))) / 8).toNat, ?_, by omega, by omega⟩
    rw [i64w (x := mtu - (20 + (p.Options.length : Int))) (by omega) (by omega), Int.tdiv_eq_ediv_of_nonneg (by omega), i64w (x := (mtu - (20 + (p.Options.length : Int))) / 8) (by omega) (by omega), i64w (by omega) (by omega)]
    omega
  obtain ⟨hu0, hu1, hu2⟩ := hu
  rw [hu0]
  generalize hmm : 8 * u = m at hu0 hu2 ⊢
  have hm0 : 0 < m := by omega
  have hn1 : ∀ n, n = (p.Data.length + m - 1) / m → (n - 1) * m < p.Data.length ∧ p.Data.length ≤ n * m ∧ 2 ≤ n := by
    intro n hn
    have a1 : n * m ≤ p.Data.length + m - 1 := by rw [hn]; exact Nat.div_mul_le_self _ _
    have a2 : p.Data.length + m - 1 < n * m + m := by rw [hn]; exact Nat.lt_div_mul_add hm0
    have a3 : 2 ≤ n := by rw [hn, Nat.le_div_iff_mul_le hm0]; omega
    refine ⟨?_, by omega, a3⟩
    rw [Nat.sub_mul, Nat.one_mul]; omega
  generalize hn : (p.Data.length + m - 1) / m = n at hn1
  obtain ⟨n1, n2, n3⟩ := hn1 n rfl
  refine ⟨(List.range n).map (pc p m), 0, ?_, .inr (.inr ⟨hR, u, n, hu1, n3, by rw [hmm]; exact n1, by rw [hmm]; exact n2, by rw [hmm]⟩)⟩
  have hnb : n ≤ p.Data.length := by
    have : n - 1 ≤ (n - 1) * m := Nat.le_mul_of_pos_right _ hm0
    omega
  refine loop_bind_inv (fun o => o = some ((List.range n).map (pc p m), (0 : Int))) (fun (i : Nat) (s : List TIp × Int) => s.1 = (List.range i).map (pc p m) ∧ s.2 = ((i * m : Nat) : Int)) (fun r => r = (List.range n).map (pc p m)) n ?_ ?_ ?_ ?_
  · exact ⟨rfl, by simp⟩
  · rintro i ⟨out, at_⟩ hi ⟨q1, q2⟩
    dsimp only at q1 q2
    subst q1 q2
    have him : i * m < p.Data.length := by
      have : i * m ≤ (n - 1) * m := Nat.mul_le_mul_right _ (by omega)
      omega
    have e1 : (i + 1) * m = i * m + m := by rw [Nat.add_mul, Nat.one_mul]
    have c : (((i * m : Nat) : Int) < (p.Data.length : Int)) := by omega
    have ew : IntKind.i64.wrap (((i * m : Nat) : Int) + (m : Int)) = (((i + 1) * m : Nat) : Int) := by rw [i64w (by omega) (by omega), e1]; omega
    have eo : IntKind.i64.wrap (0 + IntKind.i64.wrap (Int.tdiv ((i * m : Nat) : Int) 8)) = ((i * m / 8 : Nat) : Int) := by
      rw [Int.tdiv_eq_ediv_of_nonneg (by omega), i64w (x := ((i * m : Nat) : Int) / 8) (by omega) (by omega), i64w (by omega) (by omega)]; omega
    simp only [c, decide_true, if_true, ew, eo]
    by_cases c3 : (p.Data.length : Int) ≤ (((i + 1) * m : Nat) : Int)
    · have c3' : p.Data.length ≤ (i + 1) * m := by omega
      simp only [c3, decide_true, if_true, Option.bind_some]
      have ec : cut p.Data ((i * m : Nat) : Int) (p.Data.length : Int) = some ((p.Data.take ((i + 1) * m)).drop (i * m)) := by
        unfold cut
        rw [if_pos ⟨by omega, by omega, by omega⟩]
        simp only [Int.toNat_natCast]
        rw [List.take_of_length_le (Nat.le_refl _), List.take_of_length_le c3']
      rw [ec, Option.bind_some, app_k _ _ (by simp; omega), Option.bind_some, app_k _ _ (by simp; omega), Option.bind_some]
      refine ⟨_, rfl, ?_, rfl⟩
      rw [List.range_succ, List.map_append]
      simp only [List.map_cons, List.map_nil, List.nil_append, pc, c3', if_true, hf]
    · have c3' : ¬ p.Data.length ≤ (i + 1) * m := by omega
      have ct : (Int.tmod 0 2 = 0) := by decide
      have cw : IntKind.i64.wrap (0 + 1) = 1 := by decide
      simp only [c3, hf, ct, cw, decide_true, decide_false, Bool.false_eq_true, if_false, if_true, Option.bind_some]
      have ec : cut p.Data ((i * m : Nat) : Int) (((i + 1) * m : Nat) : Int) = some ((p.Data.take ((i + 1) * m)).drop (i * m)) := by
        unfold cut
        rw [if_pos ⟨by omega, by omega, by omega⟩]
        simp only [Int.toNat_natCast]
      rw [ec, Option.bind_some, app_k _ _ (by simp; omega), Option.bind_some, app_k _ _ (by simp; omega), Option.bind_some]
      refine ⟨_, rfl, ?_, rfl⟩
      rw [List.range_succ, List.map_append]
      simp only [List.map_cons, List.map_nil, List.nil_append, pc, c3', if_false]
  · rintro ⟨out, at_⟩ ⟨q1, q2⟩
    dsimp only at q1 q2
    subst q1 q2
    have c : ¬ (((n * m : Nat) : Int) < (p.Data.length : Int)) := by omega
    exact ⟨_, by simp only [c, decide_false, Bool.false_eq_true, if_false], rfl⟩
  · rintro r rfl
    rfl
theorem div_k {m i k : Nat} (hm : 0 < m) : i / m = k ↔ k * m ≤ i ∧ i < k * m + m := by
  constructor
  · rintro rfl
    exact ⟨Nat.div_mul_le_self _ _, Nat.lt_div_mul_add hm⟩
  · rintro ⟨h1, h2⟩
    have a1 : k ≤ i / m := (Nat.le_div_iff_mul_le hm).2 h1
    have a2 : i / m < k + 1 := (Nat.div_lt_iff_lt_mul hm).2 (by rw [Nat.add_mul, Nat.one_mul]; exact h2)
    omega
theorem shr8 (x : Int) : ishr .i64 x 8 = x / 256 := by unfold ishr; rw [show (2 : Int) ^ min (8 : Int).toNat IntKind.i64.bits = 256 by decide]
theorem shr16 (x : Int) : ishr .i64 x 16 = x / 65536 := by unfold ishr; rw [show (2 : Int) ^ min (16 : Int).toNat IntKind.i64.bits = 65536 by decide]
def X24 (p : TIp) (d : List Int) (h : List Bool) (t : Int) : TPiece := ⟨p.Src, p.Dst, p.Id, p.Proto, 37, d, h, t⟩
/-- What waits of a packet, whose pieces that came are told. -/
structure Iv (p : TIp) (m n : Nat) (came : List Bool) (d : List Int) (h : List Bool) (t : Int) : Prop where
  len : h.length = d.length
  le : d.length ≤ p.Data.length
  hv : ∀ i, i < p.Data.length → h.getD i false = came.getD (i / m) false
  dt : ∀ i, h.getD i false = true → d.getD i 0 = p.Data.getD i 0
  tt : t = if came.getD (n - 1) false = true then (p.Data.length : Int) else -1
theorem all_of {P : Prop} {l : List Bool} (hl : l.length ≤ 100000) : ∃ c, slices_Contains_s_bool_bool.f l false = some c ∧ (c = false ↔ ∀ i, i < l.length → l.getD i false = true) := by
  obtain ⟨c, h1, h2⟩ := contains_iff l false hl
  refine ⟨c, h1, ?_⟩
  constructor
  · rintro rfl i hi
    rw [getD_lt _ _ _ hi]
    cases e : l[i] with
    | true => rfl
    | false => exact absurd (h2.2 ⟨i, hi, e⟩) (by simp)
  · intro h
    cases c with
    | false => rfl
    | true =>
      obtain ⟨i, hi, e⟩ := h2.1 rfl
      have := h i hi
      rw [getD_lt _ _ _ hi, e] at this
      cases this
set_option maxHeartbeats 1000000 in
theorem add_pc (p : TIp) (hR : RR p) (hb : Byt p.Options) (hd : p.Data.length ≤ 3000) (u n : Nat) (hu : 1 ≤ u) (hn : 2 ≤ n) (n1 : (n - 1) * (8 * u) < p.Data.length) (n2 : p.Data.length ≤ n * (8 * u)) (k : Nat) (hk : k < n) (came : List Bool) (hc : came.length = n) (d : List Int) (h : List Bool) (t : Int) (iv : Iv p (8 * u) n came d h t) (row : List TPiece) (hrow : row = [X24 p d h t] ∨ (row = [] ∧ d = [] ∧ h = [] ∧ t = -1)) :
    ∃ d' h' t', Iv p (8 * u) n (came.set k true) d' h' t' ∧ (((∀ j, j < n → (came.set k true).getD j false = true) ∧ reasm_Add.f row 7 (pc p (8 * u) k) = some ([], ⟨p.Tos, p.Id, 0, 0, p.Ttl, p.Proto, p.Src, p.Dst, p.Options, p.Data⟩, true)) ∨ (¬ (∀ j, j < n → (came.set k true).getD j false = true) ∧ reasm_Add.f row 7 (pc p (8 * u) k) = some ([X24 p d' h' t'], ⟨0, 0, 0, 0, 0, 0, 0, 0, [], []⟩, false))) := by
  have hm8 : (8 * u) % 8 = 0 := by omega
  have hkm8 : k * (8 * u) % 8 = 0 := by rw [show k * (8 * u) = 8 * (k * u) by rw [Nat.mul_left_comm]]; omega
  generalize hmm : 8 * u = m at *
  have hm0 : 0 < m := by omega
  have hkm : k * m < p.Data.length := by
    have : k * m ≤ (n - 1) * m := Nat.mul_le_mul_right _ (by omega)
    omega
  have e1 : (k + 1) * m = k * m + m := by rw [Nat.add_mul, Nat.one_mul]
  have hlast : p.Data.length ≤ (k + 1) * m ↔ k = n - 1 := by
    constructor
    · intro hh
      by_cases hne : k = n - 1
      · exact hne
      · have : (k + 1) * m ≤ (n - 1) * m := Nat.mul_le_mul_right _ (by omega)
        omega
    · rintro rfl
      rw [show n - 1 + 1 = n by omega]; exact n2
  obtain ⟨r1, r2, r3, r4, r5, r6, r7, r8, r9⟩ := hR
  have hIR : IR (pc p m k) := by
    refine ⟨⟨?_, ?_, ?_⟩, ?_, ?_, ?_, ?_, ?_, ?_⟩
    · show ishr .i64 p.Tos 8 = 0
      rw [shr8]; omega
    · show ishr .i64 p.Ttl 8 = 0
      rw [shr8]; omega
    · show ishr .i64 p.Proto 8 = 0
      rw [shr8]; omega
    · show ishr .i64 p.Id 16 = 0
      rw [shr16]; omega
    · show ishr .i64 (if p.Data.length ≤ (k + 1) * m then 0 else 1) 3 = 0
      split <;> decide
    · show ishr .i64 ((k * m / 8 : Nat) : Int) 13 = 0
      rw [shr13]; omega
    · exact r7
    · show bits .and .i64 (p.Options.length : Int) 3 = 0
      rw [and3 _ (by omega)]; omega
    · show (((p.Data.take ((k + 1) * m)).drop (k * m)).length : Int) ≤ 65515 - p.Options.length
      rw [List.length_drop, List.length_take]; omega
  have hql : (pc p m k).Data.length = min ((k + 1) * m) p.Data.length - k * m := by
    show ((p.Data.take ((k + 1) * m)).drop (k * m)).length = _
    rw [List.length_drop, List.length_take]
  have hqd : ∀ i, k * m ≤ i → i < min ((k + 1) * m) p.Data.length → (pc p m k).Data.getD (i - k * m) 0 = p.Data.getD i 0 := fun i h1 h2 => by
    show ((p.Data.take ((k + 1) * m)).drop (k * m)).getD (i - k * m) 0 = _
    rw [List.getD_eq_getElem?_getD, List.getElem?_drop, List.getElem?_take_of_lt (by omega), show k * m + (i - k * m) = i by omega, List.getD_eq_getElem?_getD]
  have hRt : Rt (X24 p d h t) := by
    refine ⟨⟨?_, ?_⟩, ⟨(show (0 : Int) ≤ 37 by decide), (show (37 : Int) ≤ 1099511627776 by decide)⟩, iv.len, ?_, ?_⟩
    · show ishr .i64 p.Id 16 = 0
      rw [shr16]; omega
    · show ishr .i64 p.Proto 8 = 0
      rw [shr8]; omega
    · show d.length ≤ 8192
      have := iv.le; omega
    · show t = -1 ∨ (d.length : Int) ≤ t ∧ t ≤ 8192
      have ht := iv.tt
      have hle := iv.le
      split at ht <;> omega
  have hCk : Ck row := by
    rcases hrow with rfl | ⟨rfl, _⟩
    · refine ⟨by simp, fun i hi => ?_⟩
      have : i = 0 := by simp at hi; omega
      subst this
      exact ⟨hRt, fun j hj => by omega⟩
    · exact ⟨by simp, fun i hi => by simp at hi⟩
  -- what stands behind put
  obtain ⟨d', h', g1, g2, g3, g4, g5⟩ := put_full (X24 p d h t) (k * m) (pc p m k).Data (by rw [hql]; omega) (by show d.length ≤ 8192; have := iv.le; omega) iv.len
  have hdl : d'.length = max d.length (min ((k + 1) * m) p.Data.length) := by
    rw [g1]; show max d.length _ = _
    rw [hql]; omega
  have hrng : ∀ i, i < p.Data.length → (decide (k * m ≤ i ∧ i < k * m + (pc p m k).Data.length) = decide (i / m = k)) := fun i hi => by
    rw [decide_eq_decide, div_k hm0, hql]
    omega
  have hset : ∀ j, (came.set k true).getD j false = (came.getD j false || decide (j = k)) := fun j => by
    rw [getD_set _ _ _ _ _ (by omega)]
    by_cases e : j = k
    · simp [e]
    · simp [e]
  generalize ht' : (if p.Data.length ≤ (k + 1) * m then ((k * m : Nat) : Int) + ((pc p m k).Data.length : Int) else t) = t'
  have htt : t' = if (came.set k true).getD (n - 1) false = true then (p.Data.length : Int) else -1 := by
    rw [← ht', hset]
    by_cases hl : p.Data.length ≤ (k + 1) * m
    · have := hlast.1 hl
      rw [if_pos hl, if_pos (by simp [this]), hql]; omega
    · have hne : ¬ (n - 1 = k) := fun e => hl (hlast.2 e.symm)
      rw [if_neg hl, iv.tt]
      simp only [hne, decide_false, Bool.or_false]
  have iv' : Iv p m n (came.set k true) d' h' t' := by
    refine ⟨g2, ?_, fun i hi => ?_, fun i hi => ?_, htt⟩
    · have := iv.le; omega
    · rw [g3 i, hset, hrng i hi, ← iv.hv i hi]; rfl
    · rw [g4 i]
      split
      · rename_i hh
        exact hqd i hh.2.1 (by have := hh.2.2; rw [hql] at this; omega)
      · rename_i hh
        rw [g3 i] at hi
        cases hx : h.getD i false with
        | true => exact iv.dt i hx
        | false =>
          have hx' : (X24 p d h t).Have.getD i false = false := hx
          rw [hx', Bool.false_or, decide_eq_true_eq] at hi
          exact absurd ⟨hx', hi⟩ hh
  refine ⟨d', h', t', iv', ?_⟩
  -- whether it is whole
  obtain ⟨cc, hcc, hcc2⟩ := all_of (P := True) (l := h') (by have := iv'.len; have := iv'.le; omega)
  have hdone : (∀ j, j < n → (came.set k true).getD j false = true) ↔ (((d'.length : Int) = t') ∧ cc = false) := by
    rw [hcc2]
    constructor
    · intro ha
      have hfull : ∀ i, i < p.Data.length → h'.getD i false = true := fun i hi => by
        rw [iv'.hv i hi]
        exact ha _ ((Nat.div_lt_iff_lt_mul hm0).2 (by omega))
      have hlen : p.Data.length ≤ h'.length := by
        by_cases hx : p.Data.length ≤ h'.length
        · exact hx
        · have h0 : h'.length < p.Data.length := by omega
          have := hfull _ h0
          rw [getD_ge _ _ _ (Nat.le_refl _)] at this
          cases this
      have := iv'.len
      have := iv'.le
      rw [htt, if_pos (ha _ (by omega))]
      exact ⟨by omega, fun i hi => hfull i (by omega)⟩
    · rintro ⟨ha, hb2⟩ j hj
      have hD : d'.length = p.Data.length := by
        rw [htt] at ha
        split at ha <;> omega
      have hjm : j * m < p.Data.length := by
        have : j * m ≤ (n - 1) * m := Nat.mul_le_mul_right _ (by omega)
        omega
      have := hb2 (j * m) (by have := iv'.len; omega)
      rw [iv'.hv _ hjm, Nat.mul_div_cancel _ hm0] at this
      exact this
  have hall : ((d'.length : Int) = t') → cc = false → d' = p.Data := by
    intro ha hb2
    have hD : d'.length = p.Data.length := by
      rw [htt] at ha
      split at ha <;> omega
    refine List.ext_getElem hD fun i hi hi' => ?_
    have h1 := iv'.dt i (hcc2.1 hb2 i (by have := iv'.len; omega))
    rw [getD_lt _ _ _ hi, getD_lt _ _ _ hi'] at h1
    exact h1
  -- the walk
  have hw : who (X24 p d h t) = ⟨p.Src, p.Dst, p.Id, p.Proto⟩ := rfl
  have key : reasm_Add.f row 7 (pc p m k) = (if (d'.length : Int) = t' ∧ cc = false then some ([], ⟨p.Tos, p.Id, 0, 0, p.Ttl, p.Proto, p.Src, p.Dst, p.Options, d'⟩, true) else some ([X24 p d' h' t'], ⟨0, 0, 0, 0, 0, 0, 0, 0, [], []⟩, false)) := by
    unfold reasm_Add.f
    obtain ⟨b, c, hp, hpc⟩ := ipput_is (pc p m k) (show p.Options.length ≤ _ by omega) hb
    have hc0 := hpc.2 hIR
    rw [hp, Option.bind_some, check_true row hCk, tick_is]
    have hseven : decide ((0 : Int) ≤ 7 ∧ (7 : Int) ≤ 1099511627746) = true := by decide
    simp only [hc0, hseven, decide_true, Option.bind_some, Bool.not_true, Bool.false_eq_true, if_false, lt]
    obtain ⟨last, hl0, hl1⟩ : ∃ last, decide (bits .and .i64 (pc p m k).Flags 1 = 0) = last ∧ (last = true ↔ p.Data.length ≤ (k + 1) * m) := by
      refine ⟨_, rfl, ?_⟩
      show decide (bits .and .i64 (if p.Data.length ≤ (k + 1) * m then 0 else 1) 1 = 0) = true ↔ _
      split
      · rename_i hh; simp only [hh, iff_true]; decide
      · rename_i hh; simp only [hh, iff_false]; decide
    rw [hl0]
    have eo : (pc p m k).Off = ((k * m / 8 : Nat) : Int) := rfl
    have j2 : (if last = true then some (decide ((pc p m k).Off = 0)) else some false) = some false := by
      cases last with
      | false => rfl
      | true =>
        have h1 := hlast.1 (hl1.1 rfl)
        have h2 : 1 * m ≤ k * m := Nat.mul_le_mul_right _ (by omega)
        have : ¬ ((pc p m k).Off = 0) := by rw [eo]; omega
        simp [this]
    rw [j2]
    have e8 : IntKind.i64.wrap (8 * (pc p m k).Off) = ((k * m : Nat) : Int) := by rw [eo, i64w (by omega) (by omega)]; omega
    have e9 : IntKind.i64.wrap (((k * m : Nat) : Int) + ((pc p m k).Data.length : Int)) = ((k * m : Nat) : Int) + ((pc p m k).Data.length : Int) := i64w (by omega) (by omega)
    rw [e8, e9]
    have h81 : ¬ (8192 < ((k * m : Nat) : Int) + ((pc p m k).Data.length : Int)) := by rw [hql]; omega
    simp only [h81, decide_false, Option.bind_some, Bool.false_eq_true, if_false]
    have j3 : (if (!last) = true then (if decide (((pc p m k).Data.length : Int) = 0) = true then some true else some (decide (0 < Int.tmod ((pc p m k).Data.length : Int) 8))) else some false) = some false := by
      cases last with
      | true => rfl
      | false =>
        have hh : ¬ (p.Data.length ≤ (k + 1) * m) := fun x => by have := hl1.2 x; cases this
        have e : (pc p m k).Data.length = m := by rw [hql]; omega
        have q1 : ¬ (((m : Nat) : Int) = 0) := by omega
        have q2 : ¬ (0 < Int.tmod ((m : Nat) : Int) 8) := by rw [Int.tmod_eq_emod_of_nonneg (by omega)]; omega
        simp only [e, q1, q2, decide_false, Bool.not_false, Bool.false_eq_true, if_false, if_true]
    rw [j3]
    simp only [Option.bind_some, Bool.false_eq_true, if_false]
    rw [show IntKind.i64.wrap (7 + 30) = 37 by decide, whose_is, Option.bind_some]
    show ((reasm_seek.f row ⟨p.Src, p.Dst, p.Id, p.Proto⟩).bind _) = _
    obtain ⟨k', hk1, hk2, hk3, hsk⟩ := seek_is row ⟨p.Src, p.Dst, p.Id, p.Proto⟩ hCk.1
    have hk0 : k' = 0 := by
      rcases hrow with rfl | ⟨rfl, _⟩
      · by_cases e : k' = 0
        · exact e
        · exact absurd hw (hk2 0 (by simp) (by omega))
      · simpa using hk1
    subst hk0
    rw [hsk, Option.bind_some, clone_is row (by have := hCk.1; omega), Option.bind_some]
    have hj5 : (if decide (((0 : Nat) : Int) < (row.length : Int)) = true then (idx row ((0 : Nat) : Int)).bind fun x1 => some ((.inl (row, x1)) : (List TPiece × TPiece) ⊕ (List TPiece × TIp × Bool)) else if decide (((0 : Nat) : Int) = 4) = true then some (.inr (row, (⟨0, 0, 0, 0, 0, 0, 0, 0, [], []⟩ : TIp), false)) else (app row [(⟨(pc p m k).Src, (pc p m k).Dst, (pc p m k).Id, (pc p m k).Proto, 37, [], [], -1⟩ : TPiece)]).bind fun x2 => some (.inl (x2, ⟨(pc p m k).Src, (pc p m k).Dst, (pc p m k).Id, (pc p m k).Proto, 37, [], [], -1⟩))) = some (.inl ([X24 p d h t], X24 p d h t)) := by
      rcases hrow with rfl | ⟨rfl, rfl, rfl, rfl⟩
      · rfl
      · rfl
    rw [hj5]
    simp only [Option.bind_some, Sum.elim_inl]
    have hdr : reasm_drops.f (X24 p d h t) last (((k * m : Nat) : Int) + ((pc p m k).Data.length : Int)) = some false := by
      rw [drops_is]
      congr 1
      have ht := iv.tt
      have hle := iv.le
      cases last with
      | true =>
        have hh := hl1.1 rfl
        rw [if_pos rfl, decide_eq_false_iff_not]
        show ¬ ((0 ≤ t ∧ t ≠ _) ∨ _ < (d.length : Int))
        rw [hql]
        split at ht <;> omega
      | false =>
        rw [if_neg (by simp), decide_eq_false_iff_not]
        show ¬ (0 ≤ t ∧ t < _)
        rw [hql]
        split at ht <;> omega
    rw [hdr, Option.bind_some, if_neg (by simp), g5, Option.bind_some]
    have hj6 : (if last = true then some (⟨(X24 p d h t).Src, (X24 p d h t).Dst, (X24 p d h t).Id, (X24 p d h t).Proto, (X24 p d h t).Until, d', h', ((k * m : Nat) : Int) + ((pc p m k).Data.length : Int)⟩ : TPiece) else some ⟨(X24 p d h t).Src, (X24 p d h t).Dst, (X24 p d h t).Id, (X24 p d h t).Proto, (X24 p d h t).Until, d', h', (X24 p d h t).Total⟩) = some (X24 p d' h' t') := by
      cases last with
      | true => rw [if_pos rfl, ← ht', if_pos (hl1.1 rfl)]; rfl
      | false => rw [if_neg (by simp), ← ht', if_neg (fun x => by have := hl1.2 x; cases this)]; rfl
    rw [hj6, Option.bind_some]
    show (((if (!decide ((d'.length : Int) = t')) = true then some true else (slices_Contains_s_bool_bool.f h' false).bind fun r9 => some r9)).bind _) = _
    rw [hcc]
    have hlt : IntKind.i64.wrap (((0 : Nat) : Int) + 1) = ((0 : Nat) : Int) + 1 := by decide
    have hdel := delete_is [X24 p d h t] 0 (by simp) (by simp)
    rw [hlt, hdel]
    by_cases c1 : (d'.length : Int) = t'
    · rw [decide_eq_true c1]
      cases cc with
      | false => rw [if_pos (show (d'.length : Int) = t' ∧ false = false from ⟨c1, rfl⟩)]; rfl
      | true => rw [if_neg (show ¬ ((d'.length : Int) = t' ∧ true = false) from fun x => by have := x.2; cases this)]; rfl
    · rw [decide_eq_false c1, if_neg (show ¬ ((d'.length : Int) = t' ∧ cc = false) from fun x => c1 x.1)]; rfl
  rw [key]
  by_cases hall' : ∀ j, j < n → (came.set k true).getD j false = true
  · left
    have hh := hdone.1 hall'
    rw [if_pos hh, hall hh.1 hh.2]
    exact ⟨hall', rfl⟩
  · right
    rw [if_neg (fun x => hall' (hdone.2 x))]
    exact ⟨hall', rfl⟩
theorem repl_false (m i : Nat) : (List.replicate m false).getD i false = false := by
  rw [List.getD_eq_getElem?_getD, List.getElem?_replicate]
  split <;> rfl
theorem count_set_true (l : List Bool) (k : Nat) (h : k < l.length) (e : l[k] = false) : 0 < l.count false ∧ (l.set k true).count false + 1 = l.count false := by
  induction l generalizing k with
  | nil => simp at h
  | cons x l ih =>
    cases k with
    | zero =>
      have : x = false := e
      subst this
      simp
    | succ k =>
      have := ih k (by simpa using h) (by simpa using e)
      simp only [List.set_cons_succ, List.count_cons]
      omega
theorem count_all (l : List Bool) : l.count false = 0 ↔ ∀ j, j < l.length → l.getD j false = true := by
  rw [List.count_eq_zero]
  constructor
  · intro h j hj
    rw [getD_lt _ _ _ hj]
    cases e : l[j] with
    | true => rfl
    | false => exact absurd (e ▸ List.getElem_mem hj) h
  · intro h hm
    obtain ⟨i, hi, e⟩ := List.getElem_of_mem hm
    have := h i hi
    rw [getD_lt _ _ _ hi, e] at this
    cases this
set_option maxHeartbeats 1000000 in
theorem reasmBack (p : TIp) (gp : gIp p) (mtu : Int) (hm : InR .i64 mtu) (order : List Int) (go : order.length ≤ maxLen ∧ ∀ z ∈ order, InR .i64 z) : law24_ReasmBack.f p mtu order = some true := by
  obtain ⟨_, _, _, _, _, _, _, _, ⟨ho, hb⟩, _⟩ := gp
  have hb' : Byt p.Options := Byt.of hb
  unfold law24_ReasmBack.f
  by_cases c1 : 3000 < (p.Data.length : Int)
  · simp [c1, heads]
  by_cases c2 : 200 < (order.length : Int)
  · simp [c1, c2, heads]
  by_cases c3 : p.Off = 0
  case neg => simp [c1, c2, c3, heads]
  by_cases c4 : p.Flags = 0
  case neg => simp [c1, c2, c3, c4, heads]
  simp only [c1, c2, c3, c4, decide_true, decide_false, Bool.not_true, Bool.false_eq_true, if_false, Option.bind_some]
  obtain ⟨l, e, hcut, hres⟩ := cut_is p c4 c3 mtu hm (by omega) ho
  rw [hcut, Option.bind_some]
  by_cases c5 : e = 0
  case neg => simp [c5, heads]
  by_cases c6 : (l.length : Int) < 2
  · simp [c5, c6, heads]
  by_cases c7 : 60 < (l.length : Int)
  · simp [c5, c6, c7, heads]
  rcases hres with h | h | ⟨hR, u, n, hu, hn, n1, n2, hl⟩
  · exact absurd c5 h
  · omega
  have hln : l.length = n := by rw [hl]; simp
  simp only [c5, c6, c7, decide_true, decide_false, Bool.not_true, Bool.false_eq_true, if_false, Option.bind_some, lt]
  rw [mk_ok _ _ (by omega) (by omega), Option.bind_some]
  have hN : IntKind.i64.wrap ((order.length : Int) + (l.length : Int)) = ((order.length + n : Nat) : Int) := by rw [i64w (by omega) (by omega), hln]; omega
  rw [hN]
  refine loop_exit (fun o => o = some true) (fun (i : Nat) (s : List TPiece × List Bool × Int × Int) => s.2.2.2 = (i : Int) ∧ s.2.1.length = n ∧ s.2.2.1 = ((s.2.1.count false : Nat) : Int) ∧ 0 < s.2.1.count false ∧ (∀ j, j < n → order.length + j < i → s.2.1.getD j false = true) ∧ ∃ d h t, Iv p (8 * u) n s.2.1 d h t ∧ (s.1 = [X24 p d h t] ∨ (s.1 = [] ∧ d = [] ∧ h = [] ∧ t = -1))) (fun r => r = .inr true) (order.length + n) ?_ ?_ ?_ ?_
  · refine ⟨rfl, ?_, ?_, ?_, fun j _ hj => by omega, [], [], -1, ⟨rfl, by simp, fun i hi => ?_, fun i hi => ?_, ?_⟩, .inr ⟨rfl, rfl, rfl, rfl⟩⟩
    · show (List.replicate (l.length : Int).toNat false).length = n
      simp [hln]
    · show (l.length : Int) = (((List.replicate (l.length : Int).toNat false).count false : Nat) : Int)
      simp
    · show 0 < (List.replicate (l.length : Int).toNat false).count false
      simp; omega
    · show _ = (List.replicate (l.length : Int).toNat false).getD _ false
      rw [repl_false]; rfl
    · simp at hi
    · show (-1 : Int) = if (List.replicate (l.length : Int).toNat false).getD (n - 1) false = true then _ else -1
      rw [repl_false]; rfl
  · rintro i ⟨row, came, left, i'⟩ hi ⟨q1, q2, q3, q4, q5, d, h, t, iv, hrow⟩
    dsimp only at q1 q2 q3 q4 q5 iv hrow
    subst q1
    have c : ((i : Int) < ((order.length + n : Nat) : Int)) := by omega
    obtain ⟨k, hk, hj3, hk2⟩ : ∃ k : Nat, k < n ∧ (if decide ((i : Int) < (order.length : Int)) = true then (idx order (i : Int)).bind fun x2 => if (IntKind.u64.wrap (l.length : Int)) ≠ 0 then some (IntKind.i64.wrap (Int.tmod (IntKind.u64.wrap x2) (IntKind.u64.wrap (l.length : Int)))) else none else some (IntKind.i64.wrap ((i : Int) - (order.length : Int)))) = some (k : Int) ∧ (order.length ≤ i → k = i - order.length) := by
      by_cases co : i < order.length
      · have co' : ((i : Int) < (order.length : Int)) := by omega
        have hw : IntKind.u64.wrap (l.length : Int) = (n : Int) := by rw [u64w (by omega) (by omega), hln]
        have hx : 0 ≤ IntKind.u64.wrap order[i] := by
          simp [IntKind.wrap, IntKind.bits, IntKind.signed]; omega
        refine ⟨(IntKind.u64.wrap order[i] % (n : Int)).toNat, ?_, ?_, fun x => by omega⟩
        · have := Int.emod_lt_of_pos (IntKind.u64.wrap order[i]) (show (0 : Int) < n by omega)
          have := Int.emod_nonneg (IntKind.u64.wrap order[i]) (show (n : Int) ≠ 0 by omega)
          omega
        · have h1 := Int.emod_lt_of_pos (IntKind.u64.wrap order[i]) (show (0 : Int) < n by omega)
          have h2 := Int.emod_nonneg (IntKind.u64.wrap order[i]) (show (n : Int) ≠ 0 by omega)
          simp only [co', decide_true, if_true, ix order i co, Option.bind_some, hw]
          rw [if_pos (by omega), Int.tmod_eq_emod_of_nonneg hx, i64w (by omega) (by omega)]
          congr 1; omega
      · have co' : ¬ ((i : Int) < (order.length : Int)) := by omega
        refine ⟨i - order.length, by omega, ?_, fun _ => rfl⟩
        simp only [co', decide_false, Bool.false_eq_true, if_false]
        rw [i64w (by omega) (by omega)]
        congr 1; omega
    simp only [c, decide_true, if_true]
    rw [hj3, Option.bind_some, ix l k (by omega), Option.bind_some]
    have hlk : l[k]'(by omega) = pc p (8 * u) k := by simp [hl]
    rw [hlk]
    obtain ⟨d', h', t', iv', hadd⟩ := add_pc p hR hb' (by omega) u n hu hn n1 n2 k hk came q2 d h t iv row hrow
    have hlen' : (came.set k true).length = n := by simp [q2]
    have hj4 : (idx came (k : Int)).bind (fun x4 => (if (!x4) = true then (idx came (k : Int)).bind fun x5 => some (came.set (k : Int).toNat true, IntKind.i64.wrap (left - 1)) else some (came, left))) = some (came.set k true, (((came.set k true).count false : Nat) : Int)) := by
      rw [ix came k (by omega), Option.bind_some]
      cases e : came[k]'(by omega) with
      | true =>
        have : came.set k true = came := by rw [← e, List.set_getElem_self]
        rw [this, q3]; rfl
      | false =>
        have h2 := count_set_true came k (by omega) e
        have hcl : came.count false ≤ came.length := List.count_le_length
        simp only [Bool.not_false, if_true, Option.bind_some, Int.toNat_natCast]
        rw [q3, i64w (by omega) (by omega)]
        congr 2; omega
    rcases hadd with ⟨hall, hA⟩ | ⟨hall, hA⟩
    · right
      have h0 : (came.set k true).count false = 0 := (count_all _).2 fun j hj => hall j (by omega)
      refine ⟨_, ?_, rfl⟩
      rw [hA, Option.bind_some, hj4, Option.bind_some]
      unfold ref01_Same.f
      simp [h0, heads, lt, c3, c4]
    · left
      have h0 : (came.set k true).count false ≠ 0 := fun x => hall fun j hj => (count_all _).1 x j (by omega)
      have h0' : ¬ ((((came.set k true).count false : Nat) : Int) = 0) := by omega
      refine ⟨([X24 p d' h' t'], came.set k true, (((came.set k true).count false : Nat) : Int), ((i + 1 : Nat) : Int)), ?_, rfl, hlen', rfl, by show 0 < (came.set k true).count false; omega, ?_, d', h', t', iv', .inl rfl⟩
      · rw [hA, Option.bind_some, hj4, Option.bind_some]
        simp only [h0', decide_false, BEq.rfl, Bool.not_true, Bool.false_eq_true, if_false]
        rw [stepw hi (by omega)]
      · intro j hj hji
        show (came.set k true).getD j false = true
        rw [getD_set _ _ _ _ _ (by omega)]
        by_cases e : j = k
        · rw [if_pos e]
        · rw [if_neg e]
          refine q5 j hj ?_
          have := hk2
          omega
  · rintro ⟨row, came, left, i'⟩ ⟨q1, q2, q3, q4, q5, _⟩
    dsimp only at q1 q2 q3 q4 q5
    exact absurd ((count_all came).2 fun j hj => q5 j (by omega) (by omega)) (by omega)
  · rintro r rfl
    rfl
end Go.Proofs.Ytlpjgmbbcibkjaa.S
