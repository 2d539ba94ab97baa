/- Plain facts on rounds, first places and maps; each states its own conditions. -/
import Derived.Test.YtmmaojclfggioaaPureBitsP
namespace Go.Proofs.Ytmmaojclfggioaa.S
open Go Go.SL
set_option linter.unusedVariables false
set_option linter.unusedSimpArgs false
theorem loop_inv {σ ρ : Type} {B : σ → Option (σ ⊕ ρ)} (I : Nat → σ → Prop) (Q : ρ → Prop) (n : Nat) (s0 : σ) (h0 : I 0 s0) (hs : ∀ i s, i < n → I i s → ∃ s', B s = some (.inl s') ∧ I (i + 1) s') (hr : ∀ s, I n s → ∃ r, B s = some (.inr r) ∧ Q r) : ∃ r, loop B s0 = some r ∧ Q r := by
  have key : ∀ k i s, i + k = n → I i s → ∃ r, loop B s = some r ∧ Q r := by
    intro k
    induction k with
    | zero =>
      intro i s hi h
      have e : i = n := by omega
      subst e
      obtain ⟨r, h1, h2⟩ := hr s h
      exact ⟨r, loop_out h1, h2⟩
    | succ k ih =>
      intro i s hi h
      obtain ⟨s', h1, h2⟩ := hs i s (by omega) h
      obtain ⟨r, h3, h4⟩ := ih (i + 1) s' (by omega) h2
      refine ⟨r, ?_, h4⟩
      rw [loop_in h1]; exact h3
  exact key n 0 s0 (by omega) h0
theorem loop_bind_inv {σ ρ τ : Type} {B : σ → Option (σ ⊕ ρ)} {s0 : σ} {K : ρ → Option τ} (G : Option τ → Prop) (I : Nat → σ → Prop) (Q : ρ → Prop) (n : Nat) (h0 : I 0 s0) (hs : ∀ i s, i < n → I i s → ∃ s', B s = some (.inl s') ∧ I (i + 1) s') (hr : ∀ s, I n s → ∃ r, B s = some (.inr r) ∧ Q r) (hk : ∀ r, Q r → G (K r)) : G ((loop B s0).bind K) := by
  obtain ⟨r, h1, h2⟩ := loop_inv I Q n s0 h0 hs hr
  rw [h1]
  exact hk r h2
theorem find_run {σ ρ : Type} {B : σ → Option (σ ⊕ ρ)} (f : Nat → Bool) (n : Nat) (st : Nat → σ) (out : Nat → ρ) (h1 : ∀ i, i < n → f i = false → B (st i) = some (.inl (st (i + 1)))) (h2 : ∀ i, i < n → f i = true → B (st i) = some (.inr (out i))) (h3 : B (st n) = some (.inr (out n))) :
    ∃ k, k ≤ n ∧ (∀ i, i < k → f i = false) ∧ (k < n → f k = true) ∧ loop B (st 0) = some (out k) := by
  have key : ∀ m i, i + m = n → ∃ k, i ≤ k ∧ k ≤ n ∧ (∀ j, i ≤ j → j < k → f j = false) ∧ (k < n → f k = true) ∧ loop B (st i) = some (out k) := by
    intro m
    induction m with
    | zero =>
      intro i hi
      have e : i = n := by omega
      subst e
      exact ⟨i, Nat.le_refl _, Nat.le_refl _, fun j a b => by omega, fun h => by omega, loop_out h3⟩
    | succ m ih =>
      intro i hi
      cases c : f i with
      | true => exact ⟨i, Nat.le_refl _, by omega, fun j a b => by omega, fun _ => c, loop_out (h2 i (by omega) c)⟩
      | false =>
        obtain ⟨k, a, b, d, e, g⟩ := ih (i + 1) (by omega)
        refine ⟨k, by omega, b, fun j q1 q2 => ?_, e, by rw [loop_in (h1 i (by omega) c)]; exact g⟩
        by_cases hj : j = i
        · rw [hj]; exact c
        · exact d j (by omega) q2
  obtain ⟨k, _, b, d, e, g⟩ := key n 0 (by omega)
  exact ⟨k, b, fun i hi => d i (by omega) hi, e, g⟩
theorem ix {α : Type} (l : List α) (i : Nat) (h : i < l.length) : idx l (i : Int) = some l[i] := by
  unfold idx
  simp [h]
theorem app_k {α : Type} (a b : List α) (h : a.length + b.length ≤ 68719476736) : app a b = some (a ++ b) := if_pos h
theorem stepw {i n : Nat} (h : i < n) (hn : n ≤ 4611686018427387904) : IntKind.i64.wrap ((i : Int) + 1) = ((i + 1 : Nat) : Int) := by rw [i64w (by omega) (by omega)]; rfl
/-! Maps -/
section
variable {κ α : Type} [DecidableEq κ]
theorem mfind_shift (k : κ) : ∀ (xs : List (κ × α)) (i : Nat), mfind k xs (i + 1) = (mfind k xs i).map fun p => (p.1 + 1, p.2)
  | [], _ => rfl
  | p :: xs, i => by
    unfold mfind
    split
    · rfl
    · exact mfind_shift k xs (i + 1)
theorem mget_nil (k : κ) : mget ([] : List (κ × α)) k = none := rfl
theorem mget_cons (k : κ) (p : κ × α) (xs : List (κ × α)) : mget (p :: xs) k = if k = p.1 then some p.2 else mget xs k := by
  unfold mget
  rw [mfind]
  split
  · rfl
  · rw [mfind_shift]; cases mfind k xs 0 <;> rfl
theorem mput_cons (k : κ) (b : α) (p : κ × α) (xs : List (κ × α)) : mput (p :: xs) k b = if k = p.1 then (k, b) :: xs else p :: mput xs k b := by
  unfold mput
  rw [mfind]
  by_cases h : k = p.1
  · rw [if_pos h, if_pos h]; rfl
  · rw [if_neg h, if_neg h, mfind_shift]; cases mfind k xs 0 <;> rfl
theorem mget_mput (k w : κ) (b : α) : ∀ (xs : List (κ × α)), mget (mput xs k b) w = if w = k then some b else mget xs w
  | [] => by
    show mget [(k, b)] w = _
    rw [mget_cons]
  | p :: xs => by
    rw [mput_cons]
    split
    · rename_i h
      rw [mget_cons, mget_cons]
      subst h
      split
      · rfl
      · rfl
    · rename_i h
      rw [mget_cons, mget_mput k w b xs, mget_cons]
      split
      · rename_i h2
        rw [if_neg (by rw [h2]; exact fun e => h e.symm)]
      · rfl
end
end Go.Proofs.Ytmmaojclfggioaa.S
