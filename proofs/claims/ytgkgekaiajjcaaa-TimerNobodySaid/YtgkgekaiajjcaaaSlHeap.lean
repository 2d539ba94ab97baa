/- Heaps in rows: what container/heap's up and down make of a row, in plain Lean; each lemma states its own conditions. -/
import Derived.KernelRfl
namespace Go.SL
set_option linter.unusedVariables false
set_option linter.unusedSimpArgs false
section
variable {α : Type}
def swp (l : List α) (i j : Nat) : List α := match l[i]?, l[j]? with
  | some x, some y => (l.set i y).set j x
  | _, _ => l
theorem swp_len (l : List α) (i j : Nat) : (swp l i j).length = l.length := by
  unfold swp; split <;> simp
theorem swp_eq {l : List α} {i j : Nat} {x y : α} (hx : l[i]? = some x) (hy : l[j]? = some y) : swp l i j = (l.set i y).set j x := by
  unfold swp; rw [hx, hy]
theorem swp_get {l : List α} {i j : Nat} {x y : α} (hx : l[i]? = some x) (hy : l[j]? = some y) (k : Nat) : (swp l i j)[k]? = if k = j then some x else if k = i then some y else l[k]? := by
  have hi := (List.getElem?_eq_some_iff.1 hx).1
  have hj := (List.getElem?_eq_some_iff.1 hy).1
  rw [swp_eq hx hy]
  by_cases h1 : k = j
  · subst h1; rw [if_pos rfl, List.getElem?_set_self (by simpa using hj)]
  · rw [if_neg h1, List.getElem?_set_ne (Ne.symm h1)]
    by_cases h2 : k = i
    · subst h2; rw [if_pos rfl, List.getElem?_set_self hi]
    · rw [if_neg h2, List.getElem?_set_ne (Ne.symm h2)]
theorem set_perm {l : List α} {i : Nat} {x y : α} (hx : l[i]? = some x) : (x :: l.set i y).Perm (y :: l) := by
  induction l generalizing i with
  | nil => simp at hx
  | cons a l ih =>
    cases i with
    | zero => simp at hx; subst hx; exact List.Perm.swap _ _ _
    | succ i =>
      simp at hx
      simp only [List.set_cons_succ]
      exact (List.Perm.swap _ _ _).trans (((ih hx).cons a).trans (List.Perm.swap _ _ _))
theorem swp_perm (l : List α) (i j : Nat) : (swp l i j).Perm l := by
  unfold swp
  split
  · rename_i x y hx hy
    have h1 := set_perm (y := y) hx
    by_cases hij : i = j
    · subst hij
      rw [hx] at hy; cases hy
      rw [List.set_set]
      have hi := (List.getElem?_eq_some_iff.1 hx)
      obtain ⟨hi, he⟩ := hi
      have : l.set i x = l := by rw [← he]; exact List.set_getElem_self hi
      rw [this]
    · have hy2 : (l.set i y)[j]? = some y := by rw [List.getElem?_set_ne hij]; exact hy
      have h2 := set_perm (y := x) hy2
      exact (List.perm_cons y).1 (h2.trans h1)
  · exact .refl _
variable (lt : α → α → Bool)
/-- up -/
def upF (l : List α) (j : Nat) : List α :=
  if h : j = 0 then l else
  match l[j]?, l[(j - 1) / 2]? with
  | some x, some y => if lt x y = true then upF (swp l ((j - 1) / 2) j) ((j - 1) / 2) else l
  | _, _ => l
termination_by j
decreasing_by omega
/-- The lesser child. -/
def kid (l : List α) (i n : Nat) : Nat := if 2 * i + 2 < n then (match l[2 * i + 2]?, l[2 * i + 1]? with
  | some x, some y => if lt x y = true then 2 * i + 2 else 2 * i + 1
  | _, _ => 2 * i + 1) else 2 * i + 1
theorem kid_or (l : List α) (i n : Nat) : kid lt l i n = 2 * i + 1 ∨ (kid lt l i n = 2 * i + 2 ∧ 2 * i + 2 < n) := by
  unfold kid
  split
  · split
    · split
      · right; exact ⟨rfl, by assumption⟩
      · left; rfl
    · left; rfl
  · left; rfl
/-- down: the row, and where it came to. -/
def downF (l : List α) (i n : Nat) : List α × Nat :=
  if h : 2 * i + 1 < n then
    match l[kid lt l i n]?, l[i]? with
    | some x, some y => if lt x y = true then downF (swp l i (kid lt l i n)) (kid lt l i n) n else (l, i)
    | _, _ => (l, i)
  else (l, i)
termination_by n - i
decreasing_by rcases kid_or lt l i n with h1 | ⟨h1, h2⟩ <;> omega
theorem upF_len (l : List α) (j : Nat) : (upF lt l j).length = l.length := by
  fun_induction upF lt l j <;> simp_all [swp_len]
theorem upF_perm (l : List α) (j : Nat) : (upF lt l j).Perm l := by
  fun_induction upF lt l j <;> first | exact .refl _ | (rename_i ih; exact ih.trans (swp_perm _ _ _))
theorem downF_len (l : List α) (i n : Nat) : (downF lt l i n).1.length = l.length := by
  fun_induction downF lt l i n <;> simp_all [swp_len]
theorem downF_perm (l : List α) (i n : Nat) : (downF lt l i n).1.Perm l := by
  fun_induction downF lt l i n <;> first | exact .refl _ | (rename_i ih; exact ih.trans (swp_perm _ _ _))
theorem downF_le (l : List α) (i n : Nat) : i ≤ (downF lt l i n).2 := by
  fun_induction downF lt l i n with
  | case1 l i h x y h1 h2 h3 ih => rcases kid_or lt l i n with h1 | ⟨h1, h2⟩ <;> omega
  | _ => exact Nat.le_refl _
/-- What stands behind place n stays. -/
theorem downF_behind (l : List α) (i n k : Nat) (hk : n ≤ k) (hi : i < n) : (downF lt l i n).1[k]? = l[k]? := by
  fun_induction downF lt l i n with
  | case1 l i h x y h1 h2 h3 ih =>
    have hkid : kid lt l i n < n := by rcases kid_or lt l i n with e | ⟨e, e2⟩ <;> omega
    rw [ih hkid, swp_get h1 h2, if_neg (by omega), if_neg (by omega)]
  | _ => rfl
/-- It stands right above place k. -/
def okAt (l : List α) (k : Nat) : Prop := ∀ x y, l[k]? = some x → l[(k - 1) / 2]? = some y → lt x y = false
def Hp (l : List α) (n : Nat) : Prop := ∀ k, 0 < k → k < n → okAt lt l k
structure Tot : Prop where
  irr : ∀ x, lt x x = false
  tr : ∀ x y z, lt x y = true → lt y z = true → lt x z = true
  tot : ∀ x y, lt x y = false → lt y x = false → x = y
variable {lt}
theorem Tot.asym (T : Tot lt) {x y : α} (h : lt x y = true) : lt y x = false := by
  cases h2 : lt y x with
  | false => rfl
  | true => have := T.tr _ _ _ h h2; rw [T.irr] at this; cases this
theorem Tot.nt (T : Tot lt) {x y z : α} (h : lt y x = false) (h2 : lt z y = false) : lt z x = false := by
  cases h3 : lt z x with
  | false => rfl
  | true =>
    cases h4 : lt x y with
    | true => have := T.tr _ _ _ h3 h4; rw [h2] at this; cases this
    | false => have := T.tot _ _ h4 h; subst this; rw [h2] at h3; cases h3
/-- All is right but for place j, which may be too little. -/
structure Up (lt : α → α → Bool) (l : List α) (n j : Nat) : Prop where
  oth : ∀ k, 0 < k → k < n → k ≠ j → okAt lt l k
  gr : 0 < j → ∀ k, k < n → 0 < k → (k - 1) / 2 = j → ∀ x y, l[k]? = some x → l[(j - 1) / 2]? = some y → lt x y = false
theorem upF_hp (T : Tot lt) (l : List α) (j n : Nat) (hn : n ≤ l.length) (hj : j < n) (h : Up lt l n j) : Hp lt (upF lt l j) n := by
  fun_induction upF lt l j with
  | case1 l => intro k h0 hk; exact h.oth k h0 hk (by omega)
  | case2 l j hj0 x y hy hx hlt ih =>
    have hg := swp_get hy hx
    refine ih (by rw [swp_len]; exact hn) (by omega) ⟨fun k h0 hk hki a b ha hb => ?_, fun hi k hk h0 hp a b ha hb => ?_⟩
    · rw [hg] at ha hb
      by_cases hkj : k = j
      · subst hkj
        rw [if_pos rfl] at ha; rw [if_neg (by omega), if_pos rfl] at hb
        cases ha; cases hb
        exact T.asym hlt
      · rw [if_neg hkj, if_neg hki] at ha
        by_cases hp1 : (k - 1) / 2 = j
        · rw [if_pos hp1] at hb; cases hb
          exact h.gr (by omega) k hk h0 hp1 _ _ ha hy
        · rw [if_neg hp1] at hb
          by_cases hp2 : (k - 1) / 2 = (j - 1) / 2
          · rw [if_pos hp2] at hb; cases hb
            have := h.oth k h0 hk hkj _ _ ha (by rw [hp2]; exact hy)
            exact T.nt (T.asym hlt) this
          · rw [if_neg hp2] at hb
            exact h.oth k h0 hk hkj _ _ ha hb
    · rw [hg] at ha hb
      rw [if_neg (by omega), if_neg (by omega)] at hb
      have hpi := h.oth ((j - 1) / 2) hi (by omega) (by omega) _ _ hy hb
      by_cases hkj : k = j
      · subst hkj; rw [if_pos rfl] at ha; cases ha; exact hpi
      · rw [if_neg hkj, if_neg (by omega)] at ha
        have := h.oth k h0 hk hkj _ _ ha (by rw [hp]; exact hy)
        exact T.nt hpi this
  | case3 l j hj0 x y hy hx hlt =>
    intro k h0 hk
    by_cases hkj : k = j
    · subst hkj; intro a b ha hb; rw [hx] at ha; rw [hy] at hb; cases ha; cases hb; simpa using hlt
    · exact h.oth k h0 hk hkj
  | case4 l j hj0 hno =>
    exfalso
    have h1 : j < l.length := by omega
    have h2 : (j - 1) / 2 < l.length := by omega
    exact hno _ _ (List.getElem?_eq_getElem h1) (List.getElem?_eq_getElem h2)
/-- All is right but for place i, which may be too great or too little. -/
structure Ex (lt : α → α → Bool) (l : List α) (n i : Nat) : Prop where
  oth : ∀ k, 0 < k → k < n → k ≠ i → (k - 1) / 2 ≠ i → okAt lt l k
  gr : 0 < i → ∀ k, k < n → 0 < k → (k - 1) / 2 = i → ∀ x y, l[k]? = some x → l[(i - 1) / 2]? = some y → lt x y = false
/-- One step down. -/
theorem ex_step (T : Tot lt) {l : List α} {i n : Nat} (hn : n ≤ l.length) (h : Ex lt l n i) (hi : 2 * i + 1 < n) {x y : α} (hx : l[kid lt l i n]? = some x) (hy : l[i]? = some y) (hlt : lt x y = true) :
    Ex lt (swp l i (kid lt l i n)) n (kid lt l i n) ∧ okAt lt (swp l i (kid lt l i n)) (kid lt l i n) := by
  have hko := kid_or lt l i n
  generalize hk : kid lt l i n = c at *
  have hcn : c < n := by rcases hko with e | ⟨e, e2⟩ <;> omega
  have hci : (c - 1) / 2 = i := by rcases hko with e | ⟨e, e2⟩ <;> omega
  have hg := swp_get hy hx
  have hleast : ∀ k, 0 < k → k < n → (k - 1) / 2 = i → ∀ z, l[k]? = some z → lt z x = false := by
    intro k h0 hkn hp z hz
    have hk2 : k = 2 * i + 1 ∨ k = 2 * i + 2 := by omega
    unfold kid at hk
    split at hk
    · rename_i h2
      have e1 : l[2 * i + 1]? = some l[2 * i + 1] := List.getElem?_eq_getElem (by omega)
      have e2 : l[2 * i + 2]? = some l[2 * i + 2] := List.getElem?_eq_getElem (by omega)
      rw [e1, e2] at hk
      dsimp only at hk
      split at hk
      · rename_i hl
        subst hk
        rw [e2] at hx; cases hx
        rcases hk2 with e | e
        · subst e; rw [e1] at hz; cases hz; exact T.asym hl
        · subst e; rw [e2] at hz; cases hz; exact T.irr _
      · rename_i hl
        subst hk
        rw [e1] at hx; cases hx
        rcases hk2 with e | e
        · subst e; rw [e1] at hz; cases hz; exact T.irr _
        · subst e; rw [e2] at hz; cases hz; simpa using hl
    · have : k = 2 * i + 1 := by omega
      subst this; subst hk
      rw [hx] at hz; cases hz; exact T.irr _
  refine ⟨⟨fun k h0 hkn hkc hpc a b ha hb => ?_, fun h0c k hkn h0 hp a b ha hb => ?_⟩, fun a b ha hb => ?_⟩
  · rw [hg] at ha hb
    rw [if_neg hkc] at ha
    rw [if_neg hpc] at hb
    by_cases hki : k = i
    · subst hki
      rw [if_pos rfl] at ha; cases ha
      rw [if_neg (by omega)] at hb
      exact h.gr h0 c hcn (by omega) hci _ _ hx hb
    · rw [if_neg hki] at ha
      by_cases hpi : (k - 1) / 2 = i
      · rw [if_pos hpi] at hb; cases hb
        exact hleast k h0 hkn hpi _ ha
      · rw [if_neg hpi] at hb
        exact h.oth k h0 hkn hki hpi _ _ ha hb
  · rw [hg] at ha hb
    rw [hci] at hb
    rw [if_neg (by omega), if_pos rfl] at hb; cases hb
    rw [if_neg (by omega), if_neg (by omega)] at ha
    exact h.oth k h0 hkn (by omega) (by omega) _ _ ha (by rw [hp]; exact hx)
  · rw [hg] at ha hb
    rw [if_pos rfl] at ha; cases ha
    rw [hci, if_neg (by omega), if_pos rfl] at hb; cases hb
    exact T.asym hlt
/-- Where the lesser child is not less, no child is. -/
theorem kids_ok (T : Tot lt) {l : List α} {i n : Nat} (hn : n ≤ l.length) (hi : 2 * i + 1 < n) {x y : α} (hx : l[kid lt l i n]? = some x) (hy : l[i]? = some y) (hlt : lt x y = false) (k : Nat) (h0 : 0 < k) (hk : k < n) (hp : (k - 1) / 2 = i) : okAt lt l k := by
  intro a b ha hb
  rw [hp, hy] at hb; cases hb
  have hk2 : k = 2 * i + 1 ∨ k = 2 * i + 2 := by omega
  unfold kid at hx
  split at hx
  · have e1 : l[2 * i + 1]? = some l[2 * i + 1] := List.getElem?_eq_getElem (by omega)
    have e2 : l[2 * i + 2]? = some l[2 * i + 2] := List.getElem?_eq_getElem (by omega)
    rw [e1, e2] at hx
    dsimp only at hx
    split at hx
    · rename_i hl
      rw [e2] at hx; cases hx
      rcases hk2 with e | e
      · subst e; rw [e1] at ha; cases ha; exact T.nt hlt (T.asym hl)
      · subst e; rw [e2] at ha; cases ha; exact hlt
    · rename_i hl
      rw [e1] at hx; cases hx
      rcases hk2 with e | e
      · subst e; rw [e1] at ha; cases ha; exact hlt
      · subst e; rw [e2] at ha; cases ha; exact T.nt hlt (by simpa using hl)
  · have : k = 2 * i + 1 := by omega
    subst this
    rw [hx] at ha; cases ha; exact hlt
theorem downF_hp (T : Tot lt) (l : List α) (i n : Nat) (hn : n ≤ l.length) (hin : i < n) (h : Ex lt l n i) (ho : 0 < i → okAt lt l i) : Hp lt (downF lt l i n).1 n := by
  fun_induction downF lt l i n with
  | case1 l i h2 x y hy hx hlt ih =>
    have hs := ex_step T hn h h2 hx hy hlt
    have hcn : kid lt l i n < n := by rcases kid_or lt l i n with e | ⟨e, e2⟩ <;> omega
    exact ih (by rw [swp_len]; exact hn) hcn hs.1 (fun _ => hs.2)
  | case2 l i h2 x y hy hx hlt =>
    intro k h0 hk
    by_cases hki : k = i
    · subst hki; exact ho h0
    · by_cases hp : (k - 1) / 2 = i
      · exact kids_ok T hn h2 hx hy (by simpa using hlt) k h0 hk hp
      · exact h.oth k h0 hk hki hp
  | case3 l i h2 hno =>
    exfalso
    have h1 : kid lt l i n < l.length := by rcases kid_or lt l i n with e | ⟨e, e2⟩ <;> omega
    exact hno _ _ (List.getElem?_eq_getElem h1) (List.getElem?_eq_getElem (by omega))
  | case4 l i h2 =>
    intro k h0 hk
    by_cases hki : k = i
    · subst hki; exact ho h0
    · exact h.oth k h0 hk hki (by omega)
/-- Down, and where it did not move, up: right again. -/
theorem fix_hp (T : Tot lt) (l : List α) (i n : Nat) (hn : n ≤ l.length) (hin : i < n) (h : Ex lt l n i) : Hp lt (if i < (downF lt l i n).2 then (downF lt l i n).1 else upF lt (downF lt l i n).1 i) n := by
  rw [downF]
  by_cases h2 : 2 * i + 1 < n
  · rw [dif_pos h2]
    have hcn : kid lt l i n < n := by rcases kid_or lt l i n with e | ⟨e, e2⟩ <;> omega
    have hci : i < kid lt l i n := by rcases kid_or lt l i n with e | ⟨e, e2⟩ <;> omega
    have e1 : l[kid lt l i n]? = some (l[kid lt l i n]'(by omega)) := List.getElem?_eq_getElem (by omega)
    have e2 : l[i]? = some (l[i]'(by omega)) := List.getElem?_eq_getElem (by omega)
    rw [e1, e2]
    dsimp only
    split
    · rename_i hlt
      have hs := ex_step T hn h h2 e1 e2 hlt
      have := downF_le lt (swp l i (kid lt l i n)) (kid lt l i n) n
      rw [if_pos (by omega)]
      exact downF_hp T _ _ n (by rw [swp_len]; exact hn) hcn hs.1 (fun _ => hs.2)
    · rename_i hlt
      rw [if_neg (by simp)]
      refine upF_hp T l i n hn hin ⟨fun k h0 hk hki => ?_, h.gr⟩
      by_cases hp : (k - 1) / 2 = i
      · exact kids_ok T hn h2 e1 e2 (by simpa using hlt) k h0 hk hp
      · exact h.oth k h0 hk hki hp
  · rw [dif_neg h2]
    rw [if_neg (by simp)]
    exact upF_hp T l i n hn hin ⟨fun k h0 hk hki => h.oth k h0 hk hki (by omega), h.gr⟩
/-- The first one is the least. -/
theorem hp_min (T : Tot lt) {l : List α} {n : Nat} (hn : n ≤ l.length) (h : Hp lt l n) {x : α} (hx : l[0]? = some x) : ∀ (k : Nat) (y : α), k < n → l[k]? = some y → lt y x = false := by
  intro k
  induction k using Nat.strongRecOn with
  | ind k ih =>
    intro y hk hy
    by_cases h0 : k = 0
    · subst h0; rw [hx] at hy; cases hy; exact T.irr _
    · have e : l[(k - 1) / 2]? = some (l[(k - 1) / 2]'(by omega)) := List.getElem?_eq_getElem (by omega)
      have h1 := h k (by omega) hk _ _ hy e
      exact T.nt (ih _ (by omega) _ (by omega) e) h1
/-- A key turned: right but for that place. -/
theorem ex_set (T : Tot lt) {l : List α} {n i : Nat} (hn : n ≤ l.length) (h : Hp lt l n) (hi : i < n) (z : α) : Ex lt (l.set i z) n i := by
  refine ⟨fun k h0 hk hki hp a b ha hb => ?_, fun h0i k hk h0 hp a b ha hb => ?_⟩
  · rw [List.getElem?_set_ne (Ne.symm hki)] at ha
    rw [List.getElem?_set_ne (Ne.symm hp)] at hb
    exact h k h0 hk _ _ ha hb
  · rw [List.getElem?_set_ne (by omega)] at ha hb
    have e : l[i]? = some (l[i]'(by omega)) := List.getElem?_eq_getElem (by omega)
    have h1 := h k h0 hk _ _ ha (by rw [hp]; exact e)
    have h2 := h i h0i hi _ _ e hb
    exact T.nt h2 h1
end
end Go.SL
