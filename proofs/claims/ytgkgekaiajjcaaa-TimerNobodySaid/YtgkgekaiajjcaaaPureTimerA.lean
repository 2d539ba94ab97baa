/- Plain facts on rounds, and a wheel of alarms beside its alarms in order; each states its own conditions. -/
import Derived.Test.YtgkgekaiajjcaaaTAll
namespace Go.Proofs.Ytgkgekaiajjcaaa.S
open Go Go.SL
set_option linter.unusedVariables false
set_option linter.unusedSimpArgs false
theorem loop_run {σ ρ : Type} {B : σ → Option (σ ⊕ ρ)} (st : Nat → σ) (n : Nat) (hs : ∀ i, i < n → B (st i) = some (.inl (st (i + 1)))) {r : ρ} (hr : B (st n) = some (.inr r)) : loop B (st 0) = some r := by
  have : ∀ k, k ≤ n → loop B (st (n - k)) = some r := by
    intro k
    induction k with
    | zero => intro _; exact loop_out hr
    | succ k ih =>
      intro hk
      rw [loop_in (hs (n - (k + 1)) (by omega)), show n - (k + 1) + 1 = n - k by omega]
      exact ih (by omega)
  have := this n (Nat.le_refl n)
  rwa [Nat.sub_self] at this
theorem i64w {x : Int} (h0 : -9223372036854775808 ≤ x) (h1 : x ≤ 9223372036854775807) : IntKind.i64.wrap x = x := by
  simp only [IntKind.wrap, IntKind.bits, IntKind.signed]
  simp
  omega
theorem loop_inv {σ ρ : Type} {B : σ → Option (σ ⊕ ρ)} (I : Nat → σ → Prop) (Q : ρ → Prop) (n : Nat) (s0 : σ) (h0 : I 0 s0) (hs : ∀ i s, i < n → I i s → ∃ s', B s = some (.inl s') ∧ I (i + 1) s') (hr : ∀ s, I n s → ∃ r, B s = some (.inr r) ∧ Q r) : ∃ r, loop B s0 = some r ∧ Q r := by
  have key : ∀ k i s, i + k = n → I i s → ∃ r, loop B s = some r ∧ Q r := by
    intro k
    induction k with
    | zero =>
      intro i s hi h
      have e : i = n := by omega
      subst e
      obtain ⟨r, h1, h2⟩ := hr s h
      exact ⟨r, loop_out h1, h2⟩
    | succ k ih =>
      intro i s hi h
      obtain ⟨s', h1, h2⟩ := hs i s (by omega) h
      obtain ⟨r, h3, h4⟩ := ih (i + 1) s' (by omega) h2
      refine ⟨r, ?_, h4⟩
      rw [loop_in h1]; exact h3
  exact key n 0 s0 (by omega) h0
theorem loop_bind_inv {σ ρ τ : Type} {B : σ → Option (σ ⊕ ρ)} {s0 : σ} {K : ρ → Option τ} (G : Option τ → Prop) (I : Nat → σ → Prop) (Q : ρ → Prop) (n : Nat) (h0 : I 0 s0) (hs : ∀ i s, i < n → I i s → ∃ s', B s = some (.inl s') ∧ I (i + 1) s') (hr : ∀ s, I n s → ∃ r, B s = some (.inr r) ∧ Q r) (hk : ∀ r, Q r → G (K r)) : G ((loop B s0).bind K) := by
  obtain ⟨r, h1, h2⟩ := loop_inv I Q n s0 h0 hs hr
  rw [h1]
  exact hk r h2
theorem find_run {σ ρ : Type} {B : σ → Option (σ ⊕ ρ)} (f : Nat → Bool) (n : Nat) (st : Nat → σ) (out : Nat → ρ) (h1 : ∀ i, i < n → f i = false → B (st i) = some (.inl (st (i + 1)))) (h2 : ∀ i, i < n → f i = true → B (st i) = some (.inr (out i))) (h3 : B (st n) = some (.inr (out n))) :
    ∃ k, k ≤ n ∧ (∀ i, i < k → f i = false) ∧ (k < n → f k = true) ∧ loop B (st 0) = some (out k) := by
  have key : ∀ m i, i + m = n → ∃ k, i ≤ k ∧ k ≤ n ∧ (∀ j, i ≤ j → j < k → f j = false) ∧ (k < n → f k = true) ∧ loop B (st i) = some (out k) := by
    intro m
    induction m with
    | zero =>
      intro i hi
      have e : i = n := by omega
      subst e
      exact ⟨i, Nat.le_refl _, Nat.le_refl _, fun j a b => by omega, fun h => by omega, loop_out h3⟩
    | succ m ih =>
      intro i hi
      cases c : f i with
      | true => exact ⟨i, Nat.le_refl _, by omega, fun j a b => by omega, fun _ => c, loop_out (h2 i (by omega) c)⟩
      | false =>
        obtain ⟨k, a, b, d, e, g⟩ := ih (i + 1) (by omega)
        refine ⟨k, by omega, b, fun j q1 q2 => ?_, e, by rw [loop_in (h1 i (by omega) c)]; exact g⟩
        by_cases hj : j = i
        · rw [hj]; exact c
        · exact d j (by omega) q2
  obtain ⟨k, _, b, d, e, g⟩ := key n 0 (by omega)
  exact ⟨k, b, fun i hi => d i (by omega) hi, e, g⟩
theorem ix {α : Type} (l : List α) (i : Nat) (h : i < l.length) : idx l (i : Int) = some l[i] := by
  unfold idx
  simp [h]
theorem app_k {α : Type} (a b : List α) (h : a.length + b.length ≤ 68719476736) : app a b = some (a ++ b) := if_pos h
theorem stepw {i n : Nat} (h : i < n) (hn : n ≤ 4611686018427387904) : IntKind.i64.wrap ((i : Int) + 1) = ((i + 1 : Nat) : Int) := by rw [i64w (by omega) (by omega)]; rfl
theorem totA : Tot ltA := ⟨ltA_irrefl, fun _ _ _ => ltA_trans, fun _ _ => ltA_eq⟩
abbrev ids (s : List TAlarm) : List Int := s.map (·.Id)
/-- A wheel beside its alarms in order. -/
structure RW (x s : List TAlarm) : Prop where
  hp : Hp ltA x x.length
  pm : x.Perm s
  so : s.Pairwise (fun a b => ltA a b = true)
  nd : (ids s).Nodup
  le : x.length ≤ 4096
def dl (s : List TAlarm) (id : Int) : List TAlarm := s.filter (fun a => !decide (a.Id = id))
def ins (s : List TAlarm) (a : TAlarm) : List TAlarm := s.takeWhile (fun b => ltA b a) ++ a :: s.dropWhile (fun b => ltA b a)
def sset (s : List TAlarm) (at_ id : Int) : List TAlarm := if 4096 ≤ (dl s id).length then dl s id else ins (dl s id) ⟨at_, id⟩
theorem ins_cons (b : TAlarm) (t : List TAlarm) (a : TAlarm) : ins (b :: t) a = if ltA b a = true then b :: ins t a else a :: b :: t := by
  unfold ins
  rw [List.takeWhile_cons, List.dropWhile_cons]
  split <;> simp_all
theorem ins_perm (a : TAlarm) : ∀ s : List TAlarm, (ins s a).Perm (a :: s)
  | [] => .refl _
  | b :: t => by
    rw [ins_cons]
    split
    · exact ((ins_perm a t).cons b).trans (.swap _ _ _)
    · exact .refl _
theorem ins_so {a : TAlarm} : ∀ {s : List TAlarm}, s.Pairwise (fun a b => ltA a b = true) → (∀ b ∈ s, b.Id ≠ a.Id) → (ins s a).Pairwise (fun a b => ltA a b = true)
  | [], _, _ => by simp [ins]
  | b :: t, h, hn => by
    rw [ins_cons]
    have h' := List.pairwise_cons.1 h
    split
    · rename_i hb
      refine List.pairwise_cons.2 ⟨fun c hc => ?_, ins_so h'.2 fun c hc => hn c (List.mem_cons_of_mem _ hc)⟩
      rcases List.mem_cons.1 ((ins_perm a t).mem_iff.1 hc) with rfl | hc
      · exact hb
      · exact h'.1 c hc
    · rename_i hb
      have hab : ltA a b = true := by
        cases hc : ltA a b with
        | true => rfl
        | false => have := ltA_eq (Bool.eq_false_iff.2 hb) hc; exact absurd (congrArg (·.Id) this) (hn b (by simp))
      refine List.pairwise_cons.2 ⟨fun c hc => ?_, h⟩
      rcases List.mem_cons.1 hc with rfl | hc
      · exact hab
      · exact ltA_trans hab (h'.1 c hc)
theorem dl_perm {x s : List TAlarm} (h : x.Perm s) (id : Int) : (dl x id).Perm (dl s id) := h.filter _
theorem dl_none {x : List TAlarm} {id : Int} (h : ∀ a ∈ x, a.Id ≠ id) : dl x id = x := by
  unfold dl
  rw [List.filter_eq_self]
  intro a ha
  simpa using h a ha
theorem dl_ne {s : List TAlarm} {id : Int} : ∀ b ∈ dl s id, b.Id ≠ id := fun b hb => by
  have := (List.mem_filter.1 hb).2
  simpa using this
theorem dl_cons_self {a : TAlarm} {y : List TAlarm} {id : Int} (ha : a.Id = id) : dl (a :: y) id = dl y id := by
  unfold dl
  rw [List.filter_cons]
  simp [ha]
/-- What is left behind one whose id is this one. -/
theorem dl_left {x y : List TAlarm} {a : TAlarm} {id : Int} (h : (a :: y).Perm x) (nd : (ids x).Nodup) (ha : a.Id = id) : y.Perm (dl x id) := by
  have hn := (h.map (·.Id)).nodup_iff.2 nd
  have hy : dl y id = y := dl_none fun b hb e => by
    have := (List.nodup_cons.1 hn).1
    exact this (List.mem_map.2 ⟨b, hb, e.trans ha.symm⟩)
  have := dl_perm h id
  rw [dl_cons_self ha, hy] at this
  exact this
theorem RW.ndx {x s : List TAlarm} (h : RW x s) : (ids x).Nodup := (h.pm.map (·.Id)).nodup_iff.2 h.nd
theorem find_is {x : List TAlarm} {id : Int} {i : Nat} (h : findA x id = some i) : ∃ a, x[i]? = some a ∧ a.Id = id := by
  unfold findA at h
  rw [List.findIdx?_eq_some_iff_getElem] at h
  obtain ⟨hi, h1, _⟩ := h
  exact ⟨x[i], List.getElem?_eq_getElem hi, by simpa using h1⟩
theorem find_no {x : List TAlarm} {id : Int} (h : findA x id = none) : ∀ a ∈ x, a.Id ≠ id := by
  unfold findA at h
  rw [List.findIdx?_eq_none_iff] at h
  intro a ha
  simpa using h a ha
theorem ok_congr {l l' : List TAlarm} {n : Nat} (e : ∀ k, k < n → l[k]? = l'[k]?) {k : Nat} (hk : k < n) (h : okAt ltA l k) : okAt ltA l' k := fun x y hx hy => h x y (by rw [e k hk]; exact hx) (by rw [e _ (by omega)]; exact hy)
theorem hp_congr {l l' : List TAlarm} {n : Nat} (e : ∀ k, k < n → l[k]? = l'[k]?) (h : Hp ltA l n) : Hp ltA l' n := fun k h0 hk => ok_congr e hk (h k h0 hk)
theorem ex_congr {l l' : List TAlarm} {n i : Nat} (hi : i < n) (e : ∀ k, k < n → l[k]? = l'[k]?) (h : Ex ltA l n i) : Ex ltA l' n i :=
  ⟨fun k h0 hk h1 h2 => ok_congr e hk (h.oth k h0 hk h1 h2), fun h0 k hk hk0 hp x y hx hy => h.gr h0 k hk hk0 hp x y (by rw [e k hk]; exact hx) (by rw [e _ (by omega)]; exact hy)⟩
theorem hp_less {l : List TAlarm} {n m : Nat} (hm : m ≤ n) (h : Hp ltA l n) : Hp ltA l m := fun k h0 hk => h k h0 (by omega)
theorem fixA_perm (l : List TAlarm) (i n : Nat) : (fixA l i n).Perm l := by
  unfold fixA
  split
  · exact downF_perm _ _ _ _
  · exact (upF_perm _ _ _).trans (downF_perm _ _ _ _)
theorem rmA_last {x : List TAlarm} {i : Nat} {a : TAlarm} (h : x[i]? = some a) : ∃ q, rmA x i = q ++ [a] := by
  have h2 : (x.map fun a => ((0 : Nat), a))[i]? = some (0, a) := by rw [List.getElem?_map, h]; rfl
  obtain ⟨q, hq⟩ := rm_last h2
  refine ⟨q.map (·.2), ?_⟩
  have := rm_map (x.map fun a => ((0 : Nat), a)) i
  rw [zip_snd, hq] at this
  simpa using this.symm
theorem rmA_hp {x : List TAlarm} {i : Nat} (hi : i < x.length) (h : Hp ltA x x.length) : Hp ltA (rmA x i) (x.length - 1) := by
  unfold rmA
  split
  · exact hp_less (by omega) h
  · rename_i e
    refine fix_hp totA _ i (x.length - 1) (by rw [swp_len]; omega) (by omega) ?_
    have h1 : x[i]? = some x[i] := List.getElem?_eq_getElem hi
    have h2 : x[x.length - 1]? = some (x[x.length - 1]'(by omega)) := List.getElem?_eq_getElem (by omega)
    refine ex_congr (n := x.length - 1) (by omega) (l := x.set i (x[x.length - 1]'(by omega))) (fun k hk => ?_) (ex_set totA (by omega) (hp_less (by omega) h) (by omega) _)
    rw [swp_eq h1 h2]
    exact (List.getElem?_set_ne (by omega)).symm
theorem rw_del {x s : List TAlarm} (h : RW x s) (id : Int) : (delA x id).1 = decide (id ∈ ids s) ∧ RW (delA x id).2 (dl s id) := by
  have hid : id ∈ ids s ↔ ∃ a ∈ x, a.Id = id := by
    rw [List.mem_map]
    exact ⟨fun ⟨a, h1, h2⟩ => ⟨a, h.pm.mem_iff.2 h1, h2⟩, fun ⟨a, h1, h2⟩ => ⟨a, h.pm.mem_iff.1 h1, h2⟩⟩
  unfold delA
  cases hf : findA x id with
  | none =>
    have hn := find_no hf
    have : ¬ id ∈ ids s := fun hm => by obtain ⟨a, h1, h2⟩ := hid.1 hm; exact hn a h1 h2
    refine ⟨by simp [this], ?_⟩
    rw [dl_none fun a ha => hn a (h.pm.mem_iff.2 ha)]
    exact h
  | some i =>
    obtain ⟨a, ha, hai⟩ := find_is hf
    have hi := (List.getElem?_eq_some_iff.1 ha).1
    have : id ∈ ids s := hid.2 ⟨a, List.mem_of_getElem? ha, hai⟩
    obtain ⟨q, hq⟩ := rmA_last ha
    have hp := rmA_perm x i
    rw [hq] at hp
    have hp2 : (a :: q).Perm x := (List.perm_append_comm (l₁ := [a]) (l₂ := q)).trans hp
    have hlq : q.length = x.length - 1 := by have := hp2.length_eq; simp at this; omega
    dsimp only
    rw [hq, List.dropLast_concat]
    refine ⟨by simp [this], ⟨?_, (dl_left hp2 h.ndx hai).trans (dl_perm h.pm id), h.so.filter _, ?_, by have := h.le; omega⟩⟩
    · have h3 := rmA_hp hi h.hp
      rw [hq] at h3
      rw [hlq]
      refine hp_congr (fun k hk => ?_) h3
      rw [List.getElem?_append_left (by omega)]
    · exact (List.filter_sublist.map _).nodup h.nd
theorem dl_len {s : List TAlarm} {id : Int} : (dl s id).length ≤ s.length := List.length_filter_le _ _
theorem rw_set {x s : List TAlarm} (h : RW x s) (at_ id : Int) : RW (setA x at_ id) (sset s at_ id) := by
  have hle := h.le
  have hsl := h.pm.length_eq
  unfold setA sset
  cases hf : findA x id with
  | none =>
    have hn := find_no hf
    have hns : ∀ b ∈ s, b.Id ≠ id := fun b hb => hn b (h.pm.mem_iff.2 hb)
    rw [dl_none hns]
    dsimp only
    rw [← hsl]
    split
    · exact h
    · refine ⟨?_, ?_, ins_so h.so hns, ?_, ?_⟩
      · rw [upF_len, List.length_append]
        refine upF_hp totA _ _ _ (by simp) (by simp) ⟨fun k h0 hk hne => ?_, fun h0 k hk hk0 hp => by simp at hk; omega⟩
        simp at hk
        exact ok_congr (n := x.length) (fun j hj => by rw [List.getElem?_append_left hj]) (by omega) (h.hp k h0 (by omega))
      · exact (upF_perm _ _ _).trans ((List.perm_append_comm (l₁ := x) (l₂ := [⟨at_, id⟩])).trans ((h.pm.cons _).trans (ins_perm _ _).symm))
      · refine ((ins_perm _ _).map (·.Id)).nodup_iff.2 (List.nodup_cons.2 ⟨fun hm => ?_, h.nd⟩)
        obtain ⟨b, hb, e⟩ := List.mem_map.1 hm
        exact hns b hb e
      · rw [upF_len]; simp; omega
  | some i =>
    obtain ⟨a, ha, hai⟩ := find_is hf
    have hi := (List.getElem?_eq_some_iff.1 ha).1
    obtain ⟨y1, y2, hy⟩ := List.append_of_mem (List.mem_of_getElem? ha)
    have hxy : (a :: (y1 ++ y2)).Perm x := hy ▸ List.perm_middle.symm
    have hd := (dl_left hxy h.ndx hai).trans (dl_perm h.pm id)
    have hlen : (dl s id).length = x.length - 1 := by have h1 := hd.length_eq; have h2 := hxy.length_eq; simp at h1 h2; omega
    have hset : (x.set i ⟨at_, id⟩).Perm (⟨at_, id⟩ :: (y1 ++ y2)) := by
      have h1 := set_perm (y := (⟨at_, id⟩ : TAlarm)) ha
      have h2 : (a :: x.set i ⟨at_, id⟩).Perm (a :: ⟨at_, id⟩ :: (y1 ++ y2)) := h1.trans ((hxy.symm.cons _).trans (.swap _ _ _))
      exact h2.cons_inv
    dsimp only
    rw [if_neg (by omega)]
    have hlf : (fixA (x.set i ⟨at_, id⟩) i x.length).length = x.length := by rw [(fixA_perm _ _ _).length_eq, List.length_set]
    refine ⟨?_, ?_, ins_so (h.so.filter _) dl_ne, ?_, ?_⟩
    · rw [hlf]
      exact fix_hp totA _ i x.length (by simp) hi (ex_set totA (Nat.le_refl _) h.hp hi _)
    · exact (fixA_perm _ _ _).trans (hset.trans ((hd.cons _).trans (ins_perm _ _).symm))
    · refine ((ins_perm _ _).map (·.Id)).nodup_iff.2 (List.nodup_cons.2 ⟨fun hm => ?_, (List.filter_sublist.map _).nodup h.nd⟩)
      obtain ⟨b, hb, e⟩ := List.mem_map.1 hm
      exact dl_ne b hb e
    · rw [hlf]; exact hle
theorem rw_nil : RW [] [] := ⟨fun k _ hk => by simp at hk, .refl _, .nil, by simp [ids], by simp⟩
theorem rw_len {x s : List TAlarm} (h : RW x s) : x.length = s.length := h.pm.length_eq
theorem rw_head {a : TAlarm} {t s : List TAlarm} (h : RW (a :: t) s) : ∃ s', s = a :: s' := by
  cases s with
  | nil => have := rw_len h; simp at this
  | cons b s' =>
    refine ⟨s', ?_⟩
    have hb : b ∈ a :: t := h.pm.mem_iff.2 (by simp)
    have ha : a ∈ b :: s' := h.pm.mem_iff.1 (by simp)
    rcases List.mem_cons.1 ha with e | ha
    · rw [e]
    · have h1 := (List.pairwise_cons.1 h.so).1 a ha
      obtain ⟨k, hk⟩ := List.mem_iff_getElem?.1 hb
      have h2 := hp_min totA (Nat.le_refl _) h.hp (x := a) rfl k b (List.getElem?_eq_some_iff.1 hk).1 hk
      rw [h1] at h2; cases h2
theorem rw_next {x s : List TAlarm} (h : RW x s) : nextA x = nextA s := by
  cases x with
  | nil =>
    have := rw_len h
    have e : s = [] := List.eq_nil_of_length_eq_zero (by simpa using this.symm)
    rw [e]
  | cons a t => obtain ⟨s', rfl⟩ := rw_head h; rfl
theorem rw_all {x s : List TAlarm} (h : RW x s) : allA x = s := by
  refine List.Perm.eq_of_pairwise (le := fun a b => ltA b a = false) (fun a b _ _ h1 h2 => ltA_eq h2 h1) ?_ (h.so.imp fun h => totA.asym h) ((List.mergeSort_perm _ _).trans h.pm)
  have := List.pairwise_mergeSort (le := fun a b => !ltA b a) (fun a b c h1 h2 => by
    simp only [Bool.not_eq_true'] at *
    exact ltA_ntrans h2 h1) (fun a b => by
    cases h1 : ltA b a with
    | false => rfl
    | true => rw [totA.asym h1]; rfl) x
  exact this.imp fun h => by simpa using h
theorem rw_due (now : Int) : ∀ (n : Nat) (x s : List TAlarm), n = x.length → RW x s → (dueA n x now).1 = s.takeWhile (fun a => decide (a.At ≤ now)) ∧ RW (dueA n x now).2 (s.dropWhile (fun a => decide (a.At ≤ now))) := by
  intro n
  induction n with
  | zero =>
    intro x s hn h
    have hx : x = [] := List.eq_nil_of_length_eq_zero hn.symm
    subst hx
    have e : s = [] := List.eq_nil_of_length_eq_zero (by simpa using (rw_len h).symm)
    subst e
    exact ⟨rfl, h⟩
  | succ n ih =>
    intro x s hn h
    cases x with
    | nil => cases hn
    | cons a t =>
      obtain ⟨s', rfl⟩ := rw_head h
      have hn' : n = t.length := by simpa using hn
      have hds : dl (a :: s') a.Id = s' := by
        rw [dl_cons_self rfl]
        exact dl_none fun b hb e => (List.nodup_cons.1 h.nd).1 (List.mem_map.2 ⟨b, hb, e⟩)
      rw [List.takeWhile_cons, List.dropWhile_cons]
      unfold dueA
      by_cases hle : a.At ≤ now
      · rw [if_pos hle]
        have h2 := (rw_del h a.Id).2
        rw [hds] at h2
        obtain ⟨i1, i2⟩ := ih _ _ (by rw [del_head_len]; exact hn') h2
        simp only [hle, decide_true, if_true]
        exact ⟨by rw [i1], i2⟩
      · rw [if_neg hle]
        simp only [hle, decide_false, Bool.false_eq_true, if_false]
        exact ⟨trivial, h⟩
end Go.Proofs.Ytgkgekaiajjcaaa.S
