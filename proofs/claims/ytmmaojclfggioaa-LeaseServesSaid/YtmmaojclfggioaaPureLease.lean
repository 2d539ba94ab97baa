/- Plain facts on leases; each states its own conditions. -/
import Derived.Test.YtmmaojclfggioaaPureLoop
namespace Go.Proofs.Ytmmaojclfggioaa.S
open Go Go.SL
set_option linter.unusedVariables false
set_option linter.unusedSimpArgs false
theorem heads_g : law25_heads.g 1000 = some true := by kernel_rfl
theorem heads : law25_heads.f = some true := law25_heads.le 1000 _ heads_g
theorem u32w' (x : Int) : IntKind.u32.wrap x = x % 4294967296 := by simp [IntKind.wrap, IntKind.bits, IntKind.signed]
theorem inrU32 {x : Int} (h : InR .u32 x) : 0 ≤ x ∧ x < 4294967296 := by unfold InR at h; rw [u32w'] at h; omega
theorem inr64 {x : Int} (h : InR .i64 x) : -9223372036854775808 ≤ x ∧ x < 9223372036854775808 := by
  unfold InR at h
  simp only [IntKind.wrap, IntKind.bits, IntKind.signed] at h
  simp at h
  omega
theorem cloneB (l : List Int) (h : l.length ≤ 100000) : slices_Clone_s_byte_byte.f l = some l := by
  unfold slices_Clone_s_byte_byte.f
  rw [app_k _ _ (by simp; omega)]; rfl
theorem cloneL (l : List TLease) (h : l.length ≤ 100000) : slices_Clone_s_api_Lease_api_Lease.f l = some l := by
  unfold slices_Clone_s_api_Lease_api_Lease.f
  rw [app_k _ _ (by simp; omega)]; rfl
/-! A message written: whether it may be. -/
theorem ovr_len (l r : List Int) (p : Int) (h0 : 0 ≤ p) (h1 : p ≤ l.length) : (ovr l p (l.length : Int) r).length = l.length := by
  unfold ovr Go.splice
  simp
  omega
theorem pt_k (p x : Int) (l : List Int) (h0 : 0 ≤ p) (h1 : p ≤ l.length) : ∃ b, dhcp_Put_1.f p x l = some b ∧ b.length = l.length := by
  unfold dhcp_Put_1.f
  rw [if_pos ⟨h0, h1, Int.le_refl _⟩, put4, Option.bind_some]
  exact ⟨_, rfl, ovr_len _ _ _ h0 h1⟩
theorem op_k (k x : Int) (l : List Int) (h : l.length ≤ 100000) : ∃ b, dhcp_Put_2.f k x l = some b ∧ b.length ≤ l.length + 6 := by
  unfold dhcp_Put_2.f
  by_cases c : 0 < x
  · simp only [c, decide_true, if_true]
    rw [put4, Option.bind_some, concat_is _ (by simp; omega) (by simp)]
    exact ⟨_, rfl, by simp⟩
  · simp only [c, decide_false, Bool.false_eq_true, if_false]
    exact ⟨_, rfl, by omega⟩
def POk (d : TDhcp) : Prop := (1 ≤ d.Op ∧ d.Op ≤ 2) ∧ d.Mac.length = 6 ∧ (1 ≤ d.Type_ ∧ d.Type_ ≤ 8)
instance (d : TDhcp) : Decidable (POk d) := inferInstanceAs (Decidable (_ ∧ _))
theorem put_k (d : TDhcp) : ∃ b, dhcp_Put.f d = some (b, if POk d then 0 else 2) := by
  unfold dhcp_Put.f
  obtain ⟨j, hj, hj2⟩ : ∃ j, (if decide (d.Op < 1) = true then some (true) else (if decide (2 < d.Op) = true then some (true) else (if (!decide ((d.Mac.length : Int) = 6)) = true then some (true) else (if decide (d.Type_ < 1) = true then some (true) else some (decide (8 < d.Type_)))))) = some j ∧ (j = !decide (POk d)) := by
    have no : (POk d → False) → true = !decide (POk d) := fun h => by rw [decide_eq_false h]; rfl
    by_cases c1 : d.Op < 1
    · exact ⟨true, by simp only [c1, decide_true, if_true], no fun h => by have h1 := h.1; have h2 := h.2.1; have h3 := h.2.2; omega⟩
    by_cases c2 : 2 < d.Op
    · exact ⟨true, by simp only [c1, c2, decide_true, decide_false, Bool.false_eq_true, if_false, if_true], no fun h => by have h1 := h.1; have h2 := h.2.1; have h3 := h.2.2; omega⟩
    by_cases c3 : (d.Mac.length : Int) = 6
    case neg => exact ⟨true, by simp only [c1, c2, c3, decide_false, Bool.not_false, Bool.false_eq_true, if_false, if_true], no fun h => by have h1 := h.1; have h2 := h.2.1; have h3 := h.2.2; omega⟩
    by_cases c4 : d.Type_ < 1
    · exact ⟨true, by simp only [c1, c2, c3, c4, decide_true, decide_false, Bool.not_true, Bool.false_eq_true, if_false, if_true], no fun h => by have h1 := h.1; have h2 := h.2.1; have h3 := h.2.2; omega⟩
    by_cases c5 : 8 < d.Type_
    · exact ⟨true, by simp only [c1, c2, c3, c4, c5, decide_true, decide_false, Bool.not_true, Bool.false_eq_true, if_false], no fun h => by have h1 := h.1; have h2 := h.2.1; have h3 := h.2.2; omega⟩
    exact ⟨false, by simp only [c1, c2, c3, c4, c5, decide_true, decide_false, Bool.not_true, Bool.false_eq_true, if_false], by rw [decide_eq_true (show POk d from ⟨by omega, by omega, by omega⟩)]; rfl⟩
  rw [hj, Option.bind_some, hj2]
  by_cases hp : POk d
  · rw [decide_eq_true hp, if_neg (by simp), if_pos hp]
    have hm := hp.2.1
    have em : mk 240 (0 : Int) = some (List.replicate 240 0) := by unfold mk; rw [if_pos (by decide)]; rfl
    rw [em, Option.bind_some]
    generalize hr : (List.replicate 240 (0 : Int)) = z
    have hz : z.length = 240 := by rw [← hr, List.length_replicate]
    have i0 : ∀ (y : List Int) (n : Nat), y.length = 240 → n < 240 → ∃ v, idx y (n : Int) = some v := fun y n h1 h2 => ⟨_, ix y n (by omega)⟩
    obtain ⟨v0, e0⟩ := i0 z 0 hz (by omega)
    obtain ⟨v1, e1⟩ := i0 (z.set (0 : Int).toNat (IntKind.u8.wrap d.Op)) 1 (by simp [hz]) (by omega)
    obtain ⟨v2, e2⟩ := i0 ((z.set (0 : Int).toNat (IntKind.u8.wrap d.Op)).set (1 : Int).toNat 1) 2 (by simp [hz]) (by omega)
    rw [show idx z 0 = some v0 from e0, Option.bind_some, show idx _ 1 = some v1 from e1, Option.bind_some, show idx _ 2 = some v2 from e2, Option.bind_some]
    simp only [lt]
    generalize hy : (((z.set (0 : Int).toNat (IntKind.u8.wrap d.Op)).set (1 : Int).toNat 1).set (2 : Int).toNat 6) = y
    have hyl : y.length = 240 := by rw [← hy]; simp [hz]
    obtain ⟨b1, q1, l1⟩ := pt_k 4 d.Xid y (by omega) (by omega)
    obtain ⟨b2, q2, l2⟩ := pt_k 12 d.Ci b1 (by omega) (by omega)
    obtain ⟨b3, q3, l3⟩ := pt_k 16 d.Yi b2 (by omega) (by omega)
    rw [q1, Option.bind_some, q2, Option.bind_some, q3, Option.bind_some, if_pos ⟨by omega, by omega, Int.le_refl _⟩]
    have l4 : (ovr b3 28 (b3.length : Int) d.Mac).length = 240 := by rw [ovr_len _ _ _ (by omega) (by omega)]; omega
    obtain ⟨b5, q5, l5⟩ := pt_k 236 1669485411 (ovr b3 28 (b3.length : Int) d.Mac) (by omega) (by omega)
    rw [q5, Option.bind_some, app_k _ _ (by simp; omega), Option.bind_some]
    have l6 : (b5 ++ [53, 1, IntKind.u8.wrap d.Type_]).length = 243 := by simp; omega
    obtain ⟨o1, r1, m1⟩ := op_k 50 d.Want (b5 ++ [53, 1, IntKind.u8.wrap d.Type_]) (by omega)
    obtain ⟨o2, r2, m2⟩ := op_k 54 d.Server o1 (by omega)
    obtain ⟨o3, r3, m3⟩ := op_k 51 d.Lease o2 (by omega)
    obtain ⟨o4, r4, m4⟩ := op_k 1 d.Mask o3 (by omega)
    obtain ⟨o5, r5, m5⟩ := op_k 3 d.Router o4 (by omega)
    obtain ⟨o6, r6, m6⟩ := op_k 6 d.Dns o5 (by omega)
    rw [r1, Option.bind_some, r2, Option.bind_some, r3, Option.bind_some, r4, Option.bind_some, r5, Option.bind_some, r6, Option.bind_some, app_k _ _ (by simp; omega), Option.bind_some]
    exact ⟨_, rfl⟩
  · rw [decide_eq_false hp, if_pos (by simp), if_neg hp]
    exact ⟨_, rfl⟩
/-! What may be. -/
def Pool (ip : Int) : Prop := 167772687 ≤ ip ∧ ip < 167772695
instance (ip : Int) : Decidable (Pool ip) := inferInstanceAs (Decidable (_ ∧ _))
theorem pool_is (ip : Int) (h : 0 ≤ ip ∧ ip < 4294967296) : lease_pool.f ip = some (decide (Pool ip)) := by
  unfold lease_pool.f lt Pool
  refine congrArg some (decide_eq_decide.2 ?_)
  rw [u32w']; omega
def Tk (now : Int) : Prop := 0 ≤ now ∧ now ≤ 1099511624176
instance (now : Int) : Decidable (Tk now) := inferInstanceAs (Decidable (_ ∧ _))
theorem tick_is (now : Int) : lease_tick.f now = some (decide (Tk now)) := by
  unfold lease_tick.f lt Tk
  by_cases c : 0 ≤ now <;> simp [c]
def Lok (x : TLease) : Prop := Pool x.Ip ∧ x.Mac.length = 6 ∧ 0 ≤ x.Until ∧ x.Until ≤ 1099511627776
instance (x : TLease) : Decidable (Lok x) := inferInstanceAs (Decidable (_ ∧ _))
def Lx (a b : TLease) : Prop := a.Ip < b.Ip ∧ a.Mac ≠ b.Mac
instance (a b : TLease) : Decidable (Lx a b) := inferInstanceAs (Decidable (_ ∧ _))
def Cp (l : List TLease) : Prop := (∀ x ∈ l, Lok x) ∧ l.Pairwise Lx
instance (l : List TLease) : Decidable (Cp l) := inferInstanceAs (Decidable (_ ∧ _))
def Cks (l : List TLease) : Prop := l.length ≤ 8 ∧ Cp l
instance (l : List TLease) : Decidable (Cks l) := inferInstanceAs (Decidable (_ ∧ _))
def gLease (x : TLease) : Prop := (x.Mac.length ≤ maxLen ∧ ∀ z ∈ x.Mac, InR .u8 z) ∧ InR .u32 x.Ip ∧ InR .i64 x.Until
theorem Cp.take {l : List TLease} (h : Cp l) (i : Nat) : Cp (l.take i) := ⟨fun x hx => h.1 x (List.mem_of_mem_take hx), h.2.sublist (List.take_sublist i l)⟩
theorem Cp.snoc {l : List TLease} {x : TLease} (h : Cp l) (hx : Lok x) (h2 : ∀ y ∈ l, Lx y x) : Cp (l ++ [x]) := ⟨fun y hy => (List.mem_append.1 hy).elim (h.1 y) fun hy => by rw [List.mem_singleton.1 hy]; exact hx, List.pairwise_append.2 ⟨h.2, List.pairwise_singleton _ _, fun a ha b hb => by rw [List.mem_singleton.1 hb]; exact h2 a ha⟩⟩
theorem cut_take' {α : Type} (l : List α) (i : Int) (h0 : 0 ≤ i) (h1 : i ≤ l.length) : cut l 0 i = some (l.take i.toNat) := by
  unfold cut
  rw [if_pos ⟨by omega, h0, h1⟩]
  simp
theorem filter_take_succ {α : Type} (f : α → Bool) (l : List α) (n : Nat) (h : n < l.length) : (l.take (n + 1)).filter f = (l.take n).filter f ++ (if f l[n] then [l[n]] else []) := by
  rw [List.take_succ_eq_append_getElem h, List.filter_append]
  cases c : f l[n] <;> simp [c]
def kpQ (ip : Int) (s : Tserver) (x : TLease) : Bool := !(decide (x.Ip = ip) || decide (x.Mac = s.d.Mac))
theorem kpQ_is (x : TLease) (ip : Int) (s : Tserver) : lease_server_request_1_at_p.f x ip s = some (!kpQ ip s x) := by
  unfold lease_server_request_1_at_p.f bytes_Equal.f kpQ lt
  by_cases h : x.Ip = ip <;> simp [h]
theorem delQ_is (l : List TLease) (ip : Int) (s : Tserver) (hl : l.length ≤ 100000) : slices_DeleteFunc_s_api_Lease_api_Lease_at_lease_server_request_1_of_p.f l ip s = some (l.filter (kpQ ip s), s) := by
  unfold slices_DeleteFunc_s_api_Lease_api_Lease_at_lease_server_request_1_of_p.f slices_IndexFunc_s_api_Lease_api_Lease_at_lease_server_request_1_of_p.f
  obtain ⟨k, hk, h1, h2, hlp⟩ := find_run (B := fun s1 : Int => (if decide (s1 < (l.length : Int)) = true then (idx l s1).bind fun x1 => (lease_server_request_1_at_p.f x1 ip s).bind fun r1 => (if r1 = true then some (.inr (.inr (s1))) else some (.inl (IntKind.i64.wrap (s1 + 1)))) else some (.inr (.inl (())))))
    (fun i => if h : i < l.length then !kpQ ip s l[i] else false) l.length (fun i => (i : Int)) (fun i => if i < l.length then (.inr (i : Int) : Unit ⊕ Int) else .inl ())
    (fun i hi hf => by
      rw [dif_pos hi] at hf
      have c : ((i : Int) < (l.length : Int)) := by omega
      simp only [c, decide_true, if_true, ix l i hi, Option.bind_some, kpQ_is, hf, Bool.false_eq_true, if_false]
      rw [stepw hi (by omega)])
    (fun i hi hf => by
      rw [dif_pos hi] at hf
      have c : ((i : Int) < (l.length : Int)) := by omega
      simp only [c, decide_true, if_true, ix l i hi, Option.bind_some, kpQ_is, hf]
      rw [if_pos hi])
    (by simp)
  rw [show loop _ (0 : Int) = _ from hlp, Option.bind_some]
  have hall : ∀ i (h : i < l.length), i < k → kpQ ip s l[i] = true := fun i h hi => by
    have := h1 i hi
    rw [dif_pos h] at this
    simpa using this
  by_cases c : k < l.length
  · rw [if_pos c]
    have hkk := h2 c
    rw [dif_pos c] at hkk
    have hkk' : kpQ ip s l[k] = false := by simpa using hkk
    simp only [Sum.elim_inr, Option.bind_some]
    have c1 : ¬ ((k : Int) = -1) := by omega
    rw [if_neg (by simp)]
    simp only [lt]
    have hf0 : (l.take k).filter (kpQ ip s) = l.take k := List.filter_eq_self.2 fun x hx => by
      obtain ⟨i, hi, rfl⟩ := List.getElem_of_mem hx
      rw [List.getElem_take]
      rw [List.length_take] at hi
      exact hall i (by omega) (by omega)
    have e1 : IntKind.i64.wrap ((k : Int) + 1) = ((k + 1 : Nat) : Int) := stepw c (by omega)
    rw [e1]
    refine loop_bind_inv (fun o => o = some (l.filter (kpQ ip s), s)) (fun (i : Nat) (q : List TLease × Int × Int) => q.1.length = l.length ∧ q.2.2 = ((k + 1 + i : Nat) : Int) ∧ q.2.1 = (((l.take (k + 1 + i)).filter (kpQ ip s)).length : Int) ∧ q.1.take ((l.take (k + 1 + i)).filter (kpQ ip s)).length = (l.take (k + 1 + i)).filter (kpQ ip s) ∧ q.1.drop (k + 1 + i) = l.drop (k + 1 + i)) (fun (r : List TLease × Int) => r.1.length = l.length ∧ r.2 = ((l.filter (kpQ ip s)).length : Int) ∧ r.1.take (l.filter (kpQ ip s)).length = l.filter (kpQ ip s)) (l.length - (k + 1)) ?_ ?_ ?_ ?_
    · have e2 : (l.take (k + 1)).filter (kpQ ip s) = l.take k := by rw [filter_take_succ _ _ _ c, hf0, hkk']; simp
      refine ⟨rfl, by simp, ?_, ?_, ?_⟩
      · show (k : Int) = _
        rw [Nat.add_zero, e2, List.length_take]; congr 1; omega
      · rw [Nat.add_zero, e2, List.length_take, show min k l.length = k by omega]
      · rfl
    · rintro i ⟨arr, w, j⟩ hi ⟨q1, q2, q3, q4, q5⟩
      dsimp only at q1 q2 q3 q4 q5
      subst q2 q3
      have hj : k + 1 + i < l.length := by omega
      have hja : k + 1 + i < arr.length := by omega
      have hel : arr[k + 1 + i] = l[k + 1 + i] := by
        have := congrArg (fun z => z[0]?) q5
        simp only [List.getElem?_drop, Nat.add_zero] at this
        rw [List.getElem?_eq_getElem hja, List.getElem?_eq_getElem hj] at this
        exact Option.some.inj this
      have hfl : ((l.take (k + 1 + i)).filter (kpQ ip s)).length ≤ k + 1 + i := Nat.le_trans (List.length_filter_le _ _) (by simp; omega)
      have c2 : (((k + 1 + i : Nat) : Int) < (arr.length : Int)) := by omega
      have e3 : IntKind.i64.wrap (((k + 1 + i : Nat) : Int) + 1) = ((k + 1 + (i + 1) : Nat) : Int) := stepw hj (by omega)
      have hfs := filter_take_succ (kpQ ip s) l (k + 1 + i) hj
      simp only [c2, decide_true, if_true, ix arr _ hja, Option.bind_some, kpQ_is, hel, Bool.not_not, e3]
      cases hkp : kpQ ip s l[k + 1 + i] with
      | false =>
        simp only [Bool.false_eq_true, if_false, Option.bind_some]
        have e4 : (l.take (k + 1 + (i + 1))).filter (kpQ ip s) = (l.take (k + 1 + i)).filter (kpQ ip s) := by rw [show k + 1 + (i + 1) = k + 1 + i + 1 by omega, hfs, hkp]; simp
        refine ⟨_, rfl, q1, rfl, ?_, ?_, ?_⟩
        · show _ = _; rw [e4]
        · show arr.take _ = _; rw [e4]; exact q4
        · show arr.drop _ = _
          rw [show k + 1 + (i + 1) = k + 1 + i + 1 by omega, ← List.drop_drop, q5, List.drop_drop]
      | true =>
        have e4 : (l.take (k + 1 + (i + 1))).filter (kpQ ip s) = (l.take (k + 1 + i)).filter (kpQ ip s) ++ [l[k + 1 + i]] := by rw [show k + 1 + (i + 1) = k + 1 + i + 1 by omega, hfs, hkp]; simp
        have e5 : IntKind.i64.wrap ((((l.take (k + 1 + i)).filter (kpQ ip s)).length : Int) + 1) = ((((l.take (k + 1 + (i + 1))).filter (kpQ ip s)).length : Nat) : Int) := by rw [e4, i64w (by omega) (by omega)]; simp
        simp only [if_true, Option.bind_some, ix arr _ (show ((l.take (k + 1 + i)).filter (kpQ ip s)).length < arr.length by omega), e5]
        refine ⟨_, rfl, by simp [q1], rfl, rfl, ?_, ?_⟩
        · show (arr.set _ _).take _ = _
          rw [Int.toNat_natCast, e4, List.length_append, List.length_singleton, List.take_succ_eq_append_getElem (by simp; omega), List.getElem_set_self, List.take_set_of_le (by simp), q4]
        · show (arr.set _ _).drop _ = _
          rw [List.drop_set_of_lt (by simp; omega), show k + 1 + (i + 1) = k + 1 + i + 1 by omega, ← List.drop_drop, q5, List.drop_drop]
    · rintro ⟨arr, w, j⟩ ⟨q1, q2, q3, q4, q5⟩
      dsimp only at q1 q2 q3 q4 q5
      subst q2 q3
      have e6 : k + 1 + (l.length - (k + 1)) = l.length := by omega
      rw [e6, List.take_length] at q4 ⊢
      exact ⟨(arr, _), by simp [q1], q1, rfl, q4⟩
    · rintro ⟨arr, w⟩ ⟨q1, q2, q3⟩
      dsimp only at q1 q2 q3
      subst q2
      have hfl := List.length_filter_le (kpQ ip s) l
      dsimp only
      rw [if_pos ⟨by omega, by omega, by omega⟩]
      rw [cut_take' _ _ (by omega) (by unfold Go.splice; simp; omega), Option.bind_some]
      congr 1
      unfold Go.splice
      have ez : ((l.filter (kpQ ip s)).length : Int).toNat = (l.filter (kpQ ip s)).length := by omega
      rw [ez, List.take_left' (by simp; omega)]
      exact congrArg (fun z => (z, s)) q3
  · rw [if_neg c]
    simp only [Sum.elim_inl, Option.bind_some]
    rw [if_pos (by rfl)]
    congr 1
    refine congrArg (fun z => (z, s)) (List.filter_eq_self.2 fun x hx => ?_).symm
    obtain ⟨i, hi, rfl⟩ := List.getElem_of_mem hx
    exact hall i hi (by omega)
def kpR (s : Tserver) (x : TLease) : Bool := !(decide (x.Ip = s.d.Ci) && decide (x.Mac = s.d.Mac))
theorem kpR_is (x : TLease) (s : Tserver) : lease_server_release_1_at_p.f x s = some (!kpR s x) := by
  unfold lease_server_release_1_at_p.f bytes_Equal.f kpR lt
  by_cases h : x.Ip = s.d.Ci <;> simp [h]
theorem delR_is (l : List TLease) (s : Tserver) (hl : l.length ≤ 100000) : slices_DeleteFunc_s_api_Lease_api_Lease_at_lease_server_release_1_of_p.f l s = some (l.filter (kpR s), s) := by
  unfold slices_DeleteFunc_s_api_Lease_api_Lease_at_lease_server_release_1_of_p.f slices_IndexFunc_s_api_Lease_api_Lease_at_lease_server_release_1_of_p.f
  obtain ⟨k, hk, h1, h2, hlp⟩ := find_run (B := fun s1 : Int => (if decide (s1 < (l.length : Int)) = true then (idx l s1).bind fun x1 => (lease_server_release_1_at_p.f x1 s).bind fun r1 => (if r1 = true then some (.inr (.inr (s1))) else some (.inl (IntKind.i64.wrap (s1 + 1)))) else some (.inr (.inl (())))))
    (fun i => if h : i < l.length then !kpR s l[i] else false) l.length (fun i => (i : Int)) (fun i => if i < l.length then (.inr (i : Int) : Unit ⊕ Int) else .inl ())
    (fun i hi hf => by
      rw [dif_pos hi] at hf
      have c : ((i : Int) < (l.length : Int)) := by omega
      simp only [c, decide_true, if_true, ix l i hi, Option.bind_some, kpR_is, hf, Bool.false_eq_true, if_false]
      rw [stepw hi (by omega)])
    (fun i hi hf => by
      rw [dif_pos hi] at hf
      have c : ((i : Int) < (l.length : Int)) := by omega
      simp only [c, decide_true, if_true, ix l i hi, Option.bind_some, kpR_is, hf]
      rw [if_pos hi])
    (by simp)
  rw [show loop _ (0 : Int) = _ from hlp, Option.bind_some]
  have hall : ∀ i (h : i < l.length), i < k → kpR s l[i] = true := fun i h hi => by
    have := h1 i hi
    rw [dif_pos h] at this
    simpa using this
  by_cases c : k < l.length
  · rw [if_pos c]
    have hkk := h2 c
    rw [dif_pos c] at hkk
    have hkk' : kpR s l[k] = false := by simpa using hkk
    simp only [Sum.elim_inr, Option.bind_some]
    have c1 : ¬ ((k : Int) = -1) := by omega
    rw [if_neg (by simp)]
    simp only [lt]
    have hf0 : (l.take k).filter (kpR s) = l.take k := List.filter_eq_self.2 fun x hx => by
      obtain ⟨i, hi, rfl⟩ := List.getElem_of_mem hx
      rw [List.getElem_take]
      rw [List.length_take] at hi
      exact hall i (by omega) (by omega)
    have e1 : IntKind.i64.wrap ((k : Int) + 1) = ((k + 1 : Nat) : Int) := stepw c (by omega)
    rw [e1]
    refine loop_bind_inv (fun o => o = some (l.filter (kpR s), s)) (fun (i : Nat) (q : List TLease × Int × Int) => q.1.length = l.length ∧ q.2.2 = ((k + 1 + i : Nat) : Int) ∧ q.2.1 = (((l.take (k + 1 + i)).filter (kpR s)).length : Int) ∧ q.1.take ((l.take (k + 1 + i)).filter (kpR s)).length = (l.take (k + 1 + i)).filter (kpR s) ∧ q.1.drop (k + 1 + i) = l.drop (k + 1 + i)) (fun (r : List TLease × Int) => r.1.length = l.length ∧ r.2 = ((l.filter (kpR s)).length : Int) ∧ r.1.take (l.filter (kpR s)).length = l.filter (kpR s)) (l.length - (k + 1)) ?_ ?_ ?_ ?_
    · have e2 : (l.take (k + 1)).filter (kpR s) = l.take k := by rw [filter_take_succ _ _ _ c, hf0, hkk']; simp
      refine ⟨rfl, by simp, ?_, ?_, ?_⟩
      · show (k : Int) = _
        rw [Nat.add_zero, e2, List.length_take]; congr 1; omega
      · rw [Nat.add_zero, e2, List.length_take, show min k l.length = k by omega]
      · rfl
    · rintro i ⟨arr, w, j⟩ hi ⟨q1, q2, q3, q4, q5⟩
      dsimp only at q1 q2 q3 q4 q5
      subst q2 q3
      have hj : k + 1 + i < l.length := by omega
      have hja : k + 1 + i < arr.length := by omega
      have hel : arr[k + 1 + i] = l[k + 1 + i] := by
        have := congrArg (fun z => z[0]?) q5
        simp only [List.getElem?_drop, Nat.add_zero] at this
        rw [List.getElem?_eq_getElem hja, List.getElem?_eq_getElem hj] at this
        exact Option.some.inj this
      have hfl : ((l.take (k + 1 + i)).filter (kpR s)).length ≤ k + 1 + i := Nat.le_trans (List.length_filter_le _ _) (by simp; omega)
      have c2 : (((k + 1 + i : Nat) : Int) < (arr.length : Int)) := by omega
      have e3 : IntKind.i64.wrap (((k + 1 + i : Nat) : Int) + 1) = ((k + 1 + (i + 1) : Nat) : Int) := stepw hj (by omega)
      have hfs := filter_take_succ (kpR s) l (k + 1 + i) hj
      simp only [c2, decide_true, if_true, ix arr _ hja, Option.bind_some, kpR_is, hel, Bool.not_not, e3]
      cases hkp : kpR s l[k + 1 + i] with
      | false =>
        simp only [Bool.false_eq_true, if_false, Option.bind_some]
        have e4 : (l.take (k + 1 + (i + 1))).filter (kpR s) = (l.take (k + 1 + i)).filter (kpR s) := by rw [show k + 1 + (i + 1) = k + 1 + i + 1 by omega, hfs, hkp]; simp
        refine ⟨_, rfl, q1, rfl, ?_, ?_, ?_⟩
        · show _ = _; rw [e4]
        · show arr.take _ = _; rw [e4]; exact q4
        · show arr.drop _ = _
          rw [show k + 1 + (i + 1) = k + 1 + i + 1 by omega, ← List.drop_drop, q5, List.drop_drop]
      | true =>
        have e4 : (l.take (k + 1 + (i + 1))).filter (kpR s) = (l.take (k + 1 + i)).filter (kpR s) ++ [l[k + 1 + i]] := by rw [show k + 1 + (i + 1) = k + 1 + i + 1 by omega, hfs, hkp]; simp
        have e5 : IntKind.i64.wrap ((((l.take (k + 1 + i)).filter (kpR s)).length : Int) + 1) = ((((l.take (k + 1 + (i + 1))).filter (kpR s)).length : Nat) : Int) := by rw [e4, i64w (by omega) (by omega)]; simp
        simp only [if_true, Option.bind_some, ix arr _ (show ((l.take (k + 1 + i)).filter (kpR s)).length < arr.length by omega), e5]
        refine ⟨_, rfl, by simp [q1], rfl, rfl, ?_, ?_⟩
        · show (arr.set _ _).take _ = _
          rw [Int.toNat_natCast, e4, List.length_append, List.length_singleton, List.take_succ_eq_append_getElem (by simp; omega), List.getElem_set_self, List.take_set_of_le (by simp), q4]
        · show (arr.set _ _).drop _ = _
          rw [List.drop_set_of_lt (by simp; omega), show k + 1 + (i + 1) = k + 1 + i + 1 by omega, ← List.drop_drop, q5, List.drop_drop]
    · rintro ⟨arr, w, j⟩ ⟨q1, q2, q3, q4, q5⟩
      dsimp only at q1 q2 q3 q4 q5
      subst q2 q3
      have e6 : k + 1 + (l.length - (k + 1)) = l.length := by omega
      rw [e6, List.take_length] at q4 ⊢
      exact ⟨(arr, _), by simp [q1], q1, rfl, q4⟩
    · rintro ⟨arr, w⟩ ⟨q1, q2, q3⟩
      dsimp only at q1 q2 q3
      subst q2
      have hfl := List.length_filter_le (kpR s) l
      dsimp only
      rw [if_pos ⟨by omega, by omega, by omega⟩]
      rw [cut_take' _ _ (by omega) (by unfold Go.splice; simp; omega), Option.bind_some]
      congr 1
      unfold Go.splice
      have ez : ((l.filter (kpR s)).length : Int).toNat = (l.filter (kpR s)).length := by omega
      rw [ez, List.take_left' (by simp; omega)]
      exact congrArg (fun z => (z, s)) q3
  · rw [if_neg c]
    simp only [Sum.elim_inl, Option.bind_some]
    rw [if_pos (by rfl)]
    congr 1
    refine congrArg (fun z => (z, s)) (List.filter_eq_self.2 fun x hx => ?_).symm
    obtain ⟨i, hi, rfl⟩ := List.getElem_of_mem hx
    exact hall i hi (by omega)
end Go.Proofs.Ytmmaojclfggioaa.S
