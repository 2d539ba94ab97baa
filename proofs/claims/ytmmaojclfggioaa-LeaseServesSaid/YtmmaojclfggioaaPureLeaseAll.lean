/- What each message makes and is answered; each states its own conditions. -/
import Derived.Test.YtmmaojclfggioaaPureLeaseRow
namespace Go.Proofs.Ytmmaojclfggioaa.S
open Go Go.SL
set_option linter.unusedVariables false
set_option linter.unusedSimpArgs false
/-- Is an address free? -/
def fb (l : List TLease) (now : Int) (ip : Int) : Bool := decide (Pool ip) && !(hold l now (fun x => decide (x.Ip = ip))).isSome
theorem free_is (l : List TLease) (hg : ∀ x ∈ l, gLease x) (hl : l.length ≤ 100000) (now : Int) (d : TDhcp) (ip : Int) (h : 0 ≤ ip ∧ ip < 4294967296) : lease_server_free.f ⟨l, now, d⟩ ip = some (fb l now ip) := by
  unfold lease_server_free.f fb
  dsimp only
  rw [owner_is l hg now ip hl, Option.bind_some, pool_is ip h, Option.bind_some]
  by_cases c : Pool ip <;> simp [c]
/-- Addresses in the order in which they are looked at. -/
def wl (d : TDhcp) : List Int := d.Want :: (List.range 8).map fun (k : Nat) => (167772687 + (k : Int))
/-- What is offered. -/
def offer (l : List TLease) (now : Int) (d : TDhcp) : Option Int := match hold l now (fun x => decide (x.Mac = d.Mac)) with
  | some y => some y.Ip
  | none => (wl d).find? (fb l now)
theorem disc_is (l : List TLease) (hg : ∀ x ∈ l, gLease x) (hl : l.length ≤ 100000) (now : Int) (d : TDhcp) (hw : 0 ≤ d.Want ∧ d.Want < 4294967296) (hm : d.Mac.length = 6) : lease_server_discover.f ⟨l, now, d⟩ = some (match offer l now d with | some ip => (fulD d 2 ip, true, ⟨l, now, d⟩) | none => (zD, false, ⟨l, now, d⟩)) := by
  unfold lease_server_discover.f
  dsimp only
  rw [find_is l hg now _ hl, Option.bind_some]
  refine loop_exit (fun (o : Option (TDhcp × Bool × Tserver)) => o = some (match offer l now d with | some ip => (fulD d 2 ip, true, ⟨l, now, d⟩) | none => (zD, false, ⟨l, now, d⟩))) (fun (i : Nat) (s : List Int × Int) => s.2 = (i : Int) ∧ s.1 = d.Want :: (List.range i).map fun (k : Nat) => (167772687 + (k : Int))) (fun r => r = wl d) 8 ⟨rfl, rfl⟩ ?_ ?_ ?_
  · rintro i ⟨q, i'⟩ hi ⟨q0, q1⟩
    dsimp only at q0 q1
    subst q0 q1
    left
    have c : ((i : Int) < 8) := by omega
    have e1 : IntKind.u32.wrap ((i : Int) + 1) = ((i + 1 : Nat) : Int) := by rw [u32w']; omega
    have e2 : IntKind.u32.wrap (167772687 + (i : Int)) = 167772687 + (i : Int) := by rw [u32w']; omega
    simp only [c, decide_true, if_true, e1, e2]
    rw [app_k _ _ (by simp; omega), Option.bind_some]
    refine ⟨_, rfl, rfl, ?_⟩
    show (d.Want :: (List.range i).map fun (k : Nat) => (167772687 + (k : Int))) ++ [167772687 + (i : Int)] = _
    rw [List.range_succ, List.map_append]; rfl
  · rintro ⟨q, i'⟩ ⟨q0, q1⟩
    dsimp only at q0 q1
    subst q0 q1
    have c : ¬ (((8 : Nat) : Int) < 8) := by decide
    simp only [c, decide_false, Bool.false_eq_true, if_false]
    exact ⟨_, rfl, rfl⟩
  · rintro z rfl
    unfold offer
    cases hh : hold l now (fun x => decide (x.Mac = d.Mac)) with
    | some y =>
      simp only [Option.isSome_some, Bool.not_true, Bool.false_eq_true, if_false, Option.bind_some, Option.map_some, Option.getD_some]
      rw [full_is _ _ _ (by show d.Mac.length ≤ _; omega)]; rfl
    | none =>
      simp only [Option.isSome_none, Bool.not_false, if_true]
      have hwl : ∀ x ∈ wl d, 0 ≤ x ∧ x < 4294967296 := fun x hx => by
        unfold wl at hx
        rcases List.mem_cons.1 hx with rfl | hx
        · exact hw
        · obtain ⟨k, hk, rfl⟩ := List.mem_map.1 hx
          have := List.mem_range.1 hk
          omega
      have hWl : (wl d).length ≤ 4611686018427387904 := by simp [wl]
      generalize wl d = W at hwl hWl ⊢
      unfold lease_first_uint32_at_lease_server_free.f slices_IndexFunc_s_uint32_uint32_at_lease_server_free.f
      obtain ⟨k, hk, h1, h2, hlp⟩ := find_run (B := fun s1 : Int => (if decide (s1 < (W.length : Int)) = true then (idx W s1).bind fun x1 => (lease_server_free.f ⟨l, now, d⟩ x1).bind fun r1 => (if r1 = true then some (.inr (.inr (s1))) else some (.inl (IntKind.i64.wrap (s1 + 1)))) else some (.inr (.inl (())))))
        (fun i => if h : i < W.length then fb l now W[i] else false) W.length (fun i => (i : Int)) (fun i => if i < W.length then (.inr (i : Int) : Unit ⊕ Int) else .inl ())
        (fun i hi hf => by
          rw [dif_pos hi] at hf
          have c : ((i : Int) < (W.length : Int)) := by omega
          simp only [c, decide_true, if_true, ix W i hi, Option.bind_some, free_is l hg hl now d _ (hwl _ (List.getElem_mem hi)), hf, Bool.false_eq_true, if_false]
          rw [stepw hi (by omega)])
        (fun i hi hf => by
          rw [dif_pos hi] at hf
          have c : ((i : Int) < (W.length : Int)) := by omega
          simp only [c, decide_true, if_true, ix W i hi, Option.bind_some, free_is l hg hl now d _ (hwl _ (List.getElem_mem hi)), hf]
          rw [if_pos hi])
        (by simp)
      rw [show loop _ (0 : Int) = _ from hlp, Option.bind_some]
      have hn : ∀ i (hi : i < W.length), i < k → fb l now W[i] = false := fun i hi hik => by
        have := h1 i hik
        rwa [dif_pos hi] at this
      by_cases ck : k < W.length
      · rw [if_pos ck]
        have hhk := h2 ck
        rw [dif_pos ck] at hhk
        have hf := find_at (fb l now) W k ck hn hhk
        rw [hf]
        have c3 : ¬ ((k : Int) < 0) := by omega
        simp only [Sum.elim_inr, Option.bind_some, c3, decide_false, Bool.false_eq_true, if_false, ix W k ck, Bool.not_true]
        rw [full_is _ _ _ (by show d.Mac.length ≤ _; omega)]; rfl
      · rw [if_neg ck]
        have hf : W.find? (fb l now) = none := List.find?_eq_none.2 fun x hx => by
          obtain ⟨i, hi, rfl⟩ := List.getElem_of_mem hx
          rw [hn i hi (by omega)]; simp
        rw [hf]
        have c3 : ((-1 : Int) < 0) := by decide
        simp only [Sum.elim_inl, Option.bind_some, c3, decide_true, if_true, Bool.not_false]
        rfl
def gDhcp (d : TDhcp) : Prop := InR .i64 d.Op ∧ InR .u32 d.Xid ∧ InR .u32 d.Ci ∧ InR .u32 d.Yi ∧ (d.Mac.length ≤ maxLen ∧ ∀ z ∈ d.Mac, InR .u8 z) ∧ InR .i64 d.Type_ ∧ InR .u32 d.Want ∧ InR .u32 d.Server ∧ InR .u32 d.Lease ∧ InR .u32 d.Mask ∧ InR .u32 d.Router ∧ InR .u32 d.Dns
theorem rel_is (l : List TLease) (hl : l.length ≤ 100000) (now : Int) (d : TDhcp) : lease_server_release.f ⟨l, now, d⟩ = some (zD, false, ⟨l.filter (fun x => !(decide (x.Ip = d.Ci) && decide (x.Mac = d.Mac))), now, d⟩) := by
  unfold lease_server_release.f
  dsimp only
  rw [cloneL _ hl, Option.bind_some, delR_is _ _ hl, Option.bind_some]
  rfl
/-- What may come of a message. -/
def After (l : List TLease) (now : Int) (d : TDhcp) (l' : List TLease) (a : TDhcp) (ok : Bool) : Prop :=
  (l' = l ∧ (ok = true → a.Type_ ≠ 5)) ∨ (POk d ∧ Cks l ∧ Tk now ∧ free l now d ∧ l' = putr l now d ∧ a = fulD d 5 (wanted d) ∧ ok = true) ∨ (Cks l ∧ l' = l.filter (fun x => !(decide (x.Ip = d.Ci) && decide (x.Mac = d.Mac))) ∧ ok = false)
theorem wanted_r {d : TDhcp} (hd : gDhcp d) : 0 ≤ wanted d ∧ wanted d < 4294967296 := by
  unfold wanted
  split
  · exact inrU32 hd.2.2.1
  · exact inrU32 hd.2.2.2.2.2.2.1
theorem serve_k (l : List TLease) (hg : ∀ x ∈ l, gLease x) (hl : l.length ≤ 10000) (now : Int) (d : TDhcp) (hd : gDhcp d) : ∃ l' a ok, lease_Serve.f l now d = some (l', a, ok) ∧ After l now d l' a ok := by
  unfold lease_Serve.f
  obtain ⟨b, hb⟩ := put_k d
  rw [hb, Option.bind_some, check_is l hg, Option.bind_some, tick_is, Option.bind_some]
  by_cases hp : POk d
  case neg =>
    rw [if_neg hp]
    exact ⟨l, zD, false, rfl, .inl ⟨rfl, fun e => by cases e⟩⟩
  rw [if_pos hp]
  by_cases ho : d.Op = 1
  case neg => simp only [ho, decide_true, decide_false, Bool.not_true, Bool.not_false, Bool.false_eq_true, if_false, if_true, Option.bind_some]; exact ⟨l, zD, false, rfl, .inl ⟨rfl, fun e => by cases e⟩⟩
  by_cases hc : Cks l
  case neg => simp only [ho, hc, decide_true, decide_false, Bool.not_true, Bool.not_false, Bool.false_eq_true, if_false, if_true, Option.bind_some]; exact ⟨l, zD, false, rfl, .inl ⟨rfl, fun e => by cases e⟩⟩
  by_cases hn : Tk now
  case neg => simp only [ho, hc, hn, decide_true, decide_false, Bool.not_true, Bool.not_false, Bool.false_eq_true, if_false, if_true, Option.bind_some]; exact ⟨l, zD, false, rfl, .inl ⟨rfl, fun e => by cases e⟩⟩
  simp only [ho, hc, hn, decide_true, Bool.not_true, Bool.false_eq_true, if_false, Option.bind_some, lt]
  have hm := hp.2.1
  by_cases t1 : d.Type_ = 1
  · simp only [t1, decide_true, if_true]
    rw [disc_is l hg (by omega) now d (inrU32 hd.2.2.2.2.2.2.1) hm]
    cases offer l now d with
    | some ip => exact ⟨_, _, _, rfl, .inl ⟨rfl, fun _ => by show (2 : Int) ≠ 5; decide⟩⟩
    | none => exact ⟨_, _, _, rfl, .inl ⟨rfl, fun e => by cases e⟩⟩
  by_cases t3 : d.Type_ = 3
  · have n1 : ¬ ((3 : Int) = 1) := by decide
    simp only [t3, n1, decide_true, decide_false, Bool.false_eq_true, if_false, if_true]
    by_cases hs : d.Server = 0 ∨ d.Server = 167772674
    · by_cases hf : free l now d
      · rw [req_ack l now d hg hl hm hs (wanted_r hd) hn hf _ (putr_sort l now d hc)]
        exact ⟨_, _, _, rfl, .inr (.inl ⟨hp, hc, hn, hf, rfl, rfl, rfl⟩)⟩
      · rw [req_nak l now d hg (by omega) hm hs (wanted_r hd) hf]
        exact ⟨_, _, _, rfl, .inl ⟨rfl, fun _ => by show (6 : Int) ≠ 5; decide⟩⟩
    · rw [req_not ⟨l, now, d⟩ ⟨fun e => hs (.inl e), fun e => hs (.inr e)⟩]
      exact ⟨_, _, _, rfl, .inl ⟨rfl, fun e => by cases e⟩⟩
  by_cases t7 : d.Type_ = 7
  · have n1 : ¬ ((7 : Int) = 1) := by decide
    have n3 : ¬ ((7 : Int) = 3) := by decide
    simp only [t7, n1, n3, decide_true, decide_false, Bool.false_eq_true, if_false, if_true]
    rw [rel_is l (by omega) now d]
    exact ⟨_, _, _, rfl, .inr (.inr ⟨hc, rfl, rfl⟩)⟩
  simp only [t1, t3, t7, decide_false, Bool.false_eq_true, if_false]
  exact ⟨_, _, _, rfl, .inl ⟨rfl, fun e => by cases e⟩⟩
end Go.Proofs.Ytmmaojclfggioaa.S
