/- What a message makes of a row of leases; each states its own conditions. -/
import Derived.Test.YtmmaojclfggioaaPureLeaseCheck
namespace Go.Proofs.Ytmmaojclfggioaa.S
open Go Go.SL
set_option linter.unusedVariables false
set_option linter.unusedSimpArgs false
def zD : TDhcp := ⟨0, 0, 0, 0, [], 0, 0, 0, 0, 0, 0, 0⟩
def ansD (d : TDhcp) (k : Int) : TDhcp := ⟨2, d.Xid, 0, 0, d.Mac, k, 0, 167772674, 0, 0, 0, 0⟩
def fulD (d : TDhcp) (k ip : Int) : TDhcp := ⟨2, d.Xid, 0, ip, d.Mac, k, 0, 167772674, 3600, 4294967040, 167772674, 167772675⟩
theorem answer_is (s : Tserver) (k : Int) (h : s.d.Mac.length ≤ 100000) : lease_server_answer.f s k = some (ansD s.d k, s) := by
  unfold lease_server_answer.f
  rw [cloneB _ h]; rfl
theorem full_is (s : Tserver) (k ip : Int) (h : s.d.Mac.length ≤ 100000) : lease_server_full.f s k ip = some (fulD s.d k ip, s) := by
  unfold lease_server_full.f
  rw [answer_is _ _ h]; rfl
theorem or_is (a b : Int) : cmp_Or_uint32.f [a, b] = some (if a = 0 then b else a) := by
  unfold cmp_Or_uint32.f
  by_cases c1 : a = 0
  · by_cases c2 : b = 0
    · rw [loop_in (s' := (1 : Int)) (by simp [idx, c1]; decide), loop_in (s' := (2 : Int)) (by simp [idx, c2]; decide), loop_out (r := (.inl () : Unit ⊕ Int)) (by simp), c1, c2]; rfl
    · rw [loop_in (s' := (1 : Int)) (by simp [idx, c1]; decide), loop_out (r := (.inr b : Unit ⊕ Int)) (by simp [idx, c2]), if_pos c1]; rfl
  · rw [loop_out (r := (.inr a : Unit ⊕ Int)) (by simp [idx, c1]), if_neg c1]; rfl
/-- The address that is asked for. -/
def wanted (d : TDhcp) : Int := if d.Want = 0 then d.Ci else d.Want
/-- May it be had? -/
def free (l : List TLease) (now : Int) (d : TDhcp) : Prop := Pool (wanted d) ∧ ∀ y, hold l now (fun x => decide (x.Ip = wanted d)) = some y → y.Mac = d.Mac
def lease1 (now : Int) (d : TDhcp) : TLease := ⟨d.Mac, wanted d, now + 3600⟩
def others (l : List TLease) (d : TDhcp) : List TLease := l.filter fun x => !(decide (x.Ip = wanted d) || decide (x.Mac = d.Mac))
theorem req_not (s : Tserver) (h : ¬ s.d.Server = 0 ∧ ¬ s.d.Server = 167772674) : lease_server_request.f s = some (zD, false, s) := by
  unfold lease_server_request.f
  simp only [h.1, h.2, decide_false, Bool.not_false, if_true, Option.bind_some]
  rfl
theorem req_nak (l : List TLease) (now : Int) (d : TDhcp) (hg : ∀ x ∈ l, gLease x) (hl : l.length ≤ 100000) (hm : d.Mac.length = 6) (hs : d.Server = 0 ∨ d.Server = 167772674) (hr : 0 ≤ wanted d ∧ wanted d < 4294967296) (hf : ¬ free l now d) : lease_server_request.f ⟨l, now, d⟩ = some (ansD d 6, true, ⟨l, now, d⟩) := by
  unfold lease_server_request.f
  have e1 : (if (!decide (d.Server = 0)) = true then some (!decide (d.Server = 167772674)) else some false) = some false := by
    rcases hs with h | h
    · simp [h]
    · simp [h]
  dsimp only
  rw [e1, Option.bind_some, if_neg (by simp), or_is, Option.bind_some]
  have ew : (if d.Want = 0 then d.Ci else d.Want) = wanted d := rfl
  rw [ew, owner_is l hg now _ hl, Option.bind_some, pool_is _ hr, Option.bind_some]
  by_cases c1 : Pool (wanted d)
  · simp only [c1, decide_true, Bool.not_true, Bool.false_eq_true, if_false]
    cases hh : hold l now (fun x => decide (x.Ip = wanted d)) with
    | none => exact absurd ⟨c1, fun y hy => by rw [hh] at hy; cases hy⟩ hf
    | some y =>
      have hne : ¬ y.Mac = d.Mac := fun e => hf ⟨c1, fun z hz => by rw [hh] at hz; cases hz; exact e⟩
      unfold bytes_Equal.f
      simp only [Option.isSome_some, if_true, Option.map_some, Option.getD_some, lt, hne, decide_false, Option.bind_some, Bool.not_false]
      rw [answer_is _ _ (by show d.Mac.length ≤ _; omega)]; rfl
  · simp only [c1, decide_false, Bool.not_false, if_true, Option.bind_some]
    rw [answer_is _ _ (by show d.Mac.length ≤ _; omega)]; rfl
theorem req_ack (l : List TLease) (now : Int) (d : TDhcp) (hg : ∀ x ∈ l, gLease x) (hl : l.length ≤ 10000) (hm : d.Mac.length = 6) (hs : d.Server = 0 ∨ d.Server = 167772674) (hr : 0 ≤ wanted d ∧ wanted d < 4294967296) (hn : 0 ≤ now ∧ now ≤ 1099511624176) (hf : free l now d) (S : List TLease) (hS : slices_SortFunc_s_api_Lease_api_Lease_at_lease_server_request_2.f (others l d ++ [lease1 now d]) = some S) : lease_server_request.f ⟨l, now, d⟩ = some (fulD d 5 (wanted d), true, ⟨S, now, d⟩) := by
  unfold lease_server_request.f
  have e1 : (if (!decide (d.Server = 0)) = true then some (!decide (d.Server = 167772674)) else some false) = some false := by
    rcases hs with h | h
    · simp [h]
    · simp [h]
  dsimp only
  rw [e1, Option.bind_some, if_neg (by simp), or_is, Option.bind_some]
  have ew : (if d.Want = 0 then d.Ci else d.Want) = wanted d := rfl
  rw [ew, owner_is l hg now _ (by omega), Option.bind_some, pool_is _ hr, Option.bind_some]
  obtain ⟨f1, f2⟩ := hf
  simp only [f1, decide_true, Bool.not_true, Bool.false_eq_true, if_false]
  have e2 : (if (hold l now (fun x => decide (x.Ip = wanted d))).isSome = true then (bytes_Equal.f (((hold l now (fun x => decide (x.Ip = wanted d))).map (·.Mac)).getD []) d.Mac).bind fun r4 => some (!r4) else some false) = some false := by
    cases hh : hold l now (fun x => decide (x.Ip = wanted d)) with
    | none => rfl
    | some y =>
      have := f2 y hh
      unfold bytes_Equal.f
      simp [lt, this]
  rw [e2, Option.bind_some, if_neg (by simp), cloneL _ (by omega), Option.bind_some, delQ_is _ _ _ (by omega), Option.bind_some]
  have e3 : l.filter (kpQ (wanted d) ⟨l, now, d⟩) = others l d := rfl
  rw [e3]
  dsimp only
  have e4 : IntKind.i64.wrap (now + 3600) = now + 3600 := i64w (by omega) (by omega)
  have hfl : (others l d).length ≤ l.length := List.length_filter_le _ _
  rw [cloneB _ (by omega), Option.bind_some, e4, app_k _ _ (by simp; omega), Option.bind_some]
  rw [show slices_SortFunc_s_api_Lease_api_Lease_at_lease_server_request_2.f (others l d ++ [⟨d.Mac, wanted d, now + 3600⟩]) = some S from hS, Option.bind_some, full_is _ _ _ (by show d.Mac.length ≤ _; omega)]
  rfl
theorem serve_req (l : List TLease) (now : Int) (d : TDhcp) (hg : ∀ x ∈ l, gLease x) (hp : POk d) (ho : d.Op = 1) (hc : Cks l) (hn : Tk now) (ht : d.Type_ = 3) : lease_Serve.f l now d = (lease_server_request.f ⟨l, now, d⟩).bind fun r5 => some (r5.2.2.l, r5.1, r5.2.1) := by
  unfold lease_Serve.f
  obtain ⟨b, hb⟩ := put_k d
  rw [if_pos hp] at hb
  have n1 : ¬ ((3 : Int) = 1) := by decide
  rw [hb, Option.bind_some, check_is l hg, Option.bind_some, tick_is, Option.bind_some]
  simp only [ho, hc, hn, ht, n1, decide_true, decide_false, Bool.not_true, Bool.false_eq_true, if_false, if_true, Option.bind_some, lt]
end Go.Proofs.Ytmmaojclfggioaa.S
