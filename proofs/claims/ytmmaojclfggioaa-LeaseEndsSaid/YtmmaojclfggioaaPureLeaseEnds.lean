/- What the law LeaseEnds answers: true; an address is another's as soon as its time is over. Its conditions: what the data are. -/
import Derived.Test.YtmmaojclfggioaaPureLeaseServe
namespace Go.Proofs.Ytmmaojclfggioaa.S
open Go Go.SL
set_option linter.unusedVariables false
set_option linter.unusedSimpArgs false
theorem sort1 (x : TLease) : slices_SortFunc_s_api_Lease_api_Lease_at_lease_server_request_2.f [x] = some [x] := slices_SortFunc_s_api_Lease_api_Lease_at_lease_server_request_2.le 50 [x] _ (by kernel_rfl)
theorem cks1 (x : TLease) (h : Lok x) : Cks [x] := ⟨by simp, fun y hy => by rw [List.mem_singleton.1 hy]; exact h, List.pairwise_singleton _ _⟩
theorem cks0 : Cks [] := ⟨by simp, fun y hy => (by cases hy), List.Pairwise.nil⟩
theorem leaseEnds (a : List Int) (ga : a.length ≤ maxLen ∧ ∀ z ∈ a, InR .u8 z) (b : List Int) (gb : b.length ≤ maxLen ∧ ∀ z ∈ b, InR .u8 z) (p : Int) (hp : InR .i64 p) (now : Int) (hn : InR .i64 now) (later : Int) (hlt : InR .i64 later) : law25_LeaseEnds.f a b p now later = some true := by
  unfold law25_LeaseEnds.f ref01_Same.f
  obtain ⟨j, hj, hj2⟩ : ∃ j, (if (!decide ((a.length : Int) = 6)) = true then some (true) else (if (!decide ((b.length : Int) = 6)) = true then some (true) else (lt (decide (a = b)) fun y1 => some (y1)).bind fun r1 => (if r1 = true then some (true) else (if decide (p < 0) = true then some (true) else (if decide (8 ≤ p) = true then some (true) else (if decide (now < 0) = true then some (true) else (if decide (549755813888 < now) = true then some (true) else (if decide (later < 0) = true then some (true) else some (decide (7200 < later)))))))))) = some j ∧ (j = false → a.length = 6 ∧ b.length = 6 ∧ a ≠ b ∧ (0 ≤ p ∧ p < 8) ∧ (0 ≤ now ∧ now ≤ 549755813888) ∧ 0 ≤ later ∧ later ≤ 7200) := by
    simp only [lt, Option.bind_some]
    by_cases c1 : (a.length : Int) = 6
    case neg => exact ⟨true, by simp only [c1, decide_false, Bool.not_false, if_true], fun h => by cases h⟩
    by_cases c2 : (b.length : Int) = 6
    case neg => exact ⟨true, by simp only [c1, c2, decide_true, decide_false, Bool.not_true, Bool.not_false, Bool.false_eq_true, if_false, if_true], fun h => by cases h⟩
    by_cases c3 : a = b
    · exact ⟨true, by simp only [c1, c2, c3, decide_true, Bool.not_true, Bool.false_eq_true, if_false, if_true], fun h => by cases h⟩
    by_cases c4 : p < 0
    · exact ⟨true, by simp only [c1, c2, c3, c4, decide_true, decide_false, Bool.not_true, Bool.false_eq_true, if_false, if_true], fun h => by cases h⟩
    by_cases c5 : 8 ≤ p
    · exact ⟨true, by simp only [c1, c2, c3, c4, c5, decide_true, decide_false, Bool.not_true, Bool.false_eq_true, if_false, if_true], fun h => by cases h⟩
    by_cases c6 : now < 0
    · exact ⟨true, by simp only [c1, c2, c3, c4, c5, c6, decide_true, decide_false, Bool.not_true, Bool.false_eq_true, if_false, if_true], fun h => by cases h⟩
    by_cases c7 : 549755813888 < now
    · exact ⟨true, by simp only [c1, c2, c3, c4, c5, c6, c7, decide_true, decide_false, Bool.not_true, Bool.false_eq_true, if_false, if_true], fun h => by cases h⟩
    by_cases c8 : later < 0
    · exact ⟨true, by simp only [c1, c2, c3, c4, c5, c6, c7, c8, decide_true, decide_false, Bool.not_true, Bool.false_eq_true, if_false, if_true], fun h => by cases h⟩
    exact ⟨decide (7200 < later), by simp only [c1, c2, c3, c4, c5, c6, c7, c8, decide_true, decide_false, Bool.not_true, Bool.false_eq_true, if_false], fun h => ⟨by omega, by omega, c3, by omega, by omega, by omega, by have := of_decide_eq_false h; omega⟩⟩
  rw [hj, Option.bind_some]
  cases j with
  | true => simp [heads]
  | false =>
  obtain ⟨la, lb, hne, hp8, hnw, hl0, hl1⟩ := hj2 rfl
  have eip : IntKind.u32.wrap (IntKind.i64.wrap (167772687 + p)) = 167772687 + p := by rw [i64w (by omega) (by omega), u32w']; omega
  have ew : IntKind.i64.wrap (now + later) = now + later := i64w (by omega) (by omega)
  rw [if_neg (by simp)]
  simp only [lt, eip, ew]
  generalize hq : 167772687 + p = ip
  have hpool : Pool ip := ⟨by omega, by omega⟩
  have hipr : 0 ≤ ip ∧ ip < 4294967296 := by have := hpool.1; have := hpool.2; omega
  have hw : ∀ m : List Int, wanted (⟨1, 0, 0, 0, m, 3, ip, 0, 0, 0, 0, 0⟩ : TDhcp) = ip := fun m => if_neg (by show ¬ ip = 0; have := hpool.1; omega)
  have hpo : ∀ m : List Int, m.length = 6 → POk (⟨1, 0, 0, 0, m, 3, ip, 0, 0, 0, 0, 0⟩ : TDhcp) := fun m h => ⟨(by decide : (1 : Int) ≤ 1 ∧ (1 : Int) ≤ 2), h, (by decide : (1 : Int) ≤ 3 ∧ (3 : Int) ≤ 8)⟩
  -- the first
  have s1 : lease_Serve.f [] now ⟨1, 0, 0, 0, a, 3, ip, 0, 0, 0, 0, 0⟩ = some ([⟨a, ip, now + 3600⟩], fulD ⟨1, 0, 0, 0, a, 3, ip, 0, 0, 0, 0, 0⟩ 5 ip, true) := by
    rw [serve_req [] now _ (fun x hx => by cases hx) (hpo a la) rfl cks0 ⟨by omega, by omega⟩ rfl]
    rw [req_ack [] now _ (fun x hx => by cases hx) (by simp) la (.inl rfl) (by rw [hw]; exact hipr) ⟨by omega, by omega⟩ ⟨by rw [hw]; exact hpool, fun y hy => by have := (hold_ck hy).2.2.1; cases this⟩ [lease1 now ⟨1, 0, 0, 0, a, 3, ip, 0, 0, 0, 0, 0⟩] (sort1 _)]
    unfold lease1
    rw [hw]; rfl
  rw [s1, Option.bind_some]
  dsimp only
  have gx : ∀ m : List Int, m.length = 6 → (∀ z ∈ m, InR .u8 z) → ∀ u : Int, 0 ≤ u ∧ u ≤ 1099511627776 → ∀ x ∈ [(⟨m, ip, u⟩ : TLease)], gLease x := fun m hm hz u hu x hx => by
    rw [List.mem_singleton.1 hx]
    refine ⟨⟨by rw [hm]; decide, hz⟩, ?_, ?_⟩
    · show IntKind.u32.wrap ip = ip; rw [u32w']; omega
    · show IntKind.i64.wrap u = u; exact i64w (by omega) (by omega)
  have hL : ∀ m : List Int, m.length = 6 → ∀ u : Int, 0 ≤ u ∧ u ≤ 1099511627776 → Lok ⟨m, ip, u⟩ := fun m hm u hu => ⟨hpool, hm, hu.1, hu.2⟩
  have gA := gx a la ga.2 (now + 3600) ⟨by omega, by omega⟩
  have cA := cks1 _ (hL a la (now + 3600) ⟨by omega, by omega⟩)
  have tk2 : Tk (now + later) := ⟨by omega, by omega⟩
  have hh : hold [(⟨a, ip, now + 3600⟩ : TLease)] (now + later) (fun x => decide (x.Ip = ip)) = if later < 3600 then some ⟨a, ip, now + 3600⟩ else none := by
    unfold hold
    rw [if_pos ⟨cA, tk2⟩]
    by_cases c : later < 3600
    · rw [if_pos c, List.find?_cons_of_pos (by simp; omega)]
    · rw [if_neg c, List.find?_cons_of_neg (by simp; omega)]; rfl
  by_cases c : later < 3600
  · rw [if_pos c] at hh
    have s2 : lease_Serve.f [⟨a, ip, now + 3600⟩] (now + later) ⟨1, 0, 0, 0, b, 3, ip, 0, 0, 0, 0, 0⟩ = some ([⟨a, ip, now + 3600⟩], ansD ⟨1, 0, 0, 0, b, 3, ip, 0, 0, 0, 0, 0⟩ 6, true) := by
      rw [serve_req _ _ _ gA (hpo b lb) rfl cA tk2 rfl]
      rw [req_nak _ _ _ gA (by simp) lb (.inl rfl) (by rw [hw]; exact hipr) (fun hf => hne (hf.2 _ (by rw [hw]; exact hh)))]
      rfl
    rw [s2, Option.bind_some]
    simp only [fulD, ansD, check_is _ gA, cA, c, same_is _ (show [(⟨a, ip, now + 3600⟩ : TLease)].length ≤ 100000 by simp), heads, decide_true, Bool.not_true, Bool.false_eq_true, if_false, if_true, Option.bind_some]
  · rw [if_neg c] at hh
    have hf : free [(⟨a, ip, now + 3600⟩ : TLease)] (now + later) ⟨1, 0, 0, 0, b, 3, ip, 0, 0, 0, 0, 0⟩ := ⟨by rw [hw]; exact hpool, fun y hy => by rw [hw, hh] at hy; cases hy⟩
    have ho : others [(⟨a, ip, now + 3600⟩ : TLease)] ⟨1, 0, 0, 0, b, 3, ip, 0, 0, 0, 0, 0⟩ = [] := by
      unfold others
      rw [hw]; simp
    have s2 : lease_Serve.f [⟨a, ip, now + 3600⟩] (now + later) ⟨1, 0, 0, 0, b, 3, ip, 0, 0, 0, 0, 0⟩ = some ([⟨b, ip, now + later + 3600⟩], fulD ⟨1, 0, 0, 0, b, 3, ip, 0, 0, 0, 0, 0⟩ 5 ip, true) := by
      rw [serve_req _ _ _ gA (hpo b lb) rfl cA tk2 rfl]
      rw [req_ack _ _ _ gA (by simp) lb (.inl rfl) (by rw [hw]; exact hipr) ⟨by omega, by omega⟩ hf [lease1 (now + later) ⟨1, 0, 0, 0, b, 3, ip, 0, 0, 0, 0, 0⟩] (by rw [ho]; exact sort1 _)]
      unfold lease1
      rw [hw]; rfl
    have gB := gx b lb gb.2 (now + later + 3600) ⟨by omega, by omega⟩
    have cB := cks1 _ (hL b lb (now + later + 3600) ⟨by omega, by omega⟩)
    have hh2 : hold [(⟨b, ip, now + later + 3600⟩ : TLease)] (now + later) (fun x => decide (x.Ip = ip)) = some ⟨b, ip, now + later + 3600⟩ := by
      unfold hold
      rw [if_pos ⟨cB, tk2⟩, List.find?_cons_of_pos (by simp; omega)]
    have ow := owner_is _ gB (now + later) ip (by simp)
    rw [hh2] at ow
    rw [s2, Option.bind_some]
    simp only [fulD, check_is _ gB, cB, c, ow, heads, decide_true, decide_false, Bool.not_true, Bool.false_eq_true, if_false, if_true, Option.bind_some, Option.map_some, Option.getD_some, Option.isSome_some, List.length_singleton]
    rfl
end Go.Proofs.Ytmmaojclfggioaa.S
