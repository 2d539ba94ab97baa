/- What the law LeaseOffers answers: true; what is offered may be had. Its conditions: what the data are. -/
import Derived.Test.YtmmaojclfggioaaPureLeaseAll
namespace Go.Proofs.Ytmmaojclfggioaa.S
open Go Go.SL
set_option linter.unusedVariables false
set_option linter.unusedSimpArgs false
theorem serve_disc (l : List TLease) (now : Int) (d : TDhcp) (hg : ∀ x ∈ l, gLease x) (hp : POk d) (ho : d.Op = 1) (hc : Cks l) (hn : Tk now) (ht : d.Type_ = 1) (hw : 0 ≤ d.Want ∧ d.Want < 4294967296) : lease_Serve.f l now d = some (match offer l now d with | some ip => (l, fulD d 2 ip, true) | none => (l, zD, false)) := by
  unfold lease_Serve.f
  obtain ⟨b, hb⟩ := put_k d
  rw [if_pos hp] at hb
  have h8 := hc.1
  rw [hb, Option.bind_some, check_is l hg, Option.bind_some, tick_is, Option.bind_some]
  simp only [ho, hc, hn, ht, decide_true, Bool.not_true, Bool.false_eq_true, if_false, if_true, Option.bind_some, lt]
  rw [disc_is l hg (by omega) now d hw hp.2.1]
  cases offer l now d <;> rfl
theorem serve_no (l : List TLease) (now : Int) (d : TDhcp) (hg : ∀ x ∈ l, gLease x) (hc : Cks l) (h : ¬ (POk d ∧ d.Op = 1 ∧ Tk now)) : lease_Serve.f l now d = some (l, zD, false) := by
  unfold lease_Serve.f
  obtain ⟨b, hb⟩ := put_k d
  rw [hb, Option.bind_some, check_is l hg, Option.bind_some, tick_is, Option.bind_some]
  by_cases hp : POk d
  case neg => rw [if_neg hp]; rfl
  rw [if_pos hp]
  by_cases ho : d.Op = 1
  case neg => simp only [ho, decide_true, decide_false, Bool.not_true, Bool.not_false, Bool.false_eq_true, if_false, if_true, Option.bind_some]; rfl
  by_cases hn : Tk now
  case neg => simp only [ho, hc, hn, decide_true, decide_false, Bool.not_true, Bool.not_false, Bool.false_eq_true, if_false, if_true, Option.bind_some]; rfl
  exact absurd ⟨hp, ho, hn⟩ h
theorem offer_ok {l : List TLease} {now : Int} {d : TDhcp} {ip : Int} (hc : Cks l) (h : offer l now d = some ip) : Pool ip ∧ ∀ y, hold l now (fun x => decide (x.Ip = ip)) = some y → y.Mac = d.Mac := by
  unfold offer at h
  cases hh : hold l now (fun x => decide (x.Mac = d.Mac)) with
  | some y =>
    rw [hh] at h
    have h' : y.Ip = ip := Option.some.inj h
    obtain ⟨_, _, hm, _, hp⟩ := hold_ck hh
    subst h'
    refine ⟨(hc.2.1 y hm).1, fun z hz => ?_⟩
    obtain ⟨_, _, hm2, _, hp2⟩ := hold_ck hz
    rw [hc.2.uniq hm2 hm (.inl (of_decide_eq_true hp2))]
    exact of_decide_eq_true hp
  | none =>
    rw [hh] at h
    have hf : fb l now ip = true := List.find?_some h
    unfold fb at hf
    rw [Bool.and_eq_true, decide_eq_true_eq] at hf
    refine ⟨hf.1, fun y hy => ?_⟩
    rw [hy] at hf
    exact absurd hf.2 (by simp)
theorem leaseOffers (l : List TLease) (gl : l.length ≤ maxLen ∧ ∀ z ∈ l, gLease z) (now : Int) (hnow : InR .i64 now) (d : TDhcp) (hd : gDhcp d) : law25_LeaseOffers.f l now d = some true := by
  unfold law25_LeaseOffers.f
  have hg := gl.2
  have hw := inrU32 hd.2.2.2.2.2.2.1
  by_cases c1 : 40 < (l.length : Int)
  · simp only [c1, decide_true, if_true, Option.bind_some, heads]
  rw [if_neg (by simpa using c1), check_is l hg, Option.bind_some]
  by_cases hc : Cks l
  case neg => simp only [hc, decide_false, Bool.not_false, if_true, Option.bind_some, heads]
  by_cases ht : d.Type_ = 1
  case neg => simp only [hc, ht, decide_true, decide_false, Bool.not_true, Bool.not_false, Bool.false_eq_true, if_false, if_true, Option.bind_some, heads]
  simp only [hc, ht, decide_true, Bool.not_true, Bool.false_eq_true, if_false, Option.bind_some]
  have h8 := hc.1
  have hz : ref20_Same.f zD ⟨0, 0, 0, 0, [], 0, 0, 0, 0, 0, 0, 0⟩ = some true := by
    unfold ref20_Same.f zD lt
    simp
  have none_case : lease_Serve.f l now d = some (l, zD, false) → ((lease_Serve.f l now d).bind fun r3 => (ref25_Same.f r3.1 l).bind fun r4 => (if (!r4) = true then some (false) else (if (!r3.2.2) = true then ((ref20_Same.f r3.2.1 (⟨0, 0, 0, 0, [], 0, 0, 0, 0, 0, 0, 0⟩ : TDhcp)).bind fun r5 => (if r5 = true then (law25_heads.f).bind fun r6 => some (r6) else some (false))).bind (fun j2 => some (j2)) else (lease_Serve.f l now (⟨1, d.Xid, 0, 0, d.Mac, 3, r3.2.1.Yi, r3.2.1.Server, 0, 0, 0, 0⟩ : TDhcp)).bind fun r7 => (lease_Serve.f r7.1 now d).bind fun r8 => ((if r7.2.2 = true then (if decide (r7.2.1.Type_ = 5) = true then (if decide (r7.2.1.Yi = r3.2.1.Yi) = true then (if decide (r7.2.1.Xid = d.Xid) = true then (if r8.2.2 = true then (if decide (r8.2.1.Yi = r3.2.1.Yi) = true then (law25_heads.f).bind fun r9 => some (r9) else some (false)) else some (false)) else some (false)) else some (false)) else some (false)) else some (false))).bind (fun j3 => some (j3))))) = some true := fun h => by
    rw [h, Option.bind_some]
    simp only [same_is l (by omega), Option.bind_some, Bool.not_true, Bool.not_false, Bool.false_eq_true, if_false, if_true, hz, heads]
  by_cases hok : POk d ∧ d.Op = 1 ∧ Tk now
  case neg => exact none_case (serve_no l now d hg hc hok)
  obtain ⟨hp, ho, hn⟩ := hok
  have hs := serve_disc l now d hg hp ho hc hn ht hw
  cases hof : offer l now d with
  | none => rw [hof] at hs; exact none_case hs
  | some ip =>
    rw [hof] at hs
    obtain ⟨hpo, hfr⟩ := offer_ok hc hof
    have hm := hp.2.1
    have hip0 : ¬ ip = 0 := by have := hpo.1; omega
    obtain ⟨r, hr⟩ : ∃ r : TDhcp, r = (⟨1, d.Xid, 0, 0, d.Mac, 3, ip, 167772674, 0, 0, 0, 0⟩ : TDhcp) := ⟨_, rfl⟩
    have hrm : r.Mac = d.Mac := by rw [hr]
    have hrx : r.Xid = d.Xid := by rw [hr]
    have hwt : wanted r = ip := by rw [hr]; exact if_neg hip0
    have hipr : 0 ≤ ip ∧ ip < 4294967296 := by have := hpo.1; have := hpo.2; omega
    have hm2 : r.Mac.length = 6 := by rw [hrm]; exact hm
    have hp2 : POk r := ⟨by rw [hr]; exact (by decide : (1 : Int) ≤ 1 ∧ (1 : Int) ≤ 2), hm2, by rw [hr]; exact (by decide : (1 : Int) ≤ 3 ∧ (3 : Int) ≤ 8)⟩
    have hf : free l now r := ⟨by rw [hwt]; exact hpo, fun y hy => by rw [hwt] at hy; rw [hrm]; exact hfr y hy⟩
    have s2 : lease_Serve.f l now r = some (putr l now r, fulD r 5 ip, true) := by
      rw [serve_req l now r hg hp2 (by rw [hr]) hc hn (by rw [hr]), req_ack l now r hg (by omega) hm2 (.inr (by rw [hr])) (by rw [hwt]; exact hipr) hn hf _ (putr_sort l now r hc), hwt]
      rfl
    have c2 := putr_ck hc hn (show r.Mac.length = 6 by rw [hrm]; exact hm) hf.1
    have g2 := putr_g hg (show r.Mac.length ≤ maxLen ∧ ∀ z ∈ r.Mac, InR .u8 z by rw [hrm]; exact hd.2.2.2.2.1) hf.1 hn
    have hx : lease1 now r ∈ putr l now r := putr_mem.2 (.inl rfl)
    have hu : now < (lease1 now r).Until := by show now < now + 3600; omega
    have e1 : hold (putr l now r) now (fun x => decide (x.Mac = d.Mac)) = some (lease1 now r) := hold_of c2 hn hx hu (decide_eq_true hrm) fun y hy hy2 => c2.2.uniq hy hx (.inr ((of_decide_eq_true hy2).trans hrm.symm))
    have s3 := serve_disc (putr l now r) now d g2 hp ho c2 hn ht hw
    have ho3 : offer (putr l now r) now d = some ip := by
      unfold offer
      rw [e1]
      show some (wanted r) = _
      rw [hwt]
    rw [ho3] at s3
    rw [hs, Option.bind_some]
    have eY : (fulD d 2 ip).Yi = ip := rfl
    have eS : (fulD d 2 ip).Server = 167772674 := rfl
    have eT : (fulD r 5 ip).Type_ = 5 := rfl
    have eY2 : (fulD r 5 ip).Yi = ip := rfl
    have eX : (fulD r 5 ip).Xid = d.Xid := hrx
    simp only [same_is l (by omega), Option.bind_some, Bool.not_true, Bool.false_eq_true, if_false, eY, eS]
    rw [← hr, s2, Option.bind_some]
    simp only
    rw [s3, Option.bind_some]
    simp only [eT, eY2, eX, eY, decide_true, if_true, heads, Option.bind_some]
end Go.Proofs.Ytmmaojclfggioaa.S
