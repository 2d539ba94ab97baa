/- What is offered; each states its own conditions. -/
import Derived.Test.YtmmaojclfggioaaPureLeaseAll
import Derived.Test.YtmmaojclfggioaaPureLeaseSame
namespace Go.Proofs.Ytmmaojclfggioaa.S
open Go Go.SL
set_option linter.unusedVariables false
set_option linter.unusedSimpArgs false
theorem serve_disc (l : List TLease) (now : Int) (d : TDhcp) (hg : ∀ x ∈ l, gLease x) (hp : POk d) (ho : d.Op = 1) (hc : Cks l) (hn : Tk now) (ht : d.Type_ = 1) (hw : 0 ≤ d.Want ∧ d.Want < 4294967296) : lease_Serve.f l now d = some (match offer l now d with | some ip => (l, fulD d 2 ip, true) | none => (l, zD, false)) := by
  unfold lease_Serve.f
  obtain ⟨b, hb⟩ := put_k d
  rw [if_pos hp] at hb
  have h8 := hc.1
  rw [hb, Option.bind_some, check_is l hg, Option.bind_some, tick_is, Option.bind_some]
  simp only [ho, hc, hn, ht, decide_true, Bool.not_true, Bool.false_eq_true, if_false, if_true, Option.bind_some, lt]
  rw [disc_is l hg (by omega) now d hw hp.2.1]
  cases offer l now d <;> rfl
theorem serve_no (l : List TLease) (now : Int) (d : TDhcp) (hg : ∀ x ∈ l, gLease x) (hc : Cks l) (h : ¬ (POk d ∧ d.Op = 1 ∧ Tk now)) : lease_Serve.f l now d = some (l, zD, false) := by
  unfold lease_Serve.f
  obtain ⟨b, hb⟩ := put_k d
  rw [hb, Option.bind_some, check_is l hg, Option.bind_some, tick_is, Option.bind_some]
  by_cases hp : POk d
  case neg => rw [if_neg hp]; rfl
  rw [if_pos hp]
  by_cases ho : d.Op = 1
  case neg => simp only [ho, decide_true, decide_false, Bool.not_true, Bool.not_false, Bool.false_eq_true, if_false, if_true, Option.bind_some]; rfl
  by_cases hn : Tk now
  case neg => simp only [ho, hc, hn, decide_true, decide_false, Bool.not_true, Bool.not_false, Bool.false_eq_true, if_false, if_true, Option.bind_some]; rfl
  exact absurd ⟨hp, ho, hn⟩ h
theorem offer_ok {l : List TLease} {now : Int} {d : TDhcp} {ip : Int} (hc : Cks l) (h : offer l now d = some ip) : Pool ip ∧ ∀ y, hold l now (fun x => decide (x.Ip = ip)) = some y → y.Mac = d.Mac := by
  unfold offer at h
  cases hh : hold l now (fun x => decide (x.Mac = d.Mac)) with
  | some y =>
    rw [hh] at h
    have h' : y.Ip = ip := Option.some.inj h
    obtain ⟨_, _, hm, _, hp⟩ := hold_ck hh
    subst h'
    refine ⟨(hc.2.1 y hm).1, fun z hz => ?_⟩
    obtain ⟨_, _, hm2, _, hp2⟩ := hold_ck hz
    rw [hc.2.uniq hm2 hm (.inl (of_decide_eq_true hp2))]
    exact of_decide_eq_true hp
  | none =>
    rw [hh] at h
    have hf : fb l now ip = true := List.find?_some h
    unfold fb at hf
    rw [Bool.and_eq_true, decide_eq_true_eq] at hf
    refine ⟨hf.1, fun y hy => ?_⟩
    rw [hy] at hf
    exact absurd hf.2 (by simp)
end Go.Proofs.Ytmmaojclfggioaa.S
