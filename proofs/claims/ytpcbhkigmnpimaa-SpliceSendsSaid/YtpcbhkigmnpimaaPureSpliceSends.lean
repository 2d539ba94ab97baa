/- What the law SpliceSends answers: true; each segment's data are the host's bytes in their place. Its conditions: what the data are. -/
import Derived.Test.YtpcbhkigmnpimaaPureSplicePlay
namespace Go.Proofs.Ytpcbhkigmnpimaa.S
open Go Go.SL
set_option linter.unusedVariables false
set_option linter.unusedSimpArgs false
theorem same_self (l : List Int) : ref01_Same.f l l = some true := by
  unfold ref01_Same.f lt
  simp
theorem spliceSends (x : TSeg) (gx : gSeg x) (f : Int) (hf : InR .u32 f) (l : List TEv) (gl : l.length ≤ maxLen ∧ ∀ z ∈ l, gEv z) : law28_SpliceSends.f x f l = some true := by
  unfold law28_SpliceSends.f
  obtain ⟨b, hb, hb2⟩ := fits_k l gl.1
  rw [hb, Option.bind_some]
  cases b with
  | false => simp [heads]
  | true =>
  obtain ⟨hl, hall⟩ := hb2 rfl
  obtain ⟨o, ok, h1, h2⟩ := begin_k x f (inrU32 hf)
  simp only [Bool.not_true, Bool.false_eq_true, if_false]
  rw [h1, Option.bind_some]
  cases ok with
  | false => simp [heads]
  | true =>
  obtain ⟨p, rfl, hp⟩ := h2 rfl
  simp only [Bool.not_true, Bool.false_eq_true, if_false, Option.bind_some]
  have hev : ∀ i (hi : i < l.length), EvOk l[i] := fun i hi => by
    obtain ⟨a1, a2, a3, a4⟩ := hall _ (List.getElem_mem hi)
    have g := (gl.2 _ (List.getElem_mem hi)).2.1
    exact ⟨a1, a2, a3, a4, Byt.of g.2.2.2.2.2.2.2.2, inrU32 g.2.2.2.1⟩
  refine loop_exit (fun o => o = some true) (fun (i : Nat) (s : Int × Tplay) => s.1 = (i : Int) ∧ Pk f x.Dst x.Src s.2 (i + 1)) (fun z => ∃ k, k ≤ 61 ∧ Pk f x.Dst x.Src z k) l.length ⟨rfl, hp⟩ ?_ ?_ ?_
  · rintro i ⟨i', z⟩ hi ⟨q0, q1⟩
    dsimp only at q0 q1
    subst q0
    have c : ((i : Int) < (l.length : Int)) := by omega
    cases hz : z.gone with
    | true =>
      right
      simp only [c, hz, decide_true, if_true, Bool.not_true, Option.bind_some, Bool.false_eq_true, if_false]
      exact ⟨_, rfl, i + 1, by omega, q1⟩
    | false =>
      left
      obtain ⟨p', h3, h4⟩ := do_k z (i + 1) (by omega) q1 l[i] (hev i hi)
      simp only [c, hz, decide_true, if_true, Bool.not_false, Option.bind_some, ix l i hi, h3, lt]
      rw [stepw hi (by omega)]
      exact ⟨_, rfl, rfl, h4⟩
  · rintro ⟨i', z⟩ ⟨q0, q1⟩
    dsimp only at q0 q1
    subst q0
    have c : ¬ (((l.length : Nat) : Int) < (l.length : Int)) := by omega
    simp only [c, decide_false, Bool.false_eq_true, if_false, Option.bind_some]
    exact ⟨_, rfl, l.length + 1, by omega, q1⟩
  · rintro z ⟨k, hk, hz⟩
    have hsg := hz.sg
    have hge := hz.ge
    refine loop_exit (fun o => o = some true) (fun (i : Nat) (s : Int) => s = (i : Int)) (fun r => r = .inl ()) z.segs.length rfl ?_ ?_ ?_
    · rintro i _ hi rfl
      left
      have c : ((i : Int) < (z.segs.length : Int)) := by omega
      simp only [c, decide_true, if_true, ix z.segs i hi, Option.bind_some, lt]
      obtain ⟨e1, e2, e3⟩ := hz.ct.2 _ (List.getElem_mem hi)
      have c1 : ¬ ((!decide (z.segs[i].Src = x.Dst)) = true) := by simp [e1]
      have c2 : ¬ ((!decide (z.segs[i].Dst = x.Src)) = true) := by simp [e2]
      rw [if_neg c1, if_neg c2]
      generalize z.segs[i] = y at *
      have key : (if decide (0 < (y.Data.length : Int)) = true then (if decide (IntKind.u32.wrap ((IntKind.u32.wrap (y.Seq - f)) - 1) < 0) = true then some (true) else (if decide ((IntKind.i64.wrap ((z.gave.length : Int) - (y.Data.length : Int))) < IntKind.u32.wrap ((IntKind.u32.wrap (y.Seq - f)) - 1)) = true then some (true) else (cut z.gave (IntKind.u32.wrap ((IntKind.u32.wrap (y.Seq - f)) - 1)) (IntKind.i64.wrap (IntKind.u32.wrap ((IntKind.u32.wrap (y.Seq - f)) - 1) + (y.Data.length : Int)))).bind fun x3 => (ref01_Same.f x3 y.Data).bind fun r6 => some ((!r6)))) else some (false)) = some false := by
        by_cases c3 : 0 < (y.Data.length : Int)
        · obtain ⟨a, a1, a2, a3⟩ := e3 (by omega)
          have ea : IntKind.u32.wrap ((IntKind.u32.wrap (y.Seq - f)) - 1) = (a : Int) := by rw [u32w', u32w']; omega
          have d1 : ¬ ((a : Int) < 0) := by omega
          have e4 : IntKind.i64.wrap ((z.gave.length : Int) - (y.Data.length : Int)) = (z.gave.length : Int) - (y.Data.length : Int) := i64w (by omega) (by omega)
          have e5 : IntKind.i64.wrap ((a : Int) + (y.Data.length : Int)) = (a : Int) + (y.Data.length : Int) := i64w (by omega) (by omega)
          have d2 : ¬ ((z.gave.length : Int) - (y.Data.length : Int) < (a : Int)) := by omega
          obtain ⟨w, hw, _⟩ := cut_some z.gave (a : Int) ((a : Int) + (y.Data.length : Int)) (by omega) (by omega) (by omega)
          have hwe := cut_eq hw
          have e6 : w = y.Data := by
            rw [hwe]
            have t1 : ((a : Int)).toNat = a := by omega
            have t2 : ((a : Int) + (y.Data.length : Int) - (a : Int)).toNat = y.Data.length := by omega
            rw [t1, t2]; exact a3
          rw [ea, e4, e5]
          simp only [c3, d1, d2, decide_true, decide_false, Bool.false_eq_true, if_false, if_true, hw, Option.bind_some, e6, same_self, Bool.not_true]
        · simp only [c3, decide_false, Bool.false_eq_true, if_false]
      rw [key, Option.bind_some]
      rw [if_neg (by simp), stepw hi (by omega)]
      exact ⟨_, rfl, rfl⟩
    · rintro _ rfl
      have c : ¬ (((z.segs.length : Nat) : Int) < (z.segs.length : Int)) := by omega
      simp only [c, decide_false, Bool.false_eq_true, if_false]
      exact ⟨_, rfl, rfl⟩
    · rintro _ rfl
      simp [heads]
end Go.Proofs.Ytpcbhkigmnpimaa.S
