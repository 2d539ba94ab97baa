/- What the law SpliceGives answers: true; what the host is given is a beginning of the stream. Its conditions: what the data are. -/
import Derived.Test.YtpcbhkigmnpimaaPureSplicePlay
namespace Go.Proofs.Ytpcbhkigmnpimaa.S
open Go Go.SL
set_option linter.unusedVariables false
set_option linter.unusedSimpArgs false
def SV (key p : Int) : Int := IntKind.u8.wrap (ishr .u32 (IntKind.u32.wrap ((bits .xor .u32 p key) * 2654435761)) 13)
theorem stream_is (key p : Int) : law28_stream.f key p = some (SV key p) := by
  have h : law28_stream.f key p = some (SV key p) := rfl
  rw [h]
theorem sv_byte (key p : Int) : 0 ≤ SV key p ∧ SV key p < 256 := by
  unfold SV; rw [u8w]; omega
def VV (key q0 n : Int) : Int := SV key (IntKind.u32.wrap (n - q0 - 1))
theorem vv_p (key q0 : Int) : Vp (VV key q0) := fun a b h => by
  unfold VV
  have : IntKind.u32.wrap (a - q0 - 1) = IntKind.u32.wrap (b - q0 - 1) := by rw [u32w', u32w']; omega
  rw [this]
theorem spliceGives (x : TSeg) (gx : gSeg x) (f : Int) (hf : InR .u32 f) (key : Int) (hkey : InR .u32 key) (l : List TEv) (gl : l.length ≤ maxLen ∧ ∀ z ∈ l, gEv z) : law28_SpliceGives.f x f key l = some true := by
  unfold law28_SpliceGives.f
  obtain ⟨b, hb, hb2⟩ := fits_k l gl.1
  rw [hb, Option.bind_some]
  cases b with
  | false => simp [heads]
  | true =>
  obtain ⟨hl, hall⟩ := hb2 rfl
  obtain ⟨o, ok, h1, h2⟩ := begin_k (P := True) (V := VV key x.Seq) x f (inrU32 hf)
  simp only [Bool.not_true, Bool.false_eq_true, if_false]
  rw [h1, Option.bind_some]
  cases ok with
  | false => simp [heads]
  | true =>
  obtain ⟨p, rfl, hp⟩ := h2 rfl
  simp only [Bool.not_true, Bool.false_eq_true, if_false, Option.bind_some]
  refine loop_exit (fun o => o = some true) (fun (i : Nat) (s : Int × Tplay) => s.1 = (i : Int) ∧ Pk True (VV key x.Seq) x.Seq f x.Dst x.Src s.2 (i + 1)) (fun z => ∃ k, k ≤ 61 ∧ Pk True (VV key x.Seq) x.Seq f x.Dst x.Src z k) l.length ⟨rfl, hp⟩ ?_ ?_ ?_
  · rintro i ⟨i', z⟩ hi ⟨q0, q1⟩
    dsimp only at q0 q1
    subst q0
    have c : ((i : Int) < (l.length : Int)) := by omega
    cases hz : z.gone with
    | true =>
      right
      simp only [c, hz, decide_true, if_true, Bool.not_true, Option.bind_some, Bool.false_eq_true, if_false]
      exact ⟨_, rfl, i + 1, by omega, q1⟩
    | false =>
      left
      obtain ⟨a1, a2, a3, a4⟩ := hall _ (List.getElem_mem hi)
      have g := (gl.2 _ (List.getElem_mem hi)).2.1
      simp only [c, hz, decide_true, if_true, Bool.not_false, Option.bind_some, ix l i hi]
      generalize l[i] = e at a1 a2 a3 a4 g ⊢
      rw [app_k _ _ (by simp; omega), Option.bind_some]
      refine loop_exit (fun (o : Option ((Int × Tplay) ⊕ Tplay)) => ∃ s' : Int × Tplay, o = some (.inl s') ∧ s'.1 = ((i + 1 : Nat) : Int) ∧ Pk True (VV key x.Seq) x.Seq f x.Dst x.Src s'.2 (i + 1 + 1))
        (fun (k : Nat) (s : Int × TEv) => s.1 = (k : Int) ∧ ∃ d, s.2 = (⟨e.Kind, (⟨e.Seg.Src, e.Seg.Dst, e.Seg.Seq, e.Seg.Ack, e.Seg.Flags, e.Seg.Win, e.Seg.Mss, d⟩ : TSeg), e.Tell, e.N⟩ : TEv) ∧ d.length = e.Seg.Data.length ∧ Byt d ∧ ∀ j y, j < k → d[j]? = some y → y = VV key x.Seq (e.Seg.Seq + (j : Nat)))
        (fun (r : TEv) => ∃ d, r = (⟨e.Kind, (⟨e.Seg.Src, e.Seg.Dst, e.Seg.Seq, e.Seg.Ack, e.Seg.Flags, e.Seg.Win, e.Seg.Mss, d⟩ : TSeg), e.Tell, e.N⟩ : TEv) ∧ d.length = e.Seg.Data.length ∧ Byt d ∧ ∀ j y, d[j]? = some y → y = VV key x.Seq (e.Seg.Seq + (j : Nat))) e.Seg.Data.length ?_ ?_ ?_ ?_
      · exact ⟨rfl, e.Seg.Data, by simp, rfl, Byt.of g.2.2.2.2.2.2.2.2, fun j y hj => by omega⟩
      · rintro k ⟨k', r⟩ hk ⟨r0, d, r1, r2, r3, r4⟩
        dsimp only at r0 r1
        subst r0 r1
        left
        have ck : ((k : Int) < (d.length : Int)) := by omega
        have hkd : k < d.length := by omega
        simp only [ck, decide_true, if_true, stream_is, Option.bind_some, ix d k hkd, lt]
        rw [stepw (n := d.length) hkd (by omega)]
        refine ⟨_, rfl, rfl, _, rfl, by rw [List.length_set]; exact r2, ?_, ?_⟩
        · intro y hy
          rcases List.mem_or_eq_of_mem_set hy with hy | hy
          · exact r3 y hy
          · rw [hy]; exact sv_byte _ _
        · intro j y hj hy
          by_cases e2 : j = k
          · subst e2
            have t : ((j : Int)).toNat = j := by omega
            rw [t, List.getElem?_set_self hkd] at hy
            cases hy
            unfold VV
            have : ∀ a b : Int, a = b → SV key a = SV key b := fun a b h => by rw [h]
            refine this _ _ ?_
            rw [u32w', u32w', u32w', u32w', u32w']; omega
          · have t : ((k : Int)).toNat = k := by omega
            rw [t, List.getElem?_set_ne (fun h => e2 h.symm)] at hy
            exact r4 j y (by omega) hy
      · rintro ⟨k', r⟩ ⟨r0, d, r1, r2, r3, r4⟩
        dsimp only at r0 r1
        subst r0 r1
        have ck : ¬ ((e.Seg.Data.length : Int) < (d.length : Int)) := by omega
        simp only [ck, decide_false, Bool.false_eq_true, if_false]
        refine ⟨_, rfl, d, rfl, r2, r3, fun j y hy => r4 j y ?_ hy⟩
        have := (List.getElem?_eq_some_iff.1 hy).1
        omega
      · rintro r ⟨d, rfl, r2, r3, r4⟩
        obtain ⟨p', h3, h4⟩ := do_k z (i + 1) (by omega) q1 ⟨e.Kind, (⟨e.Seg.Src, e.Seg.Dst, e.Seg.Seq, e.Seg.Ack, e.Seg.Flags, e.Seg.Win, e.Seg.Mss, d⟩ : TSeg), e.Tell, e.N⟩ ⟨by show d.length ≤ _; omega, a2, a3, a4, r3, inrU32 g.2.2.2.1⟩ (fun _ _ => r4)
        rw [h3, Option.bind_some]
        simp only [lt]
        rw [stepw hi (by omega)]
        exact ⟨_, rfl, rfl, h4⟩
  · rintro ⟨i', z⟩ ⟨q0, q1⟩
    dsimp only at q0 q1
    subst q0
    have c : ¬ (((l.length : Nat) : Int) < (l.length : Int)) := by omega
    simp only [c, decide_false, Bool.false_eq_true, if_false, Option.bind_some]
    exact ⟨_, rfl, l.length + 1, by omega, q1⟩
  · rintro z ⟨k, hk, hz⟩
    have hgv := hz.gv
    have hgi := hz.gi trivial (vv_p key x.Seq)
    refine loop_exit (fun o => o = some true) (fun (i : Nat) (s : Int) => s = (i : Int)) (fun r => r = .inl ()) z.given.length rfl ?_ ?_ ?_
    · rintro i _ hi rfl
      left
      have c : ((i : Int) < (z.given.length : Int)) := by omega
      have hv := hgi.pf i z.given[i] (by rw [List.getElem?_append_left hi, List.getElem?_eq_getElem hi])
      have hv2 : z.given[i] = SV key (IntKind.u32.wrap (i : Int)) := by
        rw [hv]
        unfold VV
        have : x.Seq + 1 + (i : Int) - x.Seq - 1 = (i : Int) := by omega
        rw [this]
      have e3 : (!decide (z.given[i] = SV key (IntKind.u32.wrap (i : Int)))) = false := by rw [decide_eq_true hv2]; rfl
      simp only [c, decide_true, if_true]
      rw [ix z.given i hi, Option.bind_some, stream_is, Option.bind_some, e3, if_neg (by simp)]
      simp only [lt]
      rw [stepw hi (by omega)]
      exact ⟨_, rfl, rfl⟩
    · rintro _ rfl
      have c : ¬ (((z.given.length : Nat) : Int) < (z.given.length : Int)) := by omega
      simp only [c, decide_false, Bool.false_eq_true, if_false]
      exact ⟨_, rfl, rfl⟩
    · rintro _ rfl
      simp [heads]
end Go.Proofs.Ytpcbhkigmnpimaa.S
