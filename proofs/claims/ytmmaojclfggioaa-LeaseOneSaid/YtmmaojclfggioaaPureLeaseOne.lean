/- What the law LeaseOne answers: true; no address is held by two, and none is lost. Its conditions: what the data are. -/
import Derived.Test.YtmmaojclfggioaaPureLeaseAll
namespace Go.Proofs.Ytmmaojclfggioaa.S
open Go Go.SL
set_option linter.unusedVariables false
set_option linter.unusedSimpArgs false
theorem after_ck {l l' : List TLease} {now : Int} {d a : TDhcp} {ok : Bool} (h : After l now d l' a ok) (hc : Cks l) (hg : ∀ x ∈ l, gLease x) (hd : gDhcp d) : Cks l' ∧ ∀ x ∈ l', gLease x := by
  rcases h with ⟨rfl, _⟩ | ⟨hp, _, hn, hf, rfl, _, _⟩ | ⟨_, rfl, _⟩
  · exact ⟨hc, hg⟩
  · exact ⟨putr_ck hc hn hp.2.1 hf.1, putr_g hg hd.2.2.2.2.1 hf.1 hn⟩
  · exact ⟨(hc.2.filter _).cks, fun x hx => hg x (List.mem_filter.1 hx).1⟩
theorem keeps {l l' : List TLease} {now : Int} {d a : TDhcp} {ok : Bool} (h : After l now d l' a ok) (hc : Cks l) (hc' : Cks l') {m : List Int} {z : TLease} (hz : hold l now (fun x => decide (x.Mac = m)) = some z) (hne : z.Mac ≠ d.Mac) : hold l' now (fun x => decide (x.Mac = m)) = some z := by
  obtain ⟨_, hn, hm, hu, hp⟩ := hold_ck hz
  have hzm : z.Mac = m := of_decide_eq_true hp
  have fin : z ∈ l' → hold l' now (fun x => decide (x.Mac = m)) = some z := fun hin => hold_of hc' hn hin hu hp fun y hy hy2 => hc'.2.uniq hy hin (.inr ((of_decide_eq_true hy2).trans hzm.symm))
  rcases h with ⟨rfl, _⟩ | ⟨_, _, _, hf, rfl, _, _⟩ | ⟨_, rfl, _⟩
  · exact hz
  · refine fin (putr_mem.2 (.inr (others_is hm (fun e => hne ?_) hne)))
    exact hf.2 z (hold_of hc hn hm hu (decide_eq_true e) fun y hy hy2 => hc.2.uniq hy hm (.inl ((of_decide_eq_true hy2).trans e.symm)))
  · exact fin (List.mem_filter.2 ⟨hm, by simp [hne]⟩)
theorem leaseOne (l : List TDhcp) (gl : l.length ≤ maxLen ∧ ∀ z ∈ l, gDhcp z) (ticks : Int) (ht : InR .i64 ticks) : law25_LeaseOne.f l ticks = some true := by
  unfold law25_LeaseOne.f
  obtain ⟨j, hj, hj2⟩ : ∃ j, (if decide (60 < (l.length : Int)) = true then some (true) else (if decide (ticks < 0) = true then some (true) else some (decide (1000 < ticks)))) = some j ∧ (j = false → l.length ≤ 60 ∧ 0 ≤ ticks ∧ ticks ≤ 1000) := by
    by_cases c1 : 60 < (l.length : Int)
    · exact ⟨true, by simp only [c1, decide_true, if_true], fun h => by cases h⟩
    by_cases c2 : ticks < 0
    · exact ⟨true, by simp only [c1, c2, decide_true, decide_false, Bool.false_eq_true, if_false, if_true], fun h => by cases h⟩
    exact ⟨decide (1000 < ticks), by simp only [c1, c2, decide_false, Bool.false_eq_true, if_false], fun h => ⟨by omega, by omega, by have := of_decide_eq_false h; omega⟩⟩
  rw [hj, Option.bind_some]
  cases j with
  | true => simp [heads]
  | false =>
  obtain ⟨hl, t0, t1⟩ := hj2 rfl
  rw [if_neg (by simp)]
  refine loop_exit (fun o => o = some true) (fun (i : Nat) (s : List TLease × Int × Int) => s.2.2 = (i : Int) ∧ (0 ≤ s.2.1 ∧ s.2.1 ≤ 1000 * i) ∧ Cks s.1 ∧ ∀ x ∈ s.1, gLease x) (fun r => r = .inl ()) l.length ?_ ?_ ?_ ?_
  · exact ⟨rfl, ⟨Int.le_refl _, by show (0 : Int) ≤ _; omega⟩, ⟨by simp, fun y hy => (by cases hy), List.Pairwise.nil⟩, fun x hx => (by cases hx)⟩
  · rintro i ⟨row, now, i'⟩ hi ⟨q0, q1, q2, q3⟩
    dsimp only at q0 q1 q2 q3
    subst q0
    left
    have c : ((i : Int) < (l.length : Int)) := by omega
    have hd := gl.2 _ (List.getElem_mem hi)
    obtain ⟨l', a, ok, hs, haf⟩ := serve_k row q3 (by have := q2.1; omega) now l[i] hd
    obtain ⟨c', g'⟩ := after_ck haf q2 q3 hd
    have hrl : row.length ≤ 8 := q2.1
    have hrl' : l'.length ≤ 8 := c'.1
    simp only [c, decide_true, if_true, ix l i hi, Option.bind_some, hs, check_is l' g', c', Bool.not_true, Bool.false_eq_true, if_false]
    generalize l[i] = d at *
    -- what an Ack tells
    have hack : ((if ok = true then some (decide (a.Type_ = 5)) else some (false)).bind (fun j2 => (if j2 = true then (lease_Find.f l' now d.Mac).bind fun r4 => (lease_Owner.f l' now a.Yi).bind fun r5 => (lease_Owner.f row now a.Yi).bind fun r6 => ((if (!r4.2) = true then some (true) else (if (!decide (r4.1 = a.Yi)) = true then some (true) else (if (!r5.2) = true then some (true) else (ref01_Same.f r5.1 d.Mac).bind fun r7 => (if (!r7) = true then some (true) else (if r6.2 = true then (ref01_Same.f r6.1 d.Mac).bind fun r8 => some ((!r8)) else some (false))))))).bind (fun j3 => (if j3 = true then some (.inr (false)) else some (.inl (())))) else some (.inl (())))) : Option (Unit ⊕ Bool)) = some (.inl ()) := by
      by_cases ho : ok = true ∧ a.Type_ = 5
      case neg =>
        cases ok with
        | false => simp
        | true =>
          have : ¬ a.Type_ = 5 := fun e => ho ⟨rfl, e⟩
          simp [this]
      obtain ⟨ho1, ho2⟩ := ho
      rcases haf with ⟨_, h⟩ | ⟨hp, _, hn, hf, rfl, rfl, _⟩ | ⟨_, _, h⟩
      · exact absurd ho2 (h ho1)
      · have hx : lease1 now d ∈ putr row now d := putr_mem.2 (.inl rfl)
        have hu : now < (lease1 now d).Until := by show now < now + 3600; omega
        have e1 : hold (putr row now d) now (fun x => decide (x.Mac = d.Mac)) = some (lease1 now d) := hold_of c' hn hx hu (decide_eq_true rfl) fun y hy hy2 => c'.2.uniq hy hx (.inr (of_decide_eq_true hy2))
        have e2 : hold (putr row now d) now (fun x => decide (x.Ip = wanted d)) = some (lease1 now d) := hold_of c' hn hx hu (decide_eq_true rfl) fun y hy hy2 => c'.2.uniq hy hx (.inl (of_decide_eq_true hy2))
        have eY : (fulD d 5 (wanted d)).Yi = wanted d := rfl
        have eT : (fulD d 5 (wanted d)).Type_ = 5 := rfl
        rw [eY, eT, find_is _ g' now _ (by omega), owner_is _ g' now _ (by omega), owner_is _ q3 now _ (by omega), e1, e2]
        unfold ref01_Same.f
        have eI : (lease1 now d).Ip = wanted d := rfl
        have eM : (lease1 now d).Mac = d.Mac := rfl
        simp only [ho1, if_true, decide_true, Option.bind_some, Option.map_some, Option.getD_some, Option.isSome_some, Bool.not_true, Bool.false_eq_true, if_false, eI, eM, lt]
        cases hh : hold row now (fun x => decide (x.Ip = wanted d)) with
        | none => rfl
        | some y => simp [hf.2 y hh]
      · rw [h] at ho1; cases ho1
    rw [hack, Option.bind_some]
    simp only [Sum.elim_inl]
    refine loop_exit (fun (o : Option ((List TLease × Int × Int) ⊕ (Unit ⊕ Bool))) => ∃ s', o = some (.inl s') ∧ s'.2.2 = ((i + 1 : Nat) : Int) ∧ (0 ≤ s'.2.1 ∧ s'.2.1 ≤ 1000 * ((i + 1 : Nat) : Int)) ∧ Cks s'.1 ∧ ∀ x ∈ s'.1, gLease x) (fun (k : Nat) (s : Int) => s = (k : Int)) (fun r => r = .inl ()) row.length rfl ?_ ?_ ?_
    · rintro k _ hk rfl
      left
      have ck : ((k : Int) < (row.length : Int)) := by omega
      simp only [ck, decide_true, if_true, ix row k hk, Option.bind_some]
      rw [find_is _ q3 now _ (by omega), Option.bind_some, find_is _ g' now _ (by omega), Option.bind_some]
      have key : (if (hold row now (fun x => decide (x.Mac = row[k].Mac))).isSome = true then (ref01_Same.f row[k].Mac d.Mac).bind fun r11 => (if (!r11) = true then (if (!(hold l' now (fun x => decide (x.Mac = row[k].Mac))).isSome) = true then some (true) else some ((!decide (((hold l' now (fun x => decide (x.Mac = row[k].Mac))).map (·.Ip)).getD 0 = ((hold row now (fun x => decide (x.Mac = row[k].Mac))).map (·.Ip)).getD 0)))) else some (false)) else some (false)) = some false := by
        cases hh : hold row now (fun x => decide (x.Mac = row[k].Mac)) with
        | none => simp
        | some z =>
          unfold ref01_Same.f
          by_cases e : row[k].Mac = d.Mac
          · simp [e, lt]
          · have hzm : z.Mac = row[k].Mac := of_decide_eq_true (hold_ck hh).2.2.2.2
            have := keeps haf q2 c' hh (by rw [hzm]; exact e)
            simp [e, lt, this]
      simp only at key ⊢
      rw [key, Option.bind_some, if_neg (by simp)]
      simp only [lt]
      rw [stepw hk (by omega)]
      exact ⟨_, rfl, rfl⟩
    · rintro _ rfl
      have ck : ¬ (((row.length : Nat) : Int) < (row.length : Int)) := by omega
      simp only [ck, decide_false, Bool.false_eq_true, if_false]
      exact ⟨_, rfl, rfl⟩
    · rintro _ rfl
      have ew : IntKind.i64.wrap (now + ticks) = now + ticks := i64w (by omega) (by omega)
      simp only [Sum.elim_inl, lt, ew]
      rw [stepw hi (by omega)]
      exact ⟨_, rfl, rfl, ⟨by show 0 ≤ now + ticks; omega, by show now + ticks ≤ _; omega⟩, c', g'⟩
  · rintro ⟨row, now, i'⟩ ⟨q0, q1, q2, q3⟩
    dsimp only at q0
    subst q0
    have c : ¬ (((l.length : Nat) : Int) < (l.length : Int)) := by omega
    simp only [c, decide_false, Bool.false_eq_true, if_false]
    exact ⟨_, rfl, rfl⟩
  · rintro _ rfl
    simp [heads]
end Go.Proofs.Ytmmaojclfggioaa.S
