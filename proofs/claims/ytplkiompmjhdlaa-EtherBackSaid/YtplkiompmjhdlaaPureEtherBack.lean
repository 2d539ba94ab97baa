/- What the function of the law EtherBack answers: true, whatever the frame, the message and what stands behind. Its conditions: what data of these types are. -/
import Derived.Test.YtplkiompmjhdlaaPureArp
namespace Go.Proofs.Ytplkiompmjhdlaa.S
open Go Go.SL
set_option linter.unusedVariables false
set_option linter.unusedSimpArgs false
theorem etherBack (f : TFrm) (g : gFrm f) (a : TArp) (ga : gArp a) (more : List Int) (hm : more.length ≤ maxLen ∧ ∀ z ∈ more, InR .u8 z) : law16_EtherBack.f f a more = some true := by
  have hbm : Byt more := Byt.of hm.2
  obtain ⟨g1, g2, g3, g4⟩ := g
  unfold law16_EtherBack.f
  by_cases c1 : (3000 : Int) < f.Data.length
  · rw [if_pos (by simpa using c1), Option.bind_some, if_pos rfl, heads]; rfl
  rw [if_neg (by simpa using c1), Option.bind_some]
  by_cases c2 : (100 : Int) < more.length
  · rw [if_pos (by simpa using c2), heads]; rfl
  rw [if_neg (by simpa using c2)]
  have first : ∃ r2, ether_Put.f f = some r2 ∧ ((if decide (r2.2 = 0) = true then (ether_Get.f r2.1).bind fun r3 => ((if (!decide (r3.2 = 0)) = true then some (true) else (ref16_Same.f r3.1 f).bind fun r4 => (if (!r4) = true then some (true) else some ((!decide ((r2.1.length : Int) = (IntKind.i64.wrap (14 + (f.Data.length : Int))))))))).bind (fun j2 => (if j2 = true then some (.inr (false)) else some (.inl (())))) else some (.inl (()))) : Option (Unit ⊕ Bool)) = some (.inl ()) := by
    by_cases h : fOk f
    · obtain ⟨h1, h2, h3, h4⟩ := id h
      refine ⟨_, put_is f h, ?_⟩
      have hl : (frB f).length = 14 + f.Data.length := by simp [frB, by2, h1, h2]; omega
      have hbb : Byt (frB f) := (Byt.of g1.2).app ((Byt.of g2.2).app ((byt2 _).app (Byt.of g4.2)))
      obtain ⟨p, q, hd, hp, hq, e1, _⟩ := get_is (frB f) hbb (by omega) (by omega)
      have t6 : (frB f).take 6 = f.Dst := by unfold frB; rw [List.take_append_of_le_length (by omega), List.take_of_length_le (by omega)]
      have d6 : (frB f).drop 6 = f.Src ++ (by2 f.Type_ ++ f.Data) := by unfold frB; rw [List.drop_append_of_le_length (by omega), List.drop_of_length_le (by omega), List.nil_append]
      have d12 : (frB f).drop 12 = by2 f.Type_ ++ f.Data := by
        rw [show (12 : Nat) = 6 + 6 from rfl, ← List.drop_drop, d6, List.drop_append_of_le_length (by omega), List.drop_of_length_le (by omega), List.nil_append]
      have d14 : (frB f).drop 14 = f.Data := by
        rw [show (14 : Nat) = 12 + 2 from rfl, ← List.drop_drop, d12]; rfl
      have hpq : p * 256 + q = f.Type_ := by
        rw [d12, d14] at hd
        simp only [by2, List.cons_append, List.nil_append, List.cons.injEq] at hd
        obtain ⟨q1, q2, _⟩ := hd
        omega
      have hfr : frOf (frB f) p q = f := by
        unfold frOf
        rw [t6, d6, d14, List.take_append_of_le_length (by omega), List.take_of_length_le (by omega), hpq]
      rw [if_pos (by simp), e1, Option.bind_some, hfr, same_self]
      have hlen : ((frB f).length : Int) = IntKind.i64.wrap (14 + (f.Data.length : Int)) := by rw [i64w (by omega) (by omega), hl]; push_cast; rfl
      simp [hlen]
    · refine ⟨_, put_no f h, ?_⟩
      rw [if_neg (by simp)]
  obtain ⟨r2, e2, k2⟩ := first
  rw [e2, Option.bind_some, k2, Option.bind_some]
  simp only [Sum.elim_inl]
  have second : ∃ r5, ether_PutArp.f a = some r5 ∧ ((if decide (r5.2 = 0) = true then (app ([] : List Int) r5.1).bind fun x1 => (app x1 more).bind fun x2 => (ether_GetArp.f x2).bind fun r6 => ((if (!decide (r6.2 = 0)) = true then some (true) else (ref16_Arps.f r6.1 a).bind fun r7 => some ((!r7)))).bind (fun j4 => (if j4 = true then some (.inr (false)) else some (.inl (())))) else some (.inl (()))) : Option (Unit ⊕ Bool)) = some (.inl ()) := by
    by_cases h : aOk a
    · obtain ⟨h1, h2, h3⟩ := id h
      obtain ⟨ga1, ga2, ga3, ga4, ga5⟩ := ga
      have hs := inrU32 ga3
      have ht := inrU32 ga5
      refine ⟨_, (putArp_is a h).1, ?_⟩
      have hl := apB_len a h
      have hbb : Byt (apB a ++ more) := (Byt.app (fun x hx => by simp at hx; omega) ((Byt.of ga2.2).app ((byt4 _).app ((Byt.of ga4.2).app (byt4 _))))).app hbm
      rw [if_pos (by simp), app_ok _ _ (by simp; omega), Option.bind_some, List.nil_append, app_ok _ _ (by show (apB a).length + more.length ≤ _; omega), Option.bind_some]
      obtain ⟨b0, b1, b2, b3, b4, b5, b6, b7, sip, tip, t28, hsb, htb, e1, _⟩ := getArp_is (apB a ++ more) hbb (by rw [List.length_append]; omega) (by rw [List.length_append]; omega)
      have t28' : (apB a ++ more).take 28 = apB a := by rw [List.take_append_of_le_length (by omega), List.take_of_length_le (by omega)]
      have d8 : (apB a ++ more).drop 8 = a.Smac ++ (by4 a.Sip ++ (a.Tmac ++ (by4 a.Tip ++ more))) := by simp [apB]
      have m8 : ((apB a ++ more).drop 8).take 6 = a.Smac := by rw [d8, List.take_append_of_le_length (by omega), List.take_of_length_le (by omega)]
      have d18 : (apB a ++ more).drop 18 = a.Tmac ++ (by4 a.Tip ++ more) := by
        rw [show (18 : Nat) = 8 + (6 + 4) from rfl, ← List.drop_drop, d8, ← List.drop_drop, List.drop_left' h1]; rfl
      have m18 : ((apB a ++ more).drop 18).take 6 = a.Tmac := by rw [d18, List.take_append_of_le_length (by omega), List.take_of_length_le (by omega)]
      rw [t28', m8, m18] at t28
      unfold apB at t28
      simp only [List.cons_append, List.nil_append, List.cons.injEq] at t28
      obtain ⟨q0, q1, q2, q3, q4, q5, q6, q7, hrest⟩ := t28
      subst q0 q1 q2 q3 q4 q5 q6 q7
      have hrest2 := List.append_cancel_left hrest
      have hsl : (by4 a.Sip).length = (by4 sip).length := rfl
      obtain ⟨hs4, hrest3⟩ := List.append_inj hrest2 hsl
      have ht4 := List.append_cancel_left hrest3
      have es : sip = a.Sip := by simp only [by4, List.cons.injEq, and_true] at hs4; omega
      have et : tip = a.Tip := by simp only [by4, List.cons.injEq, and_true] at ht4; omega
      rw [if_pos ⟨rfl, h3⟩] at e1
      rw [e1, Option.bind_some]
      have har : arOf (apB a ++ more) a.Op sip tip = a := by unfold arOf; rw [m8, m18, es, et]
      rw [har, arps_self]
      simp
    · refine ⟨_, (putArp_no a h).1, ?_⟩
      rw [if_neg (by simp)]
  obtain ⟨r5, e5, k5⟩ := second
  rw [e5, Option.bind_some, k5, Option.bind_some]
  simp only [Sum.elim_inl, heads, Option.bind_some]
end Go.Proofs.Ytplkiompmjhdlaa.S
