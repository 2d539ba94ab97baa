/- The plain law of DhcpAgain, of all inputs that its row lets in. -/
import Derived.Test.YtpbofaghnfheiaaPureDhcpMore
import Derived.Test.YtpbofaghnfheiaaQDhcpAgain
import Derived.Test.YtpbofaghnfheiaaPx6
namespace Go.Proofs.Ytpbofaghnfheiaa.Pure
set_option linter.unusedVariables false
open Go.RowKit Go.Proofs.Ytpbofaghnfheiaa.Aux Go.Proofs.Ytpbofaghnfheiaa.P Go.Proofs.Ytpbofaghnfheiaa.Pure Go.Proofs.YtpbofaghnfheiaaW.PrintWords Go.Proofs.YtpbofaghnfheiaaW.PrintLast Go.Proofs.YtpbofaghnfheiaaW.PrintMore
theorem DhcpAgain : drawbridgelaw20_DhcpAgain.Pure := by
  intro l hl ho
  refine ⟨4000, ?_⟩
  have hh := heads_is (k := 4000) (by decide)
  unfold drawbridgelaw20_DhcpAgain.f
  by_cases h0 : (l.length : Int) > 3000
  · rw [if_pos h0, hh]; rfl
  rw [if_neg h0]
  have ok := okB_of ho
  rw [get_is ok (by omega) (by omega), Option.bind_some]
  have key : GG l = (0, 0, 0, 0, [], 0, 0, 0, 0, 0, 0, 0, 160) ∨ GG l = (0, 0, 0, 0, [], 0, 0, 0, 0, 0, 0, 0, 161) ∨ ∃ a0 a1 a2 a3 l4 a5 a6 a7 a8 a9 a10 a11, GG l = (a0, a1, a2, a3, l4, a5, a6, a7, a8, a9, a10, a11, 0) ∧ dhcp_Put.bad a0 l4 a5 = false ∧ okB l4 ∧
      (0 ≤ a1 ∧ a1 < 4294967296) ∧ (0 ≤ a2 ∧ a2 < 4294967296) ∧ (0 ≤ a3 ∧ a3 < 4294967296) ∧ (0 ≤ a6 ∧ a6 < 4294967296) ∧ (0 ≤ a7 ∧ a7 < 4294967296) ∧ (0 ≤ a8 ∧ a8 < 4294967296) ∧ (0 ≤ a9 ∧ a9 < 4294967296) ∧ (0 ≤ a10 ∧ a10 < 4294967296) ∧ (0 ≤ a11 ∧ a11 < 4294967296) := by
    unfold GG
    by_cases h1 : (l.length : Int) < 240
    · rw [if_pos h1]; exact .inl rfl
    rw [if_neg h1]
    cases e : OO (l.drop 240) [] with
    | none => exact .inr (.inl rfl)
    | some mp =>
      have od : okB (l.drop 240) := okB_sub (fun z hz => List.mem_of_mem_drop hz) ok
      have hbd := OO_bd (l.drop 240).length (l.drop 240) [] mp od (fun p hp => by cases hp) e
      dsimp only
      cases hb : dhcp_Get.bad l mp (g4 ((l.take 240).drop 236)) with
      | true => rw [if_pos rfl]; exact .inr (.inl rfl)
      | false =>
        rw [if_neg (by decide)]
        have hb' := hb
        simp only [dhcp_Get.bad, Bool.or_eq_false_iff, decide_eq_false_iff_not, bne_eq_false_iff_eq] at hb'
        have ll : ((l.take 34).drop 28).length = 6 := by rw [List.length_drop, List.length_take]; omega
        have oo : ∀ i j : Nat, okB ((l.take i).drop j) := fun i j => okB_sub (fun z hz => List.mem_of_mem_take (List.mem_of_mem_drop hz)) ok
        refine .inr (.inr ⟨_, _, _, _, _, _, _, _, _, _, _, _, rfl, ?_, oo 34 28, g4_bd (oo 8 4), g4_bd (oo 16 12), g4_bd (oo 20 16), look_bd hbd 50, look_bd hbd 54, look_bd hbd 51, look_bd hbd 1, look_bd hbd 3, look_bd hbd 6⟩)
        simp only [dhcp_Put.bad, Bool.or_eq_false_iff, decide_eq_false_iff_not, bne_eq_false_iff_eq, ll]
        refine ⟨⟨⟨⟨?_, ?_⟩, ?_⟩, ?_⟩, ?_⟩
        all_goals first | omega | rfl | trivial
  rcases key with e | e | ⟨a0, a1, a2, a3, l4, a5, a6, a7, a8, a9, a10, a11, e, hb, ol, b1, b2, b3, b6, b7, b8, b9, b10, b11⟩
  · rw [e]
    dsimp only
    rw [if_neg (by decide), same_all, Option.bind_some, if_pos rfl, hh]; rfl
  · rw [e]
    dsimp only
    rw [if_neg (by decide), same_all, Option.bind_some, if_pos rfl, hh]; rfl
  · rw [e]
    have hp := put_is (k := 4000) (by decide) hb b1 b2 b3 b6 b7 b8 b9 b10 b11
    have hg := GG_put (more := []) hb b1 b2 b3 b6 b7 b8 b9 b10 b11
    rw [List.append_nil] at hg
    have hb' := hb
    simp only [dhcp_Put.bad, Bool.or_eq_false_iff, decide_eq_false_iff_not, bne_eq_false_iff_eq] at hb'
    have hl4 : l4.length = 6 := by omega
    have L := put_len (a0 := a0) (a1 := a1) (a2 := a2) (a3 := a3) (a5 := a5) (a6 := a6) (a7 := a7) (a8 := a8) (a9 := a9) (a10 := a10) (a11 := a11) hl4
    have ok2 : okB (hd a0 a1 a2 a3 l4 ++ tl a5 a6 a7 a8 a9 a10 a11 [255]) := okB_append (hd_ok (by omega) ol) (tl_ok (by omega) (okB_cons (by decide) (by decide) okB_nil))
    dsimp only
    rw [if_pos rfl, hp, Option.bind_some]
    dsimp only
    generalize hd a0 a1 a2 a3 l4 ++ tl a5 a6 a7 a8 a9 a10 a11 [255] = b at hg L ok2 ⊢
    rw [get_is ok2 (by omega) (by omega), Option.bind_some, hg]
    dsimp only
    rw [if_pos rfl, if_pos rfl, same_all, Option.bind_some, if_pos rfl, hh]; rfl
end Go.Proofs.Ytpbofaghnfheiaa.Pure
