/- The plain law of DhcpBack, of all inputs that its row lets in. -/
import Derived.Test.YtpbofaghnfheiaaPureDhcpMore
import Derived.Test.YtpbofaghnfheiaaQDhcpBack
import Derived.Test.YtpbofaghnfheiaaPx10
namespace Go.Proofs.Ytpbofaghnfheiaa.Pure
set_option linter.unusedVariables false
open Go.RowKit Go.Proofs.Ytpbofaghnfheiaa.Aux Go.Proofs.Ytpbofaghnfheiaa.P Go.Proofs.Ytpbofaghnfheiaa.Pure Go.Proofs.YtpbofaghnfheiaaW.PrintWords Go.Proofs.YtpbofaghnfheiaaW.PrintLast Go.Proofs.YtpbofaghnfheiaaW.PrintMore
theorem DhcpBack : drawbridgelaw20_DhcpBack.Pure := by
  intro a0 a1 a2 a3 l4 a5 a6 a7 a8 a9 a10 a11 l1 q0 q1 q2 q3 q4 q5 q6 q7 q8 q9 q10 q11 hl1 ho1
  have b1 := bounds_u32 q1; have b2 := bounds_u32 q2; have b3 := bounds_u32 q3; have b6 := bounds_u32 q6; have b7 := bounds_u32 q7; have b8 := bounds_u32 q8; have b9 := bounds_u32 q9; have b10 := bounds_u32 q10; have b11 := bounds_u32 q11
  refine ⟨2000, ?_⟩
  have hh := heads_is (k := 2000) (by decide)
  unfold drawbridgelaw20_DhcpBack.f
  by_cases h0 : (l1.length : Int) > 1000
  · rw [if_pos h0, hh]; rfl
  rw [if_neg h0]
  cases hb : dhcp_Put.bad a0 l4 a5 with
  | true =>
    rw [put_bad hb, Option.bind_some]
    dsimp only
    rw [if_neg (by decide), if_pos (show (([] : List Int).length : Int) = 0 from rfl), hh]; rfl
  | false =>
    have hp := put_is (k := 2000) (by decide) (a1 := a1) (a2 := a2) (a3 := a3) (a6 := a6) (a7 := a7) (a8 := a8) (a9 := a9) (a10 := a10) (a11 := a11) hb (by omega) (by omega) (by omega) (by omega) (by omega) (by omega) (by omega) (by omega) (by omega)
    have hg := GG_put (more := l1) hb (a1 := a1) (a2 := a2) (a3 := a3) (a6 := a6) (a7 := a7) (a8 := a8) (a9 := a9) (a10 := a10) (a11 := a11) (by omega) (by omega) (by omega) (by omega) (by omega) (by omega) (by omega) (by omega) (by omega)
    have hb' := hb
    simp only [dhcp_Put.bad, Bool.or_eq_false_iff, decide_eq_false_iff_not, bne_eq_false_iff_eq] at hb'
    have hl : l4.length = 6 := by omega
    have L := put_len (a0 := a0) (a1 := a1) (a2 := a2) (a3 := a3) (a5 := a5) (a6 := a6) (a7 := a7) (a8 := a8) (a9 := a9) (a10 := a10) (a11 := a11) hl
    have ok : okB (hd a0 a1 a2 a3 l4 ++ tl a5 a6 a7 a8 a9 a10 a11 [255]) := okB_append (hd_ok (by omega) (okB_of q4.2)) (tl_ok (by omega) (okB_cons (by decide) (by decide) okB_nil))
    rw [hp, Option.bind_some]
    generalize hd a0 a1 a2 a3 l4 ++ tl a5 a6 a7 a8 a9 a10 a11 [255] = b at hg L ok
    have o2 : okB (b ++ l1) := okB_append ok (okB_of ho1)
    have g1 := get_is o2 (by rw [List.length_append]; omega) (k := 2000) (by rw [List.length_append]; omega)
    rw [hg] at g1
    dsimp only
    rw [if_pos rfl, Option.bind_some, if_pos (by simp; omega), Option.bind_some, List.nil_append, if_pos (by omega), g1, Option.bind_some]
    dsimp only
    rw [if_pos rfl, same_all, Option.bind_some, if_pos rfl, if_pos (by omega), hh]; rfl
end Go.Proofs.Ytpbofaghnfheiaa.Pure
