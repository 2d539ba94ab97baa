/- The plain law of DhcpFirst, of all inputs that its row lets in. -/
import Derived.Test.YtpbofaghnfheiaaPureDhcpMore
import Derived.Test.YtpbofaghnfheiaaQDhcpFirst
import Derived.Test.YtpbofaghnfheiaaPx11
namespace Go.Proofs.Ytpbofaghnfheiaa.Pure
set_option linter.unusedVariables false
open Go.RowKit Go.Proofs.Ytpbofaghnfheiaa.Aux Go.Proofs.Ytpbofaghnfheiaa.P Go.Proofs.Ytpbofaghnfheiaa.Pure Go.Proofs.YtpbofaghnfheiaaW.PrintWords Go.Proofs.YtpbofaghnfheiaaW.PrintLast Go.Proofs.YtpbofaghnfheiaaW.PrintMore
theorem OO_pads (n : Nat) (t mp) : OO (List.replicate n 0 ++ t) mp = OO t mp := by
  induction n with
  | zero => rfl
  | succ n ih => rw [List.replicate_succ, List.cons_append, OO_pad, ih]
theorem first_parse {a5 a6 a7 a8 a9 a10 a11 want : Int} {odd : List Int} (n : Nat) (hw : 0 < want ∧ want < 4294967296) (h7 : 0 ≤ a7 ∧ a7 < 4294967296) (h8 : 0 ≤ a8 ∧ a8 < 4294967296) (h9 : 0 ≤ a9 ∧ a9 < 4294967296) (h10 : 0 ≤ a10 ∧ a10 < 4294967296) (h11 : 0 ≤ a11 ∧ a11 < 4294967296) (rest : List Int) :
    OO (List.replicate n 0 ++ (50 :: 4 :: (u4 want ++ (200 :: (odd.length : Int) :: (odd ++ tl a5 a6 a7 a8 a9 a10 a11 rest))))) [] = OO rest (mt [(53, a5), (50, want)] a7 a8 a9 a10 a11) := by
  rw [OO_pads]
  have e := OO_opt (kd := 50) (x := want) (m := []) (rest := 200 :: (odd.length : Int) :: (odd ++ tl a5 a6 a7 a8 a9 a10 a11 rest)) (by decide) (by decide) (by decide) rfl (by omega) hw.2
  unfold opt add at e
  rw [if_pos hw.1, if_pos hw.1] at e
  rw [show 50 :: 4 :: (u4 want ++ (200 :: (odd.length : Int) :: (odd ++ tl a5 a6 a7 a8 a9 a10 a11 rest))) = (50 :: 4 :: u4 want) ++ (200 :: (odd.length : Int) :: (odd ++ tl a5 a6 a7 a8 a9 a10 a11 rest)) from rfl, e]
  rw [OO_two (by decide) (by decide), if_neg (by rw [List.length_append]; omega), if_neg (fun h => absurd h.1 (by decide)), Int.toNat_natCast, List.drop_left]
  unfold tl
  rw [OO_type a5 rfl, OO_opt_met (v := want) (by decide) (by decide) rfl]
  exact opts_parse ⟨rfl, rfl, rfl, rfl, rfl⟩ h7 h8 h9 h10 h11
theorem DhcpFirst : drawbridgelaw20_DhcpFirst.Pure := by
  intro a0 a1 a2 a3 l4 a5 a6 a7 a8 a9 a10 a11 want odd noughts q0 q1 q2 q3 q4 q5 q6 q7 q8 q9 q10 q11 qw hlo hoo qn
  have b1 := bounds_u32 q1; have b2 := bounds_u32 q2; have b3 := bounds_u32 q3; have b6 := bounds_u32 q6; have b7 := bounds_u32 q7; have b8 := bounds_u32 q8; have b9 := bounds_u32 q9; have b10 := bounds_u32 q10; have b11 := bounds_u32 q11; have bw := bounds_u32 qw
  refine ⟨3000, ?_⟩
  have hh := heads_is (k := 2999) (by decide)
  have hh2 := heads_is (k := 2998) (by decide)
  have out : drawbridgelaw20_DhcpFirst.j0 3000 want odd noughts true a0 a1 a2 a3 l4 a5 a6 a7 a8 a9 a10 a11 = some true := by
    rw [drawbridgelaw20_DhcpFirst.j0, if_pos rfl, hh]; rfl
  unfold drawbridgelaw20_DhcpFirst.f
  by_cases h0 : (odd.length : Int) > 255
  · rw [if_pos h0]; exact out
  rw [if_neg h0]
  by_cases h1 : noughts < 0
  · rw [if_pos h1]; exact out
  rw [if_neg h1]
  by_cases h2 : noughts > 100
  · rw [if_pos h2]; exact out
  rw [if_neg h2]
  by_cases h3 : want = 0
  · rw [show (want == 0) = true by simp [h3]]; exact out
  rw [show (want == 0) = false by simpa using h3, drawbridgelaw20_DhcpFirst.j0, if_neg (by decide)]
  cases hb : dhcp_Put.bad a0 l4 a5 with
  | true =>
    rw [put_bad hb, Option.bind_some]
    dsimp only
    rw [if_neg (by decide), drawbridgelaw20_DhcpFirst.j1, if_pos rfl, if_neg (by decide), hh2]; rfl
  | false =>
    have hp := put_is (k := 2999) (by decide) (a1 := a1) (a2 := a2) (a3 := a3) (a6 := a6) (a7 := a7) (a8 := a8) (a9 := a9) (a10 := a10) (a11 := a11) hb (by omega) (by omega) (by omega) (by omega) (by omega) (by omega) (by omega) (by omega) (by omega)
    have hb' := hb
    simp only [dhcp_Put.bad, Bool.or_eq_false_iff, decide_eq_false_iff_not, bne_eq_false_iff_eq] at hb'
    have hl : l4.length = 6 := by omega
    have L := put_len (a0 := a0) (a1 := a1) (a2 := a2) (a3 := a3) (a5 := a5) (a6 := a6) (a7 := a7) (a8 := a8) (a9 := a9) (a10 := a10) (a11 := a11) hl
    have LH := hd_len (a0 := a0) (a1 := a1) (a2 := a2) (a3 := a3) hl
    have okh : okB (hd a0 a1 a2 a3 l4) := hd_ok (by omega) (okB_of q4.2)
    have okt : okB (tl a5 a6 a7 a8 a9 a10 a11 [255]) := tl_ok (by omega) (okB_cons (by decide) (by decide) okB_nil)
    have LT : (tl a5 a6 a7 a8 a9 a10 a11 [255]).length ≤ 60 := by rw [List.length_append, LH] at L; omega
    have e53 : dhcp_Get.look (mt [(53, a5), (50, want)] a7 a8 a9 a10 a11) 53 = a5 := by rw [mt_53]; rfl
    have e50 : dhcp_Get.look (mt [(53, a5), (50, want)] a7 a8 a9 a10 a11) 50 = want := by rw [mt_50]; rfl
    have fr : Fresh [(53, a5), (50, want)] := ⟨rfl, rfl, rfl, rfl, rfl⟩
    have hparse := first_parse (a5 := a5) (a6 := a6) (odd := odd) noughts.toNat (want := want) (by omega) (a7 := a7) (a8 := a8) (a9 := a9) (a10 := a10) (a11 := a11) (by omega) (by omega) (by omega) (by omega) (by omega) [255]
    have hg := GG_hd (a0 := a0) (a1 := a1) (a2 := a2) (a3 := a3) hl (by omega) (by omega) (by omega) (by omega) (hparse.trans (OO_end [] _)) (by rw [e53]; omega)
    rw [e53, e50, mt_54 fr (by omega), mt_51 fr _ (by omega), mt_1 fr _ _ (by omega), mt_3 fr _ _ _ (by omega), mt_6 fr _ _ _ _ (by omega)] at hg
    rw [hp, Option.bind_some]
    dsimp only
    rw [if_pos rfl, show decide (((hd a0 a1 a2 a3 l4 ++ tl a5 a6 a7 a8 a9 a10 a11 [255]).length : Int) < 240) = false from decide_eq_false (by omega), drawbridgelaw20_DhcpFirst.j1, if_neg (by decide), if_pos (by omega), if_pos (by omega), Option.bind_some, Option.bind_some,
      if_pos (by simp; omega), Option.bind_some, Option.bind_some, if_pos (by omega), Option.bind_some, List.take_left' LH, List.drop_left' LH, if_pos (by rw [LH]; decide), Option.bind_some, if_pos (by simp [LH]; omega), Option.bind_some, if_pos (by simp [LH]; omega), Option.bind_some, Option.bind_some, if_pos (by simp [LH]; omega)]
    have eo : (odd.length : Int) % 256 = odd.length := by omega
    rw [eo, show ([] ++ hd a0 a1 a2 a3 l4 ++ (List.replicate noughts.toNat 0 ++ [50, 4, want / 16777216 % 256, want / 65536 % 256, want / 256 % 256, want % 256, 200, (odd.length : Int)]) ++ odd ++ tl a5 a6 a7 a8 a9 a10 a11 [255]) = hd a0 a1 a2 a3 l4 ++ (List.replicate noughts.toNat 0 ++ (50 :: 4 :: (u4 want ++ (200 :: (odd.length : Int) :: (odd ++ tl a5 a6 a7 a8 a9 a10 a11 [255]))))) from by simp [u4]]
    have okc : okB (hd a0 a1 a2 a3 l4 ++ (List.replicate noughts.toNat 0 ++ (50 :: 4 :: (u4 want ++ (200 :: (odd.length : Int) :: (odd ++ tl a5 a6 a7 a8 a9 a10 a11 [255])))))) :=
      okB_append okh (okB_append (okB_zeros _) (okB_cons (by decide) (by decide) (okB_cons (by decide) (by decide) (okB_append (u4_ok _) (okB_cons (by decide) (by decide) (okB_cons (by omega) (by omega) (okB_append (okB_of hoo) okt)))))))
    have LC : (hd a0 a1 a2 a3 l4 ++ (List.replicate noughts.toNat 0 ++ (50 :: 4 :: (u4 want ++ (200 :: (odd.length : Int) :: (odd ++ tl a5 a6 a7 a8 a9 a10 a11 [255])))))).length ≤ 1000 := by
      simp only [List.length_append, List.length_cons, List.length_replicate, u4_len, LH]; omega
    rw [get_is okc (by omega) (by omega), Option.bind_some, hg]
    dsimp only
    rw [if_pos rfl, same_all, Option.bind_some, if_pos rfl, hh2]; rfl
end Go.Proofs.Ytpbofaghnfheiaa.Pure
