/- What is put is read again; the heads that must come at any rate; each states its own conditions. -/
import Derived.Test.YtpbofaghnfheiaaPureDhcp
import Derived.Test.YtpbofaghnfheiaaPx3
import Derived.Test.YtpbofaghnfheiaaPx5
namespace Go.Proofs.Ytpbofaghnfheiaa.Pure
set_option linter.unusedVariables false
open Go.RowKit Go.Proofs.Ytpbofaghnfheiaa.Aux Go.Proofs.Ytpbofaghnfheiaa.P Go.Proofs.YtpbofaghnfheiaaW.PrintWords Go.Proofs.YtpbofaghnfheiaaW.PrintLast Go.Proofs.YtpbofaghnfheiaaW.PrintMore
def add (kd x : Int) (m : List (Int × Int)) : List (Int × Int) := if 0 < x then (kd, x) :: m else m
theorem add_ne {a kd : Int} (h : a ≠ kd) (x : Int) (m) : (add kd x m).lookup a = m.lookup a := by
  unfold add
  split
  · rw [List.lookup_cons, show (a == kd) = false by simpa using h]
  · rfl
theorem look_ne {a kd : Int} (h : a ≠ kd) (x : Int) (m) : dhcp_Get.look (add kd x m) a = dhcp_Get.look m a := by
  unfold dhcp_Get.look
  rw [add_ne h]
theorem look_eq {kd x : Int} {m : List (Int × Int)} (h : m.lookup kd = none) (h0 : 0 ≤ x) : dhcp_Get.look (add kd x m) kd = x := by
  unfold dhcp_Get.look add
  split
  · rw [List.lookup_cons, show (kd == kd) = true by simp]; rfl
  · rw [h]; show (0 : Int) = x; omega
theorem OO_opt {kd x : Int} {m : List (Int × Int)} {rest : List Int} (h1 : kd ≠ 255) (h2 : kd ≠ 0) (hs : optSize kd = 4) (hm : m.lookup kd = none) (h0 : 0 ≤ x) (hx : x < 4294967296) : OO (opt kd x ++ rest) m = OO rest (add kd x m) := by
  unfold opt add
  by_cases h : 0 < x
  · rw [if_pos h, if_pos h, show (kd :: 4 :: u4 x) ++ rest = kd :: 4 :: (u4 x ++ rest) from rfl, OO_two h1 h2, if_neg (by rw [List.length_append, u4_len]; omega), if_pos ⟨by omega, hm, .inl hs.symm⟩, hs]
    rw [show (u4 x ++ rest).drop (4 : Int).toNat = rest from rfl, show (u4 x ++ rest).take (4 : Int).toNat = u4 x from rfl, g4_u4 h0 hx]
  · rw [if_neg h, if_neg h]; rfl
theorem OO_opt_met {kd x v : Int} {m : List (Int × Int)} {rest : List Int} (h1 : kd ≠ 255) (h2 : kd ≠ 0) (hm : m.lookup kd = some v) : OO (opt kd x ++ rest) m = OO rest m := by
  unfold opt
  by_cases h : 0 < x
  · rw [if_pos h, show (kd :: 4 :: u4 x) ++ rest = kd :: 4 :: (u4 x ++ rest) from rfl, OO_two h1 h2, if_neg (by rw [List.length_append, u4_len]; omega), if_neg (fun h => by have := h.2.1; rw [hm] at this; cases this)]
    rfl
  · rw [if_neg h]; rfl
def mt (m : List (Int × Int)) (a7 a8 a9 a10 a11 : Int) : List (Int × Int) := add 6 a11 (add 3 a10 (add 1 a9 (add 51 a8 (add 54 a7 m))))
theorem mt_53 (m a7 a8 a9 a10 a11) : dhcp_Get.look (mt m a7 a8 a9 a10 a11) 53 = dhcp_Get.look m 53 := by unfold mt; rw [look_ne (by decide), look_ne (by decide), look_ne (by decide), look_ne (by decide), look_ne (by decide)]
theorem mt_50 (m a7 a8 a9 a10 a11) : dhcp_Get.look (mt m a7 a8 a9 a10 a11) 50 = dhcp_Get.look m 50 := by unfold mt; rw [look_ne (by decide), look_ne (by decide), look_ne (by decide), look_ne (by decide), look_ne (by decide)]
structure Fresh (m : List (Int × Int)) : Prop where
  a : m.lookup 54 = none
  b : m.lookup 51 = none
  c : m.lookup 1 = none
  d : m.lookup 3 = none
  e : m.lookup 6 = none
theorem mt_54 {m} (h : Fresh m) {a7 : Int} (h0 : 0 ≤ a7) (a8 a9 a10 a11) : dhcp_Get.look (mt m a7 a8 a9 a10 a11) 54 = a7 := by unfold mt; rw [look_ne (by decide), look_ne (by decide), look_ne (by decide), look_ne (by decide), look_eq h.a h0]
theorem mt_51 {m} (h : Fresh m) (a7) {a8 : Int} (h0 : 0 ≤ a8) (a9 a10 a11) : dhcp_Get.look (mt m a7 a8 a9 a10 a11) 51 = a8 := by unfold mt; rw [look_ne (by decide), look_ne (by decide), look_ne (by decide), look_eq (by rw [add_ne (by decide)]; exact h.b) h0]
theorem mt_1 {m} (h : Fresh m) (a7 a8) {a9 : Int} (h0 : 0 ≤ a9) (a10 a11) : dhcp_Get.look (mt m a7 a8 a9 a10 a11) 1 = a9 := by unfold mt; rw [look_ne (by decide), look_ne (by decide), look_eq (by rw [add_ne (by decide), add_ne (by decide)]; exact h.c) h0]
theorem mt_3 {m} (h : Fresh m) (a7 a8 a9) {a10 : Int} (h0 : 0 ≤ a10) (a11) : dhcp_Get.look (mt m a7 a8 a9 a10 a11) 3 = a10 := by unfold mt; rw [look_ne (by decide), look_eq (by rw [add_ne (by decide), add_ne (by decide), add_ne (by decide)]; exact h.d) h0]
theorem mt_6 {m} (h : Fresh m) (a7 a8 a9 a10) {a11 : Int} (h0 : 0 ≤ a11) : dhcp_Get.look (mt m a7 a8 a9 a10 a11) 6 = a11 := by unfold mt; rw [look_eq (by rw [add_ne (by decide), add_ne (by decide), add_ne (by decide), add_ne (by decide)]; exact h.e) h0]
theorem opts_parse {m} (h : Fresh m) {a7 a8 a9 a10 a11 : Int} {rest : List Int} (h7 : 0 ≤ a7 ∧ a7 < 4294967296) (h8 : 0 ≤ a8 ∧ a8 < 4294967296) (h9 : 0 ≤ a9 ∧ a9 < 4294967296) (h10 : 0 ≤ a10 ∧ a10 < 4294967296) (h11 : 0 ≤ a11 ∧ a11 < 4294967296) :
    OO (opt 54 a7 ++ (opt 51 a8 ++ (opt 1 a9 ++ (opt 3 a10 ++ (opt 6 a11 ++ rest))))) m = OO rest (mt m a7 a8 a9 a10 a11) := by
  rw [OO_opt (by decide) (by decide) (by decide) h.a h7.1 h7.2, OO_opt (by decide) (by decide) (by decide) (by rw [add_ne (by decide)]; exact h.b) h8.1 h8.2, OO_opt (by decide) (by decide) (by decide) (by rw [add_ne (by decide), add_ne (by decide)]; exact h.c) h9.1 h9.2,
    OO_opt (by decide) (by decide) (by decide) (by rw [add_ne (by decide), add_ne (by decide), add_ne (by decide)]; exact h.d) h10.1 h10.2, OO_opt (by decide) (by decide) (by decide) (by rw [add_ne (by decide), add_ne (by decide), add_ne (by decide), add_ne (by decide)]; exact h.e) h11.1 h11.2]
  rfl
theorem OO_type {m : List (Int × Int)} {t : List Int} (a5 : Int) (hm : m.lookup 53 = none) : OO (53 :: 1 :: a5 :: t) m = OO t ((53, a5) :: m) := by
  rw [OO_two (by decide) (by decide), if_neg (by simp; omega), if_pos ⟨by decide, hm, .inl (by decide)⟩]
  rfl
theorem tl_parse {a5 a6 a7 a8 a9 a10 a11 : Int} {rest : List Int} (h6 : 0 ≤ a6 ∧ a6 < 4294967296) (h7 : 0 ≤ a7 ∧ a7 < 4294967296) (h8 : 0 ≤ a8 ∧ a8 < 4294967296) (h9 : 0 ≤ a9 ∧ a9 < 4294967296) (h10 : 0 ≤ a10 ∧ a10 < 4294967296) (h11 : 0 ≤ a11 ∧ a11 < 4294967296) :
    OO (tl a5 a6 a7 a8 a9 a10 a11 rest) [] = OO rest (mt (add 50 a6 [(53, a5)]) a7 a8 a9 a10 a11) := by
  unfold tl
  rw [OO_type a5 rfl, OO_opt (by decide) (by decide) (by decide) rfl h6.1 h6.2]
  exact opts_parse ⟨by rw [add_ne (by decide)]; rfl, by rw [add_ne (by decide)]; rfl, by rw [add_ne (by decide)]; rfl, by rw [add_ne (by decide)]; rfl, by rw [add_ne (by decide)]; rfl⟩ h7 h8 h9 h10 h11
theorem tl_append (a5 a6 a7 a8 a9 a10 a11 : Int) (r s : List Int) : tl a5 a6 a7 a8 a9 a10 a11 r ++ s = tl a5 a6 a7 a8 a9 a10 a11 (r ++ s) := by simp [tl]
/-- A head with options behind it, read. -/
theorem GG_hd {a0 a1 a2 a3 : Int} {l4 tail : List Int} {mp : List (Int × Int)} (hl : l4.length = 6) (h0 : 1 ≤ a0 ∧ a0 ≤ 2) (h1 : 0 ≤ a1 ∧ a1 < 4294967296) (h2 : 0 ≤ a2 ∧ a2 < 4294967296) (h3 : 0 ≤ a3 ∧ a3 < 4294967296) (ht : OO tail [] = some mp) (hk : 1 ≤ dhcp_Get.look mp 53 ∧ dhcp_Get.look mp 53 ≤ 8) :
    GG (hd a0 a1 a2 a3 l4 ++ tail) = (a0, a1, a2, a3, l4, dhcp_Get.look mp 53, dhcp_Get.look mp 50, dhcp_Get.look mp 54, dhcp_Get.look mp 51, dhcp_Get.look mp 1, dhcp_Get.look mp 3, dhcp_Get.look mp 6, 0) := by
  have L := hd_len (a0 := a0) (a1 := a1) (a2 := a2) (a3 := a3) hl
  unfold GG
  rw [if_neg (by rw [List.length_append, L]; omega), List.drop_left' L, ht]
  obtain ⟨a, b, c, d, e, f, rfl⟩ := six hl
  dsimp only
  rw [show ((hd a0 a1 a2 a3 [a, b, c, d, e, f] ++ tail).take 240).drop 236 = [99, 130, 83, 99] from by kernel_rfl, show ((hd a0 a1 a2 a3 [a, b, c, d, e, f] ++ tail).take 8).drop 4 = u4 a1 from by kernel_rfl,
    show ((hd a0 a1 a2 a3 [a, b, c, d, e, f] ++ tail).take 16).drop 12 = u4 a2 from by kernel_rfl, show ((hd a0 a1 a2 a3 [a, b, c, d, e, f] ++ tail).take 20).drop 16 = u4 a3 from by kernel_rfl, show ((hd a0 a1 a2 a3 [a, b, c, d, e, f] ++ tail).take 34).drop 28 = [a, b, c, d, e, f] from by kernel_rfl,
    show rd (hd a0 a1 a2 a3 [a, b, c, d, e, f] ++ tail) 0 = a0 from by kernel_rfl, g4_u4 h1.1 h1.2, g4_u4 h2.1 h2.2, g4_u4 h3.1 h3.2]
  have hb : dhcp_Get.bad (hd a0 a1 a2 a3 [a, b, c, d, e, f] ++ tail) mp (g4 [99, 130, 83, 99]) = false := by
    unfold dhcp_Get.bad
    rw [show rd (hd a0 a1 a2 a3 [a, b, c, d, e, f] ++ tail) 0 = a0 from by kernel_rfl, show rd (hd a0 a1 a2 a3 [a, b, c, d, e, f] ++ tail) 1 = 1 from by kernel_rfl, show rd (hd a0 a1 a2 a3 [a, b, c, d, e, f] ++ tail) 2 = 6 from by kernel_rfl, show g4 [99, 130, 83, 99] = 1669485411 from by decide]
    simp only [Bool.or_eq_false_iff, decide_eq_false_iff_not, bne_eq_false_iff_eq]
    exact ⟨⟨⟨⟨⟨⟨by omega, by omega⟩, trivial⟩, trivial⟩, trivial⟩, by omega⟩, by omega⟩
  rw [if_neg (by rw [hb]; decide)]
/-- A message put, and whatever behind it, read. -/
theorem GG_put {a0 a1 a2 a3 a5 a6 a7 a8 a9 a10 a11 : Int} {l4 more : List Int} (hb : dhcp_Put.bad a0 l4 a5 = false)
    (h1 : 0 ≤ a1 ∧ a1 < 4294967296) (h2 : 0 ≤ a2 ∧ a2 < 4294967296) (h3 : 0 ≤ a3 ∧ a3 < 4294967296) (h6 : 0 ≤ a6 ∧ a6 < 4294967296) (h7 : 0 ≤ a7 ∧ a7 < 4294967296) (h8 : 0 ≤ a8 ∧ a8 < 4294967296) (h9 : 0 ≤ a9 ∧ a9 < 4294967296) (h10 : 0 ≤ a10 ∧ a10 < 4294967296) (h11 : 0 ≤ a11 ∧ a11 < 4294967296) :
    GG ((hd a0 a1 a2 a3 l4 ++ tl a5 a6 a7 a8 a9 a10 a11 [255]) ++ more) = (a0, a1, a2, a3, l4, a5, a6, a7, a8, a9, a10, a11, 0) := by
  simp only [dhcp_Put.bad, Bool.or_eq_false_iff, decide_eq_false_iff_not, bne_eq_false_iff_eq] at hb
  have hl : l4.length = 6 := by omega
  have hf : Fresh (add 50 a6 [(53, a5)]) := ⟨by rw [add_ne (by decide)]; rfl, by rw [add_ne (by decide)]; rfl, by rw [add_ne (by decide)]; rfl, by rw [add_ne (by decide)]; rfl, by rw [add_ne (by decide)]; rfl⟩
  have e53 : dhcp_Get.look (mt (add 50 a6 [(53, a5)]) a7 a8 a9 a10 a11) 53 = a5 := by rw [mt_53, look_ne (by decide)]; rfl
  rw [List.append_assoc, tl_append, show ([255] : List Int) ++ more = 255 :: more from rfl, GG_hd hl (by omega) h1 h2 h3 ((tl_parse h6 h7 h8 h9 h10 h11).trans (OO_end more _)) (by rw [e53]; omega)]
  rw [e53, mt_50, look_eq rfl h6.1, mt_54 hf h7.1, mt_51 hf _ h8.1, mt_1 hf _ _ h9.1, mt_3 hf _ _ _ h10.1, mt_6 hf _ _ _ _ h11.1]
theorem put_len {a0 a1 a2 a3 a5 a6 a7 a8 a9 a10 a11 : Int} {l4 : List Int} (hl : l4.length = 6) : 244 ≤ (hd a0 a1 a2 a3 l4 ++ tl a5 a6 a7 a8 a9 a10 a11 [255]).length ∧ (hd a0 a1 a2 a3 l4 ++ tl a5 a6 a7 a8 a9 a10 a11 [255]).length ≤ 300 := by
  have o1 := opt_len 50 a6; have o2 := opt_len 54 a7; have o3 := opt_len 51 a8; have o4 := opt_len 1 a9; have o5 := opt_len 3 a10; have o6 := opt_len 6 a11
  have L := hd_len (a0 := a0) (a1 := a1) (a2 := a2) (a3 := a3) hl
  simp only [List.length_append, L, tl, List.length_cons, List.length_nil]
  omega
theorem same_all (a0 a1 a2 a3 : Int) (l4 : List Int) (a5 a6 a7 a8 a9 a10 a11 : Int) : drawbridgeref20_Same.f a0 a1 a2 a3 l4 a5 a6 a7 a8 a9 a10 a11 a0 a1 a2 a3 l4 a5 a6 a7 a8 a9 a10 a11 = some true := by
  unfold drawbridgeref20_Same.f
  simp
theorem same_eq (x y : T13) (h : x = y) : drawbridgeref20_Same.f x.1 x.2.1 x.2.2.1 x.2.2.2.1 x.2.2.2.2.1 x.2.2.2.2.2.1 x.2.2.2.2.2.2.1 x.2.2.2.2.2.2.2.1 x.2.2.2.2.2.2.2.2.1 x.2.2.2.2.2.2.2.2.2.1 x.2.2.2.2.2.2.2.2.2.2.1 x.2.2.2.2.2.2.2.2.2.2.2.1 y.1 y.2.1 y.2.2.1 y.2.2.2.1 y.2.2.2.2.1 y.2.2.2.2.2.1 y.2.2.2.2.2.2.1 y.2.2.2.2.2.2.2.1 y.2.2.2.2.2.2.2.2.1 y.2.2.2.2.2.2.2.2.2.1 y.2.2.2.2.2.2.2.2.2.2.1 y.2.2.2.2.2.2.2.2.2.2.2.1 = some true := by
  subst h
  exact same_all _ _ _ _ _ _ _ _ _ _ _ _
theorem heads_is {k : Nat} (hk : 400 ≤ k) : drawbridgelaw20_heads.f k = some true := by
  have h : drawbridgelaw20_heads.f 400 = some true := by
    have hb : dhcp_Put.bad 1 [1, 2, 3, 4, 5, 6] 1 = false := by decide
    have z : (0 : Int) ≤ 0 ∧ (0 : Int) < 4294967296 := by decide
    have p1 := put_is (k := 400) (by decide) (a1 := 7) (a2 := 0) (a3 := 0) (a6 := 0) (a7 := 0) (a8 := 0) (a9 := 0) (a10 := 0) (a11 := 0) hb (by decide) z z z z z z z z
    have L : (hd 1 7 0 0 [1, 2, 3, 4, 5, 6] ++ tl 1 0 0 0 0 0 0 [255]).length = 244 := by kernel_rfl
    have ok : okB (hd 1 7 0 0 [1, 2, 3, 4, 5, 6] ++ tl 1 0 0 0 0 0 0 [255]) := okB_append (hd_ok (by decide) (by intro x hx; simp at hx; omega)) (tl_ok (by decide) (okB_cons (by decide) (by decide) okB_nil))
    have g1 := get_is ok (by rw [L]; decide) (k := 400) (by rw [L]; decide)
    have e1 := GG_put (more := []) hb (a1 := 7) (a2 := 0) (a3 := 0) (a6 := 0) (a7 := 0) (a8 := 0) (a9 := 0) (a10 := 0) (a11 := 0) (by decide) z z z z z z z z
    rw [List.append_nil] at e1
    rw [e1] at g1
    generalize hd 1 7 0 0 [1, 2, 3, 4, 5, 6] ++ tl 1 0 0 0 0 0 0 [255] = b at p1 L ok g1
    have o2 : okB (b.take 122) := okB_sub (fun z hz => List.mem_of_mem_take hz) ok
    have L2 : (b.take 122).length = 122 := by rw [List.length_take, L]; rfl
    have g2 := get_is o2 (by rw [L2]; decide) (k := 400) (by rw [L2]; decide)
    have e2 : GG (b.take 122) = (0, 0, 0, 0, [], 0, 0, 0, 0, 0, 0, 0, 160) := by unfold GG; rw [if_pos (by rw [L2]; decide)]
    rw [e2] at g2
    have q : dhcp_Put.f 400 0 0 0 0 ([] : List Int) 0 0 0 0 0 0 0 = some ([], 2) := put_bad (by decide)
    have w : wrap64 ((b.length : Int) / 2) = 122 := by rw [L]; exact (w64 (by decide) (by decide)).trans (by decide)
    unfold drawbridgelaw20_heads.f
    rw [Option.bind_some, p1, Option.bind_some, g1, Option.bind_some]
    dsimp only
    rw [w, if_pos (by decide), if_pos (by rw [L]; decide), show ((122 : Int).toNat) = 122 from rfl, g2, Option.bind_some, q, Option.bind_some]
    dsimp only
    rw [if_pos rfl, if_pos (by rw [L]; rfl), if_pos rfl, same_all, Option.bind_some, if_pos rfl, if_pos rfl]
    rfl
  exact at_rounds (g := fun k => drawbridgelaw20_heads.f k) (fun k => drawbridgelaw20_heads.mono k) hk h
end Go.Proofs.Ytpbofaghnfheiaa.Pure
