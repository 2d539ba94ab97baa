/- The plain law of DhcpTells, of all inputs that its row lets in. -/
import Derived.Test.YtpbofaghnfheiaaPureDhcpMore
import Derived.Test.YtpbofaghnfheiaaQDhcpTells
import Derived.Test.YtpbofaghnfheiaaPx6
import Derived.Test.YtpbofaghnfheiaaPx7
import Derived.Test.YtpbofaghnfheiaaPx8
import Derived.Test.YtpbofaghnfheiaaPx9
namespace Go.Proofs.Ytpbofaghnfheiaa.Pure
set_option linter.unusedVariables false
open Go.RowKit Go.Proofs.Ytpbofaghnfheiaa.Aux Go.Proofs.Ytpbofaghnfheiaa.P Go.Proofs.Ytpbofaghnfheiaa.Pure Go.Proofs.YtpbofaghnfheiaaW.PrintWords Go.Proofs.YtpbofaghnfheiaaW.PrintLast Go.Proofs.YtpbofaghnfheiaaW.PrintMore
theorem rPut_4 (x : Int) : drawbridgeref01_Put.f 20 x 4 true = some [x / 16777216 % 256, x / 65536 % 256, x / 256 % 256, x / 1 % 256] := by kernel_rfl
theorem four_is {k : Nat} (hk : 20 ≤ k) {x : Int} (h0 : 0 ≤ x) (h1 : x < 4294967296) : drawbridgeref20_four.f k x = some (u4 x) := by
  have h := rPut_4 x
  rw [Int.ediv_one] at h
  unfold drawbridgeref20_four.f
  rw [wu64 h0 (by omega), at_rounds (g := fun k => drawbridgeref01_Put.f k x 4 true) (fun k => drawbridgeref01_Put.mono _ _ _ k) hk h]
  rfl
theorem option_is {k : Nat} (hk : 20 ≤ k) (kd : Int) {x : Int} (h0 : 0 ≤ x) (h1 : x < 4294967296) : drawbridgeref20_option.f k kd x = some (opt kd x) := by
  unfold drawbridgeref20_option.f opt
  by_cases h : x = 0
  · rw [if_pos h, if_neg (by omega)]
  · rw [if_neg h, if_pos (by omega), Option.bind_some, four_is hk h0 h1, Option.bind_some, if_pos (by simp [u4])]
    rfl
theorem rput_is {a0 a1 a2 a3 a5 a6 a7 a8 a9 a10 a11 : Int} {l4 : List Int} (hb : dhcp_Put.bad a0 l4 a5 = false)
    (h1 : 0 ≤ a1 ∧ a1 < 4294967296) (h2 : 0 ≤ a2 ∧ a2 < 4294967296) (h3 : 0 ≤ a3 ∧ a3 < 4294967296) (h6 : 0 ≤ a6 ∧ a6 < 4294967296) (h7 : 0 ≤ a7 ∧ a7 < 4294967296) (h8 : 0 ≤ a8 ∧ a8 < 4294967296) (h9 : 0 ≤ a9 ∧ a9 < 4294967296) (h10 : 0 ≤ a10 ∧ a10 < 4294967296) (h11 : 0 ≤ a11 ∧ a11 < 4294967296) :
    drawbridgeref20_Put.j0 60 false a0 a1 a2 a3 l4 a5 a6 a7 a8 a9 a10 a11 = some (hd a0 a1 a2 a3 l4 ++ tl a5 a6 a7 a8 a9 a10 a11 [255], 0) := by
  simp only [dhcp_Put.bad, Bool.or_eq_false_iff, decide_eq_false_iff_not, bne_eq_false_iff_eq] at hb
  have hl : l4.length = 6 := by omega
  have ea : a0 % 256 = a0 := by omega
  have eb : a5 % 256 = a5 := by omega
  rw [drawbridgeref20_Put.j0, if_neg (by decide)]
  simp only [Option.bind_some, four_is (k := 59) (by decide) h1.1 h1.2, four_is (k := 59) (by decide) h2.1 h2.2, four_is (k := 59) (by decide) h3.1 h3.2]
  rw [if_pos (by simp only [List.length_append, List.length_cons, List.length_nil, List.length_replicate, u4_len, hl] <;> decide), if_pos (by simp only [List.length_append, List.length_cons, List.length_nil, List.length_replicate, u4_len, hl] <;> decide), if_pos (by simp only [List.length_append, List.length_cons, List.length_nil, List.length_replicate, u4_len, hl] <;> decide), if_pos (by simp only [List.length_append, List.length_cons, List.length_nil, List.length_replicate, u4_len, hl] <;> decide), if_pos (by simp only [List.length_append, List.length_cons, List.length_nil, List.length_replicate, u4_len, hl] <;> decide), if_pos (by simp only [List.length_append, List.length_cons, List.length_nil, List.length_replicate, u4_len, hl] <;> decide), if_pos (by simp only [List.length_append, List.length_cons, List.length_nil, List.length_replicate, u4_len, hl] <;> decide), if_pos (by simp only [List.length_append, List.length_cons, List.length_nil, List.length_replicate, u4_len, hl] <;> decide), ea, eb]
  have LH := hd_len (a0 := a0) (a1 := a1) (a2 := a2) (a3 := a3) hl
  rw [show [a0, 1, 6, 0] ++ u4 a1 ++ [0, 0, 0, 0] ++ u4 a2 ++ u4 a3 ++ List.replicate 8 0 ++ l4 ++ List.replicate 202 0 ++ [99, 130, 83, 99, 53, 1, a5] = hd a0 a1 a2 a3 l4 ++ [53, 1, a5] from by simp only [hd, List.append_assoc]; rfl]
  generalize hd a0 a1 a2 a3 l4 = H at LH
  have o1 := opt_len 50 a6; have o2 := opt_len 54 a7; have o3 := opt_len 51 a8; have o4 := opt_len 1 a9; have o5 := opt_len 3 a10; have o6 := opt_len 6 a11
  have L5 : (([50, 54, 51, 1, 3, 6] : List Int).length : Int) = 6 := rfl
  have L6 : (([a6, a7, a8, a9, a10, a11] : List Int).length : Int) = 6 := rfl
  have e1 : wrap64 (0 + 1) = 1 := w64 (by decide) (by decide)
  have e2 : wrap64 (1 + 1) = 2 := w64 (by decide) (by decide)
  have e3 : wrap64 (2 + 1) = 3 := w64 (by decide) (by decide)
  have e4 : wrap64 (3 + 1) = 4 := w64 (by decide) (by decide)
  have e5 : wrap64 (4 + 1) = 5 := w64 (by decide) (by decide)
  have e6 : wrap64 (5 + 1) = 6 := w64 (by decide) (by decide)
  rw [drawbridgeref20_Put.l0, if_pos (by rw [L5]; decide), if_pos (by decide), if_pos (by rw [L6]; decide), show rd ([50, 54, 51, 1, 3, 6] : List Int) 0 = 50 from rfl, show rd [a6, a7, a8, a9, a10, a11] 0 = a6 from rfl, option_is (by decide) 50 h6.1 h6.2, Option.bind_some, if_pos (by simp [LH]; omega), e1]
  rw [drawbridgeref20_Put.l0, if_pos (by rw [L5]; decide), if_pos (by decide), if_pos (by rw [L6]; decide), show rd ([50, 54, 51, 1, 3, 6] : List Int) 1 = 54 from rfl, show rd [a6, a7, a8, a9, a10, a11] 1 = a7 from rfl, option_is (by decide) 54 h7.1 h7.2, Option.bind_some, if_pos (by simp [LH]; omega), e2]
  rw [drawbridgeref20_Put.l0, if_pos (by rw [L5]; decide), if_pos (by decide), if_pos (by rw [L6]; decide), show rd ([50, 54, 51, 1, 3, 6] : List Int) 2 = 51 from rfl, show rd [a6, a7, a8, a9, a10, a11] 2 = a8 from rfl, option_is (by decide) 51 h8.1 h8.2, Option.bind_some, if_pos (by simp [LH]; omega), e3]
  rw [drawbridgeref20_Put.l0, if_pos (by rw [L5]; decide), if_pos (by decide), if_pos (by rw [L6]; decide), show rd ([50, 54, 51, 1, 3, 6] : List Int) 3 = 1 from rfl, show rd [a6, a7, a8, a9, a10, a11] 3 = a9 from rfl, option_is (by decide) 1 h9.1 h9.2, Option.bind_some, if_pos (by simp [LH]; omega), e4]
  rw [drawbridgeref20_Put.l0, if_pos (by rw [L5]; decide), if_pos (by decide), if_pos (by rw [L6]; decide), show rd ([50, 54, 51, 1, 3, 6] : List Int) 4 = 3 from rfl, show rd [a6, a7, a8, a9, a10, a11] 4 = a10 from rfl, option_is (by decide) 3 h10.1 h10.2, Option.bind_some, if_pos (by simp [LH]; omega), e5]
  rw [drawbridgeref20_Put.l0, if_pos (by rw [L5]; decide), if_pos (by decide), if_pos (by rw [L6]; decide), show rd ([50, 54, 51, 1, 3, 6] : List Int) 5 = 6 from rfl, show rd [a6, a7, a8, a9, a10, a11] 5 = a11 from rfl, option_is (by decide) 6 h11.1 h11.2, Option.bind_some, if_pos (by simp [LH]; omega), e6]
  rw [drawbridgeref20_Put.l0, if_neg (by rw [L5]; decide), if_pos (by simp [LH]; omega)]
  simp [tl]
theorem rput_any (x : Bool) (a0 a1 a2 a3 : Int) (l4 : List Int) (a5 a6 a7 a8 a9 a10 a11 : Int) : drawbridgeref20_Put.j0 60 true a0 a1 a2 a3 l4 a5 a6 a7 a8 a9 a10 a11 = some ([], 2) := by
  rw [drawbridgeref20_Put.j0, if_pos rfl]
theorem rput_f (a0 a1 a2 a3 : Int) (l4 : List Int) (a5 a6 a7 a8 a9 a10 a11 : Int) : drawbridgeref20_Put.f 60 a0 a1 a2 a3 l4 a5 a6 a7 a8 a9 a10 a11 = drawbridgeref20_Put.j0 60 (dhcp_Put.bad a0 l4 a5) a0 a1 a2 a3 l4 a5 a6 a7 a8 a9 a10 a11 := by
  unfold drawbridgeref20_Put.f
  have one : ∀ z : Bool, z = dhcp_Put.bad a0 l4 a5 → drawbridgeref20_Put.j0 60 z a0 a1 a2 a3 l4 a5 a6 a7 a8 a9 a10 a11 = drawbridgeref20_Put.j0 60 (dhcp_Put.bad a0 l4 a5) a0 a1 a2 a3 l4 a5 a6 a7 a8 a9 a10 a11 := fun z h => by rw [h]
  have bd : ∀ z : Bool, (z = true ↔ a0 < 1 ∨ 2 < a0 ∨ (l4.length : Int) ≠ 6 ∨ a5 < 1 ∨ 8 < a5) → z = dhcp_Put.bad a0 l4 a5 := fun z h => by
    rw [Bool.eq_iff_iff, h]
    simp only [dhcp_Put.bad, Bool.or_eq_true, decide_eq_true_eq, bne_iff_ne]
    constructor
    · rintro (h | h | h | h | h) <;> simp [h]
    · rintro ((((h | h) | h) | h) | h) <;> simp [h]
  by_cases h1 : a0 = 1
  · rw [if_pos h1]
    by_cases h2 : (l4.length : Int) = 6
    · rw [if_pos h2]
      by_cases h3 : a5 < 1
      · rw [if_pos h3]; exact one _ (bd _ ⟨fun _ => .inr (.inr (.inr (.inl h3))), fun _ => rfl⟩)
      · rw [if_neg h3]; exact one _ (bd _ ⟨fun h => .inr (.inr (.inr (.inr (of_decide_eq_true h)))), fun h => decide_eq_true (by omega)⟩)
    · rw [if_neg h2]; exact one _ (bd _ ⟨fun _ => .inr (.inr (.inl h2)), fun _ => rfl⟩)
  · rw [if_neg h1]
    by_cases h1' : a0 = 2
    · rw [if_pos h1']
      by_cases h2 : (l4.length : Int) = 6
      · rw [if_pos h2]
        by_cases h3 : a5 < 1
        · rw [if_pos h3]; exact one _ (bd _ ⟨fun _ => .inr (.inr (.inr (.inl h3))), fun _ => rfl⟩)
        · rw [if_neg h3]; exact one _ (bd _ ⟨fun h => .inr (.inr (.inr (.inr (of_decide_eq_true h)))), fun h => decide_eq_true (by omega)⟩)
      · rw [if_neg h2]; exact one _ (bd _ ⟨fun _ => .inr (.inr (.inl h2)), fun _ => rfl⟩)
    · rw [if_neg h1']; exact one _ (bd _ ⟨fun _ => by omega, fun _ => rfl⟩)
/-! ### What the document reads -/
theorem rGet_4 (a b c d : Int) : drawbridgeref01_Get.f 20 [a, b, c, d] true = some (IntKind.u64.wrap (IntKind.u64.wrap (IntKind.u64.wrap (IntKind.u64.wrap (IntKind.u64.wrap (IntKind.u64.wrap (IntKind.u64.wrap (0 * 256) + IntKind.u64.wrap a) * 256) + IntKind.u64.wrap b) * 256) + IntKind.u64.wrap c) * 256 |> fun z => IntKind.u64.wrap z + IntKind.u64.wrap d)) := by kernel_rfl
theorem number_is {k : Nat} (hk : 20 ≤ k) {l : List Int} (hl : l.length = 4) (h : okB l) : drawbridgeref20_number.f k l = some (g4 l) := by
  match l, hl with
  | [a, b, c, d], _ =>
    have h1 := h a (by simp); have h2 := h b (by simp); have h3 := h c (by simp); have h4 := h d (by simp)
    have e := rGet_4 a b c d
    dsimp only at e
    rw [wu64 (x := 0 * 256) (by omega) (by omega), wu64 (x := a) (by omega) (by omega), wu64 (x := b) (by omega) (by omega), wu64 (x := c) (by omega) (by omega), wu64 (x := d) (by omega) (by omega),
      wu64 (x := 0 * 256 + a) (by omega) (by omega), wu64 (x := (0 * 256 + a) * 256) (by omega) (by omega), wu64 (x := (0 * 256 + a) * 256 + b) (by omega) (by omega), wu64 (x := ((0 * 256 + a) * 256 + b) * 256) (by omega) (by omega),
      wu64 (x := ((0 * 256 + a) * 256 + b) * 256 + c) (by omega) (by omega), wu64 (x := (((0 * 256 + a) * 256 + b) * 256 + c) * 256) (by omega) (by omega), wu64 (x := (((0 * 256 + a) * 256 + b) * 256 + c) * 256 + d) (by omega) (by omega)] at e
    unfold drawbridgeref20_number.f
    rw [at_rounds (g := fun k => drawbridgeref01_Get.f k [a, b, c, d] true) (fun k => drawbridgeref01_Get.mono _ _ k) hk e, Option.bind_some]
    simp only [g4, Option.some.injEq]
    omega
def FF : Nat → List Int → Int → Int → Bool → List Int × Bool × Bool
  | 0, _, _, _, _ => ([], false, true)
  | _ + 1, [], _, _, _ => ([], false, true)
  | _ + 1, [x], _, _, _ => if x = 255 then ([], false, true) else if x = 0 then ([], false, true) else ([], false, false)
  | n + 1, x :: y :: t, K, s, m => if x = 255 then ([], false, true) else if x = 0 then FF n (y :: t) K s m else if (t.length : Int) < y then ([], false, false) else if x = K ∧ (y = s ∨ m = true ∧ s < y) then (t.take s.toNat, true, true) else FF n (t.drop y.toNat) K s m
set_option maxHeartbeats 400000 in
theorem find_is (K s : Int) (m : Bool) (hs : 0 ≤ s ∧ s ≤ 300) (b : List Int) (ho : okB b) (hb : b.length < 1000000) : ∀ (n i k : Nat), i ≤ b.length → (b.drop i).length ≤ n → 3 * n + 10 ≤ k → drawbridgeref20_find.l0 k b K s m (i : Int) = some (FF n (b.drop i) K s m) := by
  intro n
  induction n with
  | zero =>
    intro i k hi hn hk
    have : i = b.length := by rw [List.length_drop] at hn; omega
    subst this
    obtain ⟨k, rfl⟩ := Nat.exists_eq_add_of_le' (show 2 ≤ k by omega)
    rw [drawbridgeref20_find.l0, if_neg (by omega), drawbridgeref20_find.j1, if_neg (by decide)]
    rfl
  | succ n ih =>
    intro i k hi hn hk
    obtain ⟨k, rfl⟩ := Nat.exists_eq_add_of_le' (show 3 ≤ k by omega)
    have r0 := Aside0.mk (show rd b (i : Int) = (b.drop i).getD 0 0 by simp [rd, List.getD_eq_getElem?_getD])
    have r1 := Aside0.mk (show rd b ((i + 1 : Nat) : Int) = (b.drop i).getD 1 0 by simp [rd, List.getD_eq_getElem?_getD])
    have hdl : (b.drop i).length = b.length - i := List.length_drop
    have e1 := Aside0.mk (show wrap64 ((i : Int) + 1) = ((i + 1 : Nat) : Int) from (w64 (by omega) (by omega)).trans (by omega))
    rw [drawbridgeref20_find.l0]
    match hd : b.drop i with
    | [] =>
      rw [hd] at hdl
      simp only [List.length_nil] at hdl
      rw [if_neg (by omega), drawbridgeref20_find.j1, if_neg (by decide)]
      rfl
    | [x] =>
      rw [hd] at hdl
      have r0 := Aside0.mk (show rd b (i : Int) = [x].getD 0 0 by rw [r0.out, hd])
      simp only [List.length_cons, List.length_nil] at hdl
      rw [if_pos (by omega), if_pos (by omega), drawbridgeref20_find.j1, r0.out]
      simp only [FF, List.getD_cons_zero]
      by_cases h1 : x = 255
      · rw [if_neg (by simp [h1]), if_pos h1]
      rw [if_pos (by simp [h1]), if_neg h1, if_pos (by omega), if_pos (by omega)]
      by_cases h2 : x = 0
      · rw [if_pos h2, if_pos h2, e1.out, ih (i + 1) (k + 1) (by omega) (by rw [List.length_drop]; omega) (by omega)]
        rw [show b.drop (i + 1) = [] from List.drop_eq_nil_of_le (by omega)]
        cases n <;> rfl
      · rw [if_neg h2, if_neg h2, e1.out, if_pos (by omega), drawbridgeref20_find.j2, if_pos rfl]
    | x :: y :: t =>
      have hx := ho x (List.mem_of_mem_drop (by rw [hd]; simp))
      have hy := ho y (List.mem_of_mem_drop (by rw [hd]; simp))
      rw [hd] at hdl hn
      have r0 := Aside0.mk (show rd b (i : Int) = (x :: y :: t).getD 0 0 by rw [r0.out, hd])
      have r1 := Aside0.mk (show rd b ((i + 1 : Nat) : Int) = (x :: y :: t).getD 1 0 by rw [r1.out, hd])
      simp only [List.length_cons] at hdl hn
      have d1 : b.drop (i + 1) = y :: t := by rw [← List.drop_drop, hd]; rfl
      have d2 : b.drop (i + 2) = t := by rw [← List.drop_drop, hd]; rfl
      have e2 := Aside0.mk (show wrap64 ((i : Int) + 2) = ((i + 2 : Nat) : Int) from (w64 (by omega) (by omega)).trans (by omega))
      have ey := Aside0.mk (show wrap64 y = y from w64 (by omega) (by omega))
      have el := Aside0.mk (show wrap64 ((b.length : Int) - i) = (b.length : Int) - i from w64 (by omega) (by omega))
      have el2 := Aside0.mk (show wrap64 ((b.length : Int) - i - 2) = (t.length : Int) from (w64 (by omega) (by omega)).trans (by omega))
      rw [if_pos (by omega), if_pos (by omega), drawbridgeref20_find.j1, r0.out]
      simp only [FF, List.getD_cons_zero]
      by_cases h1 : x = 255
      · rw [if_neg (by simp [h1]), if_pos h1]
      rw [if_pos (by simp [h1]), if_neg h1, if_pos (by omega), if_pos (by omega)]
      by_cases h2 : x = 0
      · rw [if_pos h2, if_pos h2, e1.out, ih (i + 1) (k + 1) (by omega) (by rw [d1]; simp; omega) (by omega), d1]
      rw [if_neg h2, if_neg h2, e1.out, if_neg (by omega), if_pos (by omega), if_pos (by omega), r1.out, el.out, el2.out]
      simp only [List.getD_cons_succ, List.getD_cons_zero]
      rw [ey.out]
      by_cases h3 : (t.length : Int) < y
      · rw [if_pos h3, decide_eq_true (show y > (t.length : Int) from h3), drawbridgeref20_find.j2, if_pos rfl]
      rw [if_neg h3, decide_eq_false (show ¬ (y > (t.length : Int)) from h3), drawbridgeref20_find.j2, if_neg (by decide), e1.out, if_pos (by omega), if_pos (by omega), if_pos (by omega), if_pos (by omega), r0.out, r1.out]
      simp only [List.getD_cons_succ, List.getD_cons_zero]
      rw [ey.out, e2.out]
      have es := Aside0.mk (show wrap64 (((i + 2 : Nat) : Int) + s) = ((i + 2 + s.toNat : Nat) : Int) from (w64 (by omega) (by omega)).trans (by omega))
      have en := Aside0.mk (show wrap64 (((i + 2 : Nat) : Int) + y) = ((i + 2 + y.toNat : Nat) : Int) from (w64 (by omega) (by omega)).trans (by omega))
      have dn : b.drop (i + 2 + y.toNat) = t.drop y.toNat := by rw [← List.drop_drop, d2]
      have next : drawbridgeref20_find.l0 k b K s m ((i + 2 + y.toNat : Nat) : Int) = some (FF n (t.drop y.toNat) K s m) := by
        rw [ih (i + 2 + y.toNat) k (by omega) (by rw [dn, List.length_drop]; omega) (by omega), dn]
      have cut : s ≤ y → ((b.take ((i + 2 + s.toNat : Nat) : Int).toNat).drop ((i + 2 : Nat) : Int).toNat) = t.take s.toNat := fun _ => by
        rw [Int.toNat_natCast, Int.toNat_natCast, List.drop_take, d2]; congr 1; omega
      rw [en.out, es.out]
      by_cases h4 : x = K
      · rw [if_pos h4]
        by_cases h5 : y = s
        · rw [if_pos h5, if_pos (by omega), if_pos (by omega), if_pos (by omega), if_pos (show x = K ∧ (y = s ∨ m = true ∧ s < y) from ⟨h4, .inl h5⟩), cut (by omega)]
        · rw [if_neg h5]
          cases m with
          | false => rw [if_neg (by decide), if_neg (fun h => by rcases h.2 with h | h; exact h5 h; cases h.1), next]
          | true =>
            rw [if_pos rfl]
            by_cases h6 : s < y
            · rw [if_pos h6, if_pos (by omega), if_pos (by omega), if_pos (by omega), if_pos (show x = K ∧ (y = s ∨ true = true ∧ s < y) from ⟨h4, .inr ⟨rfl, h6⟩⟩), cut (by omega)]
            · rw [if_neg h6, if_neg (fun h => by rcases h.2 with h | h; exact h5 h; exact h6 h.2), next]
      · rw [if_neg h4, if_neg (fun h => h4 h.1), next]
theorem FF_ok (K s : Int) (m : Bool) : ∀ (n : Nat) (b : List Int), okB b → (FF n b K s m).2.1 = true → (0 ≤ s) → (FF n b K s m).1.length = s.toNat ∧ okB (FF n b K s m).1 := by
  intro n
  induction n with
  | zero => intro b _ h; cases h
  | succ n ih =>
    intro b ho h hs
    match b with
    | [] => cases h
    | [x] =>
      simp only [FF] at h
      split at h
      · cases h
      split at h <;> cases h
    | x :: y :: t =>
      have ht : okB t := okB_sub (fun z hz => List.mem_cons_of_mem _ (List.mem_cons_of_mem _ hz)) ho
      have hy := ho y (by simp)
      simp only [FF] at h ⊢
      by_cases h1 : x = 255
      · rw [if_pos h1] at h; cases h
      rw [if_neg h1] at h ⊢
      by_cases h2 : x = 0
      · rw [if_pos h2] at h ⊢
        exact ih _ (okB_sub (fun z hz => List.mem_cons_of_mem _ hz) ho) h hs
      rw [if_neg h2] at h ⊢
      by_cases h3 : (t.length : Int) < y
      · rw [if_pos h3] at h; cases h
      rw [if_neg h3] at h ⊢
      by_cases h4 : x = K ∧ (y = s ∨ m = true ∧ s < y)
      · rw [if_pos h4]
        refine ⟨?_, okB_sub (fun z hz => List.mem_of_mem_take hz) ht⟩
        show (t.take s.toNat).length = _
        rw [List.length_take]
        rcases h4.2 with h5 | h5 <;> omega
      · rw [if_neg h4] at h ⊢
        exact ih _ (okB_sub (fun z hz => List.mem_of_mem_drop hz) ht) h hs
theorem FF_form : ∀ (n : Nat) (b : List Int) (mp : List (Int × Int)), (FF n b 0 300 false).2.2 = (O n b mp).isSome := by
  intro n
  induction n with
  | zero => intro b mp; rfl
  | succ n ih =>
    intro b mp
    match b with
    | [] => rfl
    | [x] =>
      simp only [FF, O]
      by_cases h1 : x = 255
      · rw [if_pos h1, if_pos h1]; rfl
      rw [if_neg h1, if_neg h1]
      by_cases h2 : x = 0
      · rw [if_pos h2, if_pos h2]; rfl
      · rw [if_neg h2, if_neg h2]; rfl
    | x :: y :: t =>
      simp only [FF, O]
      by_cases h1 : x = 255
      · rw [if_pos h1, if_pos h1]; rfl
      rw [if_neg h1, if_neg h1]
      by_cases h2 : x = 0
      · rw [if_pos h2, if_pos h2]; exact ih _ _
      rw [if_neg h2, if_neg h2]
      by_cases h3 : (t.length : Int) < y
      · rw [if_pos h3, if_pos h3]; rfl
      rw [if_neg h3, if_neg h3, if_neg (fun h => h2 h.1)]
      split <;> exact ih _ _
theorem O_keeps {K v : Int} : ∀ (n : Nat) (b : List Int) (mp mp' : List (Int × Int)), mp.lookup K = some v → O n b mp = some mp' → mp'.lookup K = some v := by
  intro n
  induction n with
  | zero => intro b mp mp' h e; cases e; exact h
  | succ n ih =>
    intro b mp mp' h e
    match b with
    | [] => cases e; exact h
    | [x] =>
      simp only [O] at e
      split at e
      · cases e; exact h
      split at e
      · cases e; exact h
      · cases e
    | x :: y :: t =>
      simp only [O] at e
      split at e
      · cases e; exact h
      split at e
      · exact ih _ _ _ h e
      split at e
      · cases e
      split at e
      · rename_i _ _ _ hg
        refine ih _ _ _ ?_ e
        rw [List.lookup_cons]
        by_cases hk : K = x
        · subst hk; rw [hg.2.1] at h; cases h
        · rw [show (K == x) = false by simpa using hk]; exact h
      · exact ih _ _ _ h e
theorem FF_is {K : Int} {m : Bool} (hm : m = true ↔ K = 3 ∨ K = 6) (hK : 0 < optSize K) : ∀ (n : Nat) (b : List Int) (mp mp' : List (Int × Int)), okB b → mp.lookup K = none → O n b mp = some mp' →
    (mp'.lookup K = none ∧ FF n b K (optSize K) m = ([], false, true)) ∨ ∃ T, FF n b K (optSize K) m = (T, true, true) ∧ mp'.lookup K = some (g4 T) := by
  intro n
  induction n with
  | zero => intro b mp mp' _ h e; cases e; exact .inl ⟨h, rfl⟩
  | succ n ih =>
    intro b mp mp' ho h e
    match b with
    | [] => cases e; exact .inl ⟨h, rfl⟩
    | [x] =>
      simp only [O] at e
      simp only [FF]
      by_cases h1 : x = 255
      · rw [if_pos h1] at e ⊢; cases e; exact .inl ⟨h, rfl⟩
      rw [if_neg h1] at e ⊢
      by_cases h2 : x = 0
      · rw [if_pos h2] at e ⊢; cases e; exact .inl ⟨h, rfl⟩
      · rw [if_neg h2] at e; cases e
    | x :: y :: t =>
      have ht : okB t := okB_sub (fun z hz => List.mem_cons_of_mem _ (List.mem_cons_of_mem _ hz)) ho
      have od : okB (t.drop y.toNat) := okB_sub (fun z hz => List.mem_of_mem_drop hz) ht
      simp only [O] at e
      simp only [FF]
      by_cases h1 : x = 255
      · rw [if_pos h1] at e ⊢; cases e; exact .inl ⟨h, rfl⟩
      rw [if_neg h1] at e ⊢
      by_cases h2 : x = 0
      · rw [if_pos h2] at e ⊢
        exact ih _ _ _ (okB_sub (fun z hz => List.mem_cons_of_mem _ hz) ho) h e
      rw [if_neg h2] at e ⊢
      by_cases h3 : (t.length : Int) < y
      · rw [if_pos h3] at e; cases e
      rw [if_neg h3] at e ⊢
      by_cases h4 : x = K
      · subst h4
        by_cases h5 : y = optSize x ∨ (x = 3 ∨ x = 6) ∧ optSize x < y
        · have hg : good x y mp := ⟨hK, h, h5⟩
          rw [if_pos hg] at e
          rw [if_pos ⟨rfl, h5.imp id (fun h6 => ⟨hm.2 h6.1, h6.2⟩)⟩]
          exact .inr ⟨_, rfl, O_keeps n _ _ _ (by rw [List.lookup_cons, show (x == x) = true by simp]) e⟩
        · rw [if_neg (fun hg => h5 hg.2.2)] at e
          rw [if_neg (fun hq => h5 (hq.2.imp id (fun h6 => ⟨hm.1 h6.1, h6.2⟩)))]
          exact ih _ _ _ od h e
      · rw [if_neg (fun hq => h4 hq.1)]
        by_cases h5 : good x y mp
        · rw [if_pos h5] at e
          exact ih _ _ _ od (by rw [List.lookup_cons, show (K == x) = false by simpa using Ne.symm h4]; exact h) e
        · rw [if_neg h5] at e
          exact ih _ _ _ od h e
theorem find_f (K s : Int) (m : Bool) (hs : 0 ≤ s ∧ s ≤ 300) {b : List Int} (ho : okB b) (hb : b.length < 1000000) {k : Nat} (hk : 3 * b.length + 10 ≤ k) : drawbridgeref20_find.f k b K s m = some (FF b.length b K s m) := by
  have := find_is K s m hs b ho hb b.length 0 k (by omega) (by simp) hk
  rwa [List.drop_zero] at this
theorem value_is {K : Int} {m : Bool} (hm : m = true ↔ K = 3 ∨ K = 6) (hK : optSize K = 4) {b : List Int} {mp : List (Int × Int)} (ho : okB b) (hb : b.length < 1000000) (e : OO b [] = some mp) {k : Nat} (hk : 3 * b.length + 20 ≤ k) : drawbridgeref20_value.f k b K m = some (dhcp_Get.look mp K) := by
  unfold drawbridgeref20_value.f
  rw [find_f K 4 m (by decide) ho hb (by omega), Option.bind_some]
  have h := FF_is (m := m) hm (by rw [hK]; decide) b.length b [] mp ho rfl e
  rw [hK] at h
  have hok := FF_ok K 4 m b.length b ho
  rcases h with ⟨h1, h2⟩ | ⟨T, h1, h2⟩
  · rw [h2, if_neg (by decide)]; unfold dhcp_Get.look; rw [h1]; rfl
  · rw [h1] at hok ⊢
    have q := hok rfl (by decide)
    rw [if_pos rfl, number_is (by omega) q.1 q.2]; unfold dhcp_Get.look; rw [h2]; rfl
theorem rget_is {l : List Int} (ho : okB l) (hl : l.length < 1000000) {k : Nat} (hk : 3 * l.length + 30 ≤ k) : drawbridgeref20_Get.f k l = some (GG l) := by
  unfold drawbridgeref20_Get.f GG
  by_cases h0 : (l.length : Int) < 240
  · rw [if_pos h0, if_pos h0]
  rw [if_neg h0, if_neg h0]
  have oo : ∀ i j : Nat, okB ((l.take i).drop j) := fun i j => okB_sub (fun z hz => List.mem_of_mem_take (List.mem_of_mem_drop hz)) ho
  have num : ∀ i j : Nat, i = j + 4 → i ≤ l.length → drawbridgeref20_number.f k ((l.take i).drop j) = some (g4 ((l.take i).drop j)) := fun i j h1 h2 => number_is (by omega) (by rw [List.length_drop, List.length_take]; omega) (oo i j)
  have od : okB (l.drop 240) := okB_sub (fun z hz => List.mem_of_mem_drop hz) ho
  have hd2 : (l.drop 240).length < 1000000 := by rw [List.length_drop]; omega
  have hk2 : 3 * (l.drop 240).length + 20 ≤ k := by rw [List.length_drop]; omega
  rw [num 240 236 rfl (by omega), Option.bind_some]
  have r0 := rd_ok ho 0 (by omega)
  replace r0 : 0 ≤ rd l 0 ∧ rd l 0 < 256 := r0
  cases h1 : drawbridgeref20_Get.bad1 l (g4 ((l.take 240).drop 236)) with
  | true =>
    rw [if_pos rfl]
    cases e : OO (l.drop 240) [] with
    | none => rfl
    | some mp =>
      have : dhcp_Get.bad l mp (g4 ((l.take 240).drop 236)) = true := by
        simp only [drawbridgeref20_Get.bad1, dhcp_Get.bad, Bool.or_eq_true, Bool.and_eq_true, bne_iff_ne, decide_eq_true_eq] at h1 ⊢
        rcases h1 with ((h1 | h1) | h1) | h1
        · have : rd l 0 < 1 ∨ 2 < rd l 0 := by omega
          rcases this with h | h <;> simp [h]
        · simp [h1]
        · simp [h1]
        · simp [h1]
      dsimp only
      rw [if_pos this]
  | false =>
    rw [if_neg (by decide), find_f 0 300 false (by decide) od hd2 (by omega), Option.bind_some, find_f 53 1 false (by decide) od hd2 (by omega), Option.bind_some, FF_form _ _ []]
    have hok := FF_ok 53 1 false (l.drop 240).length (l.drop 240) od
    rw [if_neg (fun h => by have := (hok h.1 (by decide)).1; rw [h.2] at this; cases this)]
    cases e : OO (l.drop 240) [] with
    | none =>
      rw [show O (l.drop 240).length (l.drop 240) [] = none from e]
      rw [if_pos (by simp [drawbridgeref20_Get.bad2])]
    | some mp =>
      rw [show O (l.drop 240).length (l.drop 240) [] = some mp from e]
      have h := FF_is (K := 53) (m := false) (by decide) (by decide) (l.drop 240).length (l.drop 240) [] mp od rfl e
      rw [show optSize 53 = 1 from rfl] at h
      dsimp only
      simp only [drawbridgeref20_Get.bad1, Bool.or_eq_false_iff, Bool.and_eq_false_iff, bne_eq_false_iff_eq] at h1
      obtain ⟨⟨⟨q0, q1⟩, q2⟩, q3⟩ := h1
      have hr : 1 ≤ rd l 0 ∧ rd l 0 ≤ 2 := by rcases q0 with q | q <;> omega
      rcases h with ⟨h2, h3⟩ | ⟨T, h2, h3⟩
      · rw [h3, if_pos (by simp [drawbridgeref20_Get.bad2])]
        have hl0 : dhcp_Get.look mp 53 = 0 := by unfold dhcp_Get.look; rw [h2]; rfl
        rw [if_pos (by unfold dhcp_Get.bad; rw [hl0]; simp)]
      · rw [h2] at hok ⊢
        have q := hok rfl (by decide)
        obtain ⟨a, rfl⟩ : ∃ a, T = [a] := by
          match T, q.1 with
          | [a], _ => exact ⟨a, rfl⟩
        have hl0 : dhcp_Get.look mp 53 = a := by unfold dhcp_Get.look; rw [h3]; rfl
        have ha := q.2 a (by simp)
        have eb : drawbridgeref20_Get.bad2 (some mp).isSome true [a] = dhcp_Get.bad l mp (g4 ((l.take 240).drop 236)) := by
          unfold drawbridgeref20_Get.bad2 dhcp_Get.bad
          rw [hl0, q1, q2, q3, show rd [a] 0 = a from rfl, decide_eq_false (show ¬ (rd l 0 < 1) by omega), decide_eq_false (show ¬ (2 < rd l 0) by omega)]
          simp
        dsimp only
        rw [eb]
        by_cases hb : dhcp_Get.bad l mp (g4 ((l.take 240).drop 236)) = true
        · rw [if_pos hb, if_pos hb]
        rw [if_neg hb, if_neg hb]
        unfold drawbridgeref20_Get.g
        rw [num 8 4 rfl (by omega), Option.bind_some, num 16 12 rfl (by omega), Option.bind_some, num 20 16 rfl (by omega), Option.bind_some, value_is (by decide) (by decide) od hd2 e hk2, Option.bind_some, value_is (by decide) (by decide) od hd2 e hk2, Option.bind_some, value_is (by decide) (by decide) od hd2 e hk2, Option.bind_some,
          value_is (by decide) (by decide) od hd2 e hk2, Option.bind_some, value_is (by decide) (by decide) od hd2 e hk2, Option.bind_some, value_is (by decide) (by decide) od hd2 e hk2, Option.bind_some, w64 (x := rd l 0) (by omega) (by omega), show rd [a] 0 = a from rfl, w64 (x := a) (by omega) (by omega), hl0]
theorem DhcpTells : drawbridgelaw20_DhcpTells.Pure := by
  intro a0 a1 a2 a3 l4 a5 a6 a7 a8 a9 a10 a11 l1 q0 q1 q2 q3 q4 q5 q6 q7 q8 q9 q10 q11 hl1 ho1
  have b1 := bounds_u32 q1; have b2 := bounds_u32 q2; have b3 := bounds_u32 q3; have b6 := bounds_u32 q6; have b7 := bounds_u32 q7; have b8 := bounds_u32 q8; have b9 := bounds_u32 q9; have b10 := bounds_u32 q10; have b11 := bounds_u32 q11
  refine ⟨12000, ?_⟩
  have hh := heads_is (k := 12000) (by decide)
  unfold drawbridgelaw20_DhcpTells.f
  by_cases h0 : (l1.length : Int) > 3000
  · rw [if_pos h0, hh]; rfl
  rw [if_neg h0]
  have ok := okB_of ho1
  have g1 := get_is ok (by omega) (k := 12000) (by omega)
  have g2 := rget_is ok (by omega) (k := 12000) (by omega)
  have rp : ∃ p, dhcp_Put.f 12000 a0 a1 a2 a3 l4 a5 a6 a7 a8 a9 a10 a11 = some p ∧ drawbridgeref20_Put.f 12000 a0 a1 a2 a3 l4 a5 a6 a7 a8 a9 a10 a11 = some p := by
    have at60 : ∀ p, drawbridgeref20_Put.f 60 a0 a1 a2 a3 l4 a5 a6 a7 a8 a9 a10 a11 = some p → drawbridgeref20_Put.f 12000 a0 a1 a2 a3 l4 a5 a6 a7 a8 a9 a10 a11 = some p := fun p h => at_rounds (g := fun k => drawbridgeref20_Put.f k a0 a1 a2 a3 l4 a5 a6 a7 a8 a9 a10 a11) (fun k => drawbridgeref20_Put.mono _ _ _ _ _ _ _ _ _ _ _ _ k) (by decide) h
    cases hb : dhcp_Put.bad a0 l4 a5 with
    | true => exact ⟨_, put_bad hb, at60 _ (by rw [rput_f, hb]; exact rput_any true _ _ _ _ _ _ _ _ _ _ _ _)⟩
    | false => exact ⟨_, put_is (by decide) hb (by omega) (by omega) (by omega) (by omega) (by omega) (by omega) (by omega) (by omega) (by omega), at60 _ (by rw [rput_f, hb]; exact rput_is hb (by omega) (by omega) (by omega) (by omega) (by omega) (by omega) (by omega) (by omega) (by omega))⟩
  obtain ⟨p, p1, p2⟩ := rp
  rw [p1, Option.bind_some, p2, Option.bind_some, g1, Option.bind_some, g2, Option.bind_some]
  have s1 : drawbridgeref01_Same.f p.1 p.1 = some true := by unfold drawbridgeref01_Same.f; simp
  rw [s1, Option.bind_some, if_pos rfl, if_pos rfl, same_eq (GG l1) (GG l1) rfl, Option.bind_some, if_pos rfl, if_pos rfl, hh]
  rfl
end Go.Proofs.Ytpbofaghnfheiaa.Pure
