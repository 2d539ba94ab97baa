/- Plain facts on datagrams; each states its own conditions. -/
import Derived.Test.YtfoffhdckcdjdaaDoorPurePseudo
namespace Go.Proofs.YtfoffhdckcdjdaaDoor.S
open Go Go.SL
set_option linter.unusedVariables false
set_option linter.unusedSimpArgs false
theorem heads_g : law18_heads.g 100 = some true := by kernel_rfl
theorem heads : law18_heads.f = some true := law18_heads.le 100 _ heads_g
def gUdp (u : TUdp) : Prop := InR .i64 u.Src ∧ InR .i64 u.Dst ∧ (u.Data.length ≤ maxLen ∧ ∀ z ∈ u.Data, InR .u8 z)
def uOk (u : TUdp) : Prop := (0 ≤ u.Src ∧ u.Src < 65536) ∧ (0 ≤ u.Dst ∧ u.Dst < 65536) ∧ u.Data.length ≤ 65507
instance (u : TUdp) : Decidable (uOk u) := inferInstanceAs (Decidable (_ ∧ _))
def headU (u : TUdp) (c : List Int) : List Int := by2 u.Src ++ (by2 u.Dst ++ (by2 (8 + u.Data.length) ++ (c ++ u.Data)))
theorem headU_len (u : TUdp) (c : List Int) (hc : c.length = 2) : (headU u c).length = 8 + u.Data.length := by simp [headU, by2, hc]; omega
theorem byt_headU {u : TUdp} {c : List Int} (hd : Byt u.Data) (hc : Byt c) : Byt (headU u c) := (byt2 _).app ((byt2 _).app ((byt2 _).app (hc.app hd)))
def sU (u : TUdp) (a b : Int) : Int := sumP (pseudoP a b 17 (8 + u.Data.length) ++ headU u [0, 0])
def ckU (u : TUdp) (a b : Int) : Int := if 65535 - fold (sU u a b) = 0 then 65535 else 65535 - fold (sU u a b)
theorem byt00 : Byt [0, 0] := fun x hx => by simp at hx; omega
theorem sU_nn (u : TUdp) (a b : Int) (hd : Byt u.Data) : 0 ≤ sU u a b := (sumP_bd _ ((byt_psp a b _ (by omega)).app (byt_headU hd byt00))).1
theorem ckU_bd (u : TUdp) (a b : Int) (hd : Byt u.Data) : 1 ≤ ckU u a b ∧ ckU u a b ≤ 65535 := by
  have := fold_bd (sU_nn u a b hd)
  unfold ckU; split <;> omega
theorem shr16 (x : Int) : ishr .i64 x 16 = x / 65536 := by unfold ishr; rw [show (2 : Int) ^ min (16 : Int).toNat IntKind.i64.bits = 65536 by decide]
theorem uguard (u : TUdp) : ((if (!decide ((ishr .i64 u.Src 16) = 0)) = true then some (true) else (if (!decide ((ishr .i64 u.Dst 16) = 0)) = true then some (true) else some (decide (65507 < (u.Data.length : Int)))) : Option Bool)) = some (!decide (uOk u)) := by
  rw [shr16, shr16]
  by_cases h : uOk u
  · obtain ⟨h1, h2, h3⟩ := id h
    have c1 : u.Src / 65536 = 0 := by omega
    have c2 : u.Dst / 65536 = 0 := by omega
    have c3 : ¬ (65507 : Int) < u.Data.length := by omega
    simp [c1, c2, c3, h]
  · by_cases c1 : u.Src / 65536 = 0
    · by_cases c2 : u.Dst / 65536 = 0
      · have c3 : (65507 : Int) < u.Data.length := by
          rcases Int.lt_or_le (65507 : Int) u.Data.length with q | q
          · exact q
          · exact absurd ⟨⟨by omega, by omega⟩, ⟨by omega, by omega⟩, by omega⟩ h
        simp [c1, c2, c3, h]
      · simp [c1, c2, h]
    · simp [c1, h]
theorem put_loop (s d n : Int) (hs : 0 ≤ s ∧ s < 65536) (hd : 0 ≤ d ∧ d < 65536) (hn : 0 ≤ n ∧ n < 65536) (a1 : TUdp) (h1 : a1.Src = s) (h2 : a1.Dst = d) (h3 : IntKind.i64.wrap (8 + (a1.Data.length : Int)) = n) : loop (fun s1 => (if decide (s1.2 < 4) = true then (idx ([a1.Src, a1.Dst, IntKind.i64.wrap (8 + (a1.Data.length : Int)), 0] : List Int) s1.2).bind fun x1 => (bits_Put.f (IntKind.u64.wrap x1) 2 true).bind fun r1 => (app s1.1 r1).bind fun x2 => some (.inl (x2, IntKind.i64.wrap (s1.2 + 1))) else some (.inr (s1.1)))) (([] : List Int), 0) = some (by2 s ++ (by2 d ++ (by2 n ++ [0, 0]))) := by
  rw [h1, h2, h3]
  rw [loop_in (s' := (by2 s, 1)) (by
    simp only [show decide ((0 : Int) < 4) = true by decide, if_true, show idx [s, d, n, 0] 0 = some s from rfl, Option.bind_some, u64w hs.1 (by omega), put2]
    rw [app_ok _ _ (by simp)]; rfl)]
  rw [loop_in (s' := (by2 s ++ by2 d, 2)) (by
    simp only [show decide ((1 : Int) < 4) = true by decide, if_true, show idx [s, d, n, 0] 1 = some d from rfl, Option.bind_some, u64w hd.1 (by omega), put2]
    rw [app_ok _ _ (by simp [by2])]; rfl)]
  rw [loop_in (s' := (by2 s ++ by2 d ++ by2 n, 3)) (by
    simp only [show decide ((2 : Int) < 4) = true by decide, if_true, show idx [s, d, n, 0] 2 = some n from rfl, Option.bind_some, u64w hn.1 (by omega), put2]
    rw [app_ok _ _ (by simp [by2])]; rfl)]
  rw [loop_in (s' := (by2 s ++ by2 d ++ by2 n ++ [0, 0], 4)) (by
    simp only [show decide ((3 : Int) < 4) = true by decide, if_true, show idx [s, d, n, 0] 3 = some 0 from rfl, Option.bind_some, u64w (x := 0) (by omega) (by omega), put2]
    rw [app_ok _ _ (by simp [by2])]; rfl)]
  rw [loop_out (r := by2 s ++ by2 d ++ by2 n ++ [0, 0]) (by rfl)]
  simp
theorem covered_is (b : List Int) (x y : Int) (hb : b.length ≤ 68719476000) : udp_covered.f b x y = some (pseudoP x y 17 b.length ++ b) := by
  unfold udp_covered.f
  rw [pseudoP_is _ _ _ _ ⟨by omega, by omega⟩ (by omega), Option.bind_some, app_ok _ _ (by rw [psp_len]; omega)]; rfl
theorem put_is (u : TUdp) (a b : Int) (h : uOk u) (hd : Byt u.Data) : udp_Put.f u a b = some (headU u (by2 (ckU u a b)), 0) := by
  have hb := ckU_bd u a b hd
  obtain ⟨h1, h2, h3⟩ := id h
  have e8 : IntKind.i64.wrap (8 + (u.Data.length : Int)) = 8 + u.Data.length := i64w (by omega) (by omega)
  unfold udp_Put.f
  rw [uguard u]
  simp only [h, decide_true, Bool.not_true, Option.bind_some, Bool.false_eq_true, if_false]
  rw [put_loop u.Src u.Dst (8 + u.Data.length) h1 h2 ⟨by omega, by omega⟩ u rfl rfl e8, Option.bind_some, app_ok _ _ (by simp [by2]; omega), Option.bind_some]
  have hh : by2 u.Src ++ (by2 u.Dst ++ (by2 (8 + u.Data.length) ++ [0, 0])) ++ u.Data = headU u [0, 0] := by simp [headU]
  have hl := headU_len u [0, 0] rfl
  rw [hh, covered_is _ _ _ (by omega), Option.bind_some]
  have hp : pseudoP a b 17 (headU u [0, 0]).length ++ headU u [0, 0] = pseudoP a b 17 (8 + u.Data.length) ++ headU u [0, 0] := by rw [hl]; push_cast; rfl
  rw [hp, sum_is ((byt_psp _ _ _ (by omega)).app (byt_headU hd byt00)) (by rw [List.length_append, psp_len]; omega), Option.bind_some]
  have hs : ((if decide (65535 - fold (sumP (pseudoP a b 17 (8 + u.Data.length) ++ headU u [0, 0])) = 0) = true then some (65535) else some (65535 - fold (sumP (pseudoP a b 17 (8 + u.Data.length) ++ headU u [0, 0]))) : Option Int)) = some (ckU u a b) := by
    unfold ckU sU
    split <;> rename_i q
    · rw [if_pos (by simpa using q)]
    · rw [if_neg (by simpa using q)]
  rw [hs, Option.bind_some, if_pos ⟨by omega, by omega, by omega⟩, u64w (by omega) (by omega), put2, Option.bind_some]
  simp only [lt]
  congr 2
  unfold ovr
  rw [show ((headU u [0, 0]).length : Int).toNat - (6 : Int).toNat = (headU u [0, 0]).length - 6 by omega, List.take_of_length_le (by simp; omega)]
  simp [headU, by2, Go.splice]
theorem put_no (u : TUdp) (a b : Int) (h : ¬ uOk u) : udp_Put.f u a b = some ([], 2) := by
  unfold udp_Put.f
  rw [uguard u]
  simp [h]
theorem errno_n : udp_errno.f none = some 0 := rfl
theorem errno_s (c : Int) : udp_errno.f (some ⟨c⟩) = some c := rfl
/-- The rounds that read the four words. -/
theorem get_loop (b : List Int) (hb : Byt b) (h8 : 8 ≤ b.length) : ∃ v0 v1 v2 v3, loop (fun s1 => (if decide (s1.1 < 4) = true then (cut b (IntKind.i64.wrap (2 * s1.1)) (IntKind.i64.wrap ((IntKind.i64.wrap (2 * s1.1)) + 2))).bind fun x1 => (bits_Get.f x1 true).bind fun r1 => (idx s1.2 s1.1).bind fun x2 => lt (s1.2.set s1.1.toNat (IntKind.i64.wrap r1)) fun y1 => some (.inl (IntKind.i64.wrap (s1.1 + 1), y1)) else some (.inr (s1.2)))) (0, (List.replicate 4 0 : List Int)) = some [v0, v1, v2, v3] ∧ (∃ x, cut b 0 2 = some x ∧ ref01_Get.f x true = some v0 ∧ bits_Get.f x true = some v0) ∧ (∃ x, cut b 2 4 = some x ∧ ref01_Get.f x true = some v1 ∧ bits_Get.f x true = some v1) ∧ (∃ x, cut b 4 6 = some x ∧ ref01_Get.f x true = some v2 ∧ bits_Get.f x true = some v2) ∧ (∃ p q, b[6]? = some p ∧ b[7]? = some q ∧ v3 = p * 256 + q ∧ (0 ≤ p ∧ p < 256) ∧ (0 ≤ q ∧ q < 256)) ∧ (0 ≤ v0 ∧ v0 < 65536) ∧ (0 ≤ v1 ∧ v1 < 65536) ∧ (0 ≤ v2 ∧ v2 < 65536) := by
  obtain ⟨x0, v0, b0, k0, r0, s0⟩ := rd2 b hb 0 2 (by omega) rfl (by omega)
  obtain ⟨x2, v1, b2, k2, r2, s2⟩ := rd2 b hb 2 4 (by omega) rfl (by omega)
  obtain ⟨x4, v2, b4, k4, r4, s4⟩ := rd2 b hb 4 6 (by omega) rfl (by omega)
  obtain ⟨p, q, k6, hp, hq, hp6, hq7⟩ := cut2 b hb 6 8 (by omega) rfl (by omega)
  have s6 := get2 hp hq
  refine ⟨v0, v1, v2, p * 256 + q, ?_, ⟨x0, k0, r0, s0⟩, ⟨x2, k2, r2, s2⟩, ⟨x4, k4, r4, s4⟩, ⟨p, q, hp6, hq7, rfl, hp, hq⟩, b0, b2, b4⟩
  have w0 : IntKind.i64.wrap (2 * 0) = 0 := by decide
  have w0' : IntKind.i64.wrap (0 + 2) = 2 := by decide
  have w1 : IntKind.i64.wrap (2 * 1) = 2 := by decide
  have w1' : IntKind.i64.wrap (2 + 2) = 4 := by decide
  have w2 : IntKind.i64.wrap (2 * 2) = 4 := by decide
  have w2' : IntKind.i64.wrap (4 + 2) = 6 := by decide
  have w3 : IntKind.i64.wrap (2 * 3) = 6 := by decide
  have w3' : IntKind.i64.wrap (6 + 2) = 8 := by decide
  rw [loop_in (s' := (1, [v0, 0, 0, 0])) (by
    simp only [show decide ((0 : Int) < 4) = true by decide, if_true, w0, w0', k0, s0, Option.bind_some, show idx (List.replicate 4 (0 : Int)) 0 = some 0 from rfl, lt, i64w (x := v0) (by omega) (by omega)]; rfl)]
  rw [loop_in (s' := (2, [v0, v1, 0, 0])) (by
    simp only [show decide ((1 : Int) < 4) = true by decide, if_true, w1, w1', k2, s2, Option.bind_some, show idx [v0, (0 : Int), 0, 0] 1 = some 0 from rfl, lt, i64w (x := v1) (by omega) (by omega)]; rfl)]
  rw [loop_in (s' := (3, [v0, v1, v2, 0])) (by
    simp only [show decide ((2 : Int) < 4) = true by decide, if_true, w2, w2', k4, s4, Option.bind_some, show idx [v0, v1, (0 : Int), 0] 2 = some 0 from rfl, lt, i64w (x := v2) (by omega) (by omega)]; rfl)]
  rw [loop_in (s' := (4, [v0, v1, v2, p * 256 + q])) (by
    simp only [show decide ((3 : Int) < 4) = true by decide, if_true, w3, w3', k6, s6, Option.bind_some, show idx [v0, v1, v2, (0 : Int)] 3 = some 0 from rfl, lt, i64w (x := p * 256 + q) (by omega) (by omega)]; rfl)]
  rw [loop_out (r := [v0, v1, v2, p * 256 + q]) (by rfl)]
/-- What is read, the four words told. -/
def gRes (b : List Int) (x y v0 v1 v2 v3 : Int) : TUdp × Int :=
  if v2 < 8 then (⟨0, 0, []⟩, 161) else if (b.length : Int) < v2 then (⟨0, 0, []⟩, 160) else
    if v3 ≠ 0 ∧ fold (sumP (pseudoP x y 17 v2 ++ b.take v2.toNat)) ≠ 65535 then (⟨0, 0, []⟩, 162) else (⟨v0, v1, (b.take v2.toNat).drop 8⟩, 0)
theorem get_short (b : List Int) (x y : Int) (h : (b.length : Int) < 8) : udp_Get.f b x y = some (⟨0, 0, []⟩, 160) := by
  unfold udp_Get.f udp_get.f
  rw [if_pos (by simpa using h)]; rfl
theorem get_res (b : List Int) (hb : Byt b) (hl : b.length ≤ 100000) (x y : Int) {v0 v1 v2 v3 : Int} (h8 : 8 ≤ b.length) (hloop : loop (fun s1 => (if decide (s1.1 < 4) = true then (cut b (IntKind.i64.wrap (2 * s1.1)) (IntKind.i64.wrap ((IntKind.i64.wrap (2 * s1.1)) + 2))).bind fun x1 => (bits_Get.f x1 true).bind fun r1 => (idx s1.2 s1.1).bind fun x2 => lt (s1.2.set s1.1.toNat (IntKind.i64.wrap r1)) fun y1 => some (.inl (IntKind.i64.wrap (s1.1 + 1), y1)) else some (.inr (s1.2)))) (0, (List.replicate 4 0 : List Int)) = some [v0, v1, v2, v3]) (hv2 : 0 ≤ v2 ∧ v2 < 65536) :
    udp_Get.f b x y = some (gRes b x y v0 v1 v2 v3) := by
  unfold udp_Get.f udp_get.f gRes
  rw [if_neg (by simp; omega), hloop]
  simp only [Option.bind_some, show ∀ a b c d : Int, idx [a, b, c, d] 2 = some c from fun _ _ _ _ => rfl, show ∀ a b c d : Int, idx [a, b, c, d] 3 = some d from fun _ _ _ _ => rfl, show ∀ a b c d : Int, idx [a, b, c, d] 0 = some a from fun _ _ _ _ => rfl, show ∀ a b c d : Int, idx [a, b, c, d] 1 = some b from fun _ _ _ _ => rfl, lt]
  by_cases c1 : v2 < 8
  · simp [c1, errno_s]
  by_cases c2 : (b.length : Int) < v2
  · simp [c1, c2, errno_s]
  simp only [c1, c2, decide_false, Bool.false_eq_true, if_false]
  have ht : ((b.take v2.toNat).length : Int) = v2 := by rw [List.length_take]; omega
  have htb : Byt (b.take v2.toNat) := fun z hz => hb z (List.mem_of_mem_take hz)
  rw [cut_take _ _ hv2.1 (by omega), Option.bind_some, covered_is _ _ _ (by omega), Option.bind_some, ht]
  have hll : (pseudoP x y 17 v2 ++ b.take v2.toNat).length ≤ 1099511627776 := by rw [List.length_append, psp_len]; omega
  rw [right_is ((byt_psp _ _ _ (by omega)).app htb) hll]
  have hc : cut (b.take v2.toNat) 8 ((b.take v2.toNat).length : Int) = some ((b.take v2.toNat).drop 8) := cut_to_end _ _ (by omega) (by omega)
  rw [ht] at hc
  simp only [Option.bind_some, hc, slices_Clone_s_byte_byte.f]
  rw [app_ok _ _ (by simp; omega)]
  simp only [Option.bind_some, List.nil_append]
  by_cases c3 : v3 = 0
  · simp [c3, errno_n]
  · by_cases c4 : fold (sumP (pseudoP x y 17 v2 ++ b.take v2.toNat)) = 65535
    · simp [c3, c4, errno_n]
    · simp [c3, c4, errno_s]
end Go.Proofs.YtfoffhdckcdjdaaDoor.S
