/- What the function of the law UdpTells answers: true, whatever the datagram, the addresses and the bytes. Its conditions: what data of these types are. -/
import Derived.Test.YtfoffhdckcdjdaaDoorPureUdp
namespace Go.Proofs.YtfoffhdckcdjdaaDoor.S
open Go Go.SL
set_option linter.unusedVariables false
set_option linter.unusedSimpArgs false
theorem port_is (x : Int) : ref18_port.f x = some (decide (0 ≤ x ∧ x ≤ 65535)) := by
  unfold ref18_port.f
  by_cases h : 0 ≤ x <;> by_cases k : x ≤ 65535 <;> simp [h, k, lt]
theorem two_is {x : Int} (h : 0 ≤ x ∧ x < 18446744073709551616) : ref18_two.f x = some (by2 x) := by
  unfold ref18_two.f
  rw [u64w h.1 h.2, rput2]; rfl
theorem rguard (u : TUdp) : ((ref18_port.f u.Src).bind fun r1 => (if (!r1) = true then some (true) else (ref18_port.f u.Dst).bind fun r2 => (if (!r2) = true then some (true) else some (decide (65507 < (u.Data.length : Int)))))) = some (!decide (uOk u)) := by
  simp only [port_is, Option.bind_some]
  by_cases h : uOk u
  · obtain ⟨h1, h2, h3⟩ := id h
    have c1 : 0 ≤ u.Src ∧ u.Src ≤ 65535 := by omega
    have c2 : 0 ≤ u.Dst ∧ u.Dst ≤ 65535 := by omega
    have c3 : ¬ (65507 : Int) < u.Data.length := by omega
    simp [c1, c2, c3, h]
  · by_cases c1 : 0 ≤ u.Src ∧ u.Src ≤ 65535
    · by_cases c2 : 0 ≤ u.Dst ∧ u.Dst ≤ 65535
      · have c3 : (65507 : Int) < u.Data.length := by
          rcases Int.lt_or_le (65507 : Int) u.Data.length with q | q
          · exact q
          · exact absurd ⟨⟨by omega, by omega⟩, ⟨by omega, by omega⟩, by omega⟩ h
        simp [c1, c2, c3, h]
      · simp [c1, c2, h]
    · simp [c1, h]
theorem rput_no (u : TUdp) (a b : Int) (h : ¬ uOk u) : ref18_Put.f u a b = some ([], 2) := by
  unfold ref18_Put.f
  rw [rguard u]
  simp [h]
theorem rput_is (u : TUdp) (a b : Int) (h : uOk u) (hd : Byt u.Data) : ref18_Put.f u a b = some (headU u (by2 (ckU u a b)), 0) := by
  have hb := ckU_bd u a b hd
  obtain ⟨h1, h2, h3⟩ := id h
  have e8 : IntKind.i64.wrap (8 + (u.Data.length : Int)) = 8 + u.Data.length := i64w (by omega) (by omega)
  unfold ref18_Put.f
  rw [rguard u]
  simp only [h, decide_true, Bool.not_true, Option.bind_some, Bool.false_eq_true, if_false, lt, e8]
  rw [two_is ⟨h1.1, by omega⟩, Option.bind_some, two_is ⟨h2.1, by omega⟩, Option.bind_some, app_ok _ _ (by simp [by2]), Option.bind_some, two_is ⟨by omega, by omega⟩, Option.bind_some, app_ok _ _ (by simp [by2]), Option.bind_some, app_ok _ _ (by simp [by2]), Option.bind_some, app_ok _ _ (by simp [by2]; omega), Option.bind_some]
  have hh : by2 u.Src ++ by2 u.Dst ++ by2 (8 + u.Data.length) ++ [0, 0] ++ u.Data = headU u [0, 0] := by simp [headU]
  have hl := headU_len u [0, 0] rfl
  rw [hh, rpseudoP_is _ _ _ _ ⟨by omega, by omega⟩ (by omega), Option.bind_some, app_ok _ _ (by rw [psp_len]; omega), Option.bind_some, rsum_is ((byt_psp _ _ _ (by omega)).app (byt_headU hd byt00)) (by rw [List.length_append, psp_len]; omega), Option.bind_some]
  have hs : ((if decide (65535 - fold (sumP (pseudoP a b 17 (8 + u.Data.length) ++ headU u [0, 0])) = 0) = true then some (65535) else some (65535 - fold (sumP (pseudoP a b 17 (8 + u.Data.length) ++ headU u [0, 0]))) : Option Int)) = some (ckU u a b) := by
    unfold ckU sU
    split <;> rename_i q
    · rw [if_pos (by simpa using q)]
    · rw [if_neg (by simpa using q)]
  rw [hs, Option.bind_some]
  have x6 : idx (headU u [0, 0]) 6 = some 0 := rfl
  have x7 : ∀ v, idx ((headU u [0, 0]).set (6 : Int).toNat v) 7 = some 0 := fun v => rfl
  have v1 : IntKind.u8.wrap (IntKind.i64.wrap (Int.tdiv (ckU u a b) 256)) = ckU u a b / 256 % 256 := by rw [Int.tdiv_eq_ediv_of_nonneg (by omega), i64w (by omega) (by omega), u8w]
  have v2 : IntKind.u8.wrap (Int.tmod (ckU u a b) 256) = ckU u a b % 256 := by rw [Int.tmod_eq_emod_of_nonneg (by omega), u8w]; omega
  rw [x6, Option.bind_some]
  simp only [v1, v2, x7, Option.bind_some]
  rfl
theorem put_eq (u : TUdp) (hd : Byt u.Data) (a b : Int) : ∃ r, udp_Put.f u a b = some r ∧ ref18_Put.f u a b = some r := by
  by_cases h : uOk u
  · exact ⟨_, put_is u a b h hd, rput_is u a b h hd⟩
  · exact ⟨_, put_no u a b h, rput_no u a b h⟩
theorem get_eq (b : List Int) (hb : Byt b) (hl : b.length ≤ 100000) (x y : Int) : ∃ r, udp_Get.f b x y = some r ∧ ref18_Get.f b x y = some r := by
  by_cases c : (b.length : Int) < 8
  · refine ⟨_, get_short b x y c, ?_⟩
    unfold ref18_Get.f
    rw [if_pos (by simpa using c)]
  · obtain ⟨v0, v1, v2, v3, hloop, ⟨x0, k0, r0, _⟩, ⟨x2, k2, r2, _⟩, ⟨x4, k4, r4, _⟩, ⟨p, q, hp, hq, h3, hpb, hqb⟩, b0, b1, b2⟩ := get_loop b hb (by omega)
    refine ⟨_, get_res b hb hl x y (by omega) hloop b2, ?_⟩
    unfold ref18_Get.f gRes
    rw [if_neg (by simpa using c), k4, Option.bind_some, r4, Option.bind_some]
    simp only [lt, i64w (x := v2) (by omega) (by omega)]
    by_cases c1 : v2 < 8
    · simp [c1]
    by_cases c2 : (b.length : Int) < v2
    · simp [c1, c2]
    simp only [c1, c2, decide_false, Bool.false_eq_true, if_false]
    have ht : ((b.take v2.toNat).length : Int) = v2 := by rw [List.length_take]; omega
    have htb : Byt (b.take v2.toNat) := fun z hz => hb z (List.mem_of_mem_take hz)
    have hll : (pseudoP x y 17 v2 ++ b.take v2.toNat).length ≤ 1099511627776 := by rw [List.length_append, psp_len]; omega
    have x6 : idx b 6 = some p := by unfold idx; rw [if_pos (by omega)]; exact hp
    have x7 : idx b 7 = some q := by unfold idx; rw [if_pos (by omega)]; exact hq
    have hc : cut b 8 v2 = some ((b.take v2.toNat).drop 8) := by unfold cut; rw [if_pos ⟨by omega, by omega, by omega⟩]; rfl
    rw [x6, x7, k0, k2, hc, cut_take _ _ b2.1 (by omega), rpseudoP_is _ _ _ _ ⟨by omega, by omega⟩ (by omega)]
    simp only [Option.bind_some]
    rw [app_ok _ _ (by rw [psp_len]; omega)]
    simp only [Option.bind_some]
    rw [rright_is ((byt_psp _ _ _ (by omega)).app htb) hll, app_ok _ _ (by simp; omega)]
    simp only [Option.bind_some, r0, r2, List.nil_append, i64w (x := v0) (by omega) (by omega), i64w (x := v1) (by omega) (by omega)]
    by_cases c4 : fold (sumP (pseudoP x y 17 v2 ++ b.take v2.toNat)) = 65535
    · by_cases c6 : p = 0 <;> by_cases c7 : q = 0 <;> simp [c4, c6, c7]
    · by_cases c6 : p = 0
      · by_cases c7 : q = 0
        · have : v3 = 0 := by omega
          simp [c4, c6, c7, this]
        · have : v3 ≠ 0 := by omega
          simp [c4, c6, c7, this]
      · have : v3 ≠ 0 := by omega
        simp [c4, c6, this]
theorem same_self (u : TUdp) : ref18_Same.f u u = some true := by simp [ref18_Same.f, lt]
theorem udpTells (u : TUdp) (g : gUdp u) (a : Int) (ha : InR .u32 a) (b : Int) (hb : InR .u32 b) (l : List Int) (hl : l.length ≤ maxLen ∧ ∀ z ∈ l, InR .u8 z) : law18_UdpTells.f u a b l = some true := by
  obtain ⟨g1, g2, g8, g9⟩ := g
  have hd : Byt u.Data := Byt.of g9
  have hbl : Byt l := Byt.of hl.2
  unfold law18_UdpTells.f
  by_cases c1 : (70000 : Int) < l.length
  · rw [if_pos (by simpa using c1), Option.bind_some, if_pos rfl, heads]; rfl
  rw [if_neg (by simpa using c1), Option.bind_some]
  by_cases c2 : (70000 : Int) < u.Data.length
  · rw [if_pos (by simpa using c2), heads]; rfl
  rw [if_neg (by simpa using c2)]
  obtain ⟨r1, p1, q1⟩ := put_eq u hd a b
  obtain ⟨r2, p2, q2⟩ := get_eq l hbl (by omega) a b
  rw [p1, Option.bind_some, q1, Option.bind_some, p2, Option.bind_some, q2, Option.bind_some, rsame]
  simp only [decide_true, Option.bind_some, if_true, same_self, heads]
end Go.Proofs.YtfoffhdckcdjdaaDoor.S
