/- The program's segments and the document's are the same; each fact states its own conditions. -/
import Derived.Test.YthjaancddmecpaaPureMss
import Derived.Test.YthjaancddmecpaaPureSegMore
namespace Go.Proofs.Ythjaancddmecpaa.S
open Go Go.SL
set_option linter.unusedVariables false
set_option linter.unusedSimpArgs false
theorem app_ok (a b : List Int) (h : a.length + b.length ≤ 68719476736) : app a b = some (a ++ b) := by unfold app; rw [if_pos h]
theorem rpseudo_is (a b n : Int) (hn : 0 ≤ n ∧ n < 18446744073709551616) : ref15_Pseudo.f a b 6 n = some (pseudoOf a b n) := by
  unfold ref15_Pseudo.f
  rw [rput4, Option.bind_some, rput4, Option.bind_some, app_ok _ _ (by simp), Option.bind_some, app_ok _ _ (by simp), Option.bind_some, u64w hn.1 hn.2, rput2, Option.bind_some, app_ok _ _ (by simp), Option.bind_some]
  simp [pseudoOf, by2, by4, u8w]
theorem cut2 (b : List Int) (hb : Byt b) (lo hi : Int) (h0 : 0 ≤ lo) (h1 : hi = lo + 2) (h2 : hi ≤ b.length) : ∃ p q, cut b lo hi = some [p, q] ∧ (0 ≤ p ∧ p < 256) ∧ (0 ≤ q ∧ q < 256) := by
  have hl1 : lo.toNat < b.length := by omega
  have hl2 : lo.toNat + 1 < b.length := by omega
  refine ⟨b[lo.toNat], b[lo.toNat + 1], ?_, hb _ (List.getElem_mem _), hb _ (List.getElem_mem _)⟩
  unfold cut
  rw [if_pos ⟨h0, by omega, h2⟩, show hi.toNat = lo.toNat + 2 by omega, List.drop_take, show lo.toNat + 2 - lo.toNat = 2 by omega, List.drop_eq_getElem_cons hl1, List.drop_eq_getElem_cons hl2]
  rfl
theorem cut4 (b : List Int) (hb : Byt b) (lo hi : Int) (h0 : 0 ≤ lo) (h1 : hi = lo + 4) (h2 : hi ≤ b.length) : ∃ p q r s, cut b lo hi = some [p, q, r, s] ∧ (0 ≤ p ∧ p < 256) ∧ (0 ≤ q ∧ q < 256) ∧ (0 ≤ r ∧ r < 256) ∧ (0 ≤ s ∧ s < 256) := by
  have hl1 : lo.toNat < b.length := by omega
  have hl2 : lo.toNat + 1 < b.length := by omega
  have hl3 : lo.toNat + 1 + 1 < b.length := by omega
  have hl4 : lo.toNat + 1 + 1 + 1 < b.length := by omega
  refine ⟨b[lo.toNat], b[lo.toNat + 1], b[lo.toNat + 1 + 1], b[lo.toNat + 1 + 1 + 1], ?_, hb _ (List.getElem_mem _), hb _ (List.getElem_mem _), hb _ (List.getElem_mem _), hb _ (List.getElem_mem _)⟩
  unfold cut
  rw [if_pos ⟨h0, by omega, h2⟩, show hi.toNat = lo.toNat + 4 by omega, List.drop_take, show lo.toNat + 4 - lo.toNat = 4 by omega, List.drop_eq_getElem_cons hl1, List.drop_eq_getElem_cons hl2, List.drop_eq_getElem_cons hl3, List.drop_eq_getElem_cons hl4]
  rfl
theorem rd2 (b : List Int) (hb : Byt b) (lo hi : Int) (h0 : 0 ≤ lo) (hlo : lo ≤ 1000000) (h1 : hi = lo + 2) (h2 : hi ≤ b.length) : ∃ x v, (0 ≤ v ∧ v < 65536) ∧ cut b lo hi = some x ∧ ref01_Get.f x true = some v ∧ bits_Get.f x true = some v := by
  obtain ⟨p, q, h, hp, hq⟩ := cut2 b hb lo hi h0 h1 h2
  exact ⟨_, p * 256 + q, by omega, h, rget2 hp hq, get2 hp hq⟩
theorem rd4 (b : List Int) (hb : Byt b) (lo hi : Int) (h0 : 0 ≤ lo) (hlo : lo ≤ 1000000) (h1 : hi = lo + 4) (h2 : hi ≤ b.length) : ∃ x v, (0 ≤ v ∧ v < 4294967296) ∧ cut b lo hi = some x ∧ ref01_Get.f x true = some v ∧ bits_Get.f x true = some v := by
  obtain ⟨p, q, r, s, h, hp, hq, hr, hs⟩ := cut4 b hb lo hi h0 h1 h2
  exact ⟨_, p * 16777216 + q * 65536 + r * 256 + s, by omega, h, rget4 hp hq hr hs, get4 hp hq hr hs⟩
theorem idx_at (b : List Int) (hb : Byt b) (i : Int) (h0 : 0 ≤ i) (h1 : i < b.length) : ∃ z, idx b i = some z ∧ (0 ≤ z ∧ z < 256) := by
  have hl : i.toNat < b.length := by omega
  exact ⟨b[i.toNat], by unfold idx; rw [if_pos h0, List.getElem?_eq_getElem hl], hb _ (List.getElem_mem _)⟩
theorem and63 (x : Int) (h : 0 ≤ x ∧ x < 256) : bits .and .u8 x 63 = Int.tmod x 64 := by
  have : ∀ k : Fin 256, bits .and .u8 (k.val : Int) 63 = Int.tmod (k.val : Int) 64 := by decide +kernel
  have := this ⟨x.toNat, by omega⟩
  simpa [Int.toNat_of_nonneg h.1] using this
set_option maxHeartbeats 1000000 in
theorem get_eq (b : List Int) (hb : Byt b) (hl : b.length ≤ 70000) (x y : Int) : ∃ r, seg_Get.f b x y = some r ∧ ref19_Get.f b x y = some r := by
  unfold seg_Get.f ref19_Get.f
  by_cases c : (b.length : Int) < 20
  · rw [if_pos (by simpa using c), if_pos (by simpa using c)]; exact ⟨_, rfl, rfl⟩
  rw [if_neg (by simpa using c), if_neg (by simpa using c)]
  obtain ⟨z, hz, hzb⟩ := idx_at b hb 12 (by omega) (by omega)
  have e1 : IntKind.i64.wrap (ishr .u8 z 4 * 4) = z / 16 * 4 := by
    unfold ishr; rw [show (2 : Int) ^ min (4 : Int).toNat IntKind.u8.bits = 16 by decide, i64w (by omega) (by omega)]
  have e2 : IntKind.i64.wrap (IntKind.u8.wrap (Int.tdiv z 16) * 4) = z / 16 * 4 := by
    rw [Int.tdiv_eq_ediv_of_nonneg hzb.1, u8w, show z / 16 % 256 = z / 16 by omega, i64w (by omega) (by omega)]
  rw [hz]
  simp only [Option.bind_some, lt, e1, e2]
  obtain ⟨n, hn⟩ : ∃ n, z / 16 * 4 = n := ⟨_, rfl⟩
  have hnb : 0 ≤ n ∧ n ≤ 60 := by omega
  simp only [hn]
  by_cases c2 : (65535 : Int) < b.length
  · have d2 : decide ((65535 : Int) < b.length) = true := by simpa using c2
    simp only [d2, if_true, Option.bind_some]; exact ⟨_, rfl, rfl⟩
  have d2 : decide ((65535 : Int) < b.length) = false := by simpa using c2
  simp only [d2, if_false, Bool.false_eq_true, Option.bind_some]
  by_cases c3 : n < 20
  · have d3 : decide (n < 20) = true := by simpa using c3
    simp only [d3, if_true]; exact ⟨_, rfl, rfl⟩
  have d3 : decide (n < 20) = false := by simpa using c3
  simp only [d3, if_false, Bool.false_eq_true]
  by_cases c4 : (b.length : Int) < n
  · have d4 : decide ((b.length : Int) < n) = true := by simpa using c4
    simp only [d4, if_true]; exact ⟨_, rfl, rfl⟩
  have d4 : decide ((b.length : Int) < n) = false := by simpa using c4
  simp only [d4, if_false, Bool.false_eq_true]
  rw [covered_is _ _ _ (by omega), rpseudo_is _ _ _ ⟨by omega, by omega⟩, Option.bind_some, Option.bind_some, app_ok _ _ (by rw [ps_len]; omega), Option.bind_some]
  have hbb := (byt_ps x y b.length).app hb
  have hll : (pseudoOf x y b.length ++ b).length ≤ 1099511627776 := by rw [List.length_append, ps_len]; omega
  rw [right_is hbb hll, rright_is hbb hll, Option.bind_some, Option.bind_some]
  by_cases hr : fold (sumP (pseudoOf x y b.length ++ b)) = 65535
  · simp only [hr, decide_true, Bool.not_true, Bool.false_eq_true, if_false]
    have hc : cut b 20 n = some ((b.take n.toNat).drop 20) := by unfold cut; rw [if_pos ⟨by omega, by omega, by omega⟩]; rfl
    have hcb : Byt ((b.take n.toNat).drop 20) := fun v hv => hb v (List.mem_of_mem_take (List.mem_of_mem_drop hv))
    have hcl : ((b.take n.toNat).drop 20).length ≤ 100000 := by rw [List.length_drop, List.length_take]; omega
    rw [hc, Option.bind_some, Option.bind_some, seg_mss_is _ hcb hcl, ref_mss_is _ hcb hcl, Option.bind_some, Option.bind_some]
    obtain ⟨m, ok, hm⟩ : ∃ m ok, mssW ((b.take n.toNat).drop 20).length ((b.take n.toNat).drop 20) 0 false = (m, ok) := ⟨_, _, rfl⟩
    rw [hm]
    cases ok with
    | false => simp only [Bool.not_false, if_true]; exact ⟨_, rfl, rfl⟩
    | true =>
      simp only [Bool.not_true, Bool.false_eq_true, if_false]
      obtain ⟨x0, v0, b0, k0, r0, s0⟩ := rd2 b hb 0 2 (by omega) (by omega) rfl (by omega)
      obtain ⟨x2, v2, b2, k2, r2, s2⟩ := rd2 b hb 2 4 (by omega) (by omega) rfl (by omega)
      obtain ⟨x4, v4, b4, k4, r4, s4⟩ := rd4 b hb 4 8 (by omega) (by omega) rfl (by omega)
      obtain ⟨x8, v8, b8, k8, r8, s8⟩ := rd4 b hb 8 12 (by omega) (by omega) rfl (by omega)
      obtain ⟨x14, v14, b14, k14, r14, s14⟩ := rd2 b hb 14 16 (by omega) (by omega) rfl (by omega)
      obtain ⟨z13, hz13, hb13⟩ := idx_at b hb 13 (by omega) (by omega)
      have w0 : IntKind.i64.wrap (0 + 2) = 2 := by decide
      have w2 : IntKind.i64.wrap (2 + 2) = 4 := by decide
      have w4 : IntKind.i64.wrap (4 + 4) = 8 := by decide
      have w8 : IntKind.i64.wrap (8 + 4) = 12 := by decide
      have w14 : IntKind.i64.wrap (14 + 2) = 16 := by decide
      have hce : cut b n (b.length : Int) = some (b.drop n.toNat) := cut_to_end b n (by omega) (by omega)
      simp only [seg_Get_1.f, ref19_get.f, w0, w2, w4, w8, w14, k0, k2, k4, k8, k14, r0, r2, r4, r8, r14, s0, s2, s4, s8, s14, hz13, Option.bind_some, hce, slices_Clone_s_byte_byte.f, seg_head_seg.f]
      rw [app_ok _ _ (by simp; omega)]
      simp only [Option.bind_some, and63 z13 hb13, u16w, u32w']
      rw [i64w (x := v0) (by omega) (by omega), i64w (x := v2) (by omega) (by omega), i64w (x := v14) (by omega) (by omega), show v0 % 65536 = v0 by omega, show v2 % 65536 = v2 by omega, show v14 % 65536 = v14 by omega]
      exact ⟨_, rfl, rfl⟩
  · simp only [hr, decide_false, Bool.not_false, if_true]; exact ⟨_, rfl, rfl⟩
theorem put_no (s : TSeg) (a b : Int) (h : ¬ (hdOk s ∧ (0 ≤ s.Mss ∧ s.Mss < 65536) ∧ s.Data.length ≤ 60000)) : seg_Put.f s a b = some ([], 2) := by
  by_cases hh : hdOk s ∧ (0 ≤ s.Mss ∧ s.Mss < 65536)
  · have hl : ¬ s.Data.length ≤ 60000 := fun e => h ⟨hh.1, hh.2, e⟩
    have e16 : ishr .i64 s.Mss 16 = 0 := by unfold ishr; rw [show (2 : Int) ^ min (16 : Int).toNat IntKind.i64.bits = 65536 by decide]; omega
    unfold seg_Put.f
    rw [same_is]
    simp only [hh.1, decide_true, Option.bind_some, Bool.not_true, Bool.false_eq_true, if_false, e16]
    have d : decide ((60000 : Int) < s.Data.length) = true := by simp; omega
    simp only [d, Bool.not_true, Bool.false_eq_true, if_false, Option.bind_some, if_true]
  · exact put_not s a b hh
theorem word_is (x : Int) : ref19_word.f x = some (decide (0 ≤ x ∧ x ≤ 65535)) := by
  unfold ref19_word.f
  by_cases h : 0 ≤ x <;> by_cases k : x ≤ 65535 <;> simp [h, k, lt]
theorem rput_no (s : TSeg) (a b : Int) (h : ¬ (hdOk s ∧ (0 ≤ s.Mss ∧ s.Mss < 65536) ∧ s.Data.length ≤ 60000)) : ref19_Put.f s a b = some ([], 2) := by
  unfold ref19_Put.f
  simp only [word_is, Option.bind_some]
  have e : (if (!decide (0 ≤ s.Src ∧ s.Src ≤ 65535)) = true then some true else if (!decide (0 ≤ s.Dst ∧ s.Dst ≤ 65535)) = true then some true else if (!decide (0 ≤ s.Win ∧ s.Win ≤ 65535)) = true then some true else if (!decide (0 ≤ s.Mss ∧ s.Mss ≤ 65535)) = true then some true else if decide (s.Flags < 0) = true then some true else if decide (63 < s.Flags) = true then some true else some (decide ((60000 : Int) < s.Data.length)) : Option Bool) = some true := by
    by_cases c1 : 0 ≤ s.Src ∧ s.Src ≤ 65535
    · by_cases c2 : 0 ≤ s.Dst ∧ s.Dst ≤ 65535
      · by_cases c3 : 0 ≤ s.Win ∧ s.Win ≤ 65535
        · by_cases c4 : 0 ≤ s.Mss ∧ s.Mss ≤ 65535
          · by_cases c5 : s.Flags < 0
            · simp [c1, c2, c3, c4, c5]
            · by_cases c6 : 63 < s.Flags
              · simp [c1, c2, c3, c4, c5, c6]
              · have : (60000 : Int) < s.Data.length := by
                  rcases Int.lt_or_le (60000 : Int) s.Data.length with q | q
                  · exact q
                  · exact absurd ⟨⟨⟨c1.1, by omega⟩, ⟨c2.1, by omega⟩, ⟨by omega, by omega⟩, ⟨c3.1, by omega⟩⟩, ⟨c4.1, by omega⟩, by omega⟩ h
                simp [c1, c2, c3, c4, c5, c6, this]
          · simp [c1, c2, c3, c4]
        · simp [c1, c2, c3]
      · simp [c1, c2]
    · simp [c1]
  rw [e, Option.bind_some, if_pos rfl]
theorem put__2 (x : Int) : ref19_put.f x 2 = some (by2 x) := by unfold ref19_put.f; rw [rput2]; rfl
theorem put__4 (x : Int) : ref19_put.f x 4 = some (by4 x) := by unfold ref19_put.f; rw [rput4]; rfl
theorem rput_is (s : TSeg) (a b : Int) (h : hdOk s) (hm : 0 ≤ s.Mss ∧ s.Mss < 65536) (hl : s.Data.length ≤ 60000) (hd : Byt s.Data) : ref19_Put.f s a b = some (headOf s (by2 (ckOf s a b) ++ [0, 0]), 0) := by
  have hol := opts_len s.Mss
  have hby : Byt (headOf s [0, 0, 0, 0]) := byt_head hd fun x hx => by simp at hx; omega
  have hby2 := (byt_ps a b ((headOf s [0, 0, 0, 0]).length)).app hby
  have hf := fold_bd (sumP_bd _ hby2).1
  have hlen := head_len s [0, 0, 0, 0] rfl
  obtain ⟨h1, h2, h3, h4⟩ := h
  unfold ref19_Put.f
  simp only [word_is, Option.bind_some]
  have e : (if (!decide (0 ≤ s.Src ∧ s.Src ≤ 65535)) = true then some true else if (!decide (0 ≤ s.Dst ∧ s.Dst ≤ 65535)) = true then some true else if (!decide (0 ≤ s.Win ∧ s.Win ≤ 65535)) = true then some true else if (!decide (0 ≤ s.Mss ∧ s.Mss ≤ 65535)) = true then some true else if decide (s.Flags < 0) = true then some true else if decide (63 < s.Flags) = true then some true else some (decide ((60000 : Int) < s.Data.length)) : Option Bool) = some false := by
    have c1 : 0 ≤ s.Src ∧ s.Src ≤ 65535 := by omega
    have c2 : 0 ≤ s.Dst ∧ s.Dst ≤ 65535 := by omega
    have c3 : 0 ≤ s.Win ∧ s.Win ≤ 65535 := by omega
    have c4 : 0 ≤ s.Mss ∧ s.Mss ≤ 65535 := by omega
    have c5 : ¬ s.Flags < 0 := by omega
    have c6 : ¬ 63 < s.Flags := by omega
    have c7 : ¬ (60000 : Int) < s.Data.length := by omega
    simp [c1, c2, c3, c4, c5, c6, c7]
  rw [e, Option.bind_some, if_neg (by simp)]
  have eo : ((if (!decide (s.Mss = 0)) = true then (ref19_put.f (IntKind.u64.wrap s.Mss) 2).bind fun r5 => (app ([2, 4] : List Int) r5).bind fun x1 => some (x1) else some ([])) : Option (List Int)) = some (optsOf s.Mss) := by
    unfold optsOf
    by_cases c : s.Mss = 0
    · rw [if_neg (by simp [c]), if_neg (by omega)]
    · rw [if_pos (by simpa using c), if_pos (by omega), u64w (by omega) (by omega), put__2, Option.bind_some, app_ok _ _ (by simp [by2])]; rfl
  rw [eo, Option.bind_some]
  have w1 : IntKind.u64.wrap s.Src = s.Src := u64w (by omega) (by omega)
  have w2 : IntKind.u64.wrap s.Dst = s.Dst := u64w (by omega) (by omega)
  have w4 : IntKind.u64.wrap s.Win = s.Win := u64w (by omega) (by omega)
  have w5 : IntKind.u8.wrap (IntKind.i64.wrap (80 + IntKind.i64.wrap (4 * ((optsOf s.Mss).length : Int)))) = (20 + (optsOf s.Mss).length : Int) / 4 * 16 % 256 := by
    rcases hol with e | e <;> rw [e] <;> decide
  simp only [put__2, put__4, Option.bind_some, w1, w2, w4, w5, u8w s.Flags]
  rw [app_ok _ _ (by simp [by2]), Option.bind_some, app_ok _ _ (by simp [by2, by4]), Option.bind_some, app_ok _ _ (by simp [by2, by4]), Option.bind_some, app_ok _ _ (by simp [by2, by4]), Option.bind_some, app_ok _ _ (by simp [by2, by4]), Option.bind_some, app_ok _ _ (by simp [by2, by4]), Option.bind_some, app_ok _ _ (by simp [by2, by4]; omega), Option.bind_some, app_ok _ _ (by simp [by2, by4]; omega), Option.bind_some]
  have hcat : by2 s.Src ++ by2 s.Dst ++ by4 s.Seq ++ by4 s.Ack ++ [(20 + (optsOf s.Mss).length : Int) / 4 * 16 % 256, s.Flags % 256] ++ by2 s.Win ++ [0, 0, 0, 0] ++ optsOf s.Mss ++ s.Data = headOf s [0, 0, 0, 0] := by simp [headOf]
  rw [hcat, rpseudo_is _ _ _ ⟨by omega, by omega⟩, Option.bind_some, app_ok _ _ (by rw [ps_len, hlen]; omega), Option.bind_some, rsum_is hby2 (by rw [List.length_append, ps_len]; omega), Option.bind_some]
  have hck : (65535 - fold (sumP (pseudoOf a b ((headOf s [0, 0, 0, 0]).length) ++ headOf s [0, 0, 0, 0]))) = ckOf s a b := rfl
  rw [hck]
  have hcb : 0 ≤ ckOf s a b ∧ ckOf s a b ≤ 65535 := by unfold ckOf; omega
  have hx16 : idx (headOf s [0, 0, 0, 0]) 16 = some 0 := rfl
  have v1 : IntKind.u8.wrap (IntKind.i64.wrap (Int.tdiv (ckOf s a b) 256)) = ckOf s a b / 256 % 256 := by rw [Int.tdiv_eq_ediv_of_nonneg hcb.1, i64w (by omega) (by omega), u8w]
  have v2 : IntKind.u8.wrap (Int.tmod (ckOf s a b) 256) = ckOf s a b % 256 := by rw [Int.tmod_eq_emod_of_nonneg hcb.1, u8w]; omega
  have hx17 : ∀ v, idx ((headOf s [0, 0, 0, 0]).set (16 : Int).toNat v) 17 = some 0 := fun v => rfl
  rw [hx16, Option.bind_some]
  simp only [lt, v1, v2, hx17, Option.bind_some]
  rfl
theorem put_eq (s : TSeg) (hd : Byt s.Data) (a b : Int) : ∃ r, seg_Put.f s a b = some r ∧ ref19_Put.f s a b = some r := by
  by_cases h : hdOk s ∧ (0 ≤ s.Mss ∧ s.Mss < 65536) ∧ s.Data.length ≤ 60000
  · exact ⟨_, put_is s a b h.1 h.2.1 h.2.2 hd, rput_is s a b h.1 h.2.1 h.2.2 hd⟩
  · exact ⟨_, put_no s a b h, rput_no s a b h⟩
theorem and_lo (x m : Int) (k : Nat) (hm : m = 2 ^ k - 1) (hk : k < 63) : bits .and .i64 x m = x % 2 ^ k := by
  subst hm
  have e2 : bits .and .i64 x (2 ^ k - 1) = IntKind.i64.wrap ((BitVec.ofInt 64 x &&& BitVec.ofInt 64 (2 ^ k - 1) : BitVec 64).toNat : Int) := rfl
  have hp : (2 : Nat) ^ k ≤ 2 ^ 62 := Nat.pow_le_pow_right (by decide) (by omega)
  have hp1 : 1 ≤ (2 : Nat) ^ k := Nat.one_le_two_pow
  have e3 : (2 ^ k - 1 : Int) = ((2 ^ k - 1 : Nat) : Int) := by rw [Int.ofNat_sub hp1]; push_cast; rfl
  rw [e2, e3, BitVec.ofInt_natCast, BitVec.toNat_and, BitVec.toNat_ofNat, Nat.mod_eq_of_lt (a := 2 ^ k - 1) (by omega), Nat.and_two_pow_sub_one_eq_mod, BitVec.toNat_ofInt]
  have hN : ((2 ^ 64 : Nat) : Int) = (2 : Int) ^ 64 := by decide
  rw [hN]
  have e4 : ((x % (2 : Int) ^ 64).toNat % 2 ^ k : Nat) = ((x % (2 : Int) ^ k).toNat) := by
    have hd : ((2 : Int) ^ k) ∣ (2 : Int) ^ 64 := ⟨(2 : Int) ^ (64 - k), by rw [← Int.pow_add, show k + (64 - k) = 64 by omega]⟩
    have h1 : (0 : Int) ≤ x % (2 : Int) ^ 64 := Int.emod_nonneg _ (by decide)
    have h2 := Int.emod_emod_of_dvd x hd
    have h3 : (0 : Int) ≤ x % 2 ^ k := Int.emod_nonneg _ (by have : (0 : Int) < 2 ^ k := Int.pow_pos (by decide); omega)
    have h4 : (((x % (2 : Int) ^ 64).toNat % 2 ^ k : Nat) : Int) = x % 2 ^ k := by
      rw [Int.natCast_emod, Int.toNat_of_nonneg h1, Int.natCast_pow]
      exact h2
    omega
  rw [e4]
  have q : (0 : Int) < 2 ^ k := Int.pow_pos (by decide)
  have q2 : (2 : Int) ^ k ≤ 2 ^ 62 := by have := hp; exact_mod_cast this
  have m1 := Int.emod_nonneg x (show (2 : Int) ^ k ≠ 0 by omega)
  have m2 := Int.emod_lt_of_pos x q
  rw [Int.toNat_of_nonneg m1, i64w (by omega) (by omega)]
theorem and1 (x : Int) : bits .and .i64 x 1 = x % 2 := and_lo x 1 1 rfl (by decide)
theorem and3 (x : Int) : bits .and .i64 x 3 = x % 4 := and_lo x 3 2 rfl (by decide)
theorem and2 (x : Int) : bits .and .i64 x 2 = x / 2 % 2 * 2 := by
  have e2 : bits .and .i64 x 2 = IntKind.i64.wrap ((BitVec.ofInt 64 x &&& BitVec.ofInt 64 2 : BitVec 64).toNat : Int) := rfl
  have e3 : (BitVec.ofInt 64 x &&& BitVec.ofInt 64 2 : BitVec 64).toNat = (x % 4).toNat / 2 * 2 := by
    have h3 := and3 x
    have e5 : bits .and .i64 x 3 = IntKind.i64.wrap ((BitVec.ofInt 64 x &&& BitVec.ofInt 64 3 : BitVec 64).toNat : Int) := rfl
    have a3 : (BitVec.ofInt 64 x &&& BitVec.ofInt 64 3 : BitVec 64).toNat = (BitVec.ofInt 64 x).toNat % 4 := by
      rw [BitVec.toNat_and]; exact Nat.and_two_pow_sub_one_eq_mod (BitVec.ofInt 64 x).toNat 2
    rw [e5, a3, i64w (by omega) (by omega)] at h3
    have a2 : (BitVec.ofInt 64 x &&& BitVec.ofInt 64 2 : BitVec 64).toNat = (BitVec.ofInt 64 x).toNat &&& 2 := by rw [BitVec.toNat_and]; rfl
    rw [a2]
    have : (BitVec.ofInt 64 x).toNat &&& 2 = (BitVec.ofInt 64 x).toNat % 4 / 2 * 2 := by
      have q : (BitVec.ofInt 64 x).toNat &&& 2 = ((BitVec.ofInt 64 x).toNat &&& 3) &&& 2 := by rw [Nat.and_assoc]; rfl
      rw [q, show (BitVec.ofInt 64 x).toNat &&& 3 = (BitVec.ofInt 64 x).toNat % 4 from Nat.and_two_pow_sub_one_eq_mod _ 2]
      have : ∀ k : Fin 4, k.val &&& 2 = k.val / 2 * 2 := by decide
      exact this ⟨(BitVec.ofInt 64 x).toNat % 4, by omega⟩
    rw [this]; omega
  rw [e2, e3, i64w (by omega) (by omega)]; omega
theorem len_eq (s : TSeg) (hl : s.Data.length ≤ 70000) : ∃ r, seg_Len.f s = some r ∧ ref19_Len.f s = some r := by
  have e : ishr .i64 s.Flags 1 = s.Flags / 2 := by unfold ishr; rw [show (2 : Int) ^ min (1 : Int).toNat IntKind.i64.bits = 2 by decide]
  unfold seg_Len.f ref19_Len.f
  simp only [lt, e, and1, and2]
  rw [i64w (x := (s.Data.length : Int) + s.Flags / 2 % 2) (by omega) (by omega), i64w (by omega) (by omega)]
  refine ⟨_, rfl, ?_⟩
  have hb : s.Flags / 2 % 2 = 0 ∨ s.Flags / 2 % 2 = 1 := by omega
  have hc : s.Flags % 2 = 0 ∨ s.Flags % 2 = 1 := by omega
  rcases hb with hb | hb <;> rcases hc with hc | hc <;> rw [hb, hc]
  · simp
  · simp [i64w (x := (s.Data.length : Int) + 1) (by omega) (by omega)]
  · simp [i64w (x := (s.Data.length : Int) + 1) (by omega) (by omega)]
  · simp [i64w (x := (s.Data.length : Int) + 1) (by omega) (by omega), i64w (x := (s.Data.length : Int) + 1 + 1) (by omega) (by omega)]
theorem less_eq (a b : Int) : ∃ r, seg_Less.f a b = some r ∧ ref19_Less.f a b = some r := by
  refine ⟨_, less a b, ?_⟩
  unfold ref19_Less.f
  have := ahead a b
  simp only [lt, u32w]
  by_cases c : 1 ≤ (b - a) % 4294967296
  · rw [if_pos (by simpa using c)]; simp only [Option.bind_some]; congr 2; exact propext (by rw [← u32w]; rw [← u32w] at c; rw [this]; rw [u32w] at *; omega)
  · rw [if_neg (by simpa using c)]; simp only [Option.bind_some]; congr 1; simp only [u32w] at this; symm; simp only [decide_eq_false_iff_not]; rw [this]; omega
end Go.Proofs.Ythjaancddmecpaa.S
