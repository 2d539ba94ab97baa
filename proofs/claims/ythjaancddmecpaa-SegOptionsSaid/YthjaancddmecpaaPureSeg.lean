/- Plain facts on segments written and read; each states its own conditions. -/
import Derived.Test.YthjaancddmecpaaPureCheck
namespace Go.Proofs.Ythjaancddmecpaa.S
open Go Go.SL
set_option linter.unusedVariables false
set_option linter.unusedSimpArgs false
theorem u16w (x : Int) : IntKind.u16.wrap x = x % 65536 := by simp [IntKind.wrap, IntKind.bits, IntKind.signed]
theorem u32w' (x : Int) : IntKind.u32.wrap x = x % 4294967296 := by simp [IntKind.wrap, IntKind.bits, IntKind.signed]
def gSeg (s : TSeg) : Prop := InR .i64 s.Src ∧ InR .i64 s.Dst ∧ InR .u32 s.Seq ∧ InR .u32 s.Ack ∧ InR .i64 s.Flags ∧ InR .i64 s.Win ∧ InR .i64 s.Mss ∧ (s.Data.length ≤ maxLen ∧ ∀ z ∈ s.Data, InR .u8 z)
theorem inr64 {x : Int} (h : InR .i64 x) : -9223372036854775808 ≤ x ∧ x < 9223372036854775808 := by
  unfold InR at h
  simp only [IntKind.wrap, IntKind.bits, IntKind.signed] at h
  simp at h
  omega
theorem inrU32 {x : Int} (h : InR .u32 x) : 0 ≤ x ∧ x < 4294967296 := by unfold InR at h; rw [u32w'] at h; omega
def hdOk (s : TSeg) : Prop := (0 ≤ s.Src ∧ s.Src < 65536) ∧ (0 ≤ s.Dst ∧ s.Dst < 65536) ∧ (0 ≤ s.Flags ∧ s.Flags ≤ 63) ∧ (0 ≤ s.Win ∧ s.Win < 65536)
instance (s : TSeg) : Decidable (hdOk s) := inferInstanceAs (Decidable (_ ∧ _))
theorem same_is (s : TSeg) : seg_same.f s = some (decide (hdOk s)) := by
  unfold seg_same.f seg_of.f seg_head_seg.f
  simp only [Option.bind_some, lt, u16w, u8w]
  by_cases h : hdOk s
  · obtain ⟨h1, h2, h3, h4⟩ := id h
    have e1 : s.Src % 65536 = s.Src := by omega
    have e2 : s.Dst % 65536 = s.Dst := by omega
    have e3 : s.Flags % 256 = s.Flags := by omega
    have e4 : s.Win % 65536 = s.Win := by omega
    simp [e1, e2, e3, e4, h, h3.2]
  · simp only [h, decide_false]
    by_cases c1 : s.Flags ≤ 63
    · by_cases c2 : s.Src % 65536 = s.Src
      · by_cases c3 : s.Dst % 65536 = s.Dst
        · by_cases c4 : s.Flags % 256 = s.Flags
          · by_cases c5 : s.Win % 65536 = s.Win
            · exact absurd ⟨⟨by omega, by omega⟩, ⟨by omega, by omega⟩, ⟨by omega, c1⟩, ⟨by omega, by omega⟩⟩ h
            · simp [c1, c2, c3, c4, c5]
          · simp [c1, c2, c3, c4]
        · simp [c1, c2, c3]
      · simp [c1, c2]
    · simp [c1]
def by2 (x : Int) : List Int := [x / 256 % 256, x % 256]
def by4 (x : Int) : List Int := [x / 16777216 % 256, x / 65536 % 256, x / 256 % 256, x % 256]
def optsOf (m : Int) : List Int := if 0 < m then [2, 4, m / 256 % 256, m % 256] else []
def headOf (s : TSeg) (c : List Int) : List Int := by2 s.Src ++ (by2 s.Dst ++ (by4 s.Seq ++ (by4 s.Ack ++ ([(20 + (optsOf s.Mss).length : Int) / 4 * 16 % 256] ++ ([s.Flags % 256] ++ (by2 s.Win ++ (c ++ (optsOf s.Mss ++ s.Data))))))))
def pseudoOf (a b n : Int) : List Int := by4 a ++ (by4 b ++ ([0, 6] ++ by2 n))
theorem opts_len (m : Int) : (optsOf m).length = 0 ∨ (optsOf m).length = 4 := by unfold optsOf; split <;> simp
theorem put_1 (x : Int) : seg_Put_1.f x 1 = some [x % 256] := by unfold seg_Put_1.f; rw [put1]; rfl
theorem put_2 (x : Int) : seg_Put_1.f x 2 = some (by2 x) := by unfold seg_Put_1.f; rw [put2]; rfl
theorem put_4 (x : Int) : seg_Put_1.f x 4 = some (by4 x) := by unfold seg_Put_1.f; rw [put4]; rfl
theorem pseudo_is (a b n : Int) (hn : 0 ≤ n ∧ n < 18446744073709551616) : sum_Pseudo.f a b 6 n = some (pseudoOf a b n) := by
  unfold sum_Pseudo.f
  rw [put4, Option.bind_some, put4, Option.bind_some, u64w hn.1 hn.2, put2, Option.bind_some, concat_is _ (by simp) (by simp)]
  simp [pseudoOf, by2, by4, u8w]
theorem covered_is (b : List Int) (x y : Int) (hb : b.length ≤ 68719476000) : seg_covered.f b x y = some (pseudoOf x y b.length ++ b) := by
  unfold seg_covered.f
  rw [pseudo_is _ _ _ ⟨by omega, by omega⟩, Option.bind_some, app, if_pos (by simp [pseudoOf, by2, by4]; omega)]; rfl
theorem byt2 (x : Int) : Byt (by2 x) := fun b hb => by simp [by2] at hb; omega
theorem byt4 (x : Int) : Byt (by4 x) := fun b hb => by simp [by4] at hb; omega
theorem byt_ps (a b n : Int) : Byt (pseudoOf a b n) := ((byt4 a).app ((byt4 b).app (Byt.app (fun x hx => by simp at hx; omega) (byt2 n))))
theorem byt_opts (m : Int) : Byt (optsOf m) := fun b hb => by unfold optsOf at hb; split at hb <;> simp at hb <;> omega
theorem byt_head {s : TSeg} {c : List Int} (hd : Byt s.Data) (hc : Byt c) : Byt (headOf s c) :=
  (byt2 _).app ((byt2 _).app ((byt4 _).app ((byt4 _).app (Byt.app (fun x hx => by simp at hx; omega) (Byt.app (fun x hx => by simp at hx; omega) ((byt2 _).app (hc.app ((byt_opts _).app hd))))))))
theorem head_len (s : TSeg) (c : List Int) (hc : c.length = 4) : (headOf s c).length = 20 + (optsOf s.Mss).length + s.Data.length := by
  simp [headOf, by2, by4, hc]; omega
/-- The checksum that is put. -/
def ckOf (s : TSeg) (a b : Int) : Int := 65535 - fold (sumP (pseudoOf a b ((headOf s [0, 0, 0, 0]).length) ++ headOf s [0, 0, 0, 0]))
theorem put_is (s : TSeg) (a b : Int) (h : hdOk s) (hm : 0 ≤ s.Mss ∧ s.Mss < 65536) (hl : s.Data.length ≤ 60000) (hd : Byt s.Data) : seg_Put.f s a b = some (headOf s (by2 (ckOf s a b) ++ [0, 0]), 0) := by
  have e16 : ishr .i64 s.Mss 16 = 0 := by unfold ishr; rw [show (2 : Int) ^ min (16 : Int).toNat IntKind.i64.bits = 65536 by decide]; omega
  have hol := opts_len s.Mss
  unfold seg_Put.f
  rw [same_is]
  simp only [h, decide_true, Option.bind_some, Bool.not_true, Bool.false_eq_true, if_false, e16]
  rw [if_neg (by simp; omega)]
  have eo : (if decide (0 < s.Mss) = true then (seg_Put_1.f (IntKind.u64.wrap s.Mss) 2).bind fun r2 => (app ([2, 4] : List Int) r2).bind fun x1 => some (x1) else some ([])) = some (optsOf s.Mss) := by
    unfold optsOf
    by_cases c : 0 < s.Mss
    · rw [if_pos (by simpa using c), if_pos c, u64w (by omega) (by omega), put_2]; rfl
    · rw [if_neg (by simpa using c), if_neg c]
  rw [eo, Option.bind_some]
  have ey : ishl .u64 (IntKind.u64.wrap (Int.tdiv (IntKind.u64.wrap (IntKind.i64.wrap (20 + ((optsOf s.Mss).length : Int)))) 4)) 4 = (20 + (optsOf s.Mss).length : Int) / 4 * 16 := by
    rcases hol with e | e <;> rw [e] <;> decide
  obtain ⟨h1, h2, h3, h4⟩ := h
  have w1 : IntKind.u16.wrap s.Src = s.Src := by rw [u16w]; omega
  have w2 : IntKind.u16.wrap s.Dst = s.Dst := by rw [u16w]; omega
  have w3 : IntKind.u8.wrap s.Flags = s.Flags := by rw [u8w]; omega
  have w4 : IntKind.u16.wrap s.Win = s.Win := by rw [u16w]; omega
  simp only [seg_of.f, Option.bind_some, lt, put_2, put_4, put_1, ey, w1, w2, w3, w4]
  have hz : by4 0 = [0, 0, 0, 0] := by decide
  have hlen := head_len s [0, 0, 0, 0] rfl
  have hcat : ([by2 s.Src, by2 s.Dst, by4 s.Seq, by4 s.Ack, [(20 + ((optsOf s.Mss).length : Int)) / 4 * 16 % 256], [s.Flags % 256], by2 s.Win, by4 0, optsOf s.Mss, s.Data] : List (List Int)).flatten = headOf s [0, 0, 0, 0] := by
    rw [hz]; simp [headOf]
  rw [concat_is _ (by rw [hcat]; omega) (by simp), hcat, Option.bind_some, if_pos ⟨by omega, by omega, by omega⟩, covered_is _ _ _ (by omega), Option.bind_some]
  have hby : Byt (headOf s [0, 0, 0, 0]) := byt_head hd fun x hx => by simp at hx; omega
  have hby2 := (byt_ps a b ((headOf s [0, 0, 0, 0]).length)).app hby
  rw [sum_is hby2 (by rw [List.length_append]; simp [pseudoOf, by2, by4]; omega), Option.bind_some]
  have hck : (65535 - fold (sumP (pseudoOf a b ((headOf s [0, 0, 0, 0]).length) ++ headOf s [0, 0, 0, 0]))) = ckOf s a b := rfl
  rw [hck]
  have hf := fold_bd (sumP_bd _ hby2).1
  have hcb : 0 ≤ ckOf s a b ∧ ckOf s a b ≤ 65535 := by unfold ckOf; omega
  congr 2
  have : ((headOf s [0, 0, 0, 0]).length : Int).toNat - (16 : Int).toNat = (headOf s [0, 0, 0, 0]).length - 16 := by omega
  unfold ovr
  have huw : IntKind.u64.wrap (ckOf s a b) = ckOf s a b := u64w (by omega) (by omega)
  rw [this, List.take_of_length_le (by simp [by2]; omega), huw]
  simp [headOf, by2, by4, Go.splice]
/-- The checksum makes it right. -/
theorem ps_len (a b n : Int) : (pseudoOf a b n).length = 12 := rfl
theorem sumP_cat (a b : List Int) (h : a.length % 2 = 0) : sumP (a ++ b) = sumP a + sumP b := sumP_append a b h
theorem sum_head (s : TSeg) (x : Int) (p : List Int) (hp : p.length % 2 = 0) : sumP (p ++ headOf s (by2 x ++ [0, 0])) = sumP (p ++ headOf s [0, 0, 0, 0]) + (x / 256 % 256 * 256 + x % 256) := by
  rw [sumP_cat _ _ hp, sumP_cat _ _ hp]
  simp only [headOf, by2, by4, List.cons_append, List.nil_append, sumP]
  omega
theorem right_put (s : TSeg) (a b : Int) (hd : Byt s.Data) (hl : s.Data.length ≤ 60000) : fold (sumP (pseudoOf a b ((headOf s (by2 (ckOf s a b) ++ [0, 0])).length) ++ headOf s (by2 (ckOf s a b) ++ [0, 0]))) = 65535 := by
  have e : (headOf s (by2 (ckOf s a b) ++ [0, 0])).length = (headOf s [0, 0, 0, 0]).length := by rw [head_len _ _ rfl, head_len _ _ rfl]
  rw [e, sum_head _ _ _ (by rw [ps_len])]
  have hby : Byt (headOf s [0, 0, 0, 0]) := byt_head hd fun x hx => by simp at hx; omega
  have hby2 := (byt_ps a b ((headOf s [0, 0, 0, 0]).length)).app hby
  have hp := (sumP_bd _ hby2).1
  have hf := fold_bd hp
  unfold ckOf
  generalize hS : sumP (pseudoOf a b ((headOf s [0, 0, 0, 0]).length) ++ headOf s [0, 0, 0, 0]) = S at *
  have : (65535 - fold S) / 256 % 256 * 256 + (65535 - fold S) % 256 = 65535 - fold S := by omega
  rw [this]
  unfold fold at *
  split at * <;> split <;> omega
/-! ### Read -/
theorem cut_at (p m r : List Int) (lo hi : Int) (h1 : lo = p.length) (h2 : hi = p.length + m.length) : cut (p ++ (m ++ r)) lo hi = some m := by
  subst h1; subst h2
  unfold cut
  rw [if_pos ⟨by omega, by omega, by simp; omega⟩]
  congr 1
  rw [show ((p.length : Int) + m.length).toNat = p.length + m.length by omega, show ((p.length : Int)).toNat = p.length by omega, ← List.append_assoc, List.take_append_of_le_length (by simp), List.take_of_length_le (by simp), List.drop_left]
theorem cut_end (p m : List Int) (lo hi : Int) (h1 : lo = p.length) (h2 : hi = p.length + m.length) : cut (p ++ m) lo hi = some m := by
  have := cut_at p m [] lo hi h1 h2
  rwa [List.append_nil] at this
theorem mss_nil : seg_mss.f [] = some (0, true) := seg_mss.le 20 _ _ (by kernel_rfl)
theorem mss_g (x y : Int) : seg_mss.g 20 [2, 4, x, y] = some (IntKind.i64.wrap (bits .or .u64 (bits .or .u64 0 (IntKind.u64.wrap (y * 1))) (IntKind.u64.wrap (x * 256))), true) := by kernel_rfl
theorem mss_is (m : Int) (h : 0 ≤ m ∧ m < 65536) : seg_mss.f (optsOf m) = some (m, true) := by
  unfold optsOf
  split
  · have e := seg_mss.le 20 _ _ (mss_g (m / 256 % 256) (m % 256))
    rw [e, u64w (by omega) (by omega), u64w (by omega) (by omega)]
    rw [or_add (x := 0) (n := 0) (by omega) (by decide) (by omega) (by omega) (by omega), or_add (x := 0 + m % 256 * 1) (n := 8) (by omega) (by omega) (by omega) (by omega) (by omega), i64w (by omega) (by omega)]
    congr 2; omega
  · rw [mss_nil]; congr 2; omega
theorem get_2 (p : List Int) (x : Int) (r : List Int) (at_ : Int) (h : at_ = p.length) (hp : p.length ≤ 1000) (hx : 0 ≤ x ∧ x < 65536) : seg_Get_1.f at_ 2 (p ++ (by2 x ++ r)) = some x := by
  unfold seg_Get_1.f
  rw [i64w (by omega) (by omega), cut_at p (by2 x) r _ _ h (by simp [by2]; omega), Option.bind_some, by2, get2 ⟨by omega, by omega⟩ ⟨by omega, by omega⟩, Option.bind_some]
  congr 1; omega
theorem get_4 (p : List Int) (x : Int) (r : List Int) (at_ : Int) (h : at_ = p.length) (hp : p.length ≤ 1000) (hx : 0 ≤ x ∧ x < 4294967296) : seg_Get_1.f at_ 4 (p ++ (by4 x ++ r)) = some x := by
  unfold seg_Get_1.f
  rw [i64w (by omega) (by omega), cut_at p (by4 x) r _ _ h (by simp [by4]; omega), Option.bind_some, by4, get4 ⟨by omega, by omega⟩ ⟨by omega, by omega⟩ ⟨by omega, by omega⟩ ⟨by omega, by omega⟩, Option.bind_some]
  congr 1; omega
/-- What a head says, read; the checksum's word told beforehand. -/
theorem get_is (s : TSeg) (a b : Int) (c : List Int) (hc : c.length = 4) (hcb : Byt c) (h : hdOk s) (hm : 0 ≤ s.Mss ∧ s.Mss < 65536) (hq : 0 ≤ s.Seq ∧ s.Seq < 4294967296) (ha : 0 ≤ s.Ack ∧ s.Ack < 4294967296) (hl : s.Data.length ≤ 60000) (hd : Byt s.Data) :
    seg_Get.f (headOf s c) a b = some (if fold (sumP (pseudoOf a b (headOf s c).length ++ headOf s c)) = 65535 then (s, 0) else (⟨0, 0, 0, 0, 0, 0, 0, []⟩, 162)) := by
  have hol := opts_len s.Mss
  have hlen := head_len s c hc
  have hby := byt_head (s := s) hd hcb
  have hx : idx (headOf s c) 12 = some ((20 + (optsOf s.Mss).length : Int) / 4 * 16 % 256) := rfl
  have hx13 : idx (headOf s c) 13 = some (s.Flags % 256) := rfl
  obtain ⟨h1, h2, h3, h4⟩ := h
  have ey : IntKind.i64.wrap (ishr .u8 ((20 + (optsOf s.Mss).length : Int) / 4 * 16 % 256) 4 * 4) = 20 + ((optsOf s.Mss).length : Int) := by
    rcases hol with e | e <;> rw [e] <;> decide
  unfold seg_Get.f
  rw [if_neg (by simp; omega), hx, Option.bind_some]
  simp only [lt, ey]
  rw [if_neg (by simp; omega), Option.bind_some, if_neg (by simp; omega), if_neg (by simp; omega), covered_is _ _ _ (by omega), Option.bind_some,
    right_is ((byt_ps a b _).app hby) (by rw [List.length_append, ps_len]; omega), Option.bind_some]
  by_cases hr : fold (sumP (pseudoOf a b ((headOf s c).length) ++ headOf s c)) = 65535
  · rw [if_neg (by simp [hr]), if_pos hr]
    have c1 : cut (headOf s c) 20 (20 + ((optsOf s.Mss).length : Int)) = some (optsOf s.Mss) := by
      have : headOf s c = (by2 s.Src ++ (by2 s.Dst ++ (by4 s.Seq ++ (by4 s.Ack ++ ([(20 + (optsOf s.Mss).length : Int) / 4 * 16 % 256] ++ ([s.Flags % 256] ++ (by2 s.Win ++ c))))))) ++ (optsOf s.Mss ++ s.Data) := by simp [headOf]
      rw [this]; exact cut_at _ _ _ _ _ (by simp [by2, by4, hc]) (by simp [by2, by4, hc])
    have c2 : cut (headOf s c) (20 + ((optsOf s.Mss).length : Int)) ((headOf s c).length : Int) = some s.Data := by
      have : headOf s c = (by2 s.Src ++ (by2 s.Dst ++ (by4 s.Seq ++ (by4 s.Ack ++ ([(20 + (optsOf s.Mss).length : Int) / 4 * 16 % 256] ++ ([s.Flags % 256] ++ (by2 s.Win ++ (c ++ optsOf s.Mss)))))))) ++ s.Data := by simp [headOf]
      rw [hlen, this]; exact cut_end _ _ _ _ (by simp [by2, by4, hc]; omega) (by simp [by2, by4, hc]; omega)
    have g0 : seg_Get_1.f 0 2 (headOf s c) = some s.Src := get_2 [] s.Src _ 0 rfl (by simp) h1
    have g2 : seg_Get_1.f 2 2 (headOf s c) = some s.Dst := get_2 (by2 s.Src) s.Dst _ 2 rfl (by simp [by2]) h2
    have g4 : seg_Get_1.f 4 4 (headOf s c) = some s.Seq := get_4 (by2 s.Src ++ by2 s.Dst) s.Seq _ 4 rfl (by simp [by2]) hq
    have g8 : seg_Get_1.f 8 4 (headOf s c) = some s.Ack := get_4 (by2 s.Src ++ (by2 s.Dst ++ by4 s.Seq)) s.Ack _ 8 rfl (by simp [by2, by4]) ha
    have g14 : seg_Get_1.f 14 2 (headOf s c) = some s.Win := get_2 (by2 s.Src ++ (by2 s.Dst ++ (by4 s.Seq ++ (by4 s.Ack ++ ([(20 + (optsOf s.Mss).length : Int) / 4 * 16 % 256] ++ [s.Flags % 256]))))) s.Win _ 14 rfl (by simp [by2, by4]) h4
    have hf : bits .and .u8 (s.Flags % 256) 63 = s.Flags := by
      have : ∀ k : Fin 64, bits .and .u8 ((k.val : Int) % 256) 63 = k.val := by decide
      have := this ⟨s.Flags.toNat, by omega⟩
      simpa [Int.toNat_of_nonneg h3.1] using this
    rw [c1, Option.bind_some, mss_is _ hm, Option.bind_some, if_neg (by simp), g0, Option.bind_some, g2, Option.bind_some, g4, Option.bind_some, g8, Option.bind_some, hx13, Option.bind_some, g14, Option.bind_some, c2]
    simp only [seg_head_seg.f, Option.bind_some, slices_Clone_s_byte_byte.f, hf]
    rw [app, if_pos (by simp; omega)]
    simp only [Option.bind_some, List.nil_append, u16w, u32w']
    rw [show s.Src % 65536 = s.Src by omega, show s.Dst % 65536 = s.Dst by omega, show s.Seq % 4294967296 = s.Seq by omega, show s.Ack % 4294967296 = s.Ack by omega, show s.Win % 65536 = s.Win by omega]
  · rw [if_pos (by simp [hr]), if_neg hr]
end Go.Proofs.Ythjaancddmecpaa.S
