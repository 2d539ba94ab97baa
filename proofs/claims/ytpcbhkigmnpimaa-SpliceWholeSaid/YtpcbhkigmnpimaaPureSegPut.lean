/- Plain facts on segments written; each states its own conditions. -/
import Derived.Test.YtpcbhkigmnpimaaPureSum
import Derived.Test.YtpcbhkigmnpimaaPureLoop
namespace Go.Proofs.Ytpcbhkigmnpimaa.S
open Go Go.SL
set_option linter.unusedVariables false
set_option linter.unusedSimpArgs false
theorem u16w (x : Int) : IntKind.u16.wrap x = x % 65536 := by simp [IntKind.wrap, IntKind.bits, IntKind.signed]
theorem u32w' (x : Int) : IntKind.u32.wrap x = x % 4294967296 := by simp [IntKind.wrap, IntKind.bits, IntKind.signed]
def gSeg (s : TSeg) : Prop := InR .i64 s.Src ∧ InR .i64 s.Dst ∧ InR .u32 s.Seq ∧ InR .u32 s.Ack ∧ InR .i64 s.Flags ∧ InR .i64 s.Win ∧ InR .i64 s.Mss ∧ (s.Data.length ≤ maxLen ∧ ∀ z ∈ s.Data, InR .u8 z)
theorem inr64 {x : Int} (h : InR .i64 x) : -9223372036854775808 ≤ x ∧ x < 9223372036854775808 := by
  unfold InR at h
  simp only [IntKind.wrap, IntKind.bits, IntKind.signed] at h
  simp at h
  omega
theorem inrU32 {x : Int} (h : InR .u32 x) : 0 ≤ x ∧ x < 4294967296 := by unfold InR at h; rw [u32w'] at h; omega
def hdOk (s : TSeg) : Prop := (0 ≤ s.Src ∧ s.Src < 65536) ∧ (0 ≤ s.Dst ∧ s.Dst < 65536) ∧ (0 ≤ s.Flags ∧ s.Flags ≤ 63) ∧ (0 ≤ s.Win ∧ s.Win < 65536)
instance (s : TSeg) : Decidable (hdOk s) := inferInstanceAs (Decidable (_ ∧ _))
theorem same_is (s : TSeg) : seg_same.f s = some (decide (hdOk s)) := by
  unfold seg_same.f seg_of.f seg_head_seg.f
  simp only [Option.bind_some, lt, u16w, u8w]
  by_cases h : hdOk s
  · obtain ⟨h1, h2, h3, h4⟩ := id h
    have e1 : s.Src % 65536 = s.Src := by omega
    have e2 : s.Dst % 65536 = s.Dst := by omega
    have e3 : s.Flags % 256 = s.Flags := by omega
    have e4 : s.Win % 65536 = s.Win := by omega
    simp [e1, e2, e3, e4, h, h3.2]
  · simp only [h, decide_false]
    by_cases c1 : s.Flags ≤ 63
    · by_cases c2 : s.Src % 65536 = s.Src
      · by_cases c3 : s.Dst % 65536 = s.Dst
        · by_cases c4 : s.Flags % 256 = s.Flags
          · by_cases c5 : s.Win % 65536 = s.Win
            · exact absurd ⟨⟨by omega, by omega⟩, ⟨by omega, by omega⟩, ⟨by omega, c1⟩, ⟨by omega, by omega⟩⟩ h
            · simp [c1, c2, c3, c4, c5]
          · simp [c1, c2, c3, c4]
        · simp [c1, c2, c3]
      · simp [c1, c2]
    · simp [c1]
def by2 (x : Int) : List Int := [x / 256 % 256, x % 256]
def by4 (x : Int) : List Int := [x / 16777216 % 256, x / 65536 % 256, x / 256 % 256, x % 256]
def optsOf (m : Int) : List Int := if 0 < m then [2, 4, m / 256 % 256, m % 256] else []
def headOf (s : TSeg) (c : List Int) : List Int := by2 s.Src ++ (by2 s.Dst ++ (by4 s.Seq ++ (by4 s.Ack ++ ([(20 + (optsOf s.Mss).length : Int) / 4 * 16 % 256] ++ ([s.Flags % 256] ++ (by2 s.Win ++ (c ++ (optsOf s.Mss ++ s.Data))))))))
def pseudoOf (a b n : Int) : List Int := by4 a ++ (by4 b ++ ([0, 6] ++ by2 n))
theorem opts_len (m : Int) : (optsOf m).length = 0 ∨ (optsOf m).length = 4 := by unfold optsOf; split <;> simp
theorem put_1 (x : Int) : seg_Put_1.f x 1 = some [x % 256] := by unfold seg_Put_1.f; rw [put1]; rfl
theorem put_2 (x : Int) : seg_Put_1.f x 2 = some (by2 x) := by unfold seg_Put_1.f; rw [put2]; rfl
theorem put_4 (x : Int) : seg_Put_1.f x 4 = some (by4 x) := by unfold seg_Put_1.f; rw [put4]; rfl
theorem pseudo_is (a b n : Int) (hn : 0 ≤ n ∧ n < 18446744073709551616) : sum_Pseudo.f a b 6 n = some (pseudoOf a b n) := by
  unfold sum_Pseudo.f
  rw [put4, Option.bind_some, put4, Option.bind_some, u64w hn.1 hn.2, put2, Option.bind_some, concat_is _ (by simp) (by simp)]
  simp [pseudoOf, by2, by4, u8w]
theorem covered_is (b : List Int) (x y : Int) (hb : b.length ≤ 68719476000) : seg_covered.f b x y = some (pseudoOf x y b.length ++ b) := by
  unfold seg_covered.f
  rw [pseudo_is _ _ _ ⟨by omega, by omega⟩, Option.bind_some, app, if_pos (by simp [pseudoOf, by2, by4]; omega)]; rfl
theorem byt2 (x : Int) : Byt (by2 x) := fun b hb => by simp [by2] at hb; omega
theorem byt4 (x : Int) : Byt (by4 x) := fun b hb => by simp [by4] at hb; omega
theorem byt_ps (a b n : Int) : Byt (pseudoOf a b n) := ((byt4 a).app ((byt4 b).app (Byt.app (fun x hx => by simp at hx; omega) (byt2 n))))
theorem byt_opts (m : Int) : Byt (optsOf m) := fun b hb => by unfold optsOf at hb; split at hb <;> simp at hb <;> omega
theorem byt_head {s : TSeg} {c : List Int} (hd : Byt s.Data) (hc : Byt c) : Byt (headOf s c) :=
  (byt2 _).app ((byt2 _).app ((byt4 _).app ((byt4 _).app (Byt.app (fun x hx => by simp at hx; omega) (Byt.app (fun x hx => by simp at hx; omega) ((byt2 _).app (hc.app ((byt_opts _).app hd))))))))
theorem head_len (s : TSeg) (c : List Int) (hc : c.length = 4) : (headOf s c).length = 20 + (optsOf s.Mss).length + s.Data.length := by
  simp [headOf, by2, by4, hc]; omega
/-- The checksum that is put. -/
def ckOf (s : TSeg) (a b : Int) : Int := 65535 - fold (sumP (pseudoOf a b ((headOf s [0, 0, 0, 0]).length) ++ headOf s [0, 0, 0, 0]))
theorem put_is (s : TSeg) (a b : Int) (h : hdOk s) (hm : 0 ≤ s.Mss ∧ s.Mss < 65536) (hl : s.Data.length ≤ 60000) (hd : Byt s.Data) : seg_Put.f s a b = some (headOf s (by2 (ckOf s a b) ++ [0, 0]), 0) := by
  have e16 : ishr .i64 s.Mss 16 = 0 := by unfold ishr; rw [show (2 : Int) ^ min (16 : Int).toNat IntKind.i64.bits = 65536 by decide]; omega
  have hol := opts_len s.Mss
  unfold seg_Put.f
  rw [same_is]
  simp only [h, decide_true, Option.bind_some, Bool.not_true, Bool.false_eq_true, if_false, e16]
  rw [if_neg (by simp; omega)]
  have eo : (if decide (0 < s.Mss) = true then (seg_Put_1.f (IntKind.u64.wrap s.Mss) 2).bind fun r2 => (app ([2, 4] : List Int) r2).bind fun x1 => some (x1) else some ([])) = some (optsOf s.Mss) := by
    unfold optsOf
    by_cases c : 0 < s.Mss
    · rw [if_pos (by simpa using c), if_pos c, u64w (by omega) (by omega), put_2]; rfl
    · rw [if_neg (by simpa using c), if_neg c]
  rw [eo, Option.bind_some]
  have ey : ishl .u64 (IntKind.u64.wrap (Int.tdiv (IntKind.u64.wrap (IntKind.i64.wrap (20 + ((optsOf s.Mss).length : Int)))) 4)) 4 = (20 + (optsOf s.Mss).length : Int) / 4 * 16 := by
    rcases hol with e | e <;> rw [e] <;> decide
  obtain ⟨h1, h2, h3, h4⟩ := h
  have w1 : IntKind.u16.wrap s.Src = s.Src := by rw [u16w]; omega
  have w2 : IntKind.u16.wrap s.Dst = s.Dst := by rw [u16w]; omega
  have w3 : IntKind.u8.wrap s.Flags = s.Flags := by rw [u8w]; omega
  have w4 : IntKind.u16.wrap s.Win = s.Win := by rw [u16w]; omega
  simp only [seg_of.f, Option.bind_some, lt, put_2, put_4, put_1, ey, w1, w2, w3, w4]
  have hz : by4 0 = [0, 0, 0, 0] := by decide
  have hlen := head_len s [0, 0, 0, 0] rfl
  have hcat : ([by2 s.Src, by2 s.Dst, by4 s.Seq, by4 s.Ack, [(20 + ((optsOf s.Mss).length : Int)) / 4 * 16 % 256], [s.Flags % 256], by2 s.Win, by4 0, optsOf s.Mss, s.Data] : List (List Int)).flatten = headOf s [0, 0, 0, 0] := by
    rw [hz]; simp [headOf]
  rw [concat_is _ (by rw [hcat]; omega) (by simp), hcat, Option.bind_some, if_pos ⟨by omega, by omega, by omega⟩, covered_is _ _ _ (by omega), Option.bind_some]
  have hby : Byt (headOf s [0, 0, 0, 0]) := byt_head hd fun x hx => by simp at hx; omega
  have hby2 := (byt_ps a b ((headOf s [0, 0, 0, 0]).length)).app hby
  rw [sum_is hby2 (by rw [List.length_append]; simp [pseudoOf, by2, by4]; omega), Option.bind_some]
  have hck : (65535 - fold (sumP (pseudoOf a b ((headOf s [0, 0, 0, 0]).length) ++ headOf s [0, 0, 0, 0]))) = ckOf s a b := rfl
  rw [hck]
  have hf := fold_bd (sumP_bd _ hby2).1
  have hcb : 0 ≤ ckOf s a b ∧ ckOf s a b ≤ 65535 := by unfold ckOf; omega
  congr 2
  have : ((headOf s [0, 0, 0, 0]).length : Int).toNat - (16 : Int).toNat = (headOf s [0, 0, 0, 0]).length - 16 := by omega
  unfold ovr
  have huw : IntKind.u64.wrap (ckOf s a b) = ckOf s a b := u64w (by omega) (by omega)
  rw [this, List.take_of_length_le (by simp [by2]; omega), huw]
  simp [headOf, by2, by4, Go.splice]
/-- The checksum makes it right. -/
theorem put_not (s : TSeg) (a b : Int) (h : ¬ (hdOk s ∧ (0 ≤ s.Mss ∧ s.Mss < 65536))) : seg_Put.f s a b = some ([], 2) := by
  unfold seg_Put.f
  rw [same_is, Option.bind_some]
  by_cases hh : hdOk s
  · have e16 : ishr .i64 s.Mss 16 = s.Mss / 65536 := by unfold ishr; rw [show (2 : Int) ^ min (16 : Int).toNat IntKind.i64.bits = 65536 by decide]
    rw [if_neg (by simp [hh]), if_pos (by rw [e16]; simp; intro e; exact h ⟨hh, by omega, by omega⟩), Option.bind_some, if_pos rfl]
  · rw [if_pos (by simp [hh]), Option.bind_some, if_pos rfl]
theorem put_no (s : TSeg) (a b : Int) (h : ¬ (hdOk s ∧ (0 ≤ s.Mss ∧ s.Mss < 65536) ∧ s.Data.length ≤ 60000)) : seg_Put.f s a b = some ([], 2) := by
  by_cases hh : hdOk s ∧ (0 ≤ s.Mss ∧ s.Mss < 65536)
  · have hl : ¬ s.Data.length ≤ 60000 := fun e => h ⟨hh.1, hh.2, e⟩
    have e16 : ishr .i64 s.Mss 16 = 0 := by unfold ishr; rw [show (2 : Int) ^ min (16 : Int).toNat IntKind.i64.bits = 65536 by decide]; omega
    unfold seg_Put.f
    rw [same_is]
    simp only [hh.1, decide_true, Option.bind_some, Bool.not_true, Bool.false_eq_true, if_false, e16]
    have d : decide ((60000 : Int) < s.Data.length) = true := by simp; omega
    simp only [d, Bool.not_true, Bool.false_eq_true, if_false, Option.bind_some, if_true]
  · exact put_not s a b hh
end Go.Proofs.Ytpcbhkigmnpimaa.S
