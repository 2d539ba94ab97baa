/- Plain facts on frames and on messages about addresses; each states its own conditions. -/
import Derived.Test.YtplkiompmjhdlaaPureNetB
namespace Go.Proofs.Ytplkiompmjhdlaa.S
open Go Go.SL
set_option linter.unusedVariables false
set_option linter.unusedSimpArgs false
theorem heads_g : law16_heads.g 100 = some true := by kernel_rfl
theorem heads : law16_heads.f = some true := law16_heads.le 100 _ heads_g
def gFrm (f : TFrm) : Prop := (f.Dst.length ≤ maxLen ∧ ∀ z ∈ f.Dst, InR .u8 z) ∧ (f.Src.length ≤ maxLen ∧ ∀ z ∈ f.Src, InR .u8 z) ∧ InR .i64 f.Type_ ∧ (f.Data.length ≤ maxLen ∧ ∀ z ∈ f.Data, InR .u8 z)
def gArp (a : TArp) : Prop := InR .i64 a.Op ∧ (a.Smac.length ≤ maxLen ∧ ∀ z ∈ a.Smac, InR .u8 z) ∧ InR .u32 a.Sip ∧ (a.Tmac.length ≤ maxLen ∧ ∀ z ∈ a.Tmac, InR .u8 z) ∧ InR .u32 a.Tip
theorem clone_is (l : List Int) (h : l.length ≤ 140737488355328) : slices_Clone_s_byte_byte.f l = some l := by
  unfold slices_Clone_s_byte_byte.f
  rw [app1_ok _ _ (by simp; omega)]; rfl
theorem take_is (l : List Int) (n : Int) (h0 : 0 ≤ n) (h1 : n ≤ l.length) (hl : l.length ≤ 1000000) : ether_taker_take.f ⟨l⟩ n = some (l.take n.toNat, ⟨l.drop n.toNat⟩) := by
  unfold ether_taker_take.f
  simp only []
  rw [cut_take _ _ h0 h1, Option.bind_some, cut_to_end _ _ h0 h1, Option.bind_some, clone_is _ (by rw [List.length_take]; omega)]; rfl
theorem num2_is (l : List Int) (p q : Int) (t : List Int) (h : l = p :: q :: t) (hp : 0 ≤ p ∧ p < 256) (hq : 0 ≤ q ∧ q < 256) (hl : l.length ≤ 1000000) : ether_taker_num.f ⟨l⟩ 2 = some (p * 256 + q, ⟨t⟩) := by
  subst h
  unfold ether_taker_num.f
  rw [take_is _ 2 (by omega) (by simp; omega) hl, Option.bind_some]
  show ((bits_Get.f [p, q] true).bind _) = _
  rw [get2 hp hq]; rfl
theorem num4_is (l : List Int) (p q r s : Int) (t : List Int) (h : l = p :: q :: r :: s :: t) (hp : 0 ≤ p ∧ p < 256) (hq : 0 ≤ q ∧ q < 256) (hr : 0 ≤ r ∧ r < 256) (hs : 0 ≤ s ∧ s < 256) (hl : l.length ≤ 1000000) : ether_taker_num.f ⟨l⟩ 4 = some (p * 16777216 + q * 65536 + r * 256 + s, ⟨t⟩) := by
  subst h
  unfold ether_taker_num.f
  rw [take_is _ 4 (by omega) (by simp; omega) hl, Option.bind_some]
  show ((bits_Get.f [p, q, r, s] true).bind _) = _
  rw [get4 hp hq hr hs]; rfl
theorem errno_n : ether_errno.f none = some 0 := ether_errno.le 10 _ _ (by kernel_rfl)
theorem errno_short (n : Int) : ether_errno.f (some ⟨n, 160⟩) = some 160 := ether_errno.le 10 _ _ (by kernel_rfl)
theorem errno_form (n : Int) : ether_errno.f (some ⟨n, 161⟩) = some 161 := ether_errno.le 10 _ _ (by kernel_rfl)
/-! ### Frames -/
def fOk (f : TFrm) : Prop := f.Dst.length = 6 ∧ f.Src.length = 6 ∧ (0 ≤ f.Type_ ∧ f.Type_ < 65536) ∧ f.Data.length ≤ 1500
instance (f : TFrm) : Decidable (fOk f) := inferInstanceAs (Decidable (_ ∧ _))
def frB (f : TFrm) : List Int := f.Dst ++ (f.Src ++ (by2 f.Type_ ++ f.Data))
theorem shr16 (x : Int) : ishr .i64 x 16 = x / 65536 := by unfold ishr; rw [show (2 : Int) ^ min (16 : Int).toNat IntKind.i64.bits = 65536 by decide]
theorem put_no (f : TFrm) (h : ¬ fOk f) : ether_Put.f f = some ([], 2) := by
  unfold ether_Put.f
  rw [shr16]
  by_cases c1 : (f.Dst.length : Int) = 6
  · by_cases c2 : (f.Src.length : Int) = 6
    · by_cases c3 : f.Type_ / 65536 = 0
      · have c4 : (1500 : Int) < f.Data.length := by
          rcases Int.lt_or_le (1500 : Int) f.Data.length with q | q
          · exact q
          · exact absurd ⟨by omega, by omega, ⟨by omega, by omega⟩, by omega⟩ h
        simp [c1, c2, c3, c4]
      · simp [c1, c2, c3]
    · simp [c1, c2]
  · simp [c1]
theorem rput_no (f : TFrm) (h : ¬ fOk f) : ref16_Put.f f = some ([], 2) := by
  unfold ref16_Put.f
  by_cases c1 : (f.Dst.length : Int) = 6
  · by_cases c2 : (f.Src.length : Int) = 6
    · by_cases c3 : f.Type_ < 0
      · simp [c1, c2, c3]
      · by_cases c5 : 65535 < f.Type_
        · simp [c1, c2, c3, c5]
        · have c4 : (1500 : Int) < f.Data.length := by
            rcases Int.lt_or_le (1500 : Int) f.Data.length with q | q
            · exact q
            · exact absurd ⟨by omega, by omega, ⟨by omega, by omega⟩, by omega⟩ h
          simp [c1, c2, c3, c4, c5]
    · simp [c1, c2]
  · simp [c1]
theorem put_is (f : TFrm) (h : fOk f) : ether_Put.f f = some (frB f, 0) := by
  obtain ⟨h1, h2, h3, h4⟩ := h
  unfold ether_Put.f
  rw [shr16]
  have c1 : (f.Dst.length : Int) = 6 := by omega
  have c2 : (f.Src.length : Int) = 6 := by omega
  have c3 : f.Type_ / 65536 = 0 := by omega
  have c4 : ¬ (1500 : Int) < f.Data.length := by omega
  simp only [c1, c2, c3, c4, decide_true, decide_false, Bool.not_true, Bool.false_eq_true, if_false, Option.bind_some]
  rw [u64w h3.1 (by omega), put2, Option.bind_some, concat_is _ (by simp [h1, h2]; omega) (by simp)]
  simp [frB, by2]
theorem rput_is (f : TFrm) (h : fOk f) : ref16_Put.f f = some (frB f, 0) := by
  obtain ⟨h1, h2, h3, h4⟩ := h
  unfold ref16_Put.f ref16_own.f ref16_number.f
  have c1 : (f.Dst.length : Int) = 6 := by omega
  have c2 : (f.Src.length : Int) = 6 := by omega
  have c3 : ¬ f.Type_ < 0 := by omega
  have c5 : ¬ 65535 < f.Type_ := by omega
  have c4 : ¬ (1500 : Int) < f.Data.length := by omega
  simp only [c1, c2, c3, c4, c5, decide_true, decide_false, Bool.not_true, Bool.false_eq_true, if_false, Option.bind_some]
  rw [app1_ok _ _ (by simp; omega), Option.bind_some, Option.bind_some, List.nil_append, app_ok _ _ (by omega), Option.bind_some, u64w h3.1 (by omega), rput2, Option.bind_some, Option.bind_some, app_ok _ _ (by simp; omega), Option.bind_some, app_ok _ _ (by simp; omega), Option.bind_some]
  simp [frB, by2]
/-- What is read as a frame. -/
def frOf (b : List Int) (p q : Int) : TFrm := ⟨b.take 6, (b.drop 6).take 6, p * 256 + q, b.drop 14⟩
theorem beside_is (b : List Int) (lo hi : Int) : ether_beside.f b lo hi = some (if (b.length : Int) < lo then some ⟨b.length, 160⟩ else if hi < (b.length : Int) then some ⟨b.length, 161⟩ else none) := by
  unfold ether_beside.f
  simp only [lt]
  by_cases c1 : (b.length : Int) < lo
  · simp [c1]
  · by_cases c2 : hi < (b.length : Int) <;> simp [c1, c2]
theorem drop2 (b : List Int) (hb : Byt b) (n : Nat) (h : n + 2 ≤ b.length) : ∃ p q, b.drop n = p :: q :: b.drop (n + 2) ∧ (0 ≤ p ∧ p < 256) ∧ (0 ≤ q ∧ q < 256) := by
  have h1 : n < b.length := by omega
  have h2 : n + 1 < b.length := by omega
  exact ⟨b[n], b[n + 1], by rw [List.drop_eq_getElem_cons h1, List.drop_eq_getElem_cons h2], hb _ (List.getElem_mem _), hb _ (List.getElem_mem _)⟩
theorem drop4 (b : List Int) (hb : Byt b) (n : Nat) (h : n + 4 ≤ b.length) : ∃ p q r s, b.drop n = p :: q :: r :: s :: b.drop (n + 4) ∧ (0 ≤ p ∧ p < 256) ∧ (0 ≤ q ∧ q < 256) ∧ (0 ≤ r ∧ r < 256) ∧ (0 ≤ s ∧ s < 256) := by
  obtain ⟨p, q, h1, hp, hq⟩ := drop2 b hb n (by omega)
  obtain ⟨r, s, h2, hr, hs⟩ := drop2 b hb (n + 2) (by omega)
  exact ⟨p, q, r, s, by rw [h1, h2], hp, hq, hr, hs⟩
theorem get_is (b : List Int) (hb : Byt b) (h1 : 14 ≤ b.length) (h2 : b.length ≤ 1514) : ∃ p q, b.drop 12 = p :: q :: b.drop 14 ∧ (0 ≤ p ∧ p < 256) ∧ (0 ≤ q ∧ q < 256) ∧ ether_Get.f b = some (frOf b p q, 0) ∧ ref16_Get.f b = some (frOf b p q, 0) := by
  obtain ⟨p, q, hd, hp, hq⟩ := drop2 b hb 12 (by omega)
  refine ⟨p, q, hd, hp, hq, ?_, ?_⟩
  · unfold ether_Get.f
    rw [beside_is, if_neg (by omega), if_neg (by omega), Option.bind_some, if_neg (by simp), take_is _ 6 (by omega) (by omega) (by omega), Option.bind_some]
    have e6 : (6 : Int).toNat = 6 := rfl
    simp only [e6]
    rw [take_is _ 6 (by omega) (by simp; omega) (by simp; omega), Option.bind_some]
    simp only [e6, List.drop_drop]
    rw [num2_is _ p q _ hd hp hq (by simp; omega), Option.bind_some]
    simp only []
    rw [take_is _ _ (by omega) (by omega) (by simp; omega), Option.bind_some]
    rw [i64w (by omega) (by omega), show ((List.drop (12 + 2) b).length : Int).toNat = (List.drop (12 + 2) b).length by omega, List.take_length]
    rfl
  · unfold ref16_Get.f ref16_own.f
    have hc : cut b 12 14 = some [p, q] := by
      unfold cut
      rw [if_pos ⟨by omega, by omega, by omega⟩, show (14 : Int).toNat = 12 + 2 from rfl, show (12 : Int).toNat = 12 from rfl, List.drop_take, hd]
      simp
    have c1 : cut b 0 6 = some (b.take 6) := cut_take _ _ (by omega) (by omega)
    have c2 : cut b 6 12 = some ((b.drop 6).take 6) := by
      unfold cut
      rw [if_pos ⟨by omega, by omega, by omega⟩, show (12 : Int).toNat = 12 from rfl, show (6 : Int).toNat = 6 from rfl, List.drop_take]
    have c3 : cut b 14 (b.length : Int) = some (b.drop 14) := cut_to_end _ _ (by omega) (by omega)
    rw [if_neg (by simp; omega), if_neg (by simp; omega), c1, c2, hc, c3]
    simp only [Option.bind_some]
    rw [app1_ok _ _ (by simp; omega), app1_ok _ _ (by simp; omega), app1_ok _ _ (by simp; omega), rget2 hp hq]
    simp only [Option.bind_some, List.nil_append]
    rw [i64w (by omega) (by omega)]
    rfl
theorem get_bad (b : List Int) (h : ¬ (14 ≤ b.length ∧ b.length ≤ 1514)) : ether_Get.f b = some (⟨[], [], 0, []⟩, if b.length < 14 then 160 else 161) ∧ ref16_Get.f b = some (⟨[], [], 0, []⟩, if b.length < 14 then 160 else 161) := by
  by_cases c : b.length < 14
  · have c' : (b.length : Int) < 14 := by omega
    constructor
    · unfold ether_Get.f
      rw [beside_is, if_pos c', Option.bind_some, if_pos (by simp), errno_short, if_pos c]; rfl
    · unfold ref16_Get.f
      rw [if_pos (by simpa using c'), if_pos c]
  · have c' : ¬ (b.length : Int) < 14 := by omega
    have c2 : (1514 : Int) < b.length := by omega
    constructor
    · unfold ether_Get.f
      rw [beside_is, if_neg c', if_pos c2, Option.bind_some, if_pos (by simp), errno_form, if_neg c]; rfl
    · unfold ref16_Get.f
      rw [if_neg (by simpa using c'), if_pos (by simpa using c2), if_neg c]
theorem same_self (f : TFrm) : ref16_Same.f f f = some true := by simp [ref16_Same.f, lt]
theorem arps_self (a : TArp) : ref16_Arps.f a a = some true := by simp [ref16_Arps.f, lt]
end Go.Proofs.Ytplkiompmjhdlaa.S
