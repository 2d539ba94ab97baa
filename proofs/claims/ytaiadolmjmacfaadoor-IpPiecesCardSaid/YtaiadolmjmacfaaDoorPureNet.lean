/- Plain facts on bytes read and written; each states its own conditions. -/
import Derived.Test.YtaiadolmjmacfaaDoorPureRef
namespace Go.Proofs.YtaiadolmjmacfaaDoor.S
open Go Go.SL
set_option linter.unusedVariables false
set_option linter.unusedSimpArgs false
theorem app_ok (a b : List Int) (h : a.length + b.length ≤ 68719476736) : app a b = some (a ++ b) := by unfold app; rw [if_pos h]
theorem u16w (x : Int) : IntKind.u16.wrap x = x % 65536 := by simp [IntKind.wrap, IntKind.bits, IntKind.signed]
theorem u32w' (x : Int) : IntKind.u32.wrap x = x % 4294967296 := by simp [IntKind.wrap, IntKind.bits, IntKind.signed]
theorem inr64 {x : Int} (h : InR .i64 x) : -9223372036854775808 ≤ x ∧ x < 9223372036854775808 := by
  unfold InR at h
  simp only [IntKind.wrap, IntKind.bits, IntKind.signed] at h
  simp at h
  omega
theorem inrU32 {x : Int} (h : InR .u32 x) : 0 ≤ x ∧ x < 4294967296 := by unfold InR at h; rw [u32w'] at h; omega
def by2 (x : Int) : List Int := [x / 256 % 256, x % 256]
def by4 (x : Int) : List Int := [x / 16777216 % 256, x / 65536 % 256, x / 256 % 256, x % 256]
theorem byt2 (x : Int) : Byt (by2 x) := fun b hb => by simp [by2] at hb; omega
theorem byt4 (x : Int) : Byt (by4 x) := fun b hb => by simp [by4] at hb; omega
theorem cut_to_end (l : List Int) (i : Int) (h0 : 0 ≤ i) (h1 : i ≤ l.length) : cut l i (l.length : Int) = some (l.drop i.toNat) := by
  unfold cut
  rw [if_pos ⟨h0, h1, Int.le_refl _⟩, show ((l.length : Int)).toNat = l.length by omega, List.take_length]
theorem cut_at (p m r : List Int) (lo hi : Int) (h1 : lo = p.length) (h2 : hi = p.length + m.length) : cut (p ++ (m ++ r)) lo hi = some m := by
  subst h1; subst h2
  unfold cut
  rw [if_pos ⟨by omega, by omega, by simp; omega⟩]
  congr 1
  rw [show ((p.length : Int) + m.length).toNat = p.length + m.length by omega, show ((p.length : Int)).toNat = p.length by omega, ← List.append_assoc, List.take_append_of_le_length (by simp), List.take_of_length_le (by simp), List.drop_left]
theorem cut_end (p m : List Int) (lo hi : Int) (h1 : lo = p.length) (h2 : hi = p.length + m.length) : cut (p ++ m) lo hi = some m := by
  have := cut_at p m [] lo hi h1 h2
  rwa [List.append_nil] at this
theorem cut2 (b : List Int) (hb : Byt b) (lo hi : Int) (h0 : 0 ≤ lo) (h1 : hi = lo + 2) (h2 : hi ≤ b.length) : ∃ p q, cut b lo hi = some [p, q] ∧ (0 ≤ p ∧ p < 256) ∧ (0 ≤ q ∧ q < 256) ∧ b[lo.toNat]? = some p ∧ b[lo.toNat + 1]? = some q := by
  have hl1 : lo.toNat < b.length := by omega
  have hl2 : lo.toNat + 1 < b.length := by omega
  refine ⟨b[lo.toNat], b[lo.toNat + 1], ?_, hb _ (List.getElem_mem _), hb _ (List.getElem_mem _), List.getElem?_eq_getElem hl1, List.getElem?_eq_getElem hl2⟩
  unfold cut
  rw [if_pos ⟨h0, by omega, h2⟩, show hi.toNat = lo.toNat + 2 by omega, List.drop_take, show lo.toNat + 2 - lo.toNat = 2 by omega, List.drop_eq_getElem_cons hl1, List.drop_eq_getElem_cons hl2]
  rfl
theorem cut4 (b : List Int) (hb : Byt b) (lo hi : Int) (h0 : 0 ≤ lo) (h1 : hi = lo + 4) (h2 : hi ≤ b.length) : ∃ p q r s, cut b lo hi = some [p, q, r, s] ∧ (0 ≤ p ∧ p < 256) ∧ (0 ≤ q ∧ q < 256) ∧ (0 ≤ r ∧ r < 256) ∧ (0 ≤ s ∧ s < 256) := by
  have hl1 : lo.toNat < b.length := by omega
  have hl2 : lo.toNat + 1 < b.length := by omega
  have hl3 : lo.toNat + 1 + 1 < b.length := by omega
  have hl4 : lo.toNat + 1 + 1 + 1 < b.length := by omega
  refine ⟨b[lo.toNat], b[lo.toNat + 1], b[lo.toNat + 1 + 1], b[lo.toNat + 1 + 1 + 1], ?_, hb _ (List.getElem_mem _), hb _ (List.getElem_mem _), hb _ (List.getElem_mem _), hb _ (List.getElem_mem _)⟩
  unfold cut
  rw [if_pos ⟨h0, by omega, h2⟩, show hi.toNat = lo.toNat + 4 by omega, List.drop_take, show lo.toNat + 4 - lo.toNat = 4 by omega, List.drop_eq_getElem_cons hl1, List.drop_eq_getElem_cons hl2, List.drop_eq_getElem_cons hl3, List.drop_eq_getElem_cons hl4]
  rfl
theorem rd2 (b : List Int) (hb : Byt b) (lo hi : Int) (h0 : 0 ≤ lo) (h1 : hi = lo + 2) (h2 : hi ≤ b.length) : ∃ x v, (0 ≤ v ∧ v < 65536) ∧ cut b lo hi = some x ∧ ref01_Get.f x true = some v ∧ bits_Get.f x true = some v := by
  obtain ⟨p, q, h, hp, hq, _⟩ := cut2 b hb lo hi h0 h1 h2
  exact ⟨_, p * 256 + q, by omega, h, rget2 hp hq, get2 hp hq⟩
theorem rd4 (b : List Int) (hb : Byt b) (lo hi : Int) (h0 : 0 ≤ lo) (h1 : hi = lo + 4) (h2 : hi ≤ b.length) : ∃ x v, (0 ≤ v ∧ v < 4294967296) ∧ cut b lo hi = some x ∧ ref01_Get.f x true = some v ∧ bits_Get.f x true = some v := by
  obtain ⟨p, q, r, s, h, hp, hq, hr, hs⟩ := cut4 b hb lo hi h0 h1 h2
  exact ⟨_, p * 16777216 + q * 65536 + r * 256 + s, by omega, h, rget4 hp hq hr hs, get4 hp hq hr hs⟩
theorem idx_at (b : List Int) (hb : Byt b) (i : Int) (h0 : 0 ≤ i) (h1 : i < b.length) : ∃ z, idx b i = some z ∧ (0 ≤ z ∧ z < 256) := by
  have hl : i.toNat < b.length := by omega
  exact ⟨b[i.toNat], by unfold idx; rw [if_pos h0, List.getElem?_eq_getElem hl], hb _ (List.getElem_mem _)⟩
theorem cut_take (l : List Int) (i : Int) (h0 : 0 ≤ i) (h1 : i ≤ l.length) : cut l 0 i = some (l.take i.toNat) := by
  unfold cut
  rw [if_pos ⟨by omega, h0, h1⟩]; rfl
theorem get_by2 {x : Int} (h : 0 ≤ x ∧ x < 65536) : bits_Get.f (by2 x) true = some x := by
  rw [by2, get2 ⟨by omega, by omega⟩ ⟨by omega, by omega⟩]; congr 1; omega
theorem get_by4 {x : Int} (h : 0 ≤ x ∧ x < 4294967296) : bits_Get.f (by4 x) true = some x := by
  rw [by4, get4 ⟨by omega, by omega⟩ ⟨by omega, by omega⟩ ⟨by omega, by omega⟩ ⟨by omega, by omega⟩]; congr 1; omega
end Go.Proofs.YtaiadolmjmacfaaDoor.S
