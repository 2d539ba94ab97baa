/- What the law IpEchoes answers: true. Its conditions: what the data are. -/
import Derived.Test.YtaiadolmjmacfaaDoorPureRefS
namespace Go.Proofs.YtaiadolmjmacfaaDoor.S
open Go Go.SL
set_option linter.unusedVariables false
set_option linter.unusedSimpArgs false
theorem heads17_g : law17_heads.g 300 = some true := by kernel_rfl
theorem heads17 : law17_heads.f = some true := law17_heads.le 300 _ heads17_g
theorem cloneL (l : List Int) (h : l.length ≤ 68719476736) : slices_Clone_s_byte_byte.f l = some l := by
  unfold slices_Clone_s_byte_byte.f
  simp [app, h]
theorem ix0 {α : Type} (x : α) (t : List α) : idx (x :: t) 0 = some x := by simp [idx]
theorem ix1 {α : Type} (x y : α) (t : List α) : idx (x :: y :: t) 1 = some y := by simp [idx]
/-- What a sum with its own checksum put in comes to. -/
theorem fold_full {s : Int} (h : 0 ≤ s) : fold (s + (65535 - fold s)) = 65535 := by
  unfold fold
  by_cases c : s = 0
  · subst c; decide
  · rw [if_neg c]
    have h1 : (s - 1) % 65535 + 1 ≤ 65535 := by omega
    have h2 : ¬ (s + (65535 - ((s - 1) % 65535 + 1)) = 0) := by omega
    rw [if_neg h2]
    omega
/-- A checksum put in at place 2. -/
theorem patch2 (a b c d : Int) (t : List Int) (ha : 0 ≤ a ∧ a < 256) (hb : 0 ≤ b ∧ b < 256) (ht : Byt t) (hl : t.length ≤ 100000) (h4 : 4 ≤ t.length) : ∃ p q, (0 ≤ p ∧ p < 256) ∧ (0 ≤ q ∧ q < 256) ∧ sum_Patch.f (a :: b :: c :: d :: t) 2 = some (a :: b :: p :: q :: t) ∧ fold (sumP (a :: b :: p :: q :: t)) = 65535 := by
  unfold sum_Patch.f
  have hlen : (a :: b :: c :: d :: t).length = t.length + 4 := by simp
  rw [cloneL _ (by omega), Option.bind_some]
  have c1 : ¬ ((2 : Int) < 0) := by omega
  have c2 : ¬ (bits .and .i64 2 1 = 1) := by decide
  have c3 : ¬ (IntKind.i64.wrap (((a :: b :: c :: d :: t).length : Int) - 2) < 2) := by rw [i64w (by omega) (by omega)]; omega
  have e4 : IntKind.i64.wrap (2 + 2) = 4 := by decide
  simp only [c1, c2, c3, decide_false, Bool.false_eq_true, if_false, Option.bind_some, e4]
  rw [if_pos ⟨by omega, by omega, by omega⟩]
  simp only [lt]
  have es : Go.splice (a :: b :: c :: d :: t) (2 : Int).toNat (List.replicate ((4 : Int).toNat - (2 : Int).toNat) (0 : Int)) = a :: b :: 0 :: 0 :: t := rfl
  rw [es]
  have hz : Byt (a :: b :: 0 :: 0 :: t) := fun x hx => by
    simp only [List.mem_cons] at hx
    rcases hx with rfl | rfl | rfl | rfl | hx
    · exact ha
    · exact hb
    · omega
    · omega
    · exact ht x hx
  have hzl : (a :: b :: 0 :: 0 :: t).length = t.length + 4 := by simp
  rw [if_pos ⟨by omega, by omega, by omega⟩, sum_is hz (by omega), Option.bind_some]
  have hs := (sumP_bd _ hz).1
  have hf := fold_bd hs
  rw [u64w (by omega) (by omega), put2, Option.bind_some]
  refine ⟨(65535 - fold (sumP (a :: b :: 0 :: 0 :: t))) / 256 % 256, (65535 - fold (sumP (a :: b :: 0 :: 0 :: t))) % 256, by omega, by omega, ?_, ?_⟩
  · congr 1
    unfold ovr
    rw [hzl]
    have e2 : ((((t.length + 4 : Nat) : Int)).toNat - (2 : Int).toNat) = t.length + 2 := by omega
    rw [e2]
    simp [Go.splice]
  · obtain ⟨v, hv⟩ : ∃ v, 65535 - fold (sumP (a :: b :: 0 :: 0 :: t)) = v := ⟨_, rfl⟩
    have h1 : sumP (a :: b :: (v / 256 % 256) :: (v % 256) :: t) = sumP (a :: b :: 0 :: 0 :: t) + v := by
      simp only [sumP]; omega
    rw [hv, h1, ← hv]
    exact fold_full hs
theorem echo_is (a b c d : Int) (t : List Int) (ha : 0 ≤ a ∧ a < 256) (hb : 0 ≤ b ∧ b < 256) (hc : 0 ≤ c ∧ c < 256) (hd : 0 ≤ d ∧ d < 256) (ht : Byt t) (hl : t.length ≤ 100000) (h4 : 4 ≤ t.length) :
    ip_Echo.f (a :: b :: c :: d :: t) = some ([], false) ∨ (a = 8 ∧ b = 0 ∧ ∃ p q, (0 ≤ p ∧ p < 256) ∧ (0 ≤ q ∧ q < 256) ∧ ip_Echo.f (a :: b :: c :: d :: t) = some (0 :: b :: p :: q :: t, true) ∧ fold (sumP (0 :: b :: p :: q :: t)) = 65535) := by
  unfold ip_Echo.f
  have c0 : ¬ (((a :: b :: c :: d :: t).length : Int) < 8) := by simp; omega
  have hby : Byt (a :: b :: c :: d :: t) := fun x hx => by
    simp only [List.mem_cons] at hx
    rcases hx with rfl | rfl | rfl | rfl | hx
    · exact ha
    · exact hb
    · exact hc
    · exact hd
    · exact ht x hx
  simp only [c0, decide_false, Bool.false_eq_true, if_false, ix0, ix1, Option.bind_some]
  by_cases ca : a = 8
  case neg => left; simp [ca]
  by_cases cb : b = 0
  case neg => left; simp [ca, cb]
  obtain rfl := ca
  obtain rfl := cb
  rw [right_is hby (by simp; omega)]
  simp only [decide_true, Bool.not_true, Bool.false_eq_true, if_false, Option.bind_some]
  by_cases cr : fold (sumP (8 :: 0 :: c :: d :: t)) = 65535
  case neg => left; simp [cr]
  right
  refine ⟨trivial, trivial, ?_⟩
  obtain ⟨p, q, hp, hq, h1, h2⟩ := patch2 0 0 c d t (by omega) (by omega) ht hl h4
  refine ⟨p, q, hp, hq, ?_, h2⟩
  simp only [cr, decide_true, Bool.not_true, Bool.false_eq_true, if_false]
  rw [cloneL _ (by simp; omega), Option.bind_some, ix0, Option.bind_some]
  simp only [lt]
  have es : (8 :: 0 :: c :: d :: t).set (0 : Int).toNat 0 = 0 :: 0 :: c :: d :: t := rfl
  rw [es, h1]
  rfl
theorem echo_short (b : List Int) (h : b.length < 8) : ip_Echo.f b = some ([], false) := by
  unfold ip_Echo.f
  have c0 : ((b.length : Int) < 8) := by omega
  simp [c0]
theorem ipEchoes (b : List Int) (gb : b.length ≤ maxLen ∧ ∀ z ∈ b, InR .u8 z) : law17_IpEchoes.f b = some true := by
  unfold law17_IpEchoes.f
  by_cases c : (20000 < (b.length : Int))
  · simp [c, heads17]
  simp only [c, decide_false, Bool.false_eq_true, if_false]
  by_cases h8 : b.length < 8
  · rw [echo_short b h8]; simp [heads17]
  have hby : Byt b := Byt.of gb.2
  obtain ⟨x0, x1, x2, x3, t, rfl⟩ : ∃ x0 x1 x2 x3 t, b = x0 :: x1 :: x2 :: x3 :: t := by
    rcases b with _ | ⟨x0, _ | ⟨x1, _ | ⟨x2, _ | ⟨x3, t⟩⟩⟩⟩
    · simp at h8
    · simp at h8
    · simp at h8
    · simp at h8
    · exact ⟨x0, x1, x2, x3, t, rfl⟩
  · have hl : (x0 :: x1 :: x2 :: x3 :: t).length = t.length + 4 := by simp
    have hx : ∀ x ∈ x0 :: x1 :: x2 :: x3 :: t, 0 ≤ x ∧ x < 256 := hby
    have ht : Byt t := fun x h => hx x (by simp [h])
    rcases echo_is x0 x1 x2 x3 t (hx _ (by simp)) (hx _ (by simp)) (hx _ (by simp)) (hx _ (by simp)) ht (by omega) (by omega) with h | ⟨ha, hb, p, q, hp, hq, h, hs⟩
    · rw [h]; simp [heads17]
    · rw [h]
      have h0 : ip_Echo.f (0 :: x1 :: p :: q :: t) = some ([], false) := by
        rcases echo_is 0 x1 p q t (by omega) (hx _ (by simp)) hp hq ht (by omega) (by omega) with h | ⟨ha, _⟩
        · exact h
        · cases ha
      have hz : Byt (0 :: x1 :: p :: q :: t) := fun x hx' => by
        simp only [List.mem_cons] at hx'
        rcases hx' with rfl | rfl | rfl | rfl | hx'
        · omega
        · exact hx _ (by simp)
        · exact hp
        · exact hq
        · exact ht x hx'
      have hl2 : (0 :: x1 :: p :: q :: t).length = t.length + 4 := by simp
      have e1 : ((0 :: x1 :: p :: q :: t).length : Int) = ((x0 :: x1 :: x2 :: x3 :: t).length : Int) := by omega
      have e2 : 8 ≤ ((x0 :: x1 :: x2 :: x3 :: t).length : Int) := by omega
      have cu1 : cut (0 :: x1 :: p :: q :: t) 4 ((x0 :: x1 :: x2 :: x3 :: t).length : Int) = some t := by
        unfold cut; rw [if_pos (by omega), Int.toNat_natCast, List.take_of_length_le (by omega)]; rfl
      have cu2 : cut (x0 :: x1 :: x2 :: x3 :: t) 4 ((x0 :: x1 :: x2 :: x3 :: t).length : Int) = some t := by
        unfold cut; rw [if_pos (by omega), Int.toNat_natCast, List.take_of_length_le (by omega)]; rfl
      simp only [Option.bind_some, Bool.not_true, Bool.false_eq_true, if_false, h0, Bool.not_false, if_true, e1, e2, decide_true, ix0, ix1, cu1, cu2, rsame, heads17]
      rw [rright_is hz (by omega), hs]
      simp
end Go.Proofs.YtaiadolmjmacfaaDoor.S
