/- What the function of the law UdpTurned answers: true, whatever the datagram, the addresses and the bit. Its conditions: what data of these types are. -/
import Derived.Test.YtfoffhdckcdjdaaDoorPureUdpMore
namespace Go.Proofs.YtfoffhdckcdjdaaDoor.S
open Go Go.SL
set_option linter.unusedVariables false
set_option linter.unusedSimpArgs false
theorem sumP_set : ∀ (l : List Int) (i : Nat) (x y : Int), l[i]? = some x → sumP (l.set i y) = sumP l + (y - x) * (if i % 2 = 0 then 256 else 1)
  | [], i, x, y, h => by simp at h
  | [a], i, x, y, h => by
    cases i with
    | zero => simp at h; subst h; simp [sumP]; omega
    | succ i => simp at h
  | a :: b :: t, 0, x, y, h => by
    simp at h; subst h
    simp only [List.set_cons_zero, sumP, Nat.zero_mod, if_true]; omega
  | a :: b :: t, 1, x, y, h => by
    simp at h; subst h
    simp only [List.set_cons_succ, List.set_cons_zero, sumP]
    rw [if_neg (by decide)]; omega
  | a :: b :: t, i + 2, x, y, h => by
    have h' : t[i]? = some x := by simpa using h
    have ih := sumP_set t i x y h'
    simp only [List.set_cons_succ, sumP, ih]
    rw [show (i + 2) % 2 = i % 2 by omega]
    omega
theorem flip_bit (x : Int) (hx : 0 ≤ x ∧ x < 256) (j : Nat) (hj : j < 8) : (bits .xor .u8 x (ishl .u8 1 (j : Int)) = x + 2 ^ j ∨ bits .xor .u8 x (ishl .u8 1 (j : Int)) = x - 2 ^ j) ∧ 0 ≤ bits .xor .u8 x (ishl .u8 1 (j : Int)) ∧ bits .xor .u8 x (ishl .u8 1 (j : Int)) < 256 := by
  have : ∀ (k : Fin 256) (j : Fin 8), (bits .xor .u8 (k.val : Int) (ishl .u8 1 (j.val : Int)) = (k.val : Int) + 2 ^ j.val ∨ bits .xor .u8 (k.val : Int) (ishl .u8 1 (j.val : Int)) = (k.val : Int) - 2 ^ j.val) ∧ 0 ≤ bits .xor .u8 (k.val : Int) (ishl .u8 1 (j.val : Int)) ∧ bits .xor .u8 (k.val : Int) (ishl .u8 1 (j.val : Int)) < 256 := by decide +kernel
  have := this ⟨x.toNat, by omega⟩ ⟨j, hj⟩
  simpa [Int.toNat_of_nonneg hx.1] using this
theorem pow_lt (j : Nat) (hj : j < 8) : 1 ≤ (2 : Int) ^ j ∧ (2 : Int) ^ j ≤ 128 := by
  have : ∀ j : Fin 8, 1 ≤ (2 : Int) ^ j.val ∧ (2 : Int) ^ j.val ≤ 128 := by decide
  exact this ⟨j, hj⟩
theorem udpTurned (u : TUdp) (g : gUdp u) (a : Int) (ha : InR .u32 a) (b : Int) (hb : InR .u32 b) (bit : Int) (hbit : InR .i64 bit) : law18_UdpTurned.f u a b bit = some true := by
  obtain ⟨g1, g2, g8, g9⟩ := g
  have hd : Byt u.Data := Byt.of g9
  unfold law18_UdpTurned.f
  by_cases c1 : (3000 : Int) < u.Data.length
  · rw [if_pos (by simpa using c1), Option.bind_some, if_pos rfl, heads]; rfl
  rw [if_neg (by simpa using c1), Option.bind_some]
  by_cases c2 : (u.Data.length : Int) = 0
  · rw [if_pos (by simpa using c2), heads]; rfl
  rw [if_neg (by simpa using c2)]
  by_cases h : uOk u
  case neg => rw [put_no u a b h, Option.bind_some, if_pos (by simp), heads]; rfl
  have hck := ckU_bd u a b hd
  have hl := headU_len u (by2 (ckU u a b)) rfl
  obtain ⟨h1, h2, h3⟩ := id h
  have hright := right_put u a b hd
  have hturn : fold (sumP (pseudoP b a 17 (8 + u.Data.length) ++ headU u (by2 (ckU u a b)))) = 65535 := by rw [sum_psp_turn]; exact hright
  have g4 := get_put u a b h hd _ hck b a hturn [] (fun _ h => by cases h) (by simp)
  rw [List.append_nil] at g4
  rw [put_is u a b h hd, Option.bind_some, if_neg (by simp)]
  simp only []
  rw [g4, Option.bind_some, app_ok _ _ (by simp; omega), Option.bind_some, List.nil_append]
  have hN : IntKind.u64.wrap (IntKind.i64.wrap (8 * (u.Data.length : Int))) = 8 * (u.Data.length : Int) := by rw [i64w (by omega) (by omega), u64w (by omega) (by omega)]
  rw [hN, if_pos (by omega)]
  obtain ⟨m, hm⟩ : ∃ m, IntKind.u64.wrap bit = m := ⟨_, rfl⟩
  have hmb : 0 ≤ m := by rw [← hm]; simp only [IntKind.wrap, IntKind.bits, IntKind.signed]; simp; omega
  obtain ⟨k, hk⟩ : ∃ k, Int.tmod m (8 * (u.Data.length : Int)) = k := ⟨_, rfl⟩
  have hkb : 0 ≤ k ∧ k < 8 * (u.Data.length : Int) := by
    rw [← hk, Int.tmod_eq_emod_of_nonneg hmb]
    exact ⟨Int.emod_nonneg _ (by omega), Int.emod_lt_of_pos _ (by omega)⟩
  simp only [lt, hm, hk]
  rw [i64w (x := k) (by omega) (by omega), i64w (x := 8 + (u.Data.length : Int)) (by omega) (by omega), if_neg (by simp; omega), Int.tdiv_eq_ediv_of_nonneg hkb.1, Int.tmod_eq_emod_of_nonneg hkb.1, i64w (x := k / 8) (by omega) (by omega), i64w (x := 8 + k / 8) (by omega) (by omega), u64w (x := k % 8) (by omega) (by omega)]
  obtain ⟨c, hcdef⟩ : ∃ c, headU u (by2 (ckU u a b)) = c := ⟨_, rfl⟩
  rw [hcdef] at hl hright ⊢
  have hcb : Byt c := by rw [← hcdef]; exact byt_headU hd (byt2 _)
  have hi : (8 + k / 8).toNat < c.length := by omega
  obtain ⟨x, hx⟩ : ∃ x, c[(8 + k / 8).toNat]? = some x := ⟨_, List.getElem?_eq_getElem hi⟩
  have hxb : 0 ≤ x ∧ x < 256 := hcb x (List.mem_of_getElem? hx)
  have hix : idx c (8 + k / 8) = some x := by unfold idx; rw [if_pos (by omega)]; exact hx
  rw [hix, Option.bind_some, if_pos (by omega), Option.bind_some]
  obtain ⟨j, hj⟩ : ∃ j : Nat, k % 8 = (j : Int) := ⟨(k % 8).toNat, by omega⟩
  have hj8 : j < 8 := by omega
  rw [hj]
  obtain ⟨hf1, hf2⟩ := flip_bit x hxb j hj8
  have hpw := pow_lt j hj8
  generalize hy : bits .xor .u8 x (ishl .u8 1 (j : Int)) = y at *
  have hcy : Byt (c.set (8 + k / 8).toNat y) := fun z hz => by
    rcases List.mem_or_eq_of_mem_set hz with hz | hz
    · exact hcb z hz
    · subst hz; exact hf2
  have hly : (c.set (8 + k / 8).toNat y).length = 8 + u.Data.length := by rw [List.length_set, hl]
  obtain ⟨v0, v1, v2, v3, hloop, _, _, ⟨x4, k4, _, s4⟩, ⟨p, q, hp, hq, hv3, hpb, hqb⟩, b0, b1, b2⟩ := get_loop (c.set (8 + k / 8).toNat y) hcy (by omega)
  have hsame : ∀ i, i < 8 → (c.set (8 + k / 8).toNat y)[i]? = c[i]? := fun i hi => by rw [List.getElem?_set_ne (by omega)]
  have e4 : cut (c.set (8 + k / 8).toNat y) 4 6 = some (by2 (8 + u.Data.length)) := by
    have h0 : cut c 4 6 = some (by2 (8 + u.Data.length)) := by
      rw [← hcdef]
      have := cut_at (by2 u.Src ++ by2 u.Dst) (by2 (8 + u.Data.length)) (by2 (ckU u a b) ++ u.Data) 4 6 rfl rfl
      simpa [headU] using this
    obtain ⟨p1, q1, e1, _, _, f1, f2⟩ := cut2 c hcb 4 6 (by omega) rfl (by omega)
    obtain ⟨p2, q2, e2, _, _, f3, f4⟩ := cut2 _ hcy 4 6 (by omega) rfl (by omega)
    rw [show ((4 : Int).toNat) = 4 from rfl] at f1 f2 f3 f4
    rw [hsame 4 (by omega)] at f3
    rw [hsame 5 (by omega)] at f4
    rw [f1] at f3; rw [f2] at f4
    rw [e2, ← h0, e1]
    cases f3; cases f4; rfl
  rw [e4] at k4
  cases k4
  rw [get_by2 ⟨by omega, by omega⟩] at s4
  have z2 : v2 = 8 + u.Data.length := by simpa using s4.symm
  have hp' : p = ckU u a b / 256 % 256 := by
    rw [hsame 6 (by omega), ← hcdef] at hp
    have : (headU u (by2 (ckU u a b)))[6]? = some (ckU u a b / 256 % 256) := rfl
    rw [this] at hp; simpa using hp.symm
  have hq' : q = ckU u a b % 256 := by
    rw [hsame 7 (by omega), ← hcdef] at hq
    have : (headU u (by2 (ckU u a b)))[7]? = some (ckU u a b % 256) := rfl
    rw [this] at hq; simpa using hq.symm
  rw [get_res _ hcy (by omega) a b (by omega) hloop b2]
  unfold gRes
  have ht : (c.set (8 + k / 8).toNat y).take v2.toNat = c.set (8 + k / 8).toNat y := List.take_of_length_le (by omega)
  have hbad : fold (sumP (pseudoP a b 17 v2 ++ c.set (8 + k / 8).toNat y)) ≠ 65535 := by
    rw [z2, sumP_append _ _ (by rw [psp_len]), sumP_set c _ x y hx]
    rw [sumP_append _ _ (by rw [psp_len])] at hright
    have n1 := (sumP_bd _ (byt_psp a b (8 + u.Data.length) (p := 17) (by omega))).1
    have n2 := (sumP_bd _ hcb).1
    have n3 := (sumP_bd _ hcy).1
    rw [sumP_set c _ x y hx] at n3
    generalize sumP (pseudoP a b 17 (8 + u.Data.length)) = A at *
    generalize sumP c = S at *
    generalize (2 : Int) ^ j = e at *
    unfold fold at *
    by_cases ev : (8 + k / 8).toNat % 2 = 0
    · rw [if_pos ev] at n3 ⊢
      rcases hf1 with hf1 | hf1 <;> rw [hf1] at n3 ⊢ <;> split at hright <;> split <;> omega
    · rw [if_neg ev] at n3 ⊢
      rcases hf1 with hf1 | hf1 <;> rw [hf1] at n3 ⊢ <;> split at hright <;> split <;> omega
  rw [ht, if_neg (by omega), if_neg (by omega), if_pos ⟨by omega, hbad⟩, Option.bind_some]
  simp [heads]
end Go.Proofs.YtfoffhdckcdjdaaDoor.S
