/- What a packet is written as, for layer 17. Each fact states its own conditions. -/
import Derived.Test.YtaiadolmjmacfaaDoorPureIpA
namespace Go.Proofs.YtaiadolmjmacfaaDoor.S
open Go Go.SL
set_option linter.unusedVariables false
set_option linter.unusedSimpArgs false
theorem heads17_g : law17_heads.g 300 = some true := by kernel_rfl
theorem heads17 : law17_heads.f = some true := law17_heads.le 300 _ heads17_g
theorem fold_full {s : Int} (h : 0 ≤ s) : fold (s + (65535 - fold s)) = 65535 := by
  unfold fold
  by_cases c : s = 0
  · subst c; decide
  · rw [if_neg c]
    have h1 : (s - 1) % 65535 + 1 ≤ 65535 := by omega
    have h2 : ¬ (s + (65535 - ((s - 1) % 65535 + 1)) = 0) := by omega
    rw [if_neg h2]
    omega
theorem byt_cons {x : Int} {l : List Int} (hx : 0 ≤ x ∧ x < 256) (hl : Byt l) : Byt (x :: l) := fun y hy => by
  rcases List.mem_cons.1 hy with rfl | hy
  · exact hx
  · exact hl y hy
theorem byt_nil : Byt ([] : List Int) := fun y hy => by cases hy
/-- The checksum of a head with noughts in its place. -/
def ck (a : List Int) (t : List Int) : Int := 65535 - fold (sumP (a ++ 0 :: 0 :: t))
def patched (a t : List Int) : List Int := a ++ (ck a t / 256 % 256) :: (ck a t % 256) :: t
/-- A checksum put in at place 10. -/
theorem patch10 (x0 x1 x2 x3 x4 x5 x6 x7 x8 x9 c d : Int) (t : List Int) (ha : Byt [x0, x1, x2, x3, x4, x5, x6, x7, x8, x9]) (ht : Byt t) (hl : t.length ≤ 100000) :
    sum_Patch.f ([x0, x1, x2, x3, x4, x5, x6, x7, x8, x9] ++ c :: d :: t) 10 = some (patched [x0, x1, x2, x3, x4, x5, x6, x7, x8, x9] t) ∧ fold (sumP (patched [x0, x1, x2, x3, x4, x5, x6, x7, x8, x9] t)) = 65535 := by
  have hlen : ([x0, x1, x2, x3, x4, x5, x6, x7, x8, x9] ++ c :: d :: t).length = t.length + 12 := by simp
  have hz : Byt ([x0, x1, x2, x3, x4, x5, x6, x7, x8, x9] ++ 0 :: 0 :: t) := Byt.app ha (byt_cons (by omega) (byt_cons (by omega) ht))
  have hs := (sumP_bd _ hz).1
  have hf := fold_bd hs
  constructor
  · unfold sum_Patch.f
    rw [cloneB _ (by omega), Option.bind_some]
    have c1 : ¬ ((10 : Int) < 0) := by omega
    have c2 : ¬ (bits .and .i64 10 1 = 1) := by decide
    have c3 : ¬ (IntKind.i64.wrap ((([x0, x1, x2, x3, x4, x5, x6, x7, x8, x9] ++ c :: d :: t).length : Int) - 2) < 10) := by rw [i64w (by omega) (by omega)]; omega
    have e4 : IntKind.i64.wrap (10 + 2) = 12 := by decide
    simp only [c1, c2, c3, decide_false, Bool.false_eq_true, if_false, Option.bind_some, e4]
    rw [if_pos ⟨by omega, by omega, by omega⟩]
    simp only [lt]
    have es : Go.splice ([x0, x1, x2, x3, x4, x5, x6, x7, x8, x9] ++ c :: d :: t) (10 : Int).toNat (List.replicate ((12 : Int).toNat - (10 : Int).toNat) (0 : Int)) = [x0, x1, x2, x3, x4, x5, x6, x7, x8, x9] ++ 0 :: 0 :: t := rfl
    rw [es]
    have hzl : ([x0, x1, x2, x3, x4, x5, x6, x7, x8, x9] ++ 0 :: 0 :: t).length = t.length + 12 := by simp
    rw [if_pos ⟨by omega, by omega, by omega⟩, sum_is hz (by omega), Option.bind_some]
    rw [u64w (by omega) (by omega), put2, Option.bind_some]
    congr 1
    unfold ovr
    rw [hzl]
    have e2 : ((((t.length + 12 : Nat) : Int)).toNat - (10 : Int).toNat) = t.length + 2 := by omega
    rw [e2]
    simp [Go.splice, patched, ck]
  · unfold patched
    obtain ⟨v, hv⟩ : ∃ v, ck [x0, x1, x2, x3, x4, x5, x6, x7, x8, x9] t = v := ⟨_, rfl⟩
    have h1 : sumP ([x0, x1, x2, x3, x4, x5, x6, x7, x8, x9] ++ (v / 256 % 256) :: (v % 256) :: t) = sumP ([x0, x1, x2, x3, x4, x5, x6, x7, x8, x9] ++ 0 :: 0 :: t) + v := by
      have hv2 : 0 ≤ v ∧ v ≤ 65535 := by rw [← hv]; unfold ck; omega
      simp only [List.cons_append, List.nil_append, sumP]; omega
    rw [hv, h1, ← hv]
    exact fold_full hs
theorem and_lo (x m : Int) (k : Nat) (hm : m = 2 ^ k - 1) (hk : k < 63) : bits .and .i64 x m = x % 2 ^ k := by
  subst hm
  have e2 : bits .and .i64 x (2 ^ k - 1) = IntKind.i64.wrap ((BitVec.ofInt 64 x &&& BitVec.ofInt 64 (2 ^ k - 1) : BitVec 64).toNat : Int) := rfl
  have hp : (2 : Nat) ^ k ≤ 2 ^ 62 := Nat.pow_le_pow_right (by decide) (by omega)
  have hp1 : 1 ≤ (2 : Nat) ^ k := Nat.one_le_two_pow
  have e3 : (2 ^ k - 1 : Int) = ((2 ^ k - 1 : Nat) : Int) := by rw [Int.ofNat_sub hp1]; push_cast; rfl
  rw [e2, e3, BitVec.ofInt_natCast, BitVec.toNat_and, BitVec.toNat_ofNat, Nat.mod_eq_of_lt (a := 2 ^ k - 1) (by omega), Nat.and_two_pow_sub_one_eq_mod, BitVec.toNat_ofInt]
  have hN : ((2 ^ 64 : Nat) : Int) = (2 : Int) ^ 64 := by decide
  rw [hN]
  have e4 : ((x % (2 : Int) ^ 64).toNat % 2 ^ k : Nat) = ((x % (2 : Int) ^ k).toNat) := by
    have hd : ((2 : Int) ^ k) ∣ (2 : Int) ^ 64 := ⟨(2 : Int) ^ (64 - k), by rw [← Int.pow_add, show k + (64 - k) = 64 by omega]⟩
    have h1 : (0 : Int) ≤ x % (2 : Int) ^ 64 := Int.emod_nonneg _ (by decide)
    have h2 := Int.emod_emod_of_dvd x hd
    have h3 : (0 : Int) ≤ x % 2 ^ k := Int.emod_nonneg _ (by have : (0 : Int) < 2 ^ k := Int.pow_pos (by decide); omega)
    have h4 : (((x % (2 : Int) ^ 64).toNat % 2 ^ k : Nat) : Int) = x % 2 ^ k := by
      rw [Int.natCast_emod, Int.toNat_of_nonneg h1, Int.natCast_pow]
      exact h2
    omega
  rw [e4]
  have q : (0 : Int) < 2 ^ k := Int.pow_pos (by decide)
  have q2 : (2 : Int) ^ k ≤ 2 ^ 62 := by have := hp; exact_mod_cast this
  have m1 := Int.emod_nonneg x (show (2 : Int) ^ k ≠ 0 by omega)
  have m2 := Int.emod_lt_of_pos x q
  rw [Int.toNat_of_nonneg m1, i64w (by omega) (by omega)]
theorem and3 (x : Int) : bits .and .i64 x 3 = x % 4 := and_lo x 3 2 rfl (by decide)
theorem and13 (x : Int) : bits .and .i64 x 8191 = x % 8192 := and_lo x 8191 13 rfl (by decide)
theorem shr8 (x : Int) : ishr .i64 x 8 = x / 256 := by unfold ishr; rw [show (2 : Int) ^ min (8 : Int).toNat IntKind.i64.bits = 256 by decide]
theorem shr16 (x : Int) : ishr .i64 x 16 = x / 65536 := by unfold ishr; rw [show (2 : Int) ^ min (16 : Int).toNat IntKind.i64.bits = 65536 by decide]
/-- What the right packets are, in numbers. -/
theorem ir_num {p : TIp} (h : IR p) : (0 ≤ p.Tos ∧ p.Tos < 256) ∧ (0 ≤ p.Ttl ∧ p.Ttl < 256) ∧ (0 ≤ p.Proto ∧ p.Proto < 256) ∧ (0 ≤ p.Id ∧ p.Id < 65536) ∧ (0 ≤ p.Flags ∧ p.Flags < 8) ∧ (0 ≤ p.Off ∧ p.Off < 8192) ∧ p.Options.length ≤ 40 ∧ p.Options.length % 4 = 0 ∧ p.Data.length + p.Options.length ≤ 65515 := by
  obtain ⟨⟨h1, h2, h3⟩, h4, h5, h6, h7, h8, h9⟩ := h
  rw [shr8] at h1 h2 h3
  rw [shr16] at h4
  rw [shr3] at h5
  rw [shr13] at h6
  rw [and3] at h8
  exact ⟨by omega, by omega, by omega, by omega, by omega, by omega, h7, by omega, by omega⟩
/-- A head's first ten bytes. -/
def h10 (p : TIp) : List Int := [64 + (5 + (p.Options.length : Int) / 4), p.Tos, (20 + (p.Options.length : Int) + p.Data.length) / 256, (20 + (p.Options.length : Int) + p.Data.length) % 256, p.Id / 256, p.Id % 256, p.Flags * 32 + p.Off / 256, p.Off % 256, p.Ttl, p.Proto]
def tl (p : TIp) : List Int := by4 p.Src ++ (by4 p.Dst ++ p.Options)
theorem byt_h10 {p : TIp} (h : IR p) : Byt (h10 p) := by
  obtain ⟨h1, h2, h3, h4, h5, h6, h7, h8, h9⟩ := ir_num h
  refine byt_cons (by omega) (byt_cons h1 (byt_cons (by omega) (byt_cons (by omega) (byt_cons (by omega) (byt_cons (by omega) (byt_cons (by omega) (byt_cons (by omega) (byt_cons h2 (byt_cons h3 byt_nil)))))))))
theorem byt_tl {p : TIp} (hb : Byt p.Options) : Byt (tl p) := Byt.app (byt4 _) (Byt.app (byt4 _) hb)
theorem n1 (x : Int) : ip_Put_1.f x 1 = some [x % 256] := by
  unfold ip_Put_1.f; rw [put1]; simp only [Option.bind_some]
  rw [show IntKind.u64.wrap x % 256 = x % 256 by simp [IntKind.wrap, IntKind.bits, IntKind.signed]]
theorem u64e (x : Int) : IntKind.u64.wrap x = x % 18446744073709551616 := by simp [IntKind.wrap, IntKind.bits, IntKind.signed]
theorem n2 (x : Int) : ip_Put_1.f x 2 = some [x / 256 % 256, x % 256] := by
  unfold ip_Put_1.f; rw [put2, u64e]; simp only [Option.bind_some]
  rw [show x % 18446744073709551616 / 256 % 256 = x / 256 % 256 by omega, show x % 18446744073709551616 % 256 = x % 256 by omega]
theorem n4 {x : Int} (h : 0 ≤ x ∧ x < 4294967296) : ip_Put_1.f x 4 = some (by4 x) := by
  unfold ip_Put_1.f; rw [u64w (by omega) (by omega), put4]; rfl
theorem or64 (k : Int) (h : 0 ≤ k ∧ k < 64) : bits .or .i64 64 k = 64 + k := by
  have : ∀ k : Fin 64, bits .or .i64 64 (k.val : Int) = 64 + (k.val : Int) := by decide +kernel
  have := this ⟨k.toNat, by omega⟩
  simpa [Int.toNat_of_nonneg h.1] using this
theorem or13 {x y : Int} (hx : 0 ≤ x ∧ x < 8) (hy : 0 ≤ y ∧ y < 8192) : bits .or .i64 (ishl .i64 x 13) y = x * 8192 + y := by
  have e1 : ishl .i64 x 13 = x * 8192 := by
    unfold ishl
    rw [show (2 : Int) ^ min (13 : Int).toNat IntKind.i64.bits = 8192 by decide, i64w (by omega) (by omega)]
  rw [e1]
  obtain ⟨a, rfl⟩ := Int.eq_ofNat_of_zero_le hx.1
  obtain ⟨b, rfl⟩ := Int.eq_ofNat_of_zero_le hy.1
  have hb : b < 2 ^ 13 := by omega
  have e2 : bits .or .i64 ((a : Int) * 8192) (b : Int) = IntKind.i64.wrap ((BitVec.ofNat 64 (2 ^ 13 * a) ||| BitVec.ofNat 64 b : BitVec 64).toNat : Int) := by
    unfold bits
    show IntKind.i64.wrap ((BitVec.ofInt 64 ((a : Int) * 8192) ||| BitVec.ofInt 64 (b : Int) : BitVec 64).toNat : Int) = _
    rw [show (a : Int) * 8192 = ((2 ^ 13 * a : Nat) : Int) by omega]
    rw [show BitVec.ofInt 64 ((2 ^ 13 * a : Nat) : Int) = BitVec.ofNat 64 (2 ^ 13 * a) from BitVec.ofInt_natCast _ _, show BitVec.ofInt 64 (b : Int) = BitVec.ofNat 64 b from BitVec.ofInt_natCast _ _]
  rw [e2, BitVec.toNat_or, BitVec.toNat_ofNat, BitVec.toNat_ofNat, Nat.mod_eq_of_lt (by omega), Nat.mod_eq_of_lt (by omega), ← Nat.two_pow_add_eq_or_of_lt hb, i64w (by omega) (by omega)]
  omega
/-- A packet, written. -/
def putP (p : TIp) : List Int := patched (h10 p) (tl p) ++ p.Data
theorem len_patched (p : TIp) : (patched (h10 p) (tl p)).length = 20 + p.Options.length := by simp [patched, h10, tl, by4]; omega
theorem ipPut_is (p : TIp) (hl : p.Options.length ≤ 9223372036854775807) (hb : Byt p.Options) (hs : 0 ≤ p.Src ∧ p.Src < 4294967296) (hd : 0 ≤ p.Dst ∧ p.Dst < 4294967296) : ip_Put.f p = if IR p then some (putP p, 0) else some ([], 2) := by
  unfold ip_Put.f
  rw [ipright_is p hl, Option.bind_some]
  by_cases h : IR p
  case neg => simp [h]
  obtain ⟨h1, h2, h3, h4, h5, h6, h7, h8, h9⟩ := ir_num h
  rw [if_pos h]
  simp only [h, decide_true, Bool.not_true, Bool.false_eq_true, if_false, lt]
  have e1 : IntKind.i64.wrap (20 + (p.Options.length : Int)) = 20 + (p.Options.length : Int) := i64w (by omega) (by omega)
  have e2 : IntKind.i64.wrap (Int.tdiv (20 + (p.Options.length : Int)) 4) = 5 + (p.Options.length : Int) / 4 := by rw [Int.tdiv_eq_ediv_of_nonneg (by omega), i64w (by omega) (by omega)]; omega
  have e3 : IntKind.i64.wrap (20 + (p.Options.length : Int) + (p.Data.length : Int)) = 20 + (p.Options.length : Int) + p.Data.length := i64w (by omega) (by omega)
  rw [e1, e2, or64 _ (by omega), e3, or13 h5 h6]
  simp only [n1, n2, n4 hs, n4 hd, Option.bind_some]
  rw [concat_is _ (by simp [by4]; omega) (by simp), Option.bind_some]
  have ef : ([[(64 + (5 + (p.Options.length : Int) / 4)) % 256], [p.Tos % 256], [(20 + (p.Options.length : Int) + p.Data.length) / 256 % 256, (20 + (p.Options.length : Int) + p.Data.length) % 256], [p.Id / 256 % 256, p.Id % 256], [(p.Flags * 8192 + p.Off) / 256 % 256, (p.Flags * 8192 + p.Off) % 256], [p.Ttl % 256], [p.Proto % 256], [0 / 256 % 256, 0 % 256], by4 p.Src, by4 p.Dst, p.Options] : List (List Int)).flatten = h10 p ++ 0 :: 0 :: tl p := by
    simp only [h10, tl, List.flatten_cons, List.flatten_nil, List.cons_append, List.nil_append, List.append_nil]
    rw [show (64 + (5 + (p.Options.length : Int) / 4)) % 256 = 64 + (5 + (p.Options.length : Int) / 4) by omega, show p.Tos % 256 = p.Tos by omega, show (20 + (p.Options.length : Int) + p.Data.length) / 256 % 256 = (20 + (p.Options.length : Int) + p.Data.length) / 256 by omega, show p.Id / 256 % 256 = p.Id / 256 by omega, show (p.Flags * 8192 + p.Off) / 256 % 256 = p.Flags * 32 + p.Off / 256 by omega, show (p.Flags * 8192 + p.Off) % 256 = p.Off % 256 by omega, show p.Ttl % 256 = p.Ttl by omega, show p.Proto % 256 = p.Proto by omega, show (0 : Int) / 256 % 256 = 0 by decide, show (0 : Int) % 256 = 0 by decide]
  rw [ef]
  have hp := (patch10 _ _ _ _ _ _ _ _ _ _ 0 0 (tl p) (byt_h10 h) (byt_tl hb) (by simp [tl, by4]; omega)).1
  have hp' : sum_Patch.f (h10 p ++ 0 :: 0 :: tl p) 10 = some (patched (h10 p) (tl p)) := hp
  rw [hp', Option.bind_some, app_k _ _ (by rw [len_patched]; omega)]
  rfl
end Go.Proofs.YtaiadolmjmacfaaDoor.S
