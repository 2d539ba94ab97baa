/- What the law IpTells answers: true. Its conditions: what the data are. -/
import Derived.Test.YtaiadolmjmacfaaDoorPureIpGet
namespace Go.Proofs.YtaiadolmjmacfaaDoor.S
open Go Go.SL
set_option linter.unusedVariables false
set_option linter.unusedSimpArgs false
def gIp (p : TIp) : Prop := InR .i64 p.Tos ∧ InR .i64 p.Id ∧ InR .i64 p.Flags ∧ InR .i64 p.Off ∧ InR .i64 p.Ttl ∧ InR .i64 p.Proto ∧ InR .u32 p.Src ∧ InR .u32 p.Dst ∧ (p.Options.length ≤ maxLen ∧ ∀ z ∈ p.Options, InR .u8 z) ∧ (p.Data.length ≤ maxLen ∧ ∀ z ∈ p.Data, InR .u8 z)
theorem within_is (a m : Int) : ref17_within.f a m = some (decide (0 ≤ a ∧ a ≤ m)) := by
  unfold ref17_within.f
  by_cases h : 0 ≤ a
  · simp [h, lt]
  · simp [h]
/-- The same in numbers. -/
def IRn (p : TIp) : Prop := (0 ≤ p.Tos ∧ p.Tos ≤ 255) ∧ (0 ≤ p.Ttl ∧ p.Ttl ≤ 255) ∧ (0 ≤ p.Proto ∧ p.Proto ≤ 255) ∧ (0 ≤ p.Id ∧ p.Id ≤ 65535) ∧ (0 ≤ p.Flags ∧ p.Flags ≤ 7) ∧ (0 ≤ p.Off ∧ p.Off ≤ 8191) ∧ (p.Options.length : Int) ≤ 40 ∧ Int.tmod (p.Options.length : Int) 4 = 0 ∧ (p.Data.length : Int) ≤ 65515 - p.Options.length
instance (p : TIp) : Decidable (IRn p) := inferInstanceAs (Decidable (_ ∧ _))
theorem ir_iff (p : TIp) : IR p ↔ IRn p := by
  unfold IR IRn
  rw [shr8, shr8, shr8, shr16, shr3, shr13, and3, Int.tmod_eq_emod_of_nonneg (by omega)]
  constructor
  · rintro ⟨⟨h1, h2, h3⟩, h4, h5, h6, h7, h8, h9⟩
    exact ⟨by omega, by omega, by omega, by omega, by omega, by omega, by omega, by omega, by omega⟩
  · rintro ⟨h1, h2, h3, h4, h5, h6, h7, h8, h9⟩
    exact ⟨⟨by omega, by omega, by omega⟩, by omega, by omega, by omega, by omega, by omega, by omega⟩
theorem rright17 (p : TIp) (hl : p.Options.length ≤ 9223372036854775807) : ref17_right.f p = some (decide (IR p)) := by
  rw [show decide (IR p) = decide (IRn p) from decide_eq_decide.2 (ir_iff p)]
  unfold ref17_right.f
  simp only [within_is, Option.bind_some, lt]
  rw [i64w (by omega) (by omega)]
  by_cases c1 : 0 ≤ p.Tos ∧ p.Tos ≤ 255
  case neg => simp [IRn, c1]
  by_cases c2 : 0 ≤ p.Ttl ∧ p.Ttl ≤ 255
  case neg => simp [IRn, c1, c2]
  by_cases c3 : 0 ≤ p.Proto ∧ p.Proto ≤ 255
  case neg => simp [IRn, c1, c2, c3]
  by_cases c4 : 0 ≤ p.Id ∧ p.Id ≤ 65535
  case neg => simp [IRn, c1, c2, c3, c4]
  by_cases c5 : 0 ≤ p.Flags ∧ p.Flags ≤ 7
  case neg => simp [IRn, c1, c2, c3, c4, c5]
  by_cases c6 : 0 ≤ p.Off ∧ p.Off ≤ 8191
  case neg => simp [IRn, c1, c2, c3, c4, c5, c6]
  by_cases c7 : (p.Options.length : Int) ≤ 40
  case neg => simp [IRn, c1, c2, c3, c4, c5, c6, c7]
  by_cases c8 : Int.tmod (p.Options.length : Int) 4 = 0
  case neg => simp [IRn, c1, c2, c3, c4, c5, c6, c7, c8]
  simp [IRn, c1, c2, c3, c4, c5, c6, c7, c8]
theorem rpatch10 (x0 x1 x2 x3 x4 x5 x6 x7 x8 x9 c d : Int) (t : List Int) (ha : Byt [x0, x1, x2, x3, x4, x5, x6, x7, x8, x9]) (ht : Byt t) (hl : t.length ≤ 100000) :
    ref15_Patch.f ([x0, x1, x2, x3, x4, x5, x6, x7, x8, x9] ++ c :: d :: t) 10 = some (patched [x0, x1, x2, x3, x4, x5, x6, x7, x8, x9] t) := by
  have hlen : ([x0, x1, x2, x3, x4, x5, x6, x7, x8, x9] ++ c :: d :: t).length = t.length + 12 := by simp
  have hz : Byt ([x0, x1, x2, x3, x4, x5, x6, x7, x8, x9] ++ 0 :: 0 :: t) := Byt.app ha (byt_cons (by omega) (byt_cons (by omega) ht))
  have hs := (sumP_bd _ hz).1
  have hf := fold_bd hs
  unfold ref15_Patch.f
  rw [app_k _ _ (by simp; omega), Option.bind_some, List.nil_append]
  have c1 : ¬ ((10 : Int) < 0) := by omega
  have c2 : Int.tmod 10 2 = 0 := by decide
  have c3 : ¬ (IntKind.i64.wrap ((([x0, x1, x2, x3, x4, x5, x6, x7, x8, x9] ++ c :: d :: t).length : Int) - 1) ≤ 10) := by rw [i64w (by omega) (by omega)]; omega
  have e4 : IntKind.i64.wrap (10 + 1) = 11 := by decide
  simp only [c1, c2, c3, decide_false, decide_true, Bool.not_true, Bool.false_eq_true, if_false, Option.bind_some, e4, lt]
  have i1 : idx ([x0, x1, x2, x3, x4, x5, x6, x7, x8, x9] ++ c :: d :: t) 10 = some c := rfl
  have s1 : ([x0, x1, x2, x3, x4, x5, x6, x7, x8, x9] ++ c :: d :: t).set (10 : Int).toNat 0 = [x0, x1, x2, x3, x4, x5, x6, x7, x8, x9] ++ 0 :: d :: t := rfl
  have i2 : idx ([x0, x1, x2, x3, x4, x5, x6, x7, x8, x9] ++ 0 :: d :: t) 11 = some d := rfl
  have s2 : ([x0, x1, x2, x3, x4, x5, x6, x7, x8, x9] ++ 0 :: d :: t).set (11 : Int).toNat 0 = [x0, x1, x2, x3, x4, x5, x6, x7, x8, x9] ++ 0 :: 0 :: t := rfl
  have hzl : ([x0, x1, x2, x3, x4, x5, x6, x7, x8, x9] ++ 0 :: 0 :: t).length = t.length + 12 := by simp
  rw [i1, Option.bind_some, s1, i2, Option.bind_some, s2, rsum_is hz (by omega), Option.bind_some]
  have i3 : idx ([x0, x1, x2, x3, x4, x5, x6, x7, x8, x9] ++ 0 :: 0 :: t) 10 = some 0 := rfl
  obtain ⟨v, hv⟩ : ∃ v, 65535 - fold (sumP ([x0, x1, x2, x3, x4, x5, x6, x7, x8, x9] ++ 0 :: 0 :: t)) = v := ⟨_, rfl⟩
  have hv2 : 0 ≤ v ∧ v ≤ 65535 := by omega
  have w1 : IntKind.u8.wrap (IntKind.i64.wrap (Int.tdiv v 256)) = v / 256 % 256 := by rw [Int.tdiv_eq_ediv_of_nonneg hv2.1, i64w (by omega) (by omega), u8w]
  have w2 : IntKind.u8.wrap (Int.tmod v 256) = v % 256 := by rw [Int.tmod_eq_emod_of_nonneg hv2.1, u8w]; omega
  rw [hv, i3, Option.bind_some, w1, w2]
  have s3 : ([x0, x1, x2, x3, x4, x5, x6, x7, x8, x9] ++ 0 :: 0 :: t).set (10 : Int).toNat (v / 256 % 256) = [x0, x1, x2, x3, x4, x5, x6, x7, x8, x9] ++ (v / 256 % 256) :: 0 :: t := rfl
  have i4 : idx ([x0, x1, x2, x3, x4, x5, x6, x7, x8, x9] ++ (v / 256 % 256) :: 0 :: t) 11 = some 0 := rfl
  rw [s3, i4, Option.bind_some]
  unfold patched ck
  rw [hv]
  rfl
theorem rn2 (x : Int) : ref17_two.f x = some [x / 256 % 256, x % 256] := by
  unfold ref17_two.f; rw [rput2, u64e]; simp only [Option.bind_some]
  rw [show x % 18446744073709551616 / 256 % 256 = x / 256 % 256 by omega, show x % 18446744073709551616 % 256 = x % 256 by omega]
theorem rPut_is (p : TIp) (hl : p.Options.length ≤ 9223372036854775807) (hb : Byt p.Options) (hs : 0 ≤ p.Src ∧ p.Src < 4294967296) (hd : 0 ≤ p.Dst ∧ p.Dst < 4294967296) : ref17_Put.f p = if IR p then some (putP p, 0) else some ([], 2) := by
  unfold ref17_Put.f
  rw [rright17 p hl, Option.bind_some]
  by_cases h : IR p
  case neg => simp [h]
  obtain ⟨h1, h2, h3, h4, h5, h6, h7, h8, h9⟩ := ir_num h
  rw [if_pos h]
  simp only [h, decide_true, Bool.not_true, Bool.false_eq_true, if_false, lt]
  have e1 : IntKind.i64.wrap (20 + (p.Options.length : Int)) = 20 + (p.Options.length : Int) := i64w (by omega) (by omega)
  have e2 : IntKind.i64.wrap (64 + IntKind.i64.wrap (Int.tdiv (20 + (p.Options.length : Int)) 4)) = 64 + (5 + (p.Options.length : Int) / 4) := by rw [Int.tdiv_eq_ediv_of_nonneg (by omega), i64w (x := (20 + _) / 4) (by omega) (by omega), i64w (by omega) (by omega)]; omega
  have e3 : IntKind.i64.wrap (20 + (p.Options.length : Int) + (p.Data.length : Int)) = 20 + (p.Options.length : Int) + p.Data.length := i64w (by omega) (by omega)
  have e4 : IntKind.i64.wrap (IntKind.i64.wrap (p.Flags * 8192) + p.Off) = p.Flags * 8192 + p.Off := by rw [i64w (x := p.Flags * 8192) (by omega) (by omega), i64w (by omega) (by omega)]
  have r4 : ∀ x : Int, ref01_Put.f x 4 true = some (by4 x) := fun x => rput4 x
  rw [e1, e2, e3, e4]
  simp only [rn2, r4, Option.bind_some, u8w]
  have b4 : ∀ x : Int, (by4 x).length = 4 := fun x => rfl
  rw [app_k _ _ (by simp), Option.bind_some, app_k _ _ (by simp), Option.bind_some, app_k _ _ (by simp), Option.bind_some, app_k _ _ (by simp), Option.bind_some, app_k _ _ (by simp [b4]), Option.bind_some, app_k _ _ (by simp [b4]), Option.bind_some, app_k _ _ (by simp [b4]; omega), Option.bind_some]
  have ef : ([(64 + (5 + (p.Options.length : Int) / 4)) % 256, p.Tos % 256] ++ [(20 + (p.Options.length : Int) + p.Data.length) / 256 % 256, (20 + (p.Options.length : Int) + p.Data.length) % 256] ++ [p.Id / 256 % 256, p.Id % 256] ++ [(p.Flags * 8192 + p.Off) / 256 % 256, (p.Flags * 8192 + p.Off) % 256] ++ [p.Ttl % 256, p.Proto % 256, 0, 0] ++ by4 p.Src ++ by4 p.Dst ++ p.Options : List Int) = h10 p ++ 0 :: 0 :: tl p := by
    simp only [h10, tl, List.cons_append, List.nil_append, List.append_assoc]
    rw [show (64 + (5 + (p.Options.length : Int) / 4)) % 256 = 64 + (5 + (p.Options.length : Int) / 4) by omega, show p.Tos % 256 = p.Tos by omega, show (20 + (p.Options.length : Int) + p.Data.length) / 256 % 256 = (20 + (p.Options.length : Int) + p.Data.length) / 256 by omega, show p.Id / 256 % 256 = p.Id / 256 by omega, show (p.Flags * 8192 + p.Off) / 256 % 256 = p.Flags * 32 + p.Off / 256 by omega, show (p.Flags * 8192 + p.Off) % 256 = p.Off % 256 by omega, show p.Ttl % 256 = p.Ttl by omega, show p.Proto % 256 = p.Proto by omega]
  rw [ef]
  have hp : ref15_Patch.f (h10 p ++ 0 :: 0 :: tl p) 10 = some (patched (h10 p) (tl p)) := rpatch10 _ _ _ _ _ _ _ _ _ _ 0 0 (tl p) (byt_h10 h) (byt_tl hb) (by simp [tl, by4]; omega)
  rw [hp, Option.bind_some, app_k _ _ (by rw [len_patched]; omega)]
  rfl
theorem rnum (x : List Int) (v : Int) (hg : ref01_Get.f x true = some v) (hv : 0 ≤ v ∧ v < 9223372036854775808) : ref17_number.f x = some v := by
  unfold ref17_number.f
  rw [hg, Option.bind_some]
  simp only [lt]
  rw [i64w (by omega) (by omega)]
theorem lt_eq {α β : Type} (e : α) (f : α → Option β) : lt e f = f e := by unfold lt; exact rfl
theorem get17_eq (b : List Int) (hb : Byt b) (hl : b.length ≤ 70000) : ∃ r, ip_Get.f b = some r ∧ ref17_Get.f b = some r := by
  by_cases c : (b.length : Int) < 20
  case pos =>
    exact ⟨((⟨0, 0, 0, 0, 0, 0, 0, 0, [], []⟩ : TIp), 160), by unfold ip_Get.f ip_get.f; simp only [lt_eq, decide_true, decide_false, Bool.not_true, Bool.not_false, Bool.false_eq_true, if_true, if_false, Option.bind_some, ip_no.f, ip_errno.f, c], by unfold ref17_Get.f; simp only [lt_eq, decide_true, decide_false, Bool.not_true, Bool.not_false, Bool.false_eq_true, if_true, if_false, Option.bind_some, ip_no.f, ip_errno.f, c]⟩
  obtain ⟨z, hz, hzb⟩ := idx_at b hb 0 (by omega) (by omega)
  have t0 := and15 z hzb
  have t1 : Int.tmod z 16 = z % 16 := Int.tmod_eq_emod_of_nonneg hzb.1
  obtain ⟨n, hn⟩ : ∃ n, z % 16 * 4 = n := ⟨_, rfl⟩
  have e1 : IntKind.i64.wrap (z % 16 * 4) = n := by rw [i64w (by omega) (by omega), hn]
  have e2 : IntKind.u8.wrap (Int.tdiv z 16) = z / 16 := by rw [Int.tdiv_eq_ediv_of_nonneg hzb.1, u8w]; omega
  have e3 := shr4 z
  by_cases c1 : z / 16 = 4
  case neg =>
    exact ⟨((⟨0, 0, 0, 0, 0, 0, 0, 0, [], []⟩ : TIp), 161), by unfold ip_Get.f ip_get.f; simp only [lt_eq, decide_true, decide_false, Bool.not_true, Bool.not_false, Bool.false_eq_true, if_true, if_false, Option.bind_some, ip_no.f, ip_errno.f, c, hz, t0, t1, e1, e2, e3, c1], by unfold ref17_Get.f; simp only [lt_eq, decide_true, decide_false, Bool.not_true, Bool.not_false, Bool.false_eq_true, if_true, if_false, Option.bind_some, ip_no.f, ip_errno.f, c, hz, t0, t1, e1, e2, e3, c1]⟩
  by_cases c2 : n < 20
  case pos =>
    exact ⟨((⟨0, 0, 0, 0, 0, 0, 0, 0, [], []⟩ : TIp), 161), by unfold ip_Get.f ip_get.f; simp only [lt_eq, decide_true, decide_false, Bool.not_true, Bool.not_false, Bool.false_eq_true, if_true, if_false, Option.bind_some, ip_no.f, ip_errno.f, c, hz, t0, t1, e1, e2, e3, c1, c2], by unfold ref17_Get.f; simp only [lt_eq, decide_true, decide_false, Bool.not_true, Bool.not_false, Bool.false_eq_true, if_true, if_false, Option.bind_some, ip_no.f, ip_errno.f, c, hz, t0, t1, e1, e2, e3, c1, c2]⟩
  by_cases c3 : (b.length : Int) < n
  case pos =>
    exact ⟨((⟨0, 0, 0, 0, 0, 0, 0, 0, [], []⟩ : TIp), 160), by unfold ip_Get.f ip_get.f; simp only [lt_eq, decide_true, decide_false, Bool.not_true, Bool.not_false, Bool.false_eq_true, if_true, if_false, Option.bind_some, ip_no.f, ip_errno.f, c, hz, t0, t1, e1, e2, e3, c1, c2, c3], by unfold ref17_Get.f; simp only [lt_eq, decide_true, decide_false, Bool.not_true, Bool.not_false, Bool.false_eq_true, if_true, if_false, Option.bind_some, ip_no.f, ip_errno.f, c, hz, t0, t1, e1, e2, e3, c1, c2, c3]⟩
  have hbt : Byt (b.take n.toNat) := fun x hx => hb x (List.mem_of_mem_take hx)
  have hbl : (b.take n.toNat).length ≤ 1099511627776 := by rw [List.length_take]; omega
  have hc := cut_take b n (by omega) (by omega)
  have hr1 := right_is hbt hbl
  have hr2 := rright_is hbt hbl
  by_cases c4 : fold (sumP (b.take n.toNat)) = 65535
  case neg =>
    exact ⟨((⟨0, 0, 0, 0, 0, 0, 0, 0, [], []⟩ : TIp), 162), by unfold ip_Get.f ip_get.f; simp only [lt_eq, decide_true, decide_false, Bool.not_true, Bool.not_false, Bool.false_eq_true, if_true, if_false, Option.bind_some, ip_no.f, ip_errno.f, c, hz, t0, t1, e1, e2, e3, c1, c2, c3, hc, hr1, hr2, c4], by unfold ref17_Get.f; simp only [lt_eq, decide_true, decide_false, Bool.not_true, Bool.not_false, Bool.false_eq_true, if_true, if_false, Option.bind_some, ip_no.f, ip_errno.f, c, hz, t0, t1, e1, e2, e3, c1, c2, c3, hc, hr1, hr2, c4]⟩
  obtain ⟨xa, va, hva, ha1, ha2, ha3⟩ := rd2 b hb 2 4 (by omega) (by omega) (by omega)
  have ga : ip_get_1.f 2 2 b = some va := gn b xa va 2 2 4 (by decide) ha1 ha3 (by omega)
  have na := rnum xa va ha2 (by omega)
  by_cases c5 : va < n
  case pos =>
    exact ⟨((⟨0, 0, 0, 0, 0, 0, 0, 0, [], []⟩ : TIp), 161), by unfold ip_Get.f ip_get.f; simp only [lt_eq, decide_true, decide_false, Bool.not_true, Bool.not_false, Bool.false_eq_true, if_true, if_false, Option.bind_some, ip_no.f, ip_errno.f, c, hz, t0, t1, e1, e2, e3, c1, c2, c3, hc, hr1, hr2, c4, ha1, ga, na, c5], by unfold ref17_Get.f; simp only [lt_eq, decide_true, decide_false, Bool.not_true, Bool.not_false, Bool.false_eq_true, if_true, if_false, Option.bind_some, ip_no.f, ip_errno.f, c, hz, t0, t1, e1, e2, e3, c1, c2, c3, hc, hr1, hr2, c4, ha1, ga, na, c5]⟩
  by_cases c6 : (b.length : Int) < va
  case pos =>
    exact ⟨((⟨0, 0, 0, 0, 0, 0, 0, 0, [], []⟩ : TIp), 160), by unfold ip_Get.f ip_get.f; simp only [lt_eq, decide_true, decide_false, Bool.not_true, Bool.not_false, Bool.false_eq_true, if_true, if_false, Option.bind_some, ip_no.f, ip_errno.f, c, hz, t0, t1, e1, e2, e3, c1, c2, c3, hc, hr1, hr2, c4, ha1, ga, na, c5, c6], by unfold ref17_Get.f; simp only [lt_eq, decide_true, decide_false, Bool.not_true, Bool.not_false, Bool.false_eq_true, if_true, if_false, Option.bind_some, ip_no.f, ip_errno.f, c, hz, t0, t1, e1, e2, e3, c1, c2, c3, hc, hr1, hr2, c4, ha1, ga, na, c5, c6]⟩
  obtain ⟨q1, k1, b1, j1⟩ := cut1 b hb 1 2 (by omega) (by omega) (by omega)
  have g1 : ip_get_1.f 1 1 b = some q1 := gn b _ _ 1 1 2 (by decide) k1 (get1 b1) (by omega)
  obtain ⟨xi, vi, hvi, hi1, hi2, hi3⟩ := rd2 b hb 4 6 (by omega) (by omega) (by omega)
  have gi : ip_get_1.f 4 2 b = some vi := gn b xi vi 4 2 6 (by decide) hi1 hi3 (by omega)
  have ni := rnum xi vi hi2 (by omega)
  obtain ⟨u, v, hu, hub, hvb, hu1, _⟩ := cut2 b hb 6 8 (by omega) (by omega) (by omega)
  obtain ⟨q6, k6, b6, j6⟩ := cut1 b hb 6 7 (by omega) (by omega) (by omega)
  have e6 : q6 = u := by
    unfold idx at j6
    rw [if_pos (by omega), hu1] at j6
    exact (Option.some.inj j6).symm
  subst e6
  have g6 : ip_get_1.f 6 1 b = some q6 := gn b _ _ 6 1 7 (by decide) k6 (get1 b6) (by omega)
  have g62 : ip_get_1.f 6 2 b = some (q6 * 256 + v) := gn b _ _ 6 2 8 (by decide) hu (get2 hub hvb) (by omega)
  have n6 := rnum [q6, v] (q6 * 256 + v) (rget2 hub hvb) (by omega)
  obtain ⟨q8, k8, b8, j8⟩ := cut1 b hb 8 9 (by omega) (by omega) (by omega)
  have g8 : ip_get_1.f 8 1 b = some q8 := gn b _ _ 8 1 9 (by decide) k8 (get1 b8) (by omega)
  obtain ⟨q9, k9, b9, j9⟩ := cut1 b hb 9 10 (by omega) (by omega) (by omega)
  have g9 : ip_get_1.f 9 1 b = some q9 := gn b _ _ 9 1 10 (by decide) k9 (get1 b9) (by omega)
  obtain ⟨xs, vs, hvs, hs1, hs2, hs3⟩ := rd4 b hb 12 16 (by omega) (by omega) (by omega)
  have gs : ip_get_1.f 12 4 b = some vs := gn b xs vs 12 4 16 (by decide) hs1 hs3 (by omega)
  have ns := rnum xs vs hs2 (by omega)
  obtain ⟨xd, vd, hvd, hd1, hd2, hd3⟩ := rd4 b hb 16 20 (by omega) (by omega) (by omega)
  have gd : ip_get_1.f 16 4 b = some vd := gn b xd vd 16 4 20 (by decide) hd1 hd3 (by omega)
  have nd := rnum xd vd hd2 (by omega)
  obtain ⟨xo, ho⟩ : ∃ x, cut b 20 n = some x := ⟨_, by unfold cut; rw [if_pos (by omega)]⟩
  have hol : xo.length ≤ 70000 := by
    unfold cut at ho; rw [if_pos (by omega)] at ho; cases ho
    rw [List.length_drop, List.length_take]; omega
  obtain ⟨xd2, hdd⟩ : ∃ x, cut b n va = some x := ⟨_, by unfold cut; rw [if_pos (by omega)]⟩
  have hdl : xd2.length ≤ 70000 := by
    unfold cut at hdd; rw [if_pos (by omega)] at hdd; cases hdd
    rw [List.length_drop, List.length_take]; omega
  have f1 : ishr .i64 q6 5 = q6 / 32 := shr5 q6
  have f4 := and13 (q6 * 256 + v)
  have f2 : IntKind.i64.wrap (Int.tdiv (q6 * 256 + v) 8192) = q6 / 32 := by rw [Int.tdiv_eq_ediv_of_nonneg (by omega), i64w (by omega) (by omega)]; omega
  have f3 : Int.tmod (q6 * 256 + v) 8192 = (q6 * 256 + v) % 8192 := Int.tmod_eq_emod_of_nonneg (by omega)
  have a1 : app ([] : List Int) xo = some xo := by rw [app_k _ _ (by simp; omega)]; rfl
  have a2 : app ([] : List Int) xd2 = some xd2 := by rw [app_k _ _ (by simp; omega)]; rfl
  have cl1 := cloneB xo (by omega)
  have cl2 := cloneB xd2 (by omega)
  exact ⟨((⟨q1, vi, q6 / 32, (q6 * 256 + v) % 8192, q8, q9, IntKind.u32.wrap vs, IntKind.u32.wrap vd, xo, xd2⟩ : TIp), 0), by unfold ip_Get.f ip_get.f; simp only [lt_eq, decide_true, decide_false, Bool.not_true, Bool.not_false, Bool.false_eq_true, if_true, if_false, Option.bind_some, ip_no.f, ip_errno.f, c, hz, t0, t1, e1, e2, e3, c1, c2, c3, hc, hr1, hr2, c4, ha1, ga, na, c5, c6, g1, gi, g6, g62, g8, g9, gs, gd, ho, hdd, cl1, cl2, hu, n6, j1, hi1, ni, j8, j9, hs1, ns, hd1, nd, a1, a2, f1, f2, f3, f4], by unfold ref17_Get.f; simp only [lt_eq, decide_true, decide_false, Bool.not_true, Bool.not_false, Bool.false_eq_true, if_true, if_false, Option.bind_some, ip_no.f, ip_errno.f, c, hz, t0, t1, e1, e2, e3, c1, c2, c3, hc, hr1, hr2, c4, ha1, ga, na, c5, c6, g1, gi, g6, g62, g8, g9, gs, gd, ho, hdd, cl1, cl2, hu, n6, j1, hi1, ni, j8, j9, hs1, ns, hd1, nd, a1, a2, f1, f2, f3, f4]⟩
theorem same_refl (p : TIp) : ref17_Same.f [p] [p] = some true := by
  unfold ref17_Same.f
  have e0 : idx [p] 0 = some p := rfl
  rw [loop_in (s' := (1 : Int)) (by simp [e0, lt]; decide), loop_out (r := (.inl () : Unit ⊕ Bool)) (by simp)]
  simp
theorem ipTells (p : TIp) (gp : gIp p) (b : List Int) (gb : b.length ≤ maxLen ∧ ∀ z ∈ b, InR .u8 z) : law17_IpTells.f p b = some true := by
  obtain ⟨_, _, _, _, _, _, gs, gd, go, gD⟩ := gp
  unfold law17_IpTells.f
  by_cases c1 : 70000 < (b.length : Int)
  · simp [c1, heads17]
  by_cases c2 : 70000 < (p.Data.length : Int)
  · simp [c1, c2, heads17]
  obtain ⟨r, h1, h2⟩ := get17_eq b (Byt.of gb.2) (by omega)
  obtain ⟨x, hx1, hx2⟩ : ∃ x, ip_Put.f p = some x ∧ ref17_Put.f p = some x := by
    rw [ipPut_is p go.1 (Byt.of go.2) (inrU32 gs) (inrU32 gd), rPut_is p go.1 (Byt.of go.2) (inrU32 gs) (inrU32 gd)]
    by_cases h : IR p
    · rw [if_pos h]; exact ⟨_, rfl, rfl⟩
    · rw [if_neg h]; exact ⟨_, rfl, rfl⟩
  simp [c1, c2, h1, h2, hx1, hx2, law17_one.f, same_refl, rsame, heads17]
end Go.Proofs.YtaiadolmjmacfaaDoor.S
