/- What the function of the law SegOptions answers: true, whatever the segment, the kind and the number. Its conditions: what data of these types are. -/
import Derived.Test.YthjaancddmecpaaPureSegBoth
namespace Go.Proofs.Ythjaancddmecpaa.S
open Go Go.SL
set_option linter.unusedVariables false
set_option linter.unusedSimpArgs false
/-- A head with other options. -/
def headO (s : TSeg) (o c : List Int) : List Int := by2 s.Src ++ (by2 s.Dst ++ (by4 s.Seq ++ (by4 s.Ack ++ ([(20 + o.length : Int) / 4 * 16 % 256] ++ ([s.Flags % 256] ++ (by2 s.Win ++ (c ++ (o ++ s.Data))))))))
theorem headO_len (s : TSeg) (o c : List Int) (hc : c.length = 4) : (headO s o c).length = 20 + o.length + s.Data.length := by
  simp [headO, by2, by4, hc]; omega
theorem byt_headO {s : TSeg} {o c : List Int} (hd : Byt s.Data) (ho : Byt o) (hc : Byt c) : Byt (headO s o c) :=
  (byt2 _).app ((byt2 _).app ((byt4 _).app ((byt4 _).app (Byt.app (fun x hx => by simp at hx; omega) (Byt.app (fun x hx => by simp at hx; omega) ((byt2 _).app (hc.app (ho.app hd))))))))
theorem get_isO (s : TSeg) (a b : Int) (o c : List Int) (hc : c.length = 4) (hcb : Byt c) (h : hdOk s) (ho4 : o.length % 4 = 0) (hol : o.length ≤ 40) (hob : Byt o) (hm : seg_mss.f o = some (s.Mss, true)) (hq : 0 ≤ s.Seq ∧ s.Seq < 4294967296) (ha : 0 ≤ s.Ack ∧ s.Ack < 4294967296) (hl : s.Data.length ≤ 60000) (hd : Byt s.Data)
    (hr : fold (sumP (pseudoOf a b (headO s o c).length ++ headO s o c)) = 65535) : seg_Get.f (headO s o c) a b = some (s, 0) := by
  have hlen := headO_len s o c hc
  have hby := byt_headO (s := s) hd hob hcb
  have hx : idx (headO s o c) 12 = some ((20 + o.length : Int) / 4 * 16 % 256) := rfl
  have hx13 : idx (headO s o c) 13 = some (s.Flags % 256) := rfl
  obtain ⟨h1, h2, h3, h4⟩ := h
  have ey : IntKind.i64.wrap (ishr .u8 ((20 + o.length : Int) / 4 * 16 % 256) 4 * 4) = 20 + (o.length : Int) := by
    unfold ishr; rw [show (2 : Int) ^ min (4 : Int).toNat IntKind.u8.bits = 16 by decide, i64w (by omega) (by omega)]; omega
  unfold seg_Get.f
  rw [if_neg (by simp; omega), hx, Option.bind_some]
  simp only [lt, ey]
  rw [if_neg (by simp; omega), Option.bind_some, if_neg (by simp; omega), if_neg (by simp; omega), covered_is _ _ _ (by omega), Option.bind_some,
    right_is ((byt_ps a b _).app hby) (by rw [List.length_append, ps_len]; omega), Option.bind_some]
  rw [if_neg (by simp [hr])]
  have c1 : cut (headO s o c) 20 (20 + (o.length : Int)) = some o := by
    have : headO s o c = (by2 s.Src ++ (by2 s.Dst ++ (by4 s.Seq ++ (by4 s.Ack ++ ([(20 + o.length : Int) / 4 * 16 % 256] ++ ([s.Flags % 256] ++ (by2 s.Win ++ c))))))) ++ (o ++ s.Data) := by simp [headO]
    rw [this]; exact cut_at _ _ _ _ _ (by simp [by2, by4, hc]) (by simp [by2, by4, hc])
  have c2 : cut (headO s o c) (20 + (o.length : Int)) ((headO s o c).length : Int) = some s.Data := by
    have : headO s o c = (by2 s.Src ++ (by2 s.Dst ++ (by4 s.Seq ++ (by4 s.Ack ++ ([(20 + o.length : Int) / 4 * 16 % 256] ++ ([s.Flags % 256] ++ (by2 s.Win ++ (c ++ o)))))))) ++ s.Data := by simp [headO]
    rw [hlen, this]; exact cut_end _ _ _ _ (by simp [by2, by4, hc]; omega) (by simp [by2, by4, hc]; omega)
  have g0 : seg_Get_1.f 0 2 (headO s o c) = some s.Src := get_2 [] s.Src _ 0 rfl (by simp) h1
  have g2 : seg_Get_1.f 2 2 (headO s o c) = some s.Dst := get_2 (by2 s.Src) s.Dst _ 2 rfl (by simp [by2]) h2
  have g4 : seg_Get_1.f 4 4 (headO s o c) = some s.Seq := get_4 (by2 s.Src ++ by2 s.Dst) s.Seq _ 4 rfl (by simp [by2]) hq
  have g8 : seg_Get_1.f 8 4 (headO s o c) = some s.Ack := get_4 (by2 s.Src ++ (by2 s.Dst ++ by4 s.Seq)) s.Ack _ 8 rfl (by simp [by2, by4]) ha
  have g14 : seg_Get_1.f 14 2 (headO s o c) = some s.Win := get_2 (by2 s.Src ++ (by2 s.Dst ++ (by4 s.Seq ++ (by4 s.Ack ++ ([(20 + o.length : Int) / 4 * 16 % 256] ++ [s.Flags % 256]))))) s.Win _ 14 rfl (by simp [by2, by4]) h4
  have hf : bits .and .u8 (s.Flags % 256) 63 = s.Flags := by
    have : ∀ k : Fin 64, bits .and .u8 ((k.val : Int) % 256) 63 = k.val := by decide
    have := this ⟨s.Flags.toNat, by omega⟩
    simpa [Int.toNat_of_nonneg h3.1] using this
  rw [c1, Option.bind_some, hm, Option.bind_some, if_neg (by simp), g0, Option.bind_some, g2, Option.bind_some, g4, Option.bind_some, g8, Option.bind_some, hx13, Option.bind_some, g14, Option.bind_some, c2]
  simp only [seg_head_seg.f, Option.bind_some, slices_Clone_s_byte_byte.f, hf]
  rw [app, if_pos (by simp; omega)]
  simp only [Option.bind_some, List.nil_append, u16w, u32w']
  rw [show s.Src % 65536 = s.Src by omega, show s.Dst % 65536 = s.Dst by omega, show s.Seq % 4294967296 = s.Seq by omega, show s.Ack % 4294967296 = s.Ack by omega, show s.Win % 65536 = s.Win by omega]
theorem sum_headO (s : TSeg) (o : List Int) (x : Int) (p : List Int) (hp : p.length % 2 = 0) : sumP (p ++ headO s o (by2 x ++ [0, 0])) = sumP (p ++ headO s o [0, 0, 0, 0]) + (x / 256 % 256 * 256 + x % 256) := by
  rw [sumP_cat _ _ hp, sumP_cat _ _ hp]
  simp only [headO, by2, by4, List.cons_append, List.nil_append, sumP]
  omega
def ckO (s : TSeg) (o : List Int) (a b : Int) : Int := 65535 - fold (sumP (pseudoOf a b ((headO s o [0, 0, 0, 0]).length) ++ headO s o [0, 0, 0, 0]))
theorem ckO_bd (s : TSeg) (o : List Int) (a b : Int) (hd : Byt s.Data) (ho : Byt o) : 0 ≤ ckO s o a b ∧ ckO s o a b ≤ 65535 := by
  have hby : Byt (headO s o [0, 0, 0, 0]) := byt_headO hd ho fun x hx => by simp at hx; omega
  have := fold_bd (sumP_bd _ ((byt_ps a b ((headO s o [0, 0, 0, 0]).length)).app hby)).1
  unfold ckO; omega
theorem right_putO (s : TSeg) (o : List Int) (a b : Int) (hd : Byt s.Data) (ho : Byt o) : fold (sumP (pseudoOf a b ((headO s o (by2 (ckO s o a b) ++ [0, 0])).length) ++ headO s o (by2 (ckO s o a b) ++ [0, 0]))) = 65535 := by
  have e : (headO s o (by2 (ckO s o a b) ++ [0, 0])).length = (headO s o [0, 0, 0, 0]).length := by rw [headO_len _ _ _ rfl, headO_len _ _ _ rfl]
  rw [e, sum_headO _ _ _ _ (by rw [ps_len])]
  have hby : Byt (headO s o [0, 0, 0, 0]) := byt_headO hd ho fun x hx => by simp at hx; omega
  have hp := (sumP_bd _ ((byt_ps a b ((headO s o [0, 0, 0, 0]).length)).app hby)).1
  have hf := fold_bd hp
  unfold ckO
  generalize hS : sumP (pseudoOf a b ((headO s o [0, 0, 0, 0]).length) ++ headO s o [0, 0, 0, 0]) = S at *
  have : (65535 - fold S) / 256 % 256 * 256 + (65535 - fold S) % 256 = 65535 - fold S := by omega
  rw [this]
  unfold fold at *
  split at * <;> split <;> omega
theorem patched_is (s : TSeg) (o : List Int) (hd : Byt s.Data) (ho : Byt o) (hl : s.Data.length ≤ 60000) (hol : o.length ≤ 40) : law19_patched.f (headO s o [0, 0, 0, 0]) = some (headO s o (by2 (ckO s o 1 2) ++ [0, 0])) := by
  have hlen := headO_len s o [0, 0, 0, 0] rfl
  have hlen2 := headO_len s o (by2 (ckO s o 1 2) ++ [0, 0]) rfl
  have hby : Byt (headO s o [0, 0, 0, 0]) := byt_headO hd ho fun x hx => by simp at hx; omega
  have hcb := ckO_bd s o 1 2 hd ho
  unfold law19_patched.f ref15_Patch.f
  rw [rpseudo_is _ _ _ ⟨by omega, by omega⟩, Option.bind_some, app_ok _ _ (by rw [ps_len]; omega), Option.bind_some, app_ok _ _ (by simp [ps_len]; omega), Option.bind_some, List.nil_append]
  have hall : (pseudoOf 1 2 ((headO s o [0, 0, 0, 0]).length) ++ headO s o [0, 0, 0, 0]).length = 12 + (headO s o [0, 0, 0, 0]).length := by rw [List.length_append, ps_len]
  rw [if_neg (by simp), if_neg (by decide), i64w (x := ((pseudoOf 1 2 ((headO s o [0, 0, 0, 0]).length) ++ headO s o [0, 0, 0, 0]).length : Int) - 1) (by omega) (by omega), hall]
  simp only [Option.bind_some]
  rw [if_neg (by simp; omega)]
  have x28 : idx (pseudoOf 1 2 ((headO s o [0, 0, 0, 0]).length) ++ headO s o [0, 0, 0, 0]) 28 = some 0 := rfl
  have w29 : IntKind.i64.wrap (28 + 1) = 29 := by decide
  rw [x28, Option.bind_some]
  have s28 : (pseudoOf 1 2 ((headO s o [0, 0, 0, 0]).length) ++ headO s o [0, 0, 0, 0]).set (28 : Int).toNat 0 = pseudoOf 1 2 ((headO s o [0, 0, 0, 0]).length) ++ headO s o [0, 0, 0, 0] := rfl
  have s29 : (pseudoOf 1 2 ((headO s o [0, 0, 0, 0]).length) ++ headO s o [0, 0, 0, 0]).set (29 : Int).toNat 0 = pseudoOf 1 2 ((headO s o [0, 0, 0, 0]).length) ++ headO s o [0, 0, 0, 0] := rfl
  have x29 : idx (pseudoOf 1 2 ((headO s o [0, 0, 0, 0]).length) ++ headO s o [0, 0, 0, 0]) 29 = some 0 := rfl
  simp only [lt, w29, s28, x29, Option.bind_some, s29]
  rw [rsum_is ((byt_ps _ _ _).app hby) (by rw [hall]; omega), Option.bind_some]
  have hck : (65535 - fold (sumP (pseudoOf 1 2 ((headO s o [0, 0, 0, 0]).length) ++ headO s o [0, 0, 0, 0]))) = ckO s o 1 2 := rfl
  rw [hck]
  have v1 : IntKind.u8.wrap (IntKind.i64.wrap (Int.tdiv (ckO s o 1 2) 256)) = ckO s o 1 2 / 256 % 256 := by rw [Int.tdiv_eq_ediv_of_nonneg hcb.1, i64w (by omega) (by omega), u8w]
  have v2 : IntKind.u8.wrap (Int.tmod (ckO s o 1 2) 256) = ckO s o 1 2 % 256 := by rw [Int.tmod_eq_emod_of_nonneg hcb.1, u8w]; omega
  have y29 : ∀ v, idx ((pseudoOf 1 2 ((headO s o [0, 0, 0, 0]).length) ++ headO s o [0, 0, 0, 0]).set (28 : Int).toNat v) 29 = some 0 := fun v => rfl
  rw [x28, Option.bind_some]
  simp only [v1, v2, y29, Option.bind_some]
  have fin : ((pseudoOf 1 2 ((headO s o [0, 0, 0, 0]).length) ++ headO s o [0, 0, 0, 0]).set (28 : Int).toNat (ckO s o 1 2 / 256 % 256)).set (29 : Int).toNat (ckO s o 1 2 % 256) = pseudoOf 1 2 ((headO s o [0, 0, 0, 0]).length) ++ headO s o (by2 (ckO s o 1 2) ++ [0, 0]) := rfl
  rw [fin, cut_to_end _ _ (by omega) (by rw [List.length_append, ps_len]; omega)]
  rfl
theorem mssW_ones : ∀ (j k : Nat) (n : Int) (f : Bool), mssW j (List.replicate k 1) n f = (n, true)
  | 0, _, _, _ => by simp [mssW]
  | j + 1, 0, _, _ => by simp [mssW]
  | j + 1, k + 1, n, f => by
    rw [List.replicate_succ, mssW, if_neg (by decide), if_pos rfl]
    exact mssW_ones j k n f
/-- The options that are put between. -/
def optsK (kind : Int) (n k : Nat) : List Int := 1 :: kind :: ((n : Int) + 2) :: (List.replicate n 0 ++ List.replicate k 1)
theorem mss_optsK (kind : Int) (hk : 3 ≤ kind ∧ kind < 256) (n k : Nat) (hn : n ≤ 30) (hkk : k ≤ 4) : seg_mss.f (optsK kind n k) = some (0, true) := by
  have hb : Byt (optsK kind n k) := fun x hx => by
    simp only [optsK, List.mem_cons, List.mem_append, List.mem_replicate] at hx
    omega
  rw [seg_mss_is _ hb (by simp [optsK]; omega)]
  congr 1
  have hl : (optsK kind n k).length = (n + k + 1) + 1 + 1 := by simp [optsK]
  rw [hl]
  unfold optsK
  rw [mssW, if_neg (by decide), if_pos rfl, mssW, if_neg (by omega), if_neg (by omega), if_neg (by simp), if_neg (by simp; omega), if_neg (by omega)]
  have : ((kind :: ((n : Int) + 2) :: (List.replicate n 0 ++ List.replicate k 1)).drop ((((n : Int) + 2) :: (List.replicate n 0 ++ List.replicate k (1 : Int))).headD 0).toNat) = List.replicate k (1 : Int) := by
    rw [List.headD_cons, show ((n : Int) + 2).toNat = n + 1 + 1 by omega, List.drop_succ_cons, List.drop_succ_cons]
    rw [List.drop_left' (by simp)]
  rw [this, mssW_ones]
theorem pad_is : ∀ (k : Nat) (l : List Int), k < 4 → (l.length + k) % 4 = 0 → l.length + k ≤ 1000 → loop (fun s1 => (if (!decide ((Int.tmod (s1.length : Int) 4) = 0)) = true then (app s1 ([1] : List Int)).bind fun x3 => some (.inl x3) else some (.inr (s1)))) l = some (l ++ List.replicate k 1)
  | 0, l, _, h, hl => by
    rw [loop_out (r := l) (by rw [Int.tmod_eq_emod_of_nonneg (by omega), if_neg (by simp; omega)])]; simp
  | k + 1, l, hk, h, hl => by
    rw [loop_in (s' := l ++ [1]) (by rw [Int.tmod_eq_emod_of_nonneg (by omega), if_pos (by simp; omega), app_ok _ _ (by simp; omega)]; rfl), pad_is k (l ++ [1]) (by omega) (by simp; omega) (by simp; omega)]
    rw [List.append_assoc, List.replicate_succ]; rfl
theorem segOptions (s : TSeg) (g : gSeg s) (kind : Int) (hkind : InR .u8 kind) (n : Int) (hn : InR .i64 n) : law19_SegOptions.f s kind n = some true := by
  obtain ⟨g1, g2, g3, g4, g5, g6, g7, g8, g9⟩ := g
  have hd : Byt s.Data := Byt.of g9
  have hkb : kind < 256 := by unfold InR at hkind; rw [u8w] at hkind; omega
  have hq := inrU32 g3
  have ha := inrU32 g4
  unfold law19_SegOptions.f
  by_cases c1 : (3000 : Int) < s.Data.length
  · simp [c1, heads]
  by_cases c2 : kind < 3
  · simp [c1, c2, heads]
  by_cases c3 : n < 0
  · simp [c1, c2, c3, heads]
  by_cases c4 : 30 < n
  · simp [c1, c2, c3, c4, heads]
  by_cases c5 : s.Mss = 0
  case neg => simp [c1, c2, c3, c4, c5, heads]
  simp only [c1, c2, c3, c4, c5, decide_true, decide_false, Bool.false_eq_true, if_false, Bool.not_true, Option.bind_some]
  have hm : 0 ≤ s.Mss ∧ s.Mss < 65536 := by omega
  by_cases hh : hdOk s
  case neg =>
    rw [put_not s 1 2 (fun e => hh e.1), Option.bind_some, if_pos (by simp), Option.bind_some, if_pos rfl, if_pos (by simp), heads]; rfl
  rw [put_is s 1 2 hh hm (by omega) hd, Option.bind_some]
  obtain ⟨ck, hck⟩ : ∃ ck, ck = ckOf s 1 2 := ⟨_, rfl⟩
  rw [← hck]
  have hh0 : headOf s (by2 ck ++ [0, 0]) = (by2 s.Src ++ (by2 s.Dst ++ (by4 s.Seq ++ (by4 s.Ack ++ ([80] ++ ([s.Flags % 256] ++ (by2 s.Win ++ (by2 ck ++ [0, 0])))))))) ++ s.Data := by
    simp [headOf, optsOf, c5]
  obtain ⟨p, hp⟩ : ∃ p, p = (by2 s.Src ++ (by2 s.Dst ++ (by4 s.Seq ++ (by4 s.Ack ++ ([80] ++ ([s.Flags % 256] ++ (by2 s.Win ++ (by2 ck ++ [0, 0])))))))) := ⟨_, rfl⟩
  rw [← hp] at hh0
  have hpl : p.length = 20 := by rw [hp]; rfl
  rw [hh0, if_neg (by simp)]
  simp only [Option.bind_some]
  rw [if_neg (by simp [hpl]; omega)]
  obtain ⟨m, rfl⟩ := Int.eq_ofNat_of_zero_le (show 0 ≤ n by omega)
  have hmk : mk (m : Int) (0 : Int) = some (List.replicate m 0) := by unfold mk; rw [if_pos ⟨by omega, by omega⟩]; simp
  have hw : IntKind.u8.wrap (IntKind.i64.wrap ((m : Int) + 2)) = (m : Int) + 2 := by rw [i64w (by omega) (by omega), u8w]; omega
  rw [hmk, Option.bind_some, hw, app_ok _ _ (by simp; omega), Option.bind_some]
  obtain ⟨k, hk4, hkm⟩ : ∃ k, k < 4 ∧ (3 + m + k) % 4 = 0 := ⟨(4 - (3 + m) % 4) % 4, by omega, by omega⟩
  rw [pad_is k _ hk4 (by simp; omega) (by simp; omega), Option.bind_some]
  have ho : ([1, kind, (m : Int) + 2] : List Int) ++ List.replicate m 0 ++ List.replicate k 1 = optsK kind m k := by simp [optsK]
  rw [ho]
  have hol : (optsK kind m k).length = 3 + m + k := by simp [optsK]; omega
  by_cases c6 : (40 : Int) < (optsK kind m k).length
  · rw [if_pos (by simpa using c6), heads]; rfl
  rw [if_neg (by simpa using c6)]
  have k1 : cut (p ++ s.Data) 0 20 = some p := by
    have := cut_at [] p s.Data 0 20 rfl (by rw [hpl]; rfl)
    simpa using this
  have k2 : cut (p ++ s.Data) 20 ((p ++ s.Data).length : Int) = some s.Data := cut_end p s.Data _ _ (by rw [hpl]; rfl) (by simp)
  rw [k1, Option.bind_some, app_ok _ _ (by simp; omega), Option.bind_some, List.nil_append, app_ok _ _ (by omega), Option.bind_some, k2, Option.bind_some, app_ok _ _ (by simp; omega), Option.bind_some]
  obtain ⟨o, hoe⟩ : ∃ o, optsK kind m k = o := ⟨_, rfl⟩
  rw [hoe] at hol c6 ⊢
  have hob : Byt o := fun x hx => by
    rw [← hoe] at hx
    simp only [optsK, List.mem_cons, List.mem_append, List.mem_replicate] at hx
    omega
  have w12 : IntKind.u8.wrap (IntKind.i64.wrap (80 + IntKind.i64.wrap (4 * (o.length : Int)))) = (20 + o.length : Int) / 4 * 16 % 256 := by
    rw [i64w (x := 4 * (o.length : Int)) (by omega) (by omega), i64w (by omega) (by omega), u8w]; omega
  have x12 : idx (p ++ o ++ s.Data) 12 = some 80 := by rw [hp]; rfl
  have x16 : ∀ v, idx ((p ++ o ++ s.Data).set (12 : Int).toNat v) 16 = some (ck / 256 % 256) := fun v => by rw [hp]; rfl
  have x17 : ∀ v, idx (((p ++ o ++ s.Data).set (12 : Int).toNat v).set (16 : Int).toNat 0) 17 = some (ck % 256) := fun v => by rw [hp]; rfl
  rw [x12, Option.bind_some]
  simp only [lt, w12, x16, x17, Option.bind_some]
  have hset : (((p ++ o ++ s.Data).set (12 : Int).toNat ((20 + o.length : Int) / 4 * 16 % 256)).set (16 : Int).toNat 0).set (17 : Int).toNat 0 = headO s o [0, 0, 0, 0] := by
    rw [hp, List.append_assoc]; rfl
  have hms : seg_mss.f o = some (s.Mss, true) := by rw [← hoe, c5]; exact mss_optsK kind ⟨by omega, hkb⟩ m k (by omega) (by omega)
  rw [hset, patched_is s o hd hob (by omega) (by omega), Option.bind_some,
    get_isO s 1 2 o _ rfl ((byt2 _).app fun x hx => by simp at hx; omega) hh (by omega) (by omega) hob hms hq ha (by omega) hd (right_putO s o 1 2 hd hob), Option.bind_some]
  simp only [decide_true, if_true, law19_one.f, Option.bind_some, Same_self, heads]
end Go.Proofs.Ythjaancddmecpaa.S
