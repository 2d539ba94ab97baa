/- Contracts of functions of the seat, written by a program of this session (with the kit's print) for the laws of this claim; no condition beside what each states. -/
import Derived.Test.YtpbofaghnfheiaaPx0
import Derived.Test.YtpbofaghnfheiaaPx1
namespace Go.Proofs.Ytpbofaghnfheiaa.P
open Go.Proofs.Ytpbofaghnfheiaa.Aux Go.RowKit Go.Proofs.YtpbofaghnfheiaaW.PrintWords Go.Proofs.YtpbofaghnfheiaaW.PrintLast Go.Proofs.YtpbofaghnfheiaaW.PrintMore
attribute [local go_sem] max2_int min2_int max_two min_two max_three min_three max_four min_four   -- for this text's walks alone
set_option linter.unusedVariables false
set_option linter.unusedSimpArgs false

/-! ### dhcp_options: function 16 -/
def mapD {H : Type} (kq eq : IntKind) (mp : List (Int × Int)) : DataW H := mp.foldr (fun p D => D.put (.int kq p.1) (.lit (.int eq p.2))) (.map [])
theorem mapD_isMap {H : Type} (kq eq : IntKind) : ∀ mp : List (Int × Int), Maps.IsMap (mapD (H := H) kq eq mp)
 | [] => Maps.isMap_empty
 | p :: t => (mapD_isMap kq eq t).put _ _
theorem mapD_at {H : Type} (kq eq : IntKind) (a z : Int) : ∀ mp : List (Int × Int), (mapD (H := H) kq eq mp).atKey (.int kq a) (.lit (.int eq z)) = .lit (.int eq ((mp.lookup a).getD z))
 | [] => rfl
 | (b, x) :: t => by
  by_cases h : a = b
  ·subst h
   have := Maps.atKey_put_same (mapD_isMap (H := H) kq eq t) (k := .int kq a) (by simp [WideAt.IsKeyLit]) (.lit (.int eq x)) (.lit (.int eq z))
   simpa [mapD, List.lookup] using this
  ·have := Maps.atKey_put_other (D := mapD (H := H) kq eq t) (k := .int kq b) (k' := .int kq a) (by simpa using h) (.lit (.int eq x)) (.lit (.int eq z))
   have e := mapD_at (H := H) kq eq a z t
   simp only [mapD, List.foldr_cons] at this ⊢
   rw [this, List.lookup_cons, show (a == b) = false by simpa using h]
   exact e
theorem mapD_has {H : Type} (kq eq : IntKind) (a : Int) : ∀ mp : List (Int × Int), Maps.has (mapD (H := H) kq eq mp) (.int kq a) = (mp.lookup a).isSome
 | [] => rfl
 | (b, x) :: t => by
  by_cases h : a = b
  ·subst h
   have := Maps.has_put_same (mapD_isMap (H := H) kq eq t) (k := .int kq a) (by simp [WideAt.IsKeyLit]) (.lit (.int eq x))
   simpa [mapD, List.lookup] using this
  ·have := Maps.has_put_other (D := mapD (H := H) kq eq t) (k := .int kq b) (k' := .int kq a) (by simpa using h) (.lit (.int eq x))
   have e := mapD_has (H := H) kq eq a t
   simp only [mapD, List.foldr_cons] at this ⊢
   rw [this, List.lookup_cons, show (a == b) = false by simpa using h]
   exact e
theorem ownsMap_below {H : Type} {P : Program} {k : TypeId} {R : Value → Option (DataW H × List MemPlace)} {b n B : Nat} {D : DataW H} {w w' : World} (h : w.ownsMap P k R b n D) (hb : Below B w w') (hB : b < B) : w'.ownsMap P k R b n D := by
 obtain ⟨es, clock, h1, h2⟩ := h
 exact ⟨es, clock, (hb.block b hB).trans h1, h2⟩
theorem wf_u8 {a : Int} (h0 : 0 ≤ a) (h1 : a < 256) : (Lit.int .u8 a).wf = true := by
 simp [Lit.wf, IntKind.min, IntKind.max, IntKind.bits, IntKind.signed] <;> omega
theorem wf_u32w (a : Int) : (Lit.int .u32 (IntKind.u32.wrap a)).wf = true := by
 have h1 := Int.emod_nonneg a (show (4294967296 : Int) ≠ 0 by decide)
 have h2 := Int.emod_lt_of_pos a (show (0 : Int) < 4294967296 by decide)
 simp [Lit.wf, IntKind.wrap, IntKind.min, IntKind.max, IntKind.bits, IntKind.signed] <;> omega
theorem room_len {n m l : Nat} (h : l ≤ 9223372036854775807) (h2 : n + m ≤ l) (h3 : 0 < (m : Int)) : n < maxLen := by
 unfold maxLen; omega
def optSize (k : Int) : Int := if k = 53 then 1 else if k = 50 ∨ k = 54 ∨ k = 51 ∨ k = 1 ∨ k = 3 ∨ k = 6 then 4 else 0
def dhcp_options.l : Nat → List Int → List (Int × Int) → Option (Option (List (Int × Int)))
 | 0, _, _ => none
 | k + 1, b, mp =>
  if b.length = 0 then some (some mp) else if rd b 0 = 255 then some (some mp) else if rd b 0 = 0 then dhcp_options.l k (b.drop 1) mp
  else if b.length < 2 then some none else if ¬ (0 ≤ rd b 0 ∧ rd b 0 < 256 ∧ 0 ≤ rd b 1 ∧ rd b 1 < 256) then none else if (b.length : Int) - 2 < rd b 1 then some none
  else if 0 < optSize (rd b 0) ∧ mp.lookup (rd b 0) = none ∧ (rd b 1 = optSize (rd b 0) ∨ (rd b 0 = 3 ∨ rd b 0 = 6) ∧ optSize (rd b 0) < rd b 1) then
   (bits_Get.f k (((b.take (2 + rd b 1).toNat).drop 2).take (optSize (rd b 0)).toNat) true).bind fun x => dhcp_options.l k (b.drop (2 + rd b 1).toNat) ((rd b 0, IntKind.u32.wrap x) :: mp)
  else dhcp_options.l k (b.drop (2 + rd b 1).toNat) mp
def dhcp_options.f (k : Nat) (l0 : List Int) : Option (Option (List (Int × Int))) := dhcp_options.l k l0 []
theorem dhcp_options.lmono : ∀ k b mp, LeO (dhcp_options.l k b mp) (dhcp_options.l (k + 1) b mp) := by
 intro k
 induction k with
 | zero => intro b mp; exact LeO.none _
 | succ k ih =>
  intro b mp
  rw [dhcp_options.l]
  conv => arg 2; rw [dhcp_options.l]
  repeat' first
   | exact ih _ _
   | exact LeO.refl _
   | exact bits_Get.mono _ _ _
   | refine LeO.ite ?_ ?_
   | refine LeO.bind ?_ (fun _ => ?_)
theorem dhcp_options.mono : ∀ l0 k, LeO (dhcp_options.f k l0) (dhcp_options.f (k + 1) l0) := fun l0 k => dhcp_options.lmono k l0 []
def dhcp_options.T7 : Bool × List (List Nat × List Nat) := (true, [([], []), ([0], [0]), ([1], [1]), ([], []), ([], []), ([4], [4]), ([5], [5]), ([6], [6]), ([7], [7]), ([3, 8], [3, 8]), ([2, 0, 1, 2], [2]), ([9, 10, 0, 1, 2, 3, 4, 5, 6, 7, 8, 9, 10], [9])])
def dhcp_options.B7 : List Nat := [0, 1, 3, 0, 0, 16, 48, 112, 240, 504, 7, 2047]
theorem dhcp_options.tab7 : rtab .any (opsOf Try.f16 7) = dhcp_options.T7 := by kernel_rfl
theorem dhcp_options.bits7 : waitsOk dhcp_options.T7.2 dhcp_options.B7 = true := by kernel_rfl
theorem optSize_f (a : Int) : dhcp_size.f a = some (optSize a) := by
 unfold dhcp_size.f optSize
 repeat (first | rfl | (split <;> rename_i h_) | (simp_all; done) | omega)
theorem optSize_le (a : Int) : 0 ≤ optSize a ∧ optSize a ≤ 4 := by
 unfold optSize
 repeat (first | omega | split)
set_option maxHeartbeats 8000000 in
set_option maxRecDepth 100000 in
theorem dhcp_options.calls (k : Nat) (A0 : Option Addr) (c0 : Nat) (l0 : List Int) (r : Option (List (Int × Int))) (w : World) (hr0 : Kd.C (Kd.int .u8) w A0 l0.length l0) (hc0 : l0.length ≤ c0) (h : dhcp_options.f k l0 = some r) :
  Calls Try.prog 16 #[.slice A0 l0.length c0] w fun e w' => Below w.heap.size w w' ∧ ((r = none ∧ e = .returned (.tuple #[.map none, .bool false])) ∨ ∃ mp bm n, r = some mp ∧ e = .returned (.tuple #[.map (some bm), .bool true]) ∧ w.heap.size ≤ bm ∧ w'.ownsMap (H := Unit) Try.prog 5 (plainElem Try.prog 24) bm n (mapD .u8 .u32 mp)) := by
 have HR:=mK hr0
 have HC:=mK hc0
 have HA:=mK h
 have HM:=mK (Kd.C_max hr0)
 clear hr0 hc0 h
 have HB:=mK (Below.refl w.heap.size w)
 have hmm:=@run_makeMap Try.prog
 go_enter Try.func16,Try.ntmps16
 go_wp2
 go_loopg [0] k (fun kq v0 w'=>∃ (b : List Int) (A : Option Addr) (c n : Nat) (mp : List (Int × Int)),v0 = .slice A b.length c∧Aside0 (b.length ≤ c)∧Aside0 (Kd.C (Kd.int .u8) w A b.length b)∧Aside0 (dhcp_options.l kq b mp = some r)∧Aside0 (kq ≤ k)∧Aside0 (n + b.length ≤ l0.length)∧Aside0 (w'.ownsMap (H:=Unit) Try.prog 5 (plainElem Try.prog 24) w.heap.size n (mapD .u8 .u32 mp))∧Aside0 (Below w.heap.size w w'))
 case atStart=>exact ⟨l0,A0,c0,0,[],rfl,HC,HR,HA,⟨Nat.le_refl _⟩,⟨by omega⟩,⟨World.ownsMap_made _ _ _ _⟩,⟨below_alloc (Below.refl _ w) _⟩⟩
 case round =>
  obtain ⟨b,A,c,n,mp,rfl,HC2,HR2,HA2,HK2,HN2,HO2,HB2⟩:=hrel
  cases gk with
  |zero=>exact absurd HA2.out (by simp [dhcp_options.l])
  |succ k1 =>
   have H:=HA2.out
   clear HA2
   simp only [dhcp_options.l] at H
   by_cases c1 : b.length = 0
   ·rw [if_pos c1] at H
    obtain rfl:=Option.some.inj H
    have d1 : decide (0 < (b.length : Int)) = false:=decide_eq_false (by omega)
    go_wp2
    go_ret2
    exact ⟨HB2.out,_,rfl,Nat.le_refl _,n,HO2.out⟩
   rw [if_neg c1] at H
   have d1 : decide (0 < (b.length : Int)) = true:=decide_eq_true (by omega)
   have q0 : (0 : Int) < (b.length : Int):= by omega
   obtain ⟨ad,eA,hx0⟩:=Kd.at_int (Kd.C_below HR2.out HB2.out) 0 (by omega) q0
   cases eA
   have p0:=eq_true q0
   (try rw [show ((0 : Int)).toNat = 0 from rfl] at hx0)
   (try rw [Addr.add_zero'] at hx0)
   by_cases c2 : rd b 0 = 255
   ·rw [if_pos c2] at H
    obtain rfl:=Option.some.inj H
    have d2 : (rd b 0 == 255) = true:= by simp [c2]
    have d3 : (rd b 0 != 255) = false:= by simp [c2]
    rw [c2] at hx0
    go_wp2
    go_ret2
    exact ⟨HB2.out,_,rfl,Nat.le_refl _,n,HO2.out⟩
   rw [if_neg c2] at H
   obtain ⟨i0,hi0,_,hsz,_⟩:=info_parts info5
   by_cases c3 : rd b 0 = 0
   ·rw [if_pos c3] at H
    rw [c3] at hx0
    have hcut:=cut_from (P:=Try.prog) 22 5 .i64 Try.underlying22 hi0 1 hsz (some ad) b.length c 1 (by omega) (by omega)
    have hr:=Kd.C_drop (m:=(1 : Int).toNat) (c:=c) HR2.out (by omega) HC2.out
    obtain ⟨A1,hA1⟩ : ∃ A1,A1 = (if c = (1 : Int).toNat then some ad else (some ad : Option Addr).map (·.add ((1 : Int).toNat * 1))):=⟨_,rfl⟩
    have hyl : (b.drop 1).length = b.length - (1 : Int).toNat:= by simp
    rw [← hA1,← hyl] at hcut
    have HR3:=mK (show Kd.C (Kd.int .u8) _ A1 (b.drop 1).length (b.drop 1) by rw [hA1];exact hr)
    have HC3:=mK (show (b.drop 1).length ≤ c - (1 : Int).toNat by have:=HC2.out;rw [hyl];omega)
    have HN3:=mK (show n + (b.drop 1).length ≤ l0.length by have:=HN2.out;rw [hyl];omega)
    have H':=mK H
    generalize b.drop 1 = y at hcut HR3 HC3 HN3 H'
    clear hr hyl hA1 H
    go_wp2
    go_roundg k1
    case measure=>have:=HK2.out;omega
    case rel=>exact ⟨y,A1,_,n,mp,rfl,HC3,HR3,H',⟨by have:=HK2.out;omega⟩,HN3,HO2,HB2⟩
   rw [if_neg c3] at H
   have e2 : (rd b 0 == 255) = false:= by simp [c2]
   have e3 : (rd b 0 != 255) = true:= by simp [c2]
   have e4 : (rd b 0 == 0) = false:= by simp [c3]
   by_cases c4 : b.length < 2
   ·rw [if_pos c4] at H
    obtain rfl:=Option.some.inj H
    have d4 : decide ((b.length : Int) < 2) = true:=decide_eq_true (by omega)
    go_wp2
    go_ret2
    exact ⟨HB2.out,rfl⟩
   rw [if_neg c4] at H
   have d4 : decide ((b.length : Int) < 2) = false:=decide_eq_false (by omega)
   have q1 : (1 : Int) < (b.length : Int):= by omega
   obtain ⟨ad',eA',hx1⟩:=Kd.at_int (Kd.C_below HR2.out HB2.out) 1 (by omega) q1
   cases eA'
   have p1:=eq_true q1
   rw [show ((1 : Int)).toNat = 1 from rfl] at hx1
   simp [Addr.add] at hx1
   have hM:=HM.out
   have hlen : (b.length : Int) - 2 = wrap64 ((b.length : Int) - 2):= by have:=HN2.out;unfold wrap64;unfold maxLen at hM;omega
   by_cases c6 : 0 ≤ rd b 0∧rd b 0 < 256∧0 ≤ rd b 1∧rd b 1 < 256
   case neg=>rw [if_pos c6] at H;cases H
   rw [if_neg (fun h=>h c6)] at H
   obtain ⟨e8a,e8b,e7a,e7b⟩:=c6
   have w1 : wrap64 (rd b 1) = rd b 1:= by unfold wrap64;omega
   have w2 : wrap64 (2 + rd b 1) = 2 + rd b 1:= by unfold wrap64;omega
   by_cases c5 : (b.length : Int) - 2 < rd b 1
   ·rw [if_pos c5] at H
    obtain rfl:=Option.some.inj H
    rw [hlen] at c5
    clear hlen hM
    have e5 : decide (wrap64 ((b.length : Int) - 2) < wrap64 (rd b 1)) = true:=decide_eq_true (by rw [w1];exact c5)
    have e5' : decide (wrap64 ((b.length : Int) - 2) < rd b 1) = true:=decide_eq_true c5
    go_wp2
    go_ret2
    exact ⟨HB2.out,rfl⟩
   rw [if_neg c5] at H
   have e6 : 2 + rd b 1 ≤ (b.length : Int):= by omega
   rw [hlen] at c5
   have e5 : decide (wrap64 ((b.length : Int) - 2) < wrap64 (rd b 1)) = false:=decide_eq_false (by rw [w1];exact c5)
   have e5' : decide (wrap64 ((b.length : Int) - 2) < rd b 1) = false:=decide_eq_false c5
   clear c5 hlen hM
   have hcut:=cut_mid (P:=Try.prog) 22 5 .i64 .i64 Try.underlying22 hi0 1 hsz (some ad) b.length c 2 (2 + rd b 1) (by omega) (by omega) e6 HC2.out
   have hcr:=Kd.C_mid (lo:=(2 : Int).toNat) (hi:=(2 + rd b 1).toNat) (c:=c) HR2.out (by omega) (by omega) HC2.out
   obtain ⟨A1,hA1⟩ : ∃ A1,A1 = (if c = (2 : Int).toNat then some ad else (some ad : Option Addr).map (·.add ((2 : Int).toNat * 1))):=⟨_,rfl⟩
   obtain ⟨y,hy⟩ : ∃ y,y = (b.take (2 + rd b 1).toNat).drop 2:=⟨_,rfl⟩
   have hyl : y.length = (2 + rd b 1).toNat - (2 : Int).toNat:= by rw [hy];simp;omega
   have hym : (y.length : Int) = rd b 1:= by rw [hyl];omega
   rw [← hA1,← hyl] at hcut
   have HRy:=mK (show Kd.C (Kd.int .u8) _ A1 y.length y by rw [hA1,hy];exact hcr)
   have HCy:=mK (show y.length ≤ c - 2 by have:=HC2.out;omega)
   have D2:=mK (World.ownsMap.drew HO2.out)
   have D3:=mK (below_drew1 HB2.out)
   replace hy:=mK hy
   replace hyl:=mK hyl
   replace hym:=mK hym
   replace hA1:=mK hA1
   clear hcr
   have p7:=eq_true e6
   go_wp2
   refine start_ (n:=12) (S:= fun w'=>w'.cell? ad = some (.int .u8 (rd b 0))∧w'.cell? ⟨ad.block,ad.off + 1,none⟩ = some (.int .u8 (rd b 1))) (ds:=[]) #[φ,φ,φ,φ,φ,φ,φ,φ,φ,φ,φ,φ] (by kernel_rfl) rfl rfl ⟨hx0,hx1⟩ (fun hHeld=>?_);refine with_tabW dhcp_options.tab7 dhcp_options.bits7 (fun HT_ HW_=>?_)
   clear HO2 HB2 hx0 hx1
   generalize wr.drew = W1 at D2 D3 hHeld ⊢
   refine pure_ (i:=0) (N:=some 40) (v:=?_) (a':=?_) #[τ,φ,φ,φ,φ,φ,φ,φ,φ,φ,φ,φ] rfl rfl (any_of HT_.out (by kernel_rfl)) (fun _ _ _ h=>h) (Or.inl ⟨by rfl,?_⟩) ?_ ?_
   rotate_left
   ·intro w'
    go_simp
    with_reducible rfl
   rotate_left
   ·simp only [Act.put,sT,sZ,sS,i64_w,i32_w]
    rfl
   refine pure_ (i:=1) (N:=some 41) (v:=?_) (a':=?_) #[τ,τ,φ,φ,φ,φ,φ,φ,φ,φ,φ,φ] rfl rfl (any_of HT_.out (by kernel_rfl)) (fun _ _ _ h=>h) (Or.inl ⟨by rfl,?_⟩) ?_ ?_
   rotate_left
   ·intro w'
    go_simp
    with_reducible rfl
   rotate_left
   ·simp only [Act.put,sT,sZ,sS,i64_w,i32_w]
    rfl
   refine pure_ (i:=3) (N:=some 43) (v:=?_) (a':=?_) #[τ,τ,φ,τ,φ,φ,φ,φ,φ,φ,φ,φ] rfl rfl (any_of HT_.out (by kernel_rfl)) (fun _ _ _ h=>h) (Or.inl ⟨by rfl,?_⟩) ?_ ?_
   rotate_left
   ·intro w'
    go_simp
    with_reducible rfl
   rotate_left
   ·simp only [Act.put,sT,sZ,sS,i64_w,i32_w]
    rfl
   refine pure_ (i:=4) (N:=some 44) (v:=?_) (a':=?_) #[τ,τ,φ,τ,τ,φ,φ,φ,φ,φ,φ,φ] rfl rfl (any_of HT_.out (by kernel_rfl)) (fun _ _ _ h=>h) (Or.inl ⟨by rfl,?_⟩) ?_ ?_
   rotate_left
   ·intro w'
    go_simp
    with_reducible rfl
   rotate_left
   ·simp only [Act.put,sT,sZ,sS,i64_w,i32_w]
    rfl
   refine pure_ (i:=5) (N:=some 45) (v:=?_) (a':=?_) #[τ,τ,φ,τ,τ,τ,φ,φ,φ,φ,φ,φ] rfl rfl (any_of HT_.out (by kernel_rfl)) (fun _ _ _ h=>h) (Or.inl ⟨by rfl,?_⟩) ?_ ?_
   rotate_left
   ·intro w'
    go_simp
    with_reducible rfl
   rotate_left
   ·simp only [Act.put,sT,sZ,sS,i64_w,i32_w]
    rfl
   refine take_ (i:=2) (N:=some 42) (v:=?_) (a':=?_) #[τ,τ,τ,τ,τ,τ,φ,φ,φ,φ,φ,φ] rfl rfl (take_ofW HT_.out HW_.out (by kernel_rfl)) (fun _ _ _ h=>h) (Or.inl ⟨by rfl,?_⟩) hHeld ?_ ?_
   rotate_left
   ·rintro w' ⟨s0,s1⟩
    go_simp
    with_reducible rfl
   rotate_left
   ·simp only [Act.put,sT,sZ,sS,i64_w,i32_w]
    rfl
   refine take_ (i:=6) (N:=some 46) (v:=?_) (a':=?_) #[τ,τ,τ,τ,τ,τ,τ,φ,φ,φ,φ,φ] rfl rfl (take_ofW HT_.out HW_.out (by kernel_rfl)) (fun _ _ _ h=>h) (Or.inl ⟨by rfl,?_⟩) hHeld ?_ ?_
   rotate_left
   ·rintro w' ⟨s0,s1⟩
    go_simp
    with_reducible rfl
   rotate_left
   ·simp only [Act.put,sT,sZ,sS,i64_w,i32_w]
    rfl
   refine pure_ (i:=7) (N:=some 47) (v:=?_) (a':=?_) #[τ,τ,τ,τ,τ,τ,τ,τ,φ,φ,φ,φ] rfl rfl (any_of HT_.out (by kernel_rfl)) (fun _ _ _ h=>h) (Or.inl ⟨by rfl,?_⟩) ?_ ?_
   rotate_left
   ·intro w'
    go_simp
    with_reducible rfl
   rotate_left
   ·simp only [Act.put,sT,sZ,sS,i64_w,i32_w]
    rfl
   refine pure_ (i:=8) (N:=some 48) (v:=?_) (a':=?_) #[τ,τ,τ,τ,τ,τ,τ,τ,τ,φ,φ,φ] rfl rfl (any_of HT_.out (by kernel_rfl)) (fun _ _ _ h=>h) (Or.inl ⟨by rfl,?_⟩) ?_ ?_
   rotate_left
   ·intro w'
    go_simp
    with_reducible rfl
   rotate_left
   ·simp only [Act.put,sT,sZ,sS,i64_w,i32_w]
    rfl
   refine pure_ (i:=9) (N:=some 49) (v:=?_) (a':=?_) #[τ,τ,τ,τ,τ,τ,τ,τ,τ,τ,φ,φ] rfl rfl (any_of HT_.out (by kernel_rfl)) (fun _ _ _ h=>h) (Or.inl ⟨by rfl,?_⟩) ?_ ?_
   rotate_left
   ·intro w'
    go_simp
    with_reducible rfl
   rotate_left
   ·simp only [Act.put,sT,sZ,sS,i64_w,i32_w]
    rfl
   refine pure_ (i:=10) (N:=some 5) (v:=?_) (a':=?_) #[τ,τ,τ,τ,τ,τ,τ,τ,τ,τ,τ,φ] rfl rfl (any_of HT_.out (by kernel_rfl)) (fun _ _ _ h=>h) (Or.inl ⟨by rfl,?_⟩) ?_ ?_
   rotate_left
   ·intro w'
    go_simp
    with_reducible rfl
   rotate_left
   ·simp only [Act.put,sT,sZ,sS,i64_w,i32_w]
    rfl
   refine pure_ (i:=11) (N:=some 6) (v:=?_) (a':=?_) #[τ,τ,τ,τ,τ,τ,τ,τ,τ,τ,τ,τ] rfl rfl (any_of HT_.out (by kernel_rfl)) (fun _ _ _ h=>h) (Or.inl ⟨by rfl,?_⟩) ?_ ?_
   rotate_left
   ·intro w'
    go_simp
    with_reducible rfl
   rotate_left
   ·simp only [Act.put,sT,sZ,sS,i64_w,i32_w]
    rfl
   refine done_ (done_of HT_.out (by kernel_rfl)) ?_
   clear hcut
   have law:=Go.Maps.int_keyed Try.underlying5
   have zer : ∀ w : World,(zeroValue 24).run Try.prog w = .ok (.int .u32 0) w:= fun _=>by kernel_rfl
   have hkey:=Go.Maps.keyOf_int_mk Try.underlying5 (a:=rd b 0) (wf_u8 e8a e8b)
   have hHas:=mapD_has (H:=Unit) .u8 .u32 (rd b 0) mp
   have hSz:=optSize_f (rd b 0)
   have hSz0:=optSize_le (rd b 0)
   have w2' : wrap64 (2 + (y.length : Int)) = 2 + (y.length : Int):= by rw [hym.out];exact w2
   obtain ⟨N,hN⟩ : ∃ N,N = optSize (rd b 0):=⟨_,rfl⟩
   rw [← hN] at H hSz hSz0
   obtain ⟨hS0,hS4⟩:=hSz0
   have hwN : N.toNat = N.toNat:=rfl
   have ZR:=mK (rfl : 0 = 0)
   by_cases k3 : rd b 0 = 3
   ·have k3b : (rd b 0 == 3) = true:= by simp [k3]
    have hN4 : 0 < N:= by rw [hN,k3];decide
    replace k3:=mK k3
    clear hN
    have g1b : decide (0 < N) = true:=decide_eq_true (by omega)
    cases hlk : mp.lookup (rd b 0) with
    |some v_ =>
     rw [if_neg (fun h=>by rw [hlk] at h;cases h.2.1)] at H
     rw [hlk] at hHas
     replace hHas : Go.Maps.has (mapD (H:=Unit) .u8 .u32 mp) (.int .u8 (rd b 0)) = true:=hHas
     have hcut:=cut_from (P:=Try.prog) 22 5 .i64 Try.underlying22 hi0 1 hsz (some ad) b.length c (2 + (y.length : Int)) (by omega) (by rw [hym.out];exact e6)
     have hr:=Kd.C_drop (m:=(2 + (y.length : Int)).toNat) (c:=c) HR2.out (by have:=hym.out;omega) HC2.out
     obtain ⟨A2,hA2⟩ : ∃ A2,A2 = (if c = (2 + (y.length : Int)).toNat then some ad else (some ad : Option Addr).map (·.add ((2 + (y.length : Int)).toNat * 1))):=⟨_,rfl⟩
     have hyl2 : (b.drop (2 + rd b 1).toNat).length = b.length - (2 + (y.length : Int)).toNat:= by rw [hym.out];simp
     rw [← hA2,← hyl2] at hcut
     have HR3:=mK (show Kd.C (Kd.int .u8) _ A2 (b.drop (2 + rd b 1).toNat).length (b.drop (2 + rd b 1).toNat) by rw [hA2];rw [hym.out] at hr ⊢; exact hr)
     have HC3:=mK (show (b.drop (2 + rd b 1).toNat).length ≤ c - (2 + (y.length : Int)).toNat by have:=HC2.out;rw [hyl2];omega)
     have HN3:=mK (show n + 1 + (b.drop (2 + rd b 1).toNat).length ≤ l0.length by have:=HN2.out;have:=hym.out;rw [hyl2];omega)
     have H':=mK H
     have p8:=eq_true (show 2 + (y.length : Int) ≤ (b.length : Int) by rw [hym.out];exact e6)
     generalize b.drop (2 + rd b 1).toNat = y2 at hcut HR3 HC3 HN3 H'
     clear hr hyl2 hA2 H
     go_wp2_with (first|(go_at_call 27;refine (dhcp_size.calls (rd b 0) N _ hSz).mono ?_;rintro e w4 ⟨rfl,hd4⟩;obtain ⟨n4,rfl⟩:=hd4.out;have E2:=mK (show (W1.drewN n4).ownsMap (H:=Unit) Try.prog 5 (plainElem Try.prog 24) w.heap.size n (mapD .u8 .u32 mp) from D2.out);have E3:=mK (pw_below_drewN D3.out n4);clear hd4 D2 D3;generalize W1.drewN n4 = W2 at E2 E3 ⊢)|(at_lookup;refine wpList_lookup_own_ok_int _ rfl _ _ 45 rfl 5 24 .u32 law Try.underlying45 Try.underlying24 (zer _) w.heap.size n _ rfl E2.out _ _ rfl hkey ?_;intro cq _ _))
     go_roundg k1
     case measure=>have:=HK2.out;omega
     case rel=>exact ⟨y2,A2,_,n,mp,rfl,HC3,HR3,H',⟨by have:=HK2.out;omega⟩,⟨by have:=HN3.out;omega⟩,E2,E3⟩
    |none =>
     rw [hlk] at hHas
     replace hHas : Go.Maps.has (mapD (H:=Unit) .u8 .u32 mp) (.int .u8 (rd b 0)) = false:=hHas
     by_cases g2 : (y.length : Int) = N
     case pos =>
      have g2' : rd b 1 = N:= by rw [← hym.out];exact g2
      have g2b : ((y.length : Int) == N) = true:=beq_iff_eq.2 g2
      rw [if_pos ⟨by omega,hlk,.inl g2'⟩] at H
      clear g2'
      replace g2:=mK g2
      obtain ⟨x,hx,H⟩:=Option.bind_eq_some_iff.1 H
      obtain ⟨z,hz⟩ : ∃ z,z = y.take N.toNat:=⟨_,rfl⟩
      rw [hy.out.symm,← hz] at hx
      have hzl : z.length = N.toNat:= by rw [hz,List.length_take];have:=g2.out;omega
      have hcz:=cut_to (P:=Try.prog) 22 5 .i64 Try.underlying22 hi0 A1 y.length (c - 2) N hS0 (by have:=g2.out;omega) HCy.out
      have hrz:=Kd.C_take (m:=N.toNat) HRy.out (by have:=g2.out;omega)
      rw [← hz] at hrz
      rw [← hzl] at hcz
      have HRz:=mK hrz
      have HCz:=mK (show z.length ≤ c - 2 by have:=HCy.out;have:=g2.out;omega)
      have HX:=mK hx
      have hroom:=mK (room_len HM.out HN2.out (by omega))
      have p9:=eq_true hS0
      have p10 : (N ≤ (y.length : Int)) = True:=eq_true (by have:=g2.out;omega)
      clear hz hzl hx hrz
      have hcut:=cut_from (P:=Try.prog) 22 5 .i64 Try.underlying22 hi0 1 hsz (some ad) b.length c (2 + (y.length : Int)) (by omega) (by rw [hym.out];exact e6)
      have hr:=Kd.C_drop (m:=(2 + (y.length : Int)).toNat) (c:=c) HR2.out (by have:=hym.out;omega) HC2.out
      obtain ⟨A2,hA2⟩ : ∃ A2,A2 = (if c = (2 + (y.length : Int)).toNat then some ad else (some ad : Option Addr).map (·.add ((2 + (y.length : Int)).toNat * 1))):=⟨_,rfl⟩
      have hyl2 : (b.drop (2 + rd b 1).toNat).length = b.length - (2 + (y.length : Int)).toNat:= by rw [hym.out];simp
      rw [← hA2,← hyl2] at hcut
      have HR3:=mK (show Kd.C (Kd.int .u8) _ A2 (b.drop (2 + rd b 1).toNat).length (b.drop (2 + rd b 1).toNat) by rw [hA2];rw [hym.out] at hr ⊢; exact hr)
      have HC3:=mK (show (b.drop (2 + rd b 1).toNat).length ≤ c - (2 + (y.length : Int)).toNat by have:=HC2.out;rw [hyl2];omega)
      have HN3:=mK (show n + 1 + (b.drop (2 + rd b 1).toNat).length ≤ l0.length by have:=HN2.out;have:=hym.out;rw [hyl2];omega)
      have H':=mK H
      have p8:=eq_true (show 2 + (y.length : Int) ≤ (b.length : Int) by rw [hym.out];exact e6)
      generalize b.drop (2 + rd b 1).toNat = y2 at hcut HR3 HC3 HN3 H'
      clear hr hyl2 hA2 H
      go_wp2_with (first|(go_at_call 27;refine (dhcp_size.calls (rd b 0) N _ hSz).mono ?_;rintro e w4 ⟨rfl,hd4⟩;obtain ⟨n4,rfl⟩:=hd4.out;have E2:=mK (show (W1.drewN n4).ownsMap (H:=Unit) Try.prog 5 (plainElem Try.prog 24) w.heap.size n (mapD .u8 .u32 mp) from D2.out);have E3:=mK (pw_below_drewN D3.out n4);clear hd4 D2 D3;generalize W1.drewN n4 = W2 at E2 E3 ⊢)|(at_lookup;refine wpList_lookup_own_ok_int _ rfl _ _ 45 rfl 5 24 .u32 law Try.underlying45 Try.underlying24 (zer _) w.heap.size n _ rfl E2.out _ _ rfl hkey ?_;intro cq _ _)|(go_at_call 15;refine (bits_Get.calls k1 A1 (c - 2) z true x _ (Kd.C_below HRz.out (E3.out)) HCz.out HX.out).mono ?_;rintro e w5 ⟨rfl,hb5⟩;have F2:=mK (ownsMap_below E2.out hb5 (World.ownsMap.lt E2.out));have F3:=mK (E3.out.trans (hb5.mono E3.out.size));clear E2 E3 hb5)|(at_mapUpdate;refine wpList_mapUpdate_in _ rfl _ _ _ 45 rfl 5 24 law Try.underlying45 (plainElem Try.prog 24) w.heap.size n _ rfl F2.out hroom.out _ _ _ rfl rfl hkey _ [] (plainElem_int Try.underlying24 (wf_u32w _)) ?_;intro w6 hown6 hturn6;have G2:=mK hown6;have G3:=mK (Below.grown F3.out hturn6.grown F3.out.size (fun k_ e_=>by cases e_;exact Nat.le_refl _));clear hown6 hturn6 F2 F3))
      go_roundg k1
      case measure=>have:=HK2.out;omega
      case rel=>exact ⟨y2,A2,_,n + 1,(rd b 0,IntKind.u32.wrap x) :: mp,rfl,HC3,HR3,H',⟨by have:=HK2.out;omega⟩,HN3,G2,G3⟩
     have g2b : ((y.length : Int) == N) = false:=beq_eq_false_iff_ne.2 g2
     have g2' : rd b 1 ≠ N:= by rw [← hym.out];exact g2
     by_cases g3 : N < (y.length : Int)
     case pos =>
      rw [if_pos ⟨by omega,hlk,.inr ⟨by simp [k3.out],by rw [← hym.out];exact g3⟩⟩] at H
      have g3b : decide (N < (y.length : Int)) = true:=decide_eq_true (by omega)
      clear g2 g2'
      obtain ⟨x,hx,H⟩:=Option.bind_eq_some_iff.1 H
      obtain ⟨z,hz⟩ : ∃ z,z = y.take N.toNat:=⟨_,rfl⟩
      rw [hy.out.symm,← hz] at hx
      have hzl : z.length = N.toNat:= by rw [hz,List.length_take];omega
      have hcz:=cut_to (P:=Try.prog) 22 5 .i64 Try.underlying22 hi0 A1 y.length (c - 2) N hS0 (by omega) HCy.out
      have hrz:=Kd.C_take (m:=N.toNat) HRy.out (by omega)
      rw [← hz] at hrz
      rw [← hzl] at hcz
      have HRz:=mK hrz
      have HCz:=mK (show z.length ≤ c - 2 by have:=HCy.out;omega)
      have HX:=mK hx
      have hroom:=mK (room_len HM.out HN2.out (by omega))
      have p9:=eq_true hS0
      have p10 : (N ≤ (y.length : Int)) = True:=eq_true (by omega)
      clear hz hzl hx hrz
      have hcut:=cut_from (P:=Try.prog) 22 5 .i64 Try.underlying22 hi0 1 hsz (some ad) b.length c (2 + (y.length : Int)) (by omega) (by rw [hym.out];exact e6)
      have hr:=Kd.C_drop (m:=(2 + (y.length : Int)).toNat) (c:=c) HR2.out (by have:=hym.out;omega) HC2.out
      obtain ⟨A2,hA2⟩ : ∃ A2,A2 = (if c = (2 + (y.length : Int)).toNat then some ad else (some ad : Option Addr).map (·.add ((2 + (y.length : Int)).toNat * 1))):=⟨_,rfl⟩
      have hyl2 : (b.drop (2 + rd b 1).toNat).length = b.length - (2 + (y.length : Int)).toNat:= by rw [hym.out];simp
      rw [← hA2,← hyl2] at hcut
      have HR3:=mK (show Kd.C (Kd.int .u8) _ A2 (b.drop (2 + rd b 1).toNat).length (b.drop (2 + rd b 1).toNat) by rw [hA2];rw [hym.out] at hr ⊢; exact hr)
      have HC3:=mK (show (b.drop (2 + rd b 1).toNat).length ≤ c - (2 + (y.length : Int)).toNat by have:=HC2.out;rw [hyl2];omega)
      have HN3:=mK (show n + 1 + (b.drop (2 + rd b 1).toNat).length ≤ l0.length by have:=HN2.out;have:=hym.out;rw [hyl2];omega)
      have H':=mK H
      have p8:=eq_true (show 2 + (y.length : Int) ≤ (b.length : Int) by rw [hym.out];exact e6)
      generalize b.drop (2 + rd b 1).toNat = y2 at hcut HR3 HC3 HN3 H'
      clear hr hyl2 hA2 H
      go_wp2_with (first|(go_at_call 27;refine (dhcp_size.calls (rd b 0) N _ hSz).mono ?_;rintro e w4 ⟨rfl,hd4⟩;obtain ⟨n4,rfl⟩:=hd4.out;have E2:=mK (show (W1.drewN n4).ownsMap (H:=Unit) Try.prog 5 (plainElem Try.prog 24) w.heap.size n (mapD .u8 .u32 mp) from D2.out);have E3:=mK (pw_below_drewN D3.out n4);clear hd4 D2 D3;generalize W1.drewN n4 = W2 at E2 E3 ⊢)|(at_lookup;refine wpList_lookup_own_ok_int _ rfl _ _ 45 rfl 5 24 .u32 law Try.underlying45 Try.underlying24 (zer _) w.heap.size n _ rfl E2.out _ _ rfl hkey ?_;intro cq _ _)|(go_at_call 15;refine (bits_Get.calls k1 A1 (c - 2) z true x _ (Kd.C_below HRz.out (E3.out)) HCz.out HX.out).mono ?_;rintro e w5 ⟨rfl,hb5⟩;have F2:=mK (ownsMap_below E2.out hb5 (World.ownsMap.lt E2.out));have F3:=mK (E3.out.trans (hb5.mono E3.out.size));clear E2 E3 hb5)|(at_mapUpdate;refine wpList_mapUpdate_in _ rfl _ _ _ 45 rfl 5 24 law Try.underlying45 (plainElem Try.prog 24) w.heap.size n _ rfl F2.out hroom.out _ _ _ rfl rfl hkey _ [] (plainElem_int Try.underlying24 (wf_u32w _)) ?_;intro w6 hown6 hturn6;have G2:=mK hown6;have G3:=mK (Below.grown F3.out hturn6.grown F3.out.size (fun k_ e_=>by cases e_;exact Nat.le_refl _));clear hown6 hturn6 F2 F3))
      go_roundg k1
      case measure=>have:=HK2.out;omega
      case rel=>exact ⟨y2,A2,_,n + 1,(rd b 0,IntKind.u32.wrap x) :: mp,rfl,HC3,HR3,H',⟨by have:=HK2.out;omega⟩,HN3,G2,G3⟩
     rw [if_neg (fun h=>by rcases h.2.2 with h'|h';exact g2' h';exact g3 (by rw [hym.out];exact h'.2))] at H
     have g3b : decide (N < (y.length : Int)) = false:=decide_eq_false (by omega)
     clear g3
     have hcut:=cut_from (P:=Try.prog) 22 5 .i64 Try.underlying22 hi0 1 hsz (some ad) b.length c (2 + (y.length : Int)) (by omega) (by rw [hym.out];exact e6)
     have hr:=Kd.C_drop (m:=(2 + (y.length : Int)).toNat) (c:=c) HR2.out (by have:=hym.out;omega) HC2.out
     obtain ⟨A2,hA2⟩ : ∃ A2,A2 = (if c = (2 + (y.length : Int)).toNat then some ad else (some ad : Option Addr).map (·.add ((2 + (y.length : Int)).toNat * 1))):=⟨_,rfl⟩
     have hyl2 : (b.drop (2 + rd b 1).toNat).length = b.length - (2 + (y.length : Int)).toNat:= by rw [hym.out];simp
     rw [← hA2,← hyl2] at hcut
     have HR3:=mK (show Kd.C (Kd.int .u8) _ A2 (b.drop (2 + rd b 1).toNat).length (b.drop (2 + rd b 1).toNat) by rw [hA2];rw [hym.out] at hr ⊢; exact hr)
     have HC3:=mK (show (b.drop (2 + rd b 1).toNat).length ≤ c - (2 + (y.length : Int)).toNat by have:=HC2.out;rw [hyl2];omega)
     have HN3:=mK (show n + 1 + (b.drop (2 + rd b 1).toNat).length ≤ l0.length by have:=HN2.out;have:=hym.out;rw [hyl2];omega)
     have H':=mK H
     have p8:=eq_true (show 2 + (y.length : Int) ≤ (b.length : Int) by rw [hym.out];exact e6)
     generalize b.drop (2 + rd b 1).toNat = y2 at hcut HR3 HC3 HN3 H'
     clear hr hyl2 hA2 H
     go_wp2_with (first|(go_at_call 27;refine (dhcp_size.calls (rd b 0) N _ hSz).mono ?_;rintro e w4 ⟨rfl,hd4⟩;obtain ⟨n4,rfl⟩:=hd4.out;have E2:=mK (show (W1.drewN n4).ownsMap (H:=Unit) Try.prog 5 (plainElem Try.prog 24) w.heap.size n (mapD .u8 .u32 mp) from D2.out);have E3:=mK (pw_below_drewN D3.out n4);clear hd4 D2 D3;generalize W1.drewN n4 = W2 at E2 E3 ⊢)|(at_lookup;refine wpList_lookup_own_ok_int _ rfl _ _ 45 rfl 5 24 .u32 law Try.underlying45 Try.underlying24 (zer _) w.heap.size n _ rfl E2.out _ _ rfl hkey ?_;intro cq _ _))
     go_roundg k1
     case measure=>have:=HK2.out;omega
     case rel=>exact ⟨y2,A2,_,n,mp,rfl,HC3,HR3,H',⟨by have:=HK2.out;omega⟩,⟨by have:=HN3.out;omega⟩,E2,E3⟩
   have k3b : (rd b 0 == 3) = false:= by simp [k3]
   by_cases k6 : rd b 0 = 6
   ·have k6b : (rd b 0 == 6) = true:= by simp [k6]
    have hN4 : 0 < N:= by rw [hN,k6];decide
    replace k6:=mK k6
    clear hN
    have g1b : decide (0 < N) = true:=decide_eq_true (by omega)
    cases hlk : mp.lookup (rd b 0) with
    |some v_ =>
     rw [if_neg (fun h=>by rw [hlk] at h;cases h.2.1)] at H
     rw [hlk] at hHas
     replace hHas : Go.Maps.has (mapD (H:=Unit) .u8 .u32 mp) (.int .u8 (rd b 0)) = true:=hHas
     have hcut:=cut_from (P:=Try.prog) 22 5 .i64 Try.underlying22 hi0 1 hsz (some ad) b.length c (2 + (y.length : Int)) (by omega) (by rw [hym.out];exact e6)
     have hr:=Kd.C_drop (m:=(2 + (y.length : Int)).toNat) (c:=c) HR2.out (by have:=hym.out;omega) HC2.out
     obtain ⟨A2,hA2⟩ : ∃ A2,A2 = (if c = (2 + (y.length : Int)).toNat then some ad else (some ad : Option Addr).map (·.add ((2 + (y.length : Int)).toNat * 1))):=⟨_,rfl⟩
     have hyl2 : (b.drop (2 + rd b 1).toNat).length = b.length - (2 + (y.length : Int)).toNat:= by rw [hym.out];simp
     rw [← hA2,← hyl2] at hcut
     have HR3:=mK (show Kd.C (Kd.int .u8) _ A2 (b.drop (2 + rd b 1).toNat).length (b.drop (2 + rd b 1).toNat) by rw [hA2];rw [hym.out] at hr ⊢; exact hr)
     have HC3:=mK (show (b.drop (2 + rd b 1).toNat).length ≤ c - (2 + (y.length : Int)).toNat by have:=HC2.out;rw [hyl2];omega)
     have HN3:=mK (show n + 1 + (b.drop (2 + rd b 1).toNat).length ≤ l0.length by have:=HN2.out;have:=hym.out;rw [hyl2];omega)
     have H':=mK H
     have p8:=eq_true (show 2 + (y.length : Int) ≤ (b.length : Int) by rw [hym.out];exact e6)
     generalize b.drop (2 + rd b 1).toNat = y2 at hcut HR3 HC3 HN3 H'
     clear hr hyl2 hA2 H
     go_wp2_with (first|(go_at_call 27;refine (dhcp_size.calls (rd b 0) N _ hSz).mono ?_;rintro e w4 ⟨rfl,hd4⟩;obtain ⟨n4,rfl⟩:=hd4.out;have E2:=mK (show (W1.drewN n4).ownsMap (H:=Unit) Try.prog 5 (plainElem Try.prog 24) w.heap.size n (mapD .u8 .u32 mp) from D2.out);have E3:=mK (pw_below_drewN D3.out n4);clear hd4 D2 D3;generalize W1.drewN n4 = W2 at E2 E3 ⊢)|(at_lookup;refine wpList_lookup_own_ok_int _ rfl _ _ 45 rfl 5 24 .u32 law Try.underlying45 Try.underlying24 (zer _) w.heap.size n _ rfl E2.out _ _ rfl hkey ?_;intro cq _ _))
     go_roundg k1
     case measure=>have:=HK2.out;omega
     case rel=>exact ⟨y2,A2,_,n,mp,rfl,HC3,HR3,H',⟨by have:=HK2.out;omega⟩,⟨by have:=HN3.out;omega⟩,E2,E3⟩
    |none =>
     rw [hlk] at hHas
     replace hHas : Go.Maps.has (mapD (H:=Unit) .u8 .u32 mp) (.int .u8 (rd b 0)) = false:=hHas
     by_cases g2 : (y.length : Int) = N
     case pos =>
      have g2' : rd b 1 = N:= by rw [← hym.out];exact g2
      have g2b : ((y.length : Int) == N) = true:=beq_iff_eq.2 g2
      rw [if_pos ⟨by omega,hlk,.inl g2'⟩] at H
      clear g2'
      replace g2:=mK g2
      obtain ⟨x,hx,H⟩:=Option.bind_eq_some_iff.1 H
      obtain ⟨z,hz⟩ : ∃ z,z = y.take N.toNat:=⟨_,rfl⟩
      rw [hy.out.symm,← hz] at hx
      have hzl : z.length = N.toNat:= by rw [hz,List.length_take];have:=g2.out;omega
      have hcz:=cut_to (P:=Try.prog) 22 5 .i64 Try.underlying22 hi0 A1 y.length (c - 2) N hS0 (by have:=g2.out;omega) HCy.out
      have hrz:=Kd.C_take (m:=N.toNat) HRy.out (by have:=g2.out;omega)
      rw [← hz] at hrz
      rw [← hzl] at hcz
      have HRz:=mK hrz
      have HCz:=mK (show z.length ≤ c - 2 by have:=HCy.out;have:=g2.out;omega)
      have HX:=mK hx
      have hroom:=mK (room_len HM.out HN2.out (by omega))
      have p9:=eq_true hS0
      have p10 : (N ≤ (y.length : Int)) = True:=eq_true (by have:=g2.out;omega)
      clear hz hzl hx hrz
      have hcut:=cut_from (P:=Try.prog) 22 5 .i64 Try.underlying22 hi0 1 hsz (some ad) b.length c (2 + (y.length : Int)) (by omega) (by rw [hym.out];exact e6)
      have hr:=Kd.C_drop (m:=(2 + (y.length : Int)).toNat) (c:=c) HR2.out (by have:=hym.out;omega) HC2.out
      obtain ⟨A2,hA2⟩ : ∃ A2,A2 = (if c = (2 + (y.length : Int)).toNat then some ad else (some ad : Option Addr).map (·.add ((2 + (y.length : Int)).toNat * 1))):=⟨_,rfl⟩
      have hyl2 : (b.drop (2 + rd b 1).toNat).length = b.length - (2 + (y.length : Int)).toNat:= by rw [hym.out];simp
      rw [← hA2,← hyl2] at hcut
      have HR3:=mK (show Kd.C (Kd.int .u8) _ A2 (b.drop (2 + rd b 1).toNat).length (b.drop (2 + rd b 1).toNat) by rw [hA2];rw [hym.out] at hr ⊢; exact hr)
      have HC3:=mK (show (b.drop (2 + rd b 1).toNat).length ≤ c - (2 + (y.length : Int)).toNat by have:=HC2.out;rw [hyl2];omega)
      have HN3:=mK (show n + 1 + (b.drop (2 + rd b 1).toNat).length ≤ l0.length by have:=HN2.out;have:=hym.out;rw [hyl2];omega)
      have H':=mK H
      have p8:=eq_true (show 2 + (y.length : Int) ≤ (b.length : Int) by rw [hym.out];exact e6)
      generalize b.drop (2 + rd b 1).toNat = y2 at hcut HR3 HC3 HN3 H'
      clear hr hyl2 hA2 H
      go_wp2_with (first|(go_at_call 27;refine (dhcp_size.calls (rd b 0) N _ hSz).mono ?_;rintro e w4 ⟨rfl,hd4⟩;obtain ⟨n4,rfl⟩:=hd4.out;have E2:=mK (show (W1.drewN n4).ownsMap (H:=Unit) Try.prog 5 (plainElem Try.prog 24) w.heap.size n (mapD .u8 .u32 mp) from D2.out);have E3:=mK (pw_below_drewN D3.out n4);clear hd4 D2 D3;generalize W1.drewN n4 = W2 at E2 E3 ⊢)|(at_lookup;refine wpList_lookup_own_ok_int _ rfl _ _ 45 rfl 5 24 .u32 law Try.underlying45 Try.underlying24 (zer _) w.heap.size n _ rfl E2.out _ _ rfl hkey ?_;intro cq _ _)|(go_at_call 15;refine (bits_Get.calls k1 A1 (c - 2) z true x _ (Kd.C_below HRz.out (E3.out)) HCz.out HX.out).mono ?_;rintro e w5 ⟨rfl,hb5⟩;have F2:=mK (ownsMap_below E2.out hb5 (World.ownsMap.lt E2.out));have F3:=mK (E3.out.trans (hb5.mono E3.out.size));clear E2 E3 hb5)|(at_mapUpdate;refine wpList_mapUpdate_in _ rfl _ _ _ 45 rfl 5 24 law Try.underlying45 (plainElem Try.prog 24) w.heap.size n _ rfl F2.out hroom.out _ _ _ rfl rfl hkey _ [] (plainElem_int Try.underlying24 (wf_u32w _)) ?_;intro w6 hown6 hturn6;have G2:=mK hown6;have G3:=mK (Below.grown F3.out hturn6.grown F3.out.size (fun k_ e_=>by cases e_;exact Nat.le_refl _));clear hown6 hturn6 F2 F3))
      go_roundg k1
      case measure=>have:=HK2.out;omega
      case rel=>exact ⟨y2,A2,_,n + 1,(rd b 0,IntKind.u32.wrap x) :: mp,rfl,HC3,HR3,H',⟨by have:=HK2.out;omega⟩,HN3,G2,G3⟩
     have g2b : ((y.length : Int) == N) = false:=beq_eq_false_iff_ne.2 g2
     have g2' : rd b 1 ≠ N:= by rw [← hym.out];exact g2
     by_cases g3 : N < (y.length : Int)
     case pos =>
      rw [if_pos ⟨by omega,hlk,.inr ⟨by simp [k6.out],by rw [← hym.out];exact g3⟩⟩] at H
      have g3b : decide (N < (y.length : Int)) = true:=decide_eq_true (by omega)
      clear g2 g2'
      obtain ⟨x,hx,H⟩:=Option.bind_eq_some_iff.1 H
      obtain ⟨z,hz⟩ : ∃ z,z = y.take N.toNat:=⟨_,rfl⟩
      rw [hy.out.symm,← hz] at hx
      have hzl : z.length = N.toNat:= by rw [hz,List.length_take];omega
      have hcz:=cut_to (P:=Try.prog) 22 5 .i64 Try.underlying22 hi0 A1 y.length (c - 2) N hS0 (by omega) HCy.out
      have hrz:=Kd.C_take (m:=N.toNat) HRy.out (by omega)
      rw [← hz] at hrz
      rw [← hzl] at hcz
      have HRz:=mK hrz
      have HCz:=mK (show z.length ≤ c - 2 by have:=HCy.out;omega)
      have HX:=mK hx
      have hroom:=mK (room_len HM.out HN2.out (by omega))
      have p9:=eq_true hS0
      have p10 : (N ≤ (y.length : Int)) = True:=eq_true (by omega)
      clear hz hzl hx hrz
      have hcut:=cut_from (P:=Try.prog) 22 5 .i64 Try.underlying22 hi0 1 hsz (some ad) b.length c (2 + (y.length : Int)) (by omega) (by rw [hym.out];exact e6)
      have hr:=Kd.C_drop (m:=(2 + (y.length : Int)).toNat) (c:=c) HR2.out (by have:=hym.out;omega) HC2.out
      obtain ⟨A2,hA2⟩ : ∃ A2,A2 = (if c = (2 + (y.length : Int)).toNat then some ad else (some ad : Option Addr).map (·.add ((2 + (y.length : Int)).toNat * 1))):=⟨_,rfl⟩
      have hyl2 : (b.drop (2 + rd b 1).toNat).length = b.length - (2 + (y.length : Int)).toNat:= by rw [hym.out];simp
      rw [← hA2,← hyl2] at hcut
      have HR3:=mK (show Kd.C (Kd.int .u8) _ A2 (b.drop (2 + rd b 1).toNat).length (b.drop (2 + rd b 1).toNat) by rw [hA2];rw [hym.out] at hr ⊢; exact hr)
      have HC3:=mK (show (b.drop (2 + rd b 1).toNat).length ≤ c - (2 + (y.length : Int)).toNat by have:=HC2.out;rw [hyl2];omega)
      have HN3:=mK (show n + 1 + (b.drop (2 + rd b 1).toNat).length ≤ l0.length by have:=HN2.out;have:=hym.out;rw [hyl2];omega)
      have H':=mK H
      have p8:=eq_true (show 2 + (y.length : Int) ≤ (b.length : Int) by rw [hym.out];exact e6)
      generalize b.drop (2 + rd b 1).toNat = y2 at hcut HR3 HC3 HN3 H'
      clear hr hyl2 hA2 H
      go_wp2_with (first|(go_at_call 27;refine (dhcp_size.calls (rd b 0) N _ hSz).mono ?_;rintro e w4 ⟨rfl,hd4⟩;obtain ⟨n4,rfl⟩:=hd4.out;have E2:=mK (show (W1.drewN n4).ownsMap (H:=Unit) Try.prog 5 (plainElem Try.prog 24) w.heap.size n (mapD .u8 .u32 mp) from D2.out);have E3:=mK (pw_below_drewN D3.out n4);clear hd4 D2 D3;generalize W1.drewN n4 = W2 at E2 E3 ⊢)|(at_lookup;refine wpList_lookup_own_ok_int _ rfl _ _ 45 rfl 5 24 .u32 law Try.underlying45 Try.underlying24 (zer _) w.heap.size n _ rfl E2.out _ _ rfl hkey ?_;intro cq _ _)|(go_at_call 15;refine (bits_Get.calls k1 A1 (c - 2) z true x _ (Kd.C_below HRz.out (E3.out)) HCz.out HX.out).mono ?_;rintro e w5 ⟨rfl,hb5⟩;have F2:=mK (ownsMap_below E2.out hb5 (World.ownsMap.lt E2.out));have F3:=mK (E3.out.trans (hb5.mono E3.out.size));clear E2 E3 hb5)|(at_mapUpdate;refine wpList_mapUpdate_in _ rfl _ _ _ 45 rfl 5 24 law Try.underlying45 (plainElem Try.prog 24) w.heap.size n _ rfl F2.out hroom.out _ _ _ rfl rfl hkey _ [] (plainElem_int Try.underlying24 (wf_u32w _)) ?_;intro w6 hown6 hturn6;have G2:=mK hown6;have G3:=mK (Below.grown F3.out hturn6.grown F3.out.size (fun k_ e_=>by cases e_;exact Nat.le_refl _));clear hown6 hturn6 F2 F3))
      go_roundg k1
      case measure=>have:=HK2.out;omega
      case rel=>exact ⟨y2,A2,_,n + 1,(rd b 0,IntKind.u32.wrap x) :: mp,rfl,HC3,HR3,H',⟨by have:=HK2.out;omega⟩,HN3,G2,G3⟩
     rw [if_neg (fun h=>by rcases h.2.2 with h'|h';exact g2' h';exact g3 (by rw [hym.out];exact h'.2))] at H
     have g3b : decide (N < (y.length : Int)) = false:=decide_eq_false (by omega)
     clear g3
     have hcut:=cut_from (P:=Try.prog) 22 5 .i64 Try.underlying22 hi0 1 hsz (some ad) b.length c (2 + (y.length : Int)) (by omega) (by rw [hym.out];exact e6)
     have hr:=Kd.C_drop (m:=(2 + (y.length : Int)).toNat) (c:=c) HR2.out (by have:=hym.out;omega) HC2.out
     obtain ⟨A2,hA2⟩ : ∃ A2,A2 = (if c = (2 + (y.length : Int)).toNat then some ad else (some ad : Option Addr).map (·.add ((2 + (y.length : Int)).toNat * 1))):=⟨_,rfl⟩
     have hyl2 : (b.drop (2 + rd b 1).toNat).length = b.length - (2 + (y.length : Int)).toNat:= by rw [hym.out];simp
     rw [← hA2,← hyl2] at hcut
     have HR3:=mK (show Kd.C (Kd.int .u8) _ A2 (b.drop (2 + rd b 1).toNat).length (b.drop (2 + rd b 1).toNat) by rw [hA2];rw [hym.out] at hr ⊢; exact hr)
     have HC3:=mK (show (b.drop (2 + rd b 1).toNat).length ≤ c - (2 + (y.length : Int)).toNat by have:=HC2.out;rw [hyl2];omega)
     have HN3:=mK (show n + 1 + (b.drop (2 + rd b 1).toNat).length ≤ l0.length by have:=HN2.out;have:=hym.out;rw [hyl2];omega)
     have H':=mK H
     have p8:=eq_true (show 2 + (y.length : Int) ≤ (b.length : Int) by rw [hym.out];exact e6)
     generalize b.drop (2 + rd b 1).toNat = y2 at hcut HR3 HC3 HN3 H'
     clear hr hyl2 hA2 H
     go_wp2_with (first|(go_at_call 27;refine (dhcp_size.calls (rd b 0) N _ hSz).mono ?_;rintro e w4 ⟨rfl,hd4⟩;obtain ⟨n4,rfl⟩:=hd4.out;have E2:=mK (show (W1.drewN n4).ownsMap (H:=Unit) Try.prog 5 (plainElem Try.prog 24) w.heap.size n (mapD .u8 .u32 mp) from D2.out);have E3:=mK (pw_below_drewN D3.out n4);clear hd4 D2 D3;generalize W1.drewN n4 = W2 at E2 E3 ⊢)|(at_lookup;refine wpList_lookup_own_ok_int _ rfl _ _ 45 rfl 5 24 .u32 law Try.underlying45 Try.underlying24 (zer _) w.heap.size n _ rfl E2.out _ _ rfl hkey ?_;intro cq _ _))
     go_roundg k1
     case measure=>have:=HK2.out;omega
     case rel=>exact ⟨y2,A2,_,n,mp,rfl,HC3,HR3,H',⟨by have:=HK2.out;omega⟩,⟨by have:=HN3.out;omega⟩,E2,E3⟩
   have k6b : (rd b 0 == 6) = false:= by simp [k6]
   clear hN
   by_cases g1 : 0 < N
   case neg =>
    rw [if_neg (fun h=>g1 h.1)] at H
    have g1b : decide (0 < N) = false:=decide_eq_false (by omega)
    have hcut:=cut_from (P:=Try.prog) 22 5 .i64 Try.underlying22 hi0 1 hsz (some ad) b.length c (2 + (y.length : Int)) (by omega) (by rw [hym.out];exact e6)
    have hr:=Kd.C_drop (m:=(2 + (y.length : Int)).toNat) (c:=c) HR2.out (by have:=hym.out;omega) HC2.out
    obtain ⟨A2,hA2⟩ : ∃ A2,A2 = (if c = (2 + (y.length : Int)).toNat then some ad else (some ad : Option Addr).map (·.add ((2 + (y.length : Int)).toNat * 1))):=⟨_,rfl⟩
    have hyl2 : (b.drop (2 + rd b 1).toNat).length = b.length - (2 + (y.length : Int)).toNat:= by rw [hym.out];simp
    rw [← hA2,← hyl2] at hcut
    have HR3:=mK (show Kd.C (Kd.int .u8) _ A2 (b.drop (2 + rd b 1).toNat).length (b.drop (2 + rd b 1).toNat) by rw [hA2];rw [hym.out] at hr ⊢; exact hr)
    have HC3:=mK (show (b.drop (2 + rd b 1).toNat).length ≤ c - (2 + (y.length : Int)).toNat by have:=HC2.out;rw [hyl2];omega)
    have HN3:=mK (show n + 1 + (b.drop (2 + rd b 1).toNat).length ≤ l0.length by have:=HN2.out;have:=hym.out;rw [hyl2];omega)
    have H':=mK H
    have p8:=eq_true (show 2 + (y.length : Int) ≤ (b.length : Int) by rw [hym.out];exact e6)
    generalize b.drop (2 + rd b 1).toNat = y2 at hcut HR3 HC3 HN3 H'
    clear hr hyl2 hA2 H
    go_wp2_with (first|(go_at_call 27;refine (dhcp_size.calls (rd b 0) N _ hSz).mono ?_;rintro e w4 ⟨rfl,hd4⟩;obtain ⟨n4,rfl⟩:=hd4.out;have E2:=mK (show (W1.drewN n4).ownsMap (H:=Unit) Try.prog 5 (plainElem Try.prog 24) w.heap.size n (mapD .u8 .u32 mp) from D2.out);have E3:=mK (pw_below_drewN D3.out n4);clear hd4 D2 D3;generalize W1.drewN n4 = W2 at E2 E3 ⊢)|(at_lookup;refine wpList_lookup_own_ok_int _ rfl _ _ 45 rfl 5 24 .u32 law Try.underlying45 Try.underlying24 (zer _) w.heap.size n _ rfl E2.out _ _ rfl hkey ?_;intro cq _ _))
    go_roundg k1
    case measure=>have:=HK2.out;omega
    case rel=>exact ⟨y2,A2,_,n,mp,rfl,HC3,HR3,H',⟨by have:=HK2.out;omega⟩,⟨by have:=HN3.out;omega⟩,E2,E3⟩
   have g1b : decide (0 < N) = true:=decide_eq_true (by omega)
   cases hlk : mp.lookup (rd b 0) with
   |some v_ =>
    rw [if_neg (fun h=>by rw [hlk] at h;cases h.2.1)] at H
    rw [hlk] at hHas
    replace hHas : Go.Maps.has (mapD (H:=Unit) .u8 .u32 mp) (.int .u8 (rd b 0)) = true:=hHas
    have hcut:=cut_from (P:=Try.prog) 22 5 .i64 Try.underlying22 hi0 1 hsz (some ad) b.length c (2 + (y.length : Int)) (by omega) (by rw [hym.out];exact e6)
    have hr:=Kd.C_drop (m:=(2 + (y.length : Int)).toNat) (c:=c) HR2.out (by have:=hym.out;omega) HC2.out
    obtain ⟨A2,hA2⟩ : ∃ A2,A2 = (if c = (2 + (y.length : Int)).toNat then some ad else (some ad : Option Addr).map (·.add ((2 + (y.length : Int)).toNat * 1))):=⟨_,rfl⟩
    have hyl2 : (b.drop (2 + rd b 1).toNat).length = b.length - (2 + (y.length : Int)).toNat:= by rw [hym.out];simp
    rw [← hA2,← hyl2] at hcut
    have HR3:=mK (show Kd.C (Kd.int .u8) _ A2 (b.drop (2 + rd b 1).toNat).length (b.drop (2 + rd b 1).toNat) by rw [hA2];rw [hym.out] at hr ⊢; exact hr)
    have HC3:=mK (show (b.drop (2 + rd b 1).toNat).length ≤ c - (2 + (y.length : Int)).toNat by have:=HC2.out;rw [hyl2];omega)
    have HN3:=mK (show n + 1 + (b.drop (2 + rd b 1).toNat).length ≤ l0.length by have:=HN2.out;have:=hym.out;rw [hyl2];omega)
    have H':=mK H
    have p8:=eq_true (show 2 + (y.length : Int) ≤ (b.length : Int) by rw [hym.out];exact e6)
    generalize b.drop (2 + rd b 1).toNat = y2 at hcut HR3 HC3 HN3 H'
    clear hr hyl2 hA2 H
    go_wp2_with (first|(go_at_call 27;refine (dhcp_size.calls (rd b 0) N _ hSz).mono ?_;rintro e w4 ⟨rfl,hd4⟩;obtain ⟨n4,rfl⟩:=hd4.out;have E2:=mK (show (W1.drewN n4).ownsMap (H:=Unit) Try.prog 5 (plainElem Try.prog 24) w.heap.size n (mapD .u8 .u32 mp) from D2.out);have E3:=mK (pw_below_drewN D3.out n4);clear hd4 D2 D3;generalize W1.drewN n4 = W2 at E2 E3 ⊢)|(at_lookup;refine wpList_lookup_own_ok_int _ rfl _ _ 45 rfl 5 24 .u32 law Try.underlying45 Try.underlying24 (zer _) w.heap.size n _ rfl E2.out _ _ rfl hkey ?_;intro cq _ _))
    go_roundg k1
    case measure=>have:=HK2.out;omega
    case rel=>exact ⟨y2,A2,_,n,mp,rfl,HC3,HR3,H',⟨by have:=HK2.out;omega⟩,⟨by have:=HN3.out;omega⟩,E2,E3⟩
   |none =>
    rw [hlk] at hHas
    replace hHas : Go.Maps.has (mapD (H:=Unit) .u8 .u32 mp) (.int .u8 (rd b 0)) = false:=hHas
    by_cases g2 : (y.length : Int) = N
    case pos =>
     have g2' : rd b 1 = N:= by rw [← hym.out];exact g2
     have g2b : ((y.length : Int) == N) = true:=beq_iff_eq.2 g2
     rw [if_pos ⟨by omega,hlk,.inl g2'⟩] at H
     clear g2'
     replace g2:=mK g2
     obtain ⟨x,hx,H⟩:=Option.bind_eq_some_iff.1 H
     obtain ⟨z,hz⟩ : ∃ z,z = y.take N.toNat:=⟨_,rfl⟩
     rw [hy.out.symm,← hz] at hx
     have hzl : z.length = N.toNat:= by rw [hz,List.length_take];have:=g2.out;omega
     have hcz:=cut_to (P:=Try.prog) 22 5 .i64 Try.underlying22 hi0 A1 y.length (c - 2) N hS0 (by have:=g2.out;omega) HCy.out
     have hrz:=Kd.C_take (m:=N.toNat) HRy.out (by have:=g2.out;omega)
     rw [← hz] at hrz
     rw [← hzl] at hcz
     have HRz:=mK hrz
     have HCz:=mK (show z.length ≤ c - 2 by have:=HCy.out;have:=g2.out;omega)
     have HX:=mK hx
     have hroom:=mK (room_len HM.out HN2.out (by omega))
     have p9:=eq_true hS0
     have p10 : (N ≤ (y.length : Int)) = True:=eq_true (by have:=g2.out;omega)
     clear hz hzl hx hrz
     have hcut:=cut_from (P:=Try.prog) 22 5 .i64 Try.underlying22 hi0 1 hsz (some ad) b.length c (2 + (y.length : Int)) (by omega) (by rw [hym.out];exact e6)
     have hr:=Kd.C_drop (m:=(2 + (y.length : Int)).toNat) (c:=c) HR2.out (by have:=hym.out;omega) HC2.out
     obtain ⟨A2,hA2⟩ : ∃ A2,A2 = (if c = (2 + (y.length : Int)).toNat then some ad else (some ad : Option Addr).map (·.add ((2 + (y.length : Int)).toNat * 1))):=⟨_,rfl⟩
     have hyl2 : (b.drop (2 + rd b 1).toNat).length = b.length - (2 + (y.length : Int)).toNat:= by rw [hym.out];simp
     rw [← hA2,← hyl2] at hcut
     have HR3:=mK (show Kd.C (Kd.int .u8) _ A2 (b.drop (2 + rd b 1).toNat).length (b.drop (2 + rd b 1).toNat) by rw [hA2];rw [hym.out] at hr ⊢; exact hr)
     have HC3:=mK (show (b.drop (2 + rd b 1).toNat).length ≤ c - (2 + (y.length : Int)).toNat by have:=HC2.out;rw [hyl2];omega)
     have HN3:=mK (show n + 1 + (b.drop (2 + rd b 1).toNat).length ≤ l0.length by have:=HN2.out;have:=hym.out;rw [hyl2];omega)
     have H':=mK H
     have p8:=eq_true (show 2 + (y.length : Int) ≤ (b.length : Int) by rw [hym.out];exact e6)
     generalize b.drop (2 + rd b 1).toNat = y2 at hcut HR3 HC3 HN3 H'
     clear hr hyl2 hA2 H
     go_wp2_with (first|(go_at_call 27;refine (dhcp_size.calls (rd b 0) N _ hSz).mono ?_;rintro e w4 ⟨rfl,hd4⟩;obtain ⟨n4,rfl⟩:=hd4.out;have E2:=mK (show (W1.drewN n4).ownsMap (H:=Unit) Try.prog 5 (plainElem Try.prog 24) w.heap.size n (mapD .u8 .u32 mp) from D2.out);have E3:=mK (pw_below_drewN D3.out n4);clear hd4 D2 D3;generalize W1.drewN n4 = W2 at E2 E3 ⊢)|(at_lookup;refine wpList_lookup_own_ok_int _ rfl _ _ 45 rfl 5 24 .u32 law Try.underlying45 Try.underlying24 (zer _) w.heap.size n _ rfl E2.out _ _ rfl hkey ?_;intro cq _ _)|(go_at_call 15;refine (bits_Get.calls k1 A1 (c - 2) z true x _ (Kd.C_below HRz.out (E3.out)) HCz.out HX.out).mono ?_;rintro e w5 ⟨rfl,hb5⟩;have F2:=mK (ownsMap_below E2.out hb5 (World.ownsMap.lt E2.out));have F3:=mK (E3.out.trans (hb5.mono E3.out.size));clear E2 E3 hb5)|(at_mapUpdate;refine wpList_mapUpdate_in _ rfl _ _ _ 45 rfl 5 24 law Try.underlying45 (plainElem Try.prog 24) w.heap.size n _ rfl F2.out hroom.out _ _ _ rfl rfl hkey _ [] (plainElem_int Try.underlying24 (wf_u32w _)) ?_;intro w6 hown6 hturn6;have G2:=mK hown6;have G3:=mK (Below.grown F3.out hturn6.grown F3.out.size (fun k_ e_=>by cases e_;exact Nat.le_refl _));clear hown6 hturn6 F2 F3))
     go_roundg k1
     case measure=>have:=HK2.out;omega
     case rel=>exact ⟨y2,A2,_,n + 1,(rd b 0,IntKind.u32.wrap x) :: mp,rfl,HC3,HR3,H',⟨by have:=HK2.out;omega⟩,HN3,G2,G3⟩
    have g2b : ((y.length : Int) == N) = false:=beq_eq_false_iff_ne.2 g2
    have g2' : rd b 1 ≠ N:= by rw [← hym.out];exact g2
    rw [if_neg (fun h=>by rcases h.2.2 with h'|h';exact g2' h';exact h'.1.elim k3 k6)] at H
    have hcut:=cut_from (P:=Try.prog) 22 5 .i64 Try.underlying22 hi0 1 hsz (some ad) b.length c (2 + (y.length : Int)) (by omega) (by rw [hym.out];exact e6)
    have hr:=Kd.C_drop (m:=(2 + (y.length : Int)).toNat) (c:=c) HR2.out (by have:=hym.out;omega) HC2.out
    obtain ⟨A2,hA2⟩ : ∃ A2,A2 = (if c = (2 + (y.length : Int)).toNat then some ad else (some ad : Option Addr).map (·.add ((2 + (y.length : Int)).toNat * 1))):=⟨_,rfl⟩
    have hyl2 : (b.drop (2 + rd b 1).toNat).length = b.length - (2 + (y.length : Int)).toNat:= by rw [hym.out];simp
    rw [← hA2,← hyl2] at hcut
    have HR3:=mK (show Kd.C (Kd.int .u8) _ A2 (b.drop (2 + rd b 1).toNat).length (b.drop (2 + rd b 1).toNat) by rw [hA2];rw [hym.out] at hr ⊢; exact hr)
    have HC3:=mK (show (b.drop (2 + rd b 1).toNat).length ≤ c - (2 + (y.length : Int)).toNat by have:=HC2.out;rw [hyl2];omega)
    have HN3:=mK (show n + 1 + (b.drop (2 + rd b 1).toNat).length ≤ l0.length by have:=HN2.out;have:=hym.out;rw [hyl2];omega)
    have H':=mK H
    have p8:=eq_true (show 2 + (y.length : Int) ≤ (b.length : Int) by rw [hym.out];exact e6)
    generalize b.drop (2 + rd b 1).toNat = y2 at hcut HR3 HC3 HN3 H'
    clear hr hyl2 hA2 H
    go_wp2_with (first|(go_at_call 27;refine (dhcp_size.calls (rd b 0) N _ hSz).mono ?_;rintro e w4 ⟨rfl,hd4⟩;obtain ⟨n4,rfl⟩:=hd4.out;have E2:=mK (show (W1.drewN n4).ownsMap (H:=Unit) Try.prog 5 (plainElem Try.prog 24) w.heap.size n (mapD .u8 .u32 mp) from D2.out);have E3:=mK (pw_below_drewN D3.out n4);clear hd4 D2 D3;generalize W1.drewN n4 = W2 at E2 E3 ⊢)|(at_lookup;refine wpList_lookup_own_ok_int _ rfl _ _ 45 rfl 5 24 .u32 law Try.underlying45 Try.underlying24 (zer _) w.heap.size n _ rfl E2.out _ _ rfl hkey ?_;intro cq _ _))
    go_roundg k1
    case measure=>have:=HK2.out;omega
    case rel=>exact ⟨y2,A2,_,n,mp,rfl,HC3,HR3,H',⟨by have:=HK2.out;omega⟩,⟨by have:=HN3.out;omega⟩,E2,E3⟩


/-! ### slices_Clone_byte_byte: function 17 -/
def slices_Clone_byte_byte.f (l0 : List Int) : Option (List Int) := if l0.length < 140737488355328 then some l0 else none
set_option maxHeartbeats 4000000 in
set_option maxRecDepth 100000 in
theorem slices_Clone_byte_byte.calls (A0 : Option Addr) (c0 : Nat) (l0 : List Int) (r : List Int) (w : World) (hr0 : Kd.C (Kd.int .u8) w A0 l0.length l0) (hc0 : l0.length ≤ c0) (h : slices_Clone_byte_byte.f l0 = some r) :
    Calls Try.prog 17 #[.slice A0 l0.length c0] w fun e w' => ∃ v0_ : Value, e = .returned (v0_) ∧ Kd.R (Kd.int .u8) 5 w' w.heap.size (fun _ => True) v0_ r ∧ Below w.heap.size w w' := by
  have HR0 := Aside0.mk hr0
  clear hr0
  unfold slices_Clone_byte_byte.f at h
  by_cases hl : l0.length < 140737488355328
  case neg => rw [if_neg hl] at h; exact absurd h (by simp)
  rw [if_pos hl] at h
  obtain rfl := Option.some.inj h
  clear h
  have HL := Aside0.mk hl
  clear hl
  cases A0 with
  | none =>
    have h0 : l0.length = 0 := by
      rcases Nat.eq_zero_or_pos l0.length with h | h
      · exact h
      · obtain ⟨ad, _, e, _⟩ := Kd.C_get HR0.out 0 0 (by omega) (by omega)
        exact absurd e (by simp)
    obtain rfl := List.eq_nil_of_length_eq_zero h0
    clear h0
    have hq := fun (w : World) (n c : Nat) => Lib.run_eql_slice_nil (P := Try.prog) w 22 5 none n c 0 0 Try.underlying22
    go_enter Try.func17, Try.ntmps17
    go_wp2
    go_ret
    exact ⟨_, rfl, Kd.R_nil _ _ _ _ _, Below.refl _ _⟩
  | some ad =>
    have hq := fun (w : World) (n c : Nat) => Lib.run_eql_slice_nil (P := Try.prog) w 22 5 (some ad) n c 0 0 Try.underlying22
    have HB := Aside0.mk (Below.refl w.heap.size w)
    go_enter Try.func17, Try.ntmps17
    go_wp2_with (first | ((with_reducible refine gate_dst (N := 5) rfl ?_); refine Kd.R_lit (Kd.int .u8) _ 5 ?hg (N := 5) ?hd (xs := ([] : List Int)) (inner := []) (ok := fun _ => True) (okp := fun _ => True) ?hr ?hp (fun _ hk => hk) trivial (Below.refl _ _) (Nat.le_refl _) (by simp) ?_; (case hd => rfl); (case hg => rfl); (case hr => first | (go_simp; done) | (go_simp; rfl)); (case hp => exact (Reps.none _ _)); intro v5 w5 ho6 hb hg_ hnew_; clear hg_ hnew_; have HO := Aside0.mk ho6; have HB := Aside0.mk hb; clear ho6 hb) | ((with_reducible refine gate_builtin (b := .append) (xs := #[.tmp 5, .tmp 6]) rfl ?_); at_builtin; refine Kd.R_append_rows (Kd.int .u8) (w0 := w) w.heap.size rfl (.tmp 5) (.tmp 6) 22 5 (.int .u8 0) 1 rfl Try.underlying22 info5 rfl (by decide) (by omega) v5 [] l0 _ _ _ (fun _ => True) (fun _ => False) rfl rfl HO.out (Kd.C_below HR0.out HB.out) (fun _ _ h => h) (fun _ h => h.elim) (fun _ _ => trivial) HB.out (below_size HB.out) ?aL ?_; (case aL => have := HL.out; simp only [List.length_nil]; omega); intro v7 w7 ho hb hg hat; have HO7 := Aside0.mk ho; have HB7 := Aside0.mk hb; clear ho hb hg hat))
    go_ret
    exact ⟨_, rfl, HO7.out, HB7.out⟩

end Go.Proofs.Ytpbofaghnfheiaa.P
