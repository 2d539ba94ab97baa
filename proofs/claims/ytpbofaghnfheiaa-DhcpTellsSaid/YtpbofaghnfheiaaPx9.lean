/- Contracts of functions of the seat, written by a program of this session (with the kit's print) for the laws of this claim; no condition beside what each states. -/
import Derived.Test.YtpbofaghnfheiaaPx0
import Derived.Test.YtpbofaghnfheiaaPx3
import Derived.Test.YtpbofaghnfheiaaPx5
import Derived.Test.YtpbofaghnfheiaaPx7
import Derived.Test.YtpbofaghnfheiaaPx8
namespace Go.Proofs.Ytpbofaghnfheiaa.P
open Go.Proofs.Ytpbofaghnfheiaa.Aux Go.RowKit Go.Proofs.YtpbofaghnfheiaaW.PrintWords Go.Proofs.YtpbofaghnfheiaaW.PrintLast Go.Proofs.YtpbofaghnfheiaaW.PrintMore
attribute [local go_sem] max2_int min2_int max_two min_two max_three min_three max_four min_four   -- for this text's walks alone
set_option linter.unusedVariables false
set_option linter.unusedSimpArgs false

/-! ### drawbridgeref20_Get: function 12 -/
def drawbridgeref20_Get.bad1 (l0 : List Int) (mg : Int) : Bool := (rd l0 0 != 1 && rd l0 0 != 2) || (rd l0 1 != 1) || (rd l0 2 != 6) || (mg != 1669485411)
def drawbridgeref20_Get.bad2 (form ok : Bool) (T : List Int) : Bool := !form || !ok || decide (rd T 0 < 1) || decide (8 < rd T 0)
def drawbridgeref20_Get.g (k : Nat) (l0 ob T : List Int) : Option (Int × Int × Int × Int × List Int × Int × Int × Int × Int × Int × Int × Int × Int) := (drawbridgeref20_number.f k ((l0.take 8).drop 4)).bind fun x => (drawbridgeref20_number.f k ((l0.take 16).drop 12)).bind fun ci => (drawbridgeref20_number.f k ((l0.take 20).drop 16)).bind fun yi => (drawbridgeref20_value.f k ob 50 false).bind fun v50 => (drawbridgeref20_value.f k ob 54 false).bind fun v54 => (drawbridgeref20_value.f k ob 51 false).bind fun v51 => (drawbridgeref20_value.f k ob 1 false).bind fun v1 => (drawbridgeref20_value.f k ob 3 true).bind fun v3 => (drawbridgeref20_value.f k ob 6 true).bind fun v6 => some (wrap64 (rd l0 0), x, ci, yi, (l0.take 34).drop 28, wrap64 (rd T 0), v50, v54, v51, v1, v3, v6, 0)
def drawbridgeref20_Get.f (k : Nat) (l0 : List Int) : Option (Int × Int × Int × Int × List Int × Int × Int × Int × Int × Int × Int × Int × Int) := if (l0.length : Int) < 240 then some (0, 0, 0, 0, ([] : List Int), 0, 0, 0, 0, 0, 0, 0, 160) else (drawbridgeref20_number.f k ((l0.take 240).drop 236)).bind fun mg => if drawbridgeref20_Get.bad1 l0 mg = true then some (0, 0, 0, 0, ([] : List Int), 0, 0, 0, 0, 0, 0, 0, 161) else (drawbridgeref20_find.f k (l0.drop 240) 0 300 false).bind fun u => (drawbridgeref20_find.f k (l0.drop 240) 53 1 false).bind fun t => if t.2.1 = true ∧ t.1.length = 0 then none else if drawbridgeref20_Get.bad2 u.2.2 t.2.1 t.1 = true then some (0, 0, 0, 0, ([] : List Int), 0, 0, 0, 0, 0, 0, 0, 161) else drawbridgeref20_Get.g k l0 (l0.drop 240) t.1
theorem drawbridgeref20_Get.mono : ∀ l0 k, LeO (drawbridgeref20_Get.f k l0) (drawbridgeref20_Get.f (k + 1) l0) := by
 intro l0 k
 unfold drawbridgeref20_Get.f drawbridgeref20_Get.g
 repeat' first | with_reducible exact LeO.refl _ | with_reducible exact drawbridgeref20_number.mono _ _ | with_reducible exact drawbridgeref20_value.mono _ _ _ _ | with_reducible exact drawbridgeref20_find.mono _ _ _ _ _ | with_reducible refine LeO.bind ?_ (fun _ => ?_) | with_reducible refine LeO.ite ?_ ?_
structure RGet (w W : World) (g2 : Nat) : Prop where
 h2 : W.heap[g2]? = some (.cells #[.int .i64 0, .int .u32 0, .int .u32 0, .int .u32 0, .slice none 0 0, .int .i64 0, .int .u32 0, .int .u32 0, .int .u32 0, .int .u32 0, .int .u32 0, .int .u32 0] 26 (0, 0))
 hw : Below w.heap.size w W
 ge : w.heap.size ≤ g2
theorem RGet.below {w W W1 : World} {g2 : Nat} (h : RGet w W g2) (k : Below W.heap.size W W1) : RGet w W1 g2 := ⟨blk_below h.h2 k, below_step h.hw k, h.ge⟩
theorem RGet.drew {w W : World} {g2 : Nat} (h : RGet w W g2) : RGet w W.drew g2 := ⟨blk_drew h.h2, below_drew1 h.hw, h.ge⟩
def drawbridgeref20_Get.T10 : Bool × List (List Nat × List Nat) := (true, [([], []), ([0], [0]), ([1], [1]), ([2], [2]), ([], []), ([4], [4]), ([5], [5]), ([], []), ([7], [7]), ([8, 6], [8]), ([], []), ([10], [10]), ([11, 9], [11]), ([], []), ([], []), ([14], [14]), ([13, 15, 12], [13, 15]), ([], []), ([17], [17]), ([18], [18]), ([19], [19]), ([3, 6, 9, 12, 16, 20], [3, 6, 9, 12, 16, 20]), ([], []), ([22, 21, 16, 0, 1, 2, 3, 4, 5, 6, 7, 8, 9, 10, 11, 12, 13, 14, 15, 16, 17, 18, 19, 20, 21, 22], [21, 22])])
def drawbridgeref20_Get.B10 : List Nat := [0, 1, 3, 7, 0, 16, 48, 0, 128, 496, 0, 1024, 4080, 0, 0, 16384, 65520, 0, 131072, 393216, 917504, 2097151, 0, 8388607]
theorem drawbridgeref20_Get.tab10 : rtab .any (opsOf Try.f12 10) = drawbridgeref20_Get.T10 := by kernel_rfl
theorem drawbridgeref20_Get.bits10 : waitsOk drawbridgeref20_Get.T10.2 drawbridgeref20_Get.B10 = true := by kernel_rfl

set_option maxHeartbeats 1000000 in
set_option maxRecDepth 100000 in
theorem drawbridgeref20_Get.calls (k : Nat) (A0 : Option Addr) (c0 : Nat) (l0 : List Int) (r1 : Int) (r2 : Int) (r3 : Int) (r4 : Int) (r5 : List Int) (r6 : Int) (r7 : Int) (r8 : Int) (r9 : Int) (r10 : Int) (r11 : Int) (r12 : Int) (r13 : Int) (w : World) (hr0 : Kd.C (Kd.int .u8) w A0 l0.length l0) (hc0 : l0.length ≤ c0) (h : drawbridgeref20_Get.f k l0 = some (r1, r2, r3, r4, r5, r6, r7, r8, r9, r10, r11, r12, r13)) :
 Calls Try.prog 12 #[.slice A0 l0.length c0] w fun e w' => ∃ v4_ : Value, e = .returned (.tuple #[.agg #[.int .i64 r1, .int .u32 r2, .int .u32 r3, .int .u32 r4, v4_, .int .i64 r6, .int .u32 r7, .int .u32 r8, .int .u32 r9, .int .u32 r10, .int .u32 r11, .int .u32 r12], .int .i64 r13]) ∧ Kd.R (Kd.int .u8) 5 w' w.heap.size (fun _ => True) v4_ r5 ∧ Below w.heap.size w w' := by
 have hu26:=Try.underlying26
 have HR0:=mK hr0
 have HC0:=mK hc0
 have H:=h
 clear hr0 hc0 h
 have HB:=mK (Below.refl w.heap.size w)
 unfold drawbridgeref20_Get.f at H
 go_enter Try.func12,Try.ntmps12
 go_upto_region 1 with (((with_reducible refine gate_dst (N:=2) rfl ?_);(try (refine gate_guard (by rfl) ?_;dsimp only));refine box_event ?hg (N:=2) ?hd (cs:=#[.int .i64 0,.int .u32 0,.int .u32 0,.int .u32 0,.slice none 0 0,.int .i64 0,.int .u32 0,.int .u32 0,.int .u32 0,.int .u32 0,.int .u32 0,.int .u32 0]) (t:=26) ?hr ?_;(case hd=>rfl);(case hg=>rfl);(case hr=>first|(go_simp;done)|(go_simp;rfl));intro g2 hg w4 hbox hb;have HS:=mK (show RGet w w4 g2 from ⟨hbox,below_step HB.out hb,by rw [hg];exact below_size HB.out⟩);clear HB hb hbox hg))
 by_cases c1 : (l0.length : Int) < 240
 case pos =>
  rw [if_pos c1] at H
  have d1 : decide ((l0.length : Int) < 240) = true:=decide_eq_true c1
  have hz0_ : w4.cell? ⟨g2,0,none⟩ = some (.int .i64 0):=(blk_cell HS.out.h2 0).trans rfl
  have hf0_:=blk_frozen HS.out.h2 0
  have hz1_ : w4.cell? ⟨g2,1,none⟩ = some (.int .u32 0):=(blk_cell HS.out.h2 1).trans rfl
  have hf1_:=blk_frozen HS.out.h2 1
  have hz2_ : w4.cell? ⟨g2,2,none⟩ = some (.int .u32 0):=(blk_cell HS.out.h2 2).trans rfl
  have hf2_:=blk_frozen HS.out.h2 2
  have hz3_ : w4.cell? ⟨g2,3,none⟩ = some (.int .u32 0):=(blk_cell HS.out.h2 3).trans rfl
  have hf3_:=blk_frozen HS.out.h2 3
  have hz4_ : w4.cell? ⟨g2,4,none⟩ = some (.slice none 0 0):=(blk_cell HS.out.h2 4).trans rfl
  have hf4_:=blk_frozen HS.out.h2 4
  have hz5_ : w4.cell? ⟨g2,5,none⟩ = some (.int .i64 0):=(blk_cell HS.out.h2 5).trans rfl
  have hf5_:=blk_frozen HS.out.h2 5
  have hz6_ : w4.cell? ⟨g2,6,none⟩ = some (.int .u32 0):=(blk_cell HS.out.h2 6).trans rfl
  have hf6_:=blk_frozen HS.out.h2 6
  have hz7_ : w4.cell? ⟨g2,7,none⟩ = some (.int .u32 0):=(blk_cell HS.out.h2 7).trans rfl
  have hf7_:=blk_frozen HS.out.h2 7
  have hz8_ : w4.cell? ⟨g2,8,none⟩ = some (.int .u32 0):=(blk_cell HS.out.h2 8).trans rfl
  have hf8_:=blk_frozen HS.out.h2 8
  have hz9_ : w4.cell? ⟨g2,9,none⟩ = some (.int .u32 0):=(blk_cell HS.out.h2 9).trans rfl
  have hf9_:=blk_frozen HS.out.h2 9
  have hz10_ : w4.cell? ⟨g2,10,none⟩ = some (.int .u32 0):=(blk_cell HS.out.h2 10).trans rfl
  have hf10_:=blk_frozen HS.out.h2 10
  have hz11_ : w4.cell? ⟨g2,11,none⟩ = some (.int .u32 0):=(blk_cell HS.out.h2 11).trans rfl
  have hf11_:=blk_frozen HS.out.h2 11
  simp only [Option.some.injEq,Prod.mk.injEq] at H
  obtain ⟨rfl,rfl,rfl,rfl,rfl,rfl,rfl,rfl,rfl,rfl,rfl,rfl,rfl⟩:=H
  go_wp2
  refine bodyPost_ret (results_ct rfl _ _ g2 26 #[.int .i64 0,.int .u32 0,.int .u32 0,.int .u32 0,.slice none 0 0,.int .i64 0,.int .u32 0,.int .u32 0,.int .u32 0,.int .u32 0,.int .u32 0,.int .u32 0] (0,0) _ rfl (by refine blk_put (cs:=#[.int .i64 0,.int .u32 0,.int .u32 0,.int .u32 0,.slice none 0 0,.int .i64 0,.int .u32 0,.int .u32 0,.int .u32 0,.int .u32 0,.int .u32 0,.int .u32 0]) ?_ 11 _ rfl;refine blk_put (cs:=#[.int .i64 0,.int .u32 0,.int .u32 0,.int .u32 0,.slice none 0 0,.int .i64 0,.int .u32 0,.int .u32 0,.int .u32 0,.int .u32 0,.int .u32 0,.int .u32 0]) ?_ 10 _ rfl;refine blk_put (cs:=#[.int .i64 0,.int .u32 0,.int .u32 0,.int .u32 0,.slice none 0 0,.int .i64 0,.int .u32 0,.int .u32 0,.int .u32 0,.int .u32 0,.int .u32 0,.int .u32 0]) ?_ 9 _ rfl;refine blk_put (cs:=#[.int .i64 0,.int .u32 0,.int .u32 0,.int .u32 0,.slice none 0 0,.int .i64 0,.int .u32 0,.int .u32 0,.int .u32 0,.int .u32 0,.int .u32 0,.int .u32 0]) ?_ 8 _ rfl;refine blk_put (cs:=#[.int .i64 0,.int .u32 0,.int .u32 0,.int .u32 0,.slice none 0 0,.int .i64 0,.int .u32 0,.int .u32 0,.int .u32 0,.int .u32 0,.int .u32 0,.int .u32 0]) ?_ 7 _ rfl;refine blk_put (cs:=#[.int .i64 0,.int .u32 0,.int .u32 0,.int .u32 0,.slice none 0 0,.int .i64 0,.int .u32 0,.int .u32 0,.int .u32 0,.int .u32 0,.int .u32 0,.int .u32 0]) ?_ 6 _ rfl;refine blk_put (cs:=#[.int .i64 0,.int .u32 0,.int .u32 0,.int .u32 0,.slice none 0 0,.int .i64 0,.int .u32 0,.int .u32 0,.int .u32 0,.int .u32 0,.int .u32 0,.int .u32 0]) ?_ 5 _ rfl;refine blk_put (cs:=#[.int .i64 0,.int .u32 0,.int .u32 0,.int .u32 0,.slice none 0 0,.int .i64 0,.int .u32 0,.int .u32 0,.int .u32 0,.int .u32 0,.int .u32 0,.int .u32 0]) ?_ 4 _ rfl;refine blk_put (cs:=#[.int .i64 0,.int .u32 0,.int .u32 0,.int .u32 0,.slice none 0 0,.int .i64 0,.int .u32 0,.int .u32 0,.int .u32 0,.int .u32 0,.int .u32 0,.int .u32 0]) ?_ 3 _ rfl;refine blk_put (cs:=#[.int .i64 0,.int .u32 0,.int .u32 0,.int .u32 0,.slice none 0 0,.int .i64 0,.int .u32 0,.int .u32 0,.int .u32 0,.int .u32 0,.int .u32 0,.int .u32 0]) ?_ 2 _ rfl;refine blk_put (cs:=#[.int .i64 0,.int .u32 0,.int .u32 0,.int .u32 0,.slice none 0 0,.int .i64 0,.int .u32 0,.int .u32 0,.int .u32 0,.int .u32 0,.int .u32 0,.int .u32 0]) ?_ 1 _ rfl;refine blk_put (cs:=#[.int .i64 0,.int .u32 0,.int .u32 0,.int .u32 0,.slice none 0 0,.int .i64 0,.int .u32 0,.int .u32 0,.int .u32 0,.int .u32 0,.int .u32 0,.int .u32 0]) ?_ 0 _ rfl;exact HS.out.h2) Try.underlying26 rfl (by kernel_rfl)) rfl ?_
  exact ⟨_,rfl,Kd.R_nil _ _ _ _ _,by (with_reducible repeat (first|exact HS.out.hw|refine lS ?_ HS.out.ge))⟩
 rw [if_neg c1] at H
 have d1 : decide ((l0.length : Int) < 240) = false:=decide_eq_false c1
 have hlen : 240 ≤ l0.length:= by omega
 obtain ⟨mg,hmg,H⟩:=Option.bind_eq_some_iff.1 H
 obtain ⟨i0,hi0,_,hsz,_⟩:=info_parts info5
 obtain ⟨Am,hcutm,hAm,hCm⟩:=print_mid_of (P:=Try.prog) (Value.int .u8) 0 22 5 .i64 .i64 Try.underlying22 hi0 hsz A0 c0 l0 236 240 (by omega) (by omega) (by omega) HC0.out
 obtain ⟨Aa,hcuta,hAa,hCa⟩:=print_mid_of (P:=Try.prog) (Value.int .u8) 0 22 5 .i64 .i64 Try.underlying22 hi0 hsz A0 c0 l0 4 8 (by omega) (by omega) (by omega) HC0.out
 obtain ⟨Ab,hcutb,hAb,hCb⟩:=print_mid_of (P:=Try.prog) (Value.int .u8) 0 22 5 .i64 .i64 Try.underlying22 hi0 hsz A0 c0 l0 12 16 (by omega) (by omega) (by omega) HC0.out
 obtain ⟨Ac,hcutc,hAc,hCc⟩:=print_mid_of (P:=Try.prog) (Value.int .u8) 0 22 5 .i64 .i64 Try.underlying22 hi0 hsz A0 c0 l0 16 20 (by omega) (by omega) (by omega) HC0.out
 obtain ⟨Ad,hcutd,hAd,hCd⟩:=print_mid_of (P:=Try.prog) (Value.int .u8) 0 22 5 .i64 .i64 Try.underlying22 hi0 hsz A0 c0 l0 28 34 (by omega) (by omega) (by omega) HC0.out
 obtain ⟨Ao,hcuto,hAo,hCo⟩:=print_drop_of (P:=Try.prog) (Value.int .u8) 0 22 5 .i64 Try.underlying22 hi0 hsz A0 c0 l0 240 (by omega) (by omega) HC0.out
 obtain ⟨ym,hym⟩ : ∃ y_ : List Int,y_ = (l0.take 240).drop 236:=⟨_,rfl⟩
 obtain ⟨ya,hya⟩ : ∃ y_ : List Int,y_ = (l0.take 8).drop 4:=⟨_,rfl⟩
 obtain ⟨yb,hyb⟩ : ∃ y_ : List Int,y_ = (l0.take 16).drop 12:=⟨_,rfl⟩
 obtain ⟨yc,hyc⟩ : ∃ y_ : List Int,y_ = (l0.take 20).drop 16:=⟨_,rfl⟩
 obtain ⟨yd,hyd⟩ : ∃ y_ : List Int,y_ = (l0.take 34).drop 28:=⟨_,rfl⟩
 obtain ⟨yo,hyo⟩ : ∃ y_ : List Int,y_ = l0.drop 240:=⟨_,rfl⟩
 rw [← hym] at hmg
 rw [← hyo] at H
 have HRm:=mK (Kd.C_of_reads (h1:= fun _=>rfl) (hAm _ (Kd.reads_of_C HR0.out)))
 simp only [show (236 : Int).toNat = 236 from rfl,show (240 : Int).toNat = 240 from rfl,← hym] at hcutm HRm hCm
 have HCm:=mK hCm
 replace hym:=mK hym
 have HRa:=mK (Kd.C_of_reads (h1:= fun _=>rfl) (hAa _ (Kd.reads_of_C HR0.out)))
 simp only [show (4 : Int).toNat = 4 from rfl,show (8 : Int).toNat = 8 from rfl,← hya] at hcuta HRa hCa
 have HCa:=mK hCa
 replace hya:=mK hya
 have HRb:=mK (Kd.C_of_reads (h1:= fun _=>rfl) (hAb _ (Kd.reads_of_C HR0.out)))
 simp only [show (12 : Int).toNat = 12 from rfl,show (16 : Int).toNat = 16 from rfl,← hyb] at hcutb HRb hCb
 have HCb:=mK hCb
 replace hyb:=mK hyb
 have HRc:=mK (Kd.C_of_reads (h1:= fun _=>rfl) (hAc _ (Kd.reads_of_C HR0.out)))
 simp only [show (16 : Int).toNat = 16 from rfl,show (20 : Int).toNat = 20 from rfl,← hyc] at hcutc HRc hCc
 have HCc:=mK hCc
 replace hyc:=mK hyc
 have HRd:=mK (Kd.C_of_reads (h1:= fun _=>rfl) (hAd _ (Kd.reads_of_C HR0.out)))
 simp only [show (28 : Int).toNat = 28 from rfl,show (34 : Int).toNat = 34 from rfl,← hyd] at hcutd HRd hCd
 have HCd:=mK hCd
 replace hyd:=mK hyd
 have HRo:=mK (Kd.C_of_reads (h1:= fun _=>rfl) (hAo _ (Kd.reads_of_C HR0.out)))
 simp only [show (240 : Int).toNat = 240 from rfl,← hyo] at hcuto HRo hCo
 have HCo:=mK hCo
 replace hyo:=mK hyo
 have hydl:=mK (show yd.length = 6 by rw [hyd.out,List.length_drop,List.length_take];omega)
 have HMG:=mK hmg
 have HH:=mK H
 clear hi0 hsz hAm hAa hAb hAc hAd hAo hCm hCa hCb hCc hCd hCo hmg H
 go_upto_region 3 with (fail)
 go_cut [43] (fun v43 wc=>∃ x : Bool,v43 = .bool x∧Aside0 (x = drawbridgeref20_Get.bad1 l0 mg)∧Aside0 (RGet w wc g2))
 case first =>
  obtain ⟨ad0,eA0,hx0⟩:=Kd.at_int HR0.out 0 (by omega) (by omega)
  subst eA0
  replace hx0:=(HS.out.hw.cell (World.block_lt_of_cell? w _ hx0)).trans hx0
  (try rw [show ((0 : Int)).toNat = 0 from rfl] at hx0)
  have p0:=eq_true (show (0 : Int) < (l0.length : Int) by omega)
  have p0':=eq_true (show 0 < l0.length by omega)
  (try rw [Addr.add_zero'] at hx0)
  obtain ⟨ad1,eA1,hx1⟩:=Kd.at_int HR0.out 1 (by omega) (by omega)
  obtain rfl : ad0 = ad1:=(by injection eA1)
  replace hx1:=(HS.out.hw.cell (World.block_lt_of_cell? w _ hx1)).trans hx1
  (try rw [show ((1 : Int)).toNat = 1 from rfl] at hx1)
  have p1:=eq_true (show (1 : Int) < (l0.length : Int) by omega)
  have p1':=eq_true (show 1 < l0.length by omega)
  (try simp [Addr.add] at hx1)
  obtain ⟨ad2,eA2,hx2⟩:=Kd.at_int HR0.out 2 (by omega) (by omega)
  obtain rfl : ad0 = ad2:=(by injection eA2)
  replace hx2:=(HS.out.hw.cell (World.block_lt_of_cell? w _ hx2)).trans hx2
  (try rw [show ((2 : Int)).toNat = 2 from rfl] at hx2)
  have p2:=eq_true (show (2 : Int) < (l0.length : Int) by omega)
  have p2':=eq_true (show 2 < l0.length by omega)
  (try simp [Addr.add] at hx2)
  by_cases d2 : rd l0 0 = 1
  case pos =>
   have d2b : (rd l0 0 != 1) = false:=bne_eq_false_iff_eq.2 d2
   replace d2:=mK d2
   by_cases d4 : rd l0 1 = 1
   case neg =>
    have d4b : (rd l0 1 != 1) = true:=bne_iff_ne.2 d4
    go_wp2
    go_meet
    case rel=>exact ⟨true,rfl,⟨by simp [drawbridgeref20_Get.bad1, *]⟩,HS⟩
   have d4b : (rd l0 1 != 1) = false:=bne_eq_false_iff_eq.2 d4
   replace d4:=mK d4
   by_cases d5 : rd l0 2 = 6
   case neg =>
    have d5b : (rd l0 2 != 6) = true:=bne_iff_ne.2 d5
    go_wp2
    go_meet
    case rel=>exact ⟨true,rfl,⟨by simp [drawbridgeref20_Get.bad1, *]⟩,HS⟩
   have d5b : (rd l0 2 != 6) = false:=bne_eq_false_iff_eq.2 d5
   replace d5:=mK d5
   go_wp2_with ((go_at_call 24;(with_reducible refine (drawbridgeref20_number.calls k _ _ ym mg _ ?side1 ?side2 HMG.out).mono ?_);(case side1=>exact Kd.C_below HRm.out HS.out.hw);(case side2=>exact HCm.out);rintro e w6 ⟨rfl,hb6⟩;have HS2:=mK (RGet.below HS.out hb6);clear HS hb6;have HS:=HS2;clear HS2))
   go_meet
   case rel=>exact ⟨mg != 1669485411,rfl,⟨by simp [drawbridgeref20_Get.bad1, *]⟩,HS⟩
  have d2b : (rd l0 0 != 1) = true:=bne_iff_ne.2 d2
  by_cases d3 : rd l0 0 = 2
  case neg =>
   have d3b : (rd l0 0 != 2) = true:=bne_iff_ne.2 d3
   go_wp2
   go_meet
   case rel=>exact ⟨true,rfl,⟨by simp [drawbridgeref20_Get.bad1, *]⟩,HS⟩
  have d3b : (rd l0 0 != 2) = false:=bne_eq_false_iff_eq.2 d3
  replace d3:=mK d3
  by_cases d4 : rd l0 1 = 1
  case neg =>
   have d4b : (rd l0 1 != 1) = true:=bne_iff_ne.2 d4
   go_wp2
   go_meet
   case rel=>exact ⟨true,rfl,⟨by simp [drawbridgeref20_Get.bad1, *]⟩,HS⟩
  have d4b : (rd l0 1 != 1) = false:=bne_eq_false_iff_eq.2 d4
  replace d4:=mK d4
  by_cases d5 : rd l0 2 = 6
  case neg =>
   have d5b : (rd l0 2 != 6) = true:=bne_iff_ne.2 d5
   go_wp2
   go_meet
   case rel=>exact ⟨true,rfl,⟨by simp [drawbridgeref20_Get.bad1, *]⟩,HS⟩
  have d5b : (rd l0 2 != 6) = false:=bne_eq_false_iff_eq.2 d5
  replace d5:=mK d5
  go_wp2_with ((go_at_call 24;(with_reducible refine (drawbridgeref20_number.calls k _ _ ym mg _ ?side1 ?side2 HMG.out).mono ?_);(case side1=>exact Kd.C_below HRm.out HS.out.hw);(case side2=>exact HCm.out);rintro e w6 ⟨rfl,hb6⟩;have HS2:=mK (RGet.below HS.out hb6);clear HS hb6;have HS:=HS2;clear HS2))
  go_meet
  case rel=>exact ⟨mg != 1669485411,rfl,⟨by simp [drawbridgeref20_Get.bad1, *]⟩,HS⟩
 case rest =>
  obtain ⟨x,rfl,HX,HS⟩:=hcut
  have H:=HH.out
  clear HH
  rw [← HX.out] at H
  cases x with
  |true =>
   rw [if_pos rfl] at H
   have hz0_ : wc.cell? ⟨g2,0,none⟩ = some (.int .i64 0):=(blk_cell HS.out.h2 0).trans rfl
   have hf0_:=blk_frozen HS.out.h2 0
   have hz1_ : wc.cell? ⟨g2,1,none⟩ = some (.int .u32 0):=(blk_cell HS.out.h2 1).trans rfl
   have hf1_:=blk_frozen HS.out.h2 1
   have hz2_ : wc.cell? ⟨g2,2,none⟩ = some (.int .u32 0):=(blk_cell HS.out.h2 2).trans rfl
   have hf2_:=blk_frozen HS.out.h2 2
   have hz3_ : wc.cell? ⟨g2,3,none⟩ = some (.int .u32 0):=(blk_cell HS.out.h2 3).trans rfl
   have hf3_:=blk_frozen HS.out.h2 3
   have hz4_ : wc.cell? ⟨g2,4,none⟩ = some (.slice none 0 0):=(blk_cell HS.out.h2 4).trans rfl
   have hf4_:=blk_frozen HS.out.h2 4
   have hz5_ : wc.cell? ⟨g2,5,none⟩ = some (.int .i64 0):=(blk_cell HS.out.h2 5).trans rfl
   have hf5_:=blk_frozen HS.out.h2 5
   have hz6_ : wc.cell? ⟨g2,6,none⟩ = some (.int .u32 0):=(blk_cell HS.out.h2 6).trans rfl
   have hf6_:=blk_frozen HS.out.h2 6
   have hz7_ : wc.cell? ⟨g2,7,none⟩ = some (.int .u32 0):=(blk_cell HS.out.h2 7).trans rfl
   have hf7_:=blk_frozen HS.out.h2 7
   have hz8_ : wc.cell? ⟨g2,8,none⟩ = some (.int .u32 0):=(blk_cell HS.out.h2 8).trans rfl
   have hf8_:=blk_frozen HS.out.h2 8
   have hz9_ : wc.cell? ⟨g2,9,none⟩ = some (.int .u32 0):=(blk_cell HS.out.h2 9).trans rfl
   have hf9_:=blk_frozen HS.out.h2 9
   have hz10_ : wc.cell? ⟨g2,10,none⟩ = some (.int .u32 0):=(blk_cell HS.out.h2 10).trans rfl
   have hf10_:=blk_frozen HS.out.h2 10
   have hz11_ : wc.cell? ⟨g2,11,none⟩ = some (.int .u32 0):=(blk_cell HS.out.h2 11).trans rfl
   have hf11_:=blk_frozen HS.out.h2 11
   simp only [Option.some.injEq,Prod.mk.injEq] at H
   obtain ⟨rfl,rfl,rfl,rfl,rfl,rfl,rfl,rfl,rfl,rfl,rfl,rfl,rfl⟩:=H
   go_wp2
   refine bodyPost_ret (results_ct rfl _ _ g2 26 #[.int .i64 0,.int .u32 0,.int .u32 0,.int .u32 0,.slice none 0 0,.int .i64 0,.int .u32 0,.int .u32 0,.int .u32 0,.int .u32 0,.int .u32 0,.int .u32 0] (0,0) _ rfl (by refine blk_put (cs:=#[.int .i64 0,.int .u32 0,.int .u32 0,.int .u32 0,.slice none 0 0,.int .i64 0,.int .u32 0,.int .u32 0,.int .u32 0,.int .u32 0,.int .u32 0,.int .u32 0]) ?_ 11 _ rfl;refine blk_put (cs:=#[.int .i64 0,.int .u32 0,.int .u32 0,.int .u32 0,.slice none 0 0,.int .i64 0,.int .u32 0,.int .u32 0,.int .u32 0,.int .u32 0,.int .u32 0,.int .u32 0]) ?_ 10 _ rfl;refine blk_put (cs:=#[.int .i64 0,.int .u32 0,.int .u32 0,.int .u32 0,.slice none 0 0,.int .i64 0,.int .u32 0,.int .u32 0,.int .u32 0,.int .u32 0,.int .u32 0,.int .u32 0]) ?_ 9 _ rfl;refine blk_put (cs:=#[.int .i64 0,.int .u32 0,.int .u32 0,.int .u32 0,.slice none 0 0,.int .i64 0,.int .u32 0,.int .u32 0,.int .u32 0,.int .u32 0,.int .u32 0,.int .u32 0]) ?_ 8 _ rfl;refine blk_put (cs:=#[.int .i64 0,.int .u32 0,.int .u32 0,.int .u32 0,.slice none 0 0,.int .i64 0,.int .u32 0,.int .u32 0,.int .u32 0,.int .u32 0,.int .u32 0,.int .u32 0]) ?_ 7 _ rfl;refine blk_put (cs:=#[.int .i64 0,.int .u32 0,.int .u32 0,.int .u32 0,.slice none 0 0,.int .i64 0,.int .u32 0,.int .u32 0,.int .u32 0,.int .u32 0,.int .u32 0,.int .u32 0]) ?_ 6 _ rfl;refine blk_put (cs:=#[.int .i64 0,.int .u32 0,.int .u32 0,.int .u32 0,.slice none 0 0,.int .i64 0,.int .u32 0,.int .u32 0,.int .u32 0,.int .u32 0,.int .u32 0,.int .u32 0]) ?_ 5 _ rfl;refine blk_put (cs:=#[.int .i64 0,.int .u32 0,.int .u32 0,.int .u32 0,.slice none 0 0,.int .i64 0,.int .u32 0,.int .u32 0,.int .u32 0,.int .u32 0,.int .u32 0,.int .u32 0]) ?_ 4 _ rfl;refine blk_put (cs:=#[.int .i64 0,.int .u32 0,.int .u32 0,.int .u32 0,.slice none 0 0,.int .i64 0,.int .u32 0,.int .u32 0,.int .u32 0,.int .u32 0,.int .u32 0,.int .u32 0]) ?_ 3 _ rfl;refine blk_put (cs:=#[.int .i64 0,.int .u32 0,.int .u32 0,.int .u32 0,.slice none 0 0,.int .i64 0,.int .u32 0,.int .u32 0,.int .u32 0,.int .u32 0,.int .u32 0,.int .u32 0]) ?_ 2 _ rfl;refine blk_put (cs:=#[.int .i64 0,.int .u32 0,.int .u32 0,.int .u32 0,.slice none 0 0,.int .i64 0,.int .u32 0,.int .u32 0,.int .u32 0,.int .u32 0,.int .u32 0,.int .u32 0]) ?_ 1 _ rfl;refine blk_put (cs:=#[.int .i64 0,.int .u32 0,.int .u32 0,.int .u32 0,.slice none 0 0,.int .i64 0,.int .u32 0,.int .u32 0,.int .u32 0,.int .u32 0,.int .u32 0,.int .u32 0]) ?_ 0 _ rfl;exact HS.out.h2) Try.underlying26 rfl (by kernel_rfl)) rfl ?_
   exact ⟨_,rfl,Kd.R_nil _ _ _ _ _,by (with_reducible repeat (first|exact HS.out.hw|refine lS ?_ HS.out.ge))⟩
  |false =>
   rw [if_neg (by decide)] at H
   obtain ⟨⟨u1,u2,u3⟩,hu,H1⟩:=Option.bind_eq_some_iff.1 H
   clear H
   obtain ⟨⟨T,ok,t3⟩,ht,H2⟩:=Option.bind_eq_some_iff.1 H1
   clear H1
   have H : (if ok = true∧T.length = 0 then none else if drawbridgeref20_Get.bad2 u3 ok T = true then some (0,0,0,0,([] : List Int),0,0,0,0,0,0,0,161) else drawbridgeref20_Get.g k l0 yo T) = some (r1,r2,r3,r4,r5,r6,r7,r8,r9,r10,r11,r12,r13):=H2
   clear H2
   have HU:=mK hu
   have HT:=mK ht
   clear hu ht
   by_cases ht0 : ok = true∧T.length = 0
   case pos=>rw [if_pos ht0] at H;cases H
   rw [if_neg ht0] at H
   have HH:=mK H
   clear H
   replace ht0:=mK ht0
   go_upto_region 8 with (first|(go_at_call 25;(with_reducible refine (drawbridgeref20_find.calls k _ _ yo 0 300 false u1 u2 u3 _ ?side1 ?side2 HU.out).mono ?_);(case side1=>exact Kd.C_below HRo.out HS.out.hw);(case side2=>exact HCo.out);rintro e w6 ⟨A6,c6,rfl,_,_,hb6⟩;have HS2:=mK (RGet.below HS.out hb6);clear HS hb6;have HS:=HS2;clear HS2)|(go_at_call 25;(with_reducible refine (drawbridgeref20_find.calls k _ _ yo 53 1 false T ok t3 _ ?side1 ?side2 HT.out).mono ?_);(case side1=>exact Kd.C_below HRo.out HS.out.hw);(case side2=>exact HCo.out);rintro e w7 ⟨AT,cT,rfl,hlT,hrT,hb6⟩;have HRT:=mK (hrT w HRo.out);have HCT:=mK hlT;clear hrT hlT;have HS2:=mK (RGet.below HS.out hb6);clear HS hb6;have HS:=HS2;clear HS2))
   go_cut [76] (fun v76 wc=>∃ x : Bool,v76 = .bool x∧Aside0 (x = drawbridgeref20_Get.bad2 u3 ok T)∧Aside0 (RGet w wc g2))
   case first =>
    cases u3 with
    |false =>
     go_wp2
     go_meet
     case rel=>exact ⟨true,rfl,⟨by simp [drawbridgeref20_Get.bad2, *]⟩,HS⟩
    |true =>
     cases ok with
     |false =>
      go_wp2
      go_meet
      case rel=>exact ⟨true,rfl,⟨by simp [drawbridgeref20_Get.bad2, *]⟩,HS⟩
     |true =>
      have hT0 : 0 < T.length:= by have:=ht0.out;simp at this;exact List.length_pos_iff.2 this
      obtain ⟨tad0,teA0,thx0⟩:=Kd.at_int HRT.out 0 (by omega) (by omega)
      subst teA0
      replace thx0:=(HS.out.hw.cell (World.block_lt_of_cell? w _ thx0)).trans thx0
      (try rw [show ((0 : Int)).toNat = 0 from rfl] at thx0)
      have tp0:=eq_true (show (0 : Int) < (T.length : Int) by omega)
      have tp0':=eq_true (show 0 < T.length by omega)
      (try rw [Addr.add_zero'] at thx0)
      by_cases d6 : rd T 0 < 1
      case pos =>
       have d6b : decide (rd T 0 < 1) = true:=decide_eq_true d6
       go_wp2
       go_meet
       case rel=>exact ⟨true,rfl,⟨by simp [drawbridgeref20_Get.bad2, *]⟩,HS⟩
      have d6b : decide (rd T 0 < 1) = false:=decide_eq_false d6
      go_wp2
      go_meet
      case rel=>exact ⟨decide (8 < rd T 0),rfl,⟨by simp [drawbridgeref20_Get.bad2, *]⟩,HS⟩
   case rest =>
    obtain ⟨x,rfl,HX,HS⟩:=hcut
    have H:=HH.out
    clear HH
    rw [← HX.out] at H
    cases x with
    |true =>
     rw [if_pos rfl] at H
     have hz0_ : wc.cell? ⟨g2,0,none⟩ = some (.int .i64 0):=(blk_cell HS.out.h2 0).trans rfl
     have hf0_:=blk_frozen HS.out.h2 0
     have hz1_ : wc.cell? ⟨g2,1,none⟩ = some (.int .u32 0):=(blk_cell HS.out.h2 1).trans rfl
     have hf1_:=blk_frozen HS.out.h2 1
     have hz2_ : wc.cell? ⟨g2,2,none⟩ = some (.int .u32 0):=(blk_cell HS.out.h2 2).trans rfl
     have hf2_:=blk_frozen HS.out.h2 2
     have hz3_ : wc.cell? ⟨g2,3,none⟩ = some (.int .u32 0):=(blk_cell HS.out.h2 3).trans rfl
     have hf3_:=blk_frozen HS.out.h2 3
     have hz4_ : wc.cell? ⟨g2,4,none⟩ = some (.slice none 0 0):=(blk_cell HS.out.h2 4).trans rfl
     have hf4_:=blk_frozen HS.out.h2 4
     have hz5_ : wc.cell? ⟨g2,5,none⟩ = some (.int .i64 0):=(blk_cell HS.out.h2 5).trans rfl
     have hf5_:=blk_frozen HS.out.h2 5
     have hz6_ : wc.cell? ⟨g2,6,none⟩ = some (.int .u32 0):=(blk_cell HS.out.h2 6).trans rfl
     have hf6_:=blk_frozen HS.out.h2 6
     have hz7_ : wc.cell? ⟨g2,7,none⟩ = some (.int .u32 0):=(blk_cell HS.out.h2 7).trans rfl
     have hf7_:=blk_frozen HS.out.h2 7
     have hz8_ : wc.cell? ⟨g2,8,none⟩ = some (.int .u32 0):=(blk_cell HS.out.h2 8).trans rfl
     have hf8_:=blk_frozen HS.out.h2 8
     have hz9_ : wc.cell? ⟨g2,9,none⟩ = some (.int .u32 0):=(blk_cell HS.out.h2 9).trans rfl
     have hf9_:=blk_frozen HS.out.h2 9
     have hz10_ : wc.cell? ⟨g2,10,none⟩ = some (.int .u32 0):=(blk_cell HS.out.h2 10).trans rfl
     have hf10_:=blk_frozen HS.out.h2 10
     have hz11_ : wc.cell? ⟨g2,11,none⟩ = some (.int .u32 0):=(blk_cell HS.out.h2 11).trans rfl
     have hf11_:=blk_frozen HS.out.h2 11
     simp only [Option.some.injEq,Prod.mk.injEq] at H
     obtain ⟨rfl,rfl,rfl,rfl,rfl,rfl,rfl,rfl,rfl,rfl,rfl,rfl,rfl⟩:=H
     go_wp2
     refine bodyPost_ret (results_ct rfl _ _ g2 26 #[.int .i64 0,.int .u32 0,.int .u32 0,.int .u32 0,.slice none 0 0,.int .i64 0,.int .u32 0,.int .u32 0,.int .u32 0,.int .u32 0,.int .u32 0,.int .u32 0] (0,0) _ rfl (by refine blk_put (cs:=#[.int .i64 0,.int .u32 0,.int .u32 0,.int .u32 0,.slice none 0 0,.int .i64 0,.int .u32 0,.int .u32 0,.int .u32 0,.int .u32 0,.int .u32 0,.int .u32 0]) ?_ 11 _ rfl;refine blk_put (cs:=#[.int .i64 0,.int .u32 0,.int .u32 0,.int .u32 0,.slice none 0 0,.int .i64 0,.int .u32 0,.int .u32 0,.int .u32 0,.int .u32 0,.int .u32 0,.int .u32 0]) ?_ 10 _ rfl;refine blk_put (cs:=#[.int .i64 0,.int .u32 0,.int .u32 0,.int .u32 0,.slice none 0 0,.int .i64 0,.int .u32 0,.int .u32 0,.int .u32 0,.int .u32 0,.int .u32 0,.int .u32 0]) ?_ 9 _ rfl;refine blk_put (cs:=#[.int .i64 0,.int .u32 0,.int .u32 0,.int .u32 0,.slice none 0 0,.int .i64 0,.int .u32 0,.int .u32 0,.int .u32 0,.int .u32 0,.int .u32 0,.int .u32 0]) ?_ 8 _ rfl;refine blk_put (cs:=#[.int .i64 0,.int .u32 0,.int .u32 0,.int .u32 0,.slice none 0 0,.int .i64 0,.int .u32 0,.int .u32 0,.int .u32 0,.int .u32 0,.int .u32 0,.int .u32 0]) ?_ 7 _ rfl;refine blk_put (cs:=#[.int .i64 0,.int .u32 0,.int .u32 0,.int .u32 0,.slice none 0 0,.int .i64 0,.int .u32 0,.int .u32 0,.int .u32 0,.int .u32 0,.int .u32 0,.int .u32 0]) ?_ 6 _ rfl;refine blk_put (cs:=#[.int .i64 0,.int .u32 0,.int .u32 0,.int .u32 0,.slice none 0 0,.int .i64 0,.int .u32 0,.int .u32 0,.int .u32 0,.int .u32 0,.int .u32 0,.int .u32 0]) ?_ 5 _ rfl;refine blk_put (cs:=#[.int .i64 0,.int .u32 0,.int .u32 0,.int .u32 0,.slice none 0 0,.int .i64 0,.int .u32 0,.int .u32 0,.int .u32 0,.int .u32 0,.int .u32 0,.int .u32 0]) ?_ 4 _ rfl;refine blk_put (cs:=#[.int .i64 0,.int .u32 0,.int .u32 0,.int .u32 0,.slice none 0 0,.int .i64 0,.int .u32 0,.int .u32 0,.int .u32 0,.int .u32 0,.int .u32 0,.int .u32 0]) ?_ 3 _ rfl;refine blk_put (cs:=#[.int .i64 0,.int .u32 0,.int .u32 0,.int .u32 0,.slice none 0 0,.int .i64 0,.int .u32 0,.int .u32 0,.int .u32 0,.int .u32 0,.int .u32 0,.int .u32 0]) ?_ 2 _ rfl;refine blk_put (cs:=#[.int .i64 0,.int .u32 0,.int .u32 0,.int .u32 0,.slice none 0 0,.int .i64 0,.int .u32 0,.int .u32 0,.int .u32 0,.int .u32 0,.int .u32 0,.int .u32 0]) ?_ 1 _ rfl;refine blk_put (cs:=#[.int .i64 0,.int .u32 0,.int .u32 0,.int .u32 0,.slice none 0 0,.int .i64 0,.int .u32 0,.int .u32 0,.int .u32 0,.int .u32 0,.int .u32 0,.int .u32 0]) ?_ 0 _ rfl;exact HS.out.h2) Try.underlying26 rfl (by kernel_rfl)) rfl ?_
     exact ⟨_,rfl,Kd.R_nil _ _ _ _ _,by (with_reducible repeat (first|exact HS.out.hw|refine lS ?_ HS.out.ge))⟩
    |false =>
     rw [if_neg (by decide)] at H
     have hok : ok = true:= by
      have q_:=HX.out
      unfold drawbridgeref20_Get.bad2 at q_
      cases ok with
      |true=>rfl
      |false=>cases u3 <;> simp at q_
     have hT0 : 0 < T.length:= by have:=ht0.out;rw [hok] at this;simp at this;exact List.length_pos_iff.2 this
     clear hok
     unfold drawbridgeref20_Get.g at H
     rw [← hya.out,← hyb.out,← hyc.out,← hyd.out] at H
     obtain ⟨xa,qxa,H⟩:=Option.bind_eq_some_iff.1 H
     replace qxa:=mK qxa
     obtain ⟨xb,qxb,H⟩:=Option.bind_eq_some_iff.1 H
     replace qxb:=mK qxb
     obtain ⟨xc,qxc,H⟩:=Option.bind_eq_some_iff.1 H
     replace qxc:=mK qxc
     obtain ⟨v50,qv50,H⟩:=Option.bind_eq_some_iff.1 H
     replace qv50:=mK qv50
     obtain ⟨v54,qv54,H⟩:=Option.bind_eq_some_iff.1 H
     replace qv54:=mK qv54
     obtain ⟨v51,qv51,H⟩:=Option.bind_eq_some_iff.1 H
     replace qv51:=mK qv51
     obtain ⟨v1,qv1,H⟩:=Option.bind_eq_some_iff.1 H
     replace qv1:=mK qv1
     obtain ⟨v3,qv3,H⟩:=Option.bind_eq_some_iff.1 H
     replace qv3:=mK qv3
     obtain ⟨v6,qv6,H⟩:=Option.bind_eq_some_iff.1 H
     replace qv6:=mK qv6
     simp only [Option.some.injEq,Prod.mk.injEq] at H
     obtain ⟨rfl,rfl,rfl,rfl,rfl,rfl,rfl,rfl,rfl,rfl,rfl,rfl,rfl⟩:=H
     obtain ⟨ad0,eA0,hx0⟩:=Kd.at_int HR0.out 0 (by omega) (by omega)
     subst eA0
     (try rw [show ((0 : Int)).toNat = 0 from rfl,Addr.add_zero'] at hx0)
     obtain ⟨adT,eAT,hxT⟩:=Kd.at_int HRT.out 0 (by omega) (by omega)
     subst eAT
     (try rw [show ((0 : Int)).toNat = 0 from rfl,Addr.add_zero'] at hxT)
     have HX0:=mK hx0
     have HXT:=mK hxT
     have p0:=eq_true (show (0 : Int) < (l0.length : Int) by omega)
     have p0':=eq_true (show 0 < l0.length by omega)
     have pT:=eq_true (show (0 : Int) < (T.length : Int) by omega)
     have pT':=eq_true hT0
     clear hlen c1 hT0 hx0 hxT
     go_upto_region 10 with (fail)
     replace HS:=mK HS.out.drew
     refine start_ (n:=24) (S:= fun w'=>True) (ds:=[]) #[φ,φ,φ,φ,φ,φ,φ,φ,φ,φ,φ,φ,φ,φ,φ,φ,φ,φ,φ,φ,φ,φ,φ,φ] (by kernel_rfl) rfl rfl trivial (fun hHeld=>?_);refine with_tabW drawbridgeref20_Get.tab10 drawbridgeref20_Get.bits10 (fun HT_ HW_=>?_)
     generalize wc.drew = V0 at HS hHeld ⊢
     refine pure_ (i:=0) (N:=some 78) (v:=?_) (a':=?_) #[τ,φ,φ,φ,φ,φ,φ,φ,φ,φ,φ,φ,φ,φ,φ,φ,φ,φ,φ,φ,φ,φ,φ,φ] rfl rfl (any_of HT_.out (by kernel_rfl)) (fun _ _ _ h=>h) (Or.inl ⟨by rfl,?_⟩) ?_ ?_
     rotate_left
     ·intro w'
      go_simp
      with_reducible rfl
     rotate_left
     ·simp only [Act.put,sT,sZ,sS,i64_w,i32_w]
      rfl
     refine pure_ (i:=1) (N:=some 79) (v:=?_) (a':=?_) #[τ,τ,φ,φ,φ,φ,φ,φ,φ,φ,φ,φ,φ,φ,φ,φ,φ,φ,φ,φ,φ,φ,φ,φ] rfl rfl (any_of HT_.out (by kernel_rfl)) (fun _ _ _ h=>h) (Or.inl ⟨by rfl,?_⟩) ?_ ?_
     rotate_left
     ·intro w'
      go_simp
      with_reducible rfl
     rotate_left
     ·simp only [Act.put,sT,sZ,sS,i64_w,i32_w]
      rfl
     refine pure_ (i:=4) (N:=some 82) (v:=?_) (a':=?_) #[τ,τ,φ,φ,τ,φ,φ,φ,φ,φ,φ,φ,φ,φ,φ,φ,φ,φ,φ,φ,φ,φ,φ,φ] rfl rfl (any_of HT_.out (by kernel_rfl)) (fun _ _ _ h=>h) (Or.inl ⟨by rfl,?_⟩) ?_ ?_
     rotate_left
     ·intro w'
      go_simp
      with_reducible rfl
     rotate_left
     ·simp only [Act.put,sT,sZ,sS,i64_w,i32_w]
      rfl
     refine pure_ (i:=5) (N:=some 83) (v:=?_) (a':=?_) #[τ,τ,φ,φ,τ,τ,φ,φ,φ,φ,φ,φ,φ,φ,φ,φ,φ,φ,φ,φ,φ,φ,φ,φ] rfl rfl (any_of HT_.out (by kernel_rfl)) (fun _ _ _ h=>h) (Or.inl ⟨by rfl,?_⟩) ?_ ?_
     rotate_left
     ·intro w'
      go_simp
      with_reducible rfl
     rotate_left
     ·simp only [Act.put,sT,sZ,sS,i64_w,i32_w]
      rfl
     refine pure_ (i:=7) (N:=some 85) (v:=?_) (a':=?_) #[τ,τ,φ,φ,τ,τ,φ,τ,φ,φ,φ,φ,φ,φ,φ,φ,φ,φ,φ,φ,φ,φ,φ,φ] rfl rfl (any_of HT_.out (by kernel_rfl)) (fun _ _ _ h=>h) (Or.inl ⟨by rfl,?_⟩) ?_ ?_
     rotate_left
     ·intro w'
      go_simp
      with_reducible rfl
     rotate_left
     ·simp only [Act.put,sT,sZ,sS,i64_w,i32_w]
      rfl
     refine pure_ (i:=8) (N:=some 86) (v:=?_) (a':=?_) #[τ,τ,φ,φ,τ,τ,φ,τ,τ,φ,φ,φ,φ,φ,φ,φ,φ,φ,φ,φ,φ,φ,φ,φ] rfl rfl (any_of HT_.out (by kernel_rfl)) (fun _ _ _ h=>h) (Or.inl ⟨by rfl,?_⟩) ?_ ?_
     rotate_left
     ·intro w'
      go_simp
      with_reducible rfl
     rotate_left
     ·simp only [Act.put,sT,sZ,sS,i64_w,i32_w]
      rfl
     refine pure_ (i:=10) (N:=some 88) (v:=?_) (a':=?_) #[τ,τ,φ,φ,τ,τ,φ,τ,τ,φ,τ,φ,φ,φ,φ,φ,φ,φ,φ,φ,φ,φ,φ,φ] rfl rfl (any_of HT_.out (by kernel_rfl)) (fun _ _ _ h=>h) (Or.inl ⟨by rfl,?_⟩) ?_ ?_
     rotate_left
     ·intro w'
      go_simp
      with_reducible rfl
     rotate_left
     ·simp only [Act.put,sT,sZ,sS,i64_w,i32_w]
      rfl
     refine pure_ (i:=11) (N:=some 89) (v:=?_) (a':=?_) #[τ,τ,φ,φ,τ,τ,φ,τ,τ,φ,τ,τ,φ,φ,φ,φ,φ,φ,φ,φ,φ,φ,φ,φ] rfl rfl (any_of HT_.out (by kernel_rfl)) (fun _ _ _ h=>h) (Or.inl ⟨by rfl,?_⟩) ?_ ?_
     rotate_left
     ·intro w'
      go_simp
      with_reducible rfl
     rotate_left
     ·simp only [Act.put,sT,sZ,sS,i64_w,i32_w]
      rfl
     refine pure_ (i:=14) (N:=some 92) (v:=?_) (a':=?_) #[τ,τ,φ,φ,τ,τ,φ,τ,τ,φ,τ,τ,φ,φ,τ,φ,φ,φ,φ,φ,φ,φ,φ,φ] rfl rfl (any_of HT_.out (by kernel_rfl)) (fun _ _ _ h=>h) (Or.inl ⟨by rfl,?_⟩) ?_ ?_
     rotate_left
     ·intro w'
      go_simp
      with_reducible rfl
     rotate_left
     ·simp only [Act.put,sT,sZ,sS,i64_w,i32_w]
      rfl
     refine pure_ (i:=15) (N:=some 93) (v:=?_) (a':=?_) #[τ,τ,φ,φ,τ,τ,φ,τ,τ,φ,τ,τ,φ,φ,τ,τ,φ,φ,φ,φ,φ,φ,φ,φ] rfl rfl (any_of HT_.out (by kernel_rfl)) (fun _ _ _ h=>h) (Or.inl ⟨by rfl,?_⟩) ?_ ?_
     rotate_left
     ·intro w'
      go_simp
      with_reducible rfl
     rotate_left
     ·simp only [Act.put,sT,sZ,sS,i64_w,i32_w]
      rfl
     refine pure_ (i:=17) (N:=some 95) (v:=?_) (a':=?_) #[τ,τ,φ,φ,τ,τ,φ,τ,τ,φ,τ,τ,φ,φ,τ,τ,φ,τ,φ,φ,φ,φ,φ,φ] rfl rfl (any_of HT_.out (by kernel_rfl)) (fun _ _ _ h=>h) (Or.inl ⟨by rfl,?_⟩) ?_ ?_
     rotate_left
     ·intro w'
      go_simp
      with_reducible rfl
     rotate_left
     ·simp only [Act.put,sT,sZ,sS,i64_w,i32_w]
      rfl
     refine pure_ (i:=18) (N:=some 96) (v:=?_) (a':=?_) #[τ,τ,φ,φ,τ,τ,φ,τ,τ,φ,τ,τ,φ,φ,τ,τ,φ,τ,τ,φ,φ,φ,φ,φ] rfl rfl (any_of HT_.out (by kernel_rfl)) (fun _ _ _ h=>h) (Or.inl ⟨by rfl,?_⟩) ?_ ?_
     rotate_left
     ·intro w'
      go_simp
      with_reducible rfl
     rotate_left
     ·simp only [Act.put,sT,sZ,sS,i64_w,i32_w]
      rfl
     refine inv_at [2,3,6,9,12,13,16,19,20,21,22,23] (fun a0_ b a w'=>∃ (v13 v21 : Value) (A16 : Option Addr) (c16 gd : Nat),a = putSel a0_ b [(2,80,.int .u8 (rd l0 0)),(3,81,.int .i64 (wrap64 (rd l0 0))),(6,84,.int .u32 xa),(9,87,.int .u32 xb),(12,90,.int .u32 xc),(13,91,v13),(16,94,.slice A16 yd.length c16),(19,97,.int .u8 (rd T 0)),(20,98,.int .i64 (wrap64 (rd T 0))),(21,99,v21),(22,11,.pointer (some ⟨gd,0,none⟩))]∧RGet w w' g2∧(b 13 = true → b 16 = false → Kd.R (Kd.int .u8) 5 w' w.heap.size (fun _=>True) v13 ([] : List Int))∧(b 16 = true → Kd.R (Kd.int .u8) 5 w' w.heap.size (fun _=>True) (.slice A16 yd.length c16) yd)∧(b 21 = true → v21 = .agg #[.int .i64 (wrap64 (rd l0 0)),.int .u32 xa,.int .u32 xb,.int .u32 xc,.slice A16 yd.length c16,.int .i64 (wrap64 (rd T 0)),.int .u32 0,.int .u32 0,.int .u32 0,.int .u32 0,.int .u32 0,.int .u32 0])∧(b 22 = true → w.heap.size ≤ gd∧gd ≠ g2∧w'.heap[gd]? = some (.cells (if b 23 = true then #[.int .i64 (wrap64 (rd l0 0)),.int .u32 xa,.int .u32 xb,.int .u32 xc,.slice A16 yd.length c16,.int .i64 (wrap64 (rd T 0)),.int .u32 0,.int .u32 0,.int .u32 0,.int .u32 0,.int .u32 0,.int .u32 0] else #[.int .i64 0,.int .u32 0,.int .u32 0,.int .u32 0,.slice none 0 0,.int .i64 0,.int .u32 0,.int .u32 0,.int .u32 0,.int .u32 0,.int .u32 0,.int .u32 0]) 26 (0,0)))) HT_.out HW_.out (by kernel_rfl) (by kernel_rfl) ?_ ?_ ?_
     ·exact ⟨.bool false,.bool false,none,0,0,by simp only [putSel,Bool.false_eq_true,if_false],HS.out,fun h_=>absurd h_ (by decide),fun h_=>absurd h_ (by decide),fun h_=>absurd h_ (by decide),fun h_=>absurd h_ (by decide)⟩
     ·clear HS
      refine steps_cons ?_ ?_
      ·rintro b a w' ⟨v13,v21,A16,c16,gd,ha,QS,Q13,Q16,Q21,Q22⟩ hb_ hon hoff
       refine ⟨_,rfl,fun K hK=>?_⟩
       have e79 : a.tmps[79]? = some (.pointer (some ad0)):= by rw [ha];exact (putSel_off rfl).trans rfl
       replace ha:=mK ha
       have hs_ : w'.cell? ad0 = some (.int .u8 (rd l0 0)):=(QS.hw.cell (World.block_lt_of_cell? w _ HX0.out)).trans HX0.out
       refine value_ (w1:=w') (v:=.int .u8 (rd l0 0)) (by rfl) rfl ?_ ?_
       ·go_simp
        try rfl
       refine hK.out _ _ ⟨v13,v21,A16,c16,gd,(by rw [ha.out];exact putSel_upk 0 hb_ rfl rfl rfl),QS,Q13,Q16,Q21,Q22⟩
      refine steps_cons ?_ ?_
      ·rintro b a w' ⟨v13,v21,A16,c16,gd,ha,QS,Q13,Q16,Q21,Q22⟩ hb_ hon hoff
       refine ⟨_,rfl,fun K hK=>?_⟩
       have e80 : a.tmps[80]? = some (.int .u8 (rd l0 0)):= by rw [ha];exact putSel_on (e:=(2,80,.int .u8 (rd l0 0))) 0 rfl rfl (hon 2 (by kernel_rfl)) rfl
       replace ha:=mK ha
       refine value_ (w1:=w') (v:=.int .i64 (wrap64 (rd l0 0))) (by rfl) rfl ?_ ?_
       ·go_simp
        (try simp only [i64_w])
        try rfl
       refine hK.out _ _ ⟨v13,v21,A16,c16,gd,(by rw [ha.out];exact putSel_upk 1 hb_ rfl rfl rfl),QS,Q13,Q16,Q21,Q22⟩
      refine steps_cons ?_ ?_
      ·rintro b a w' ⟨v13,v21,A16,c16,gd,ha,QS,Q13,Q16,Q21,Q22⟩ hb_ hon hoff
       refine ⟨_,rfl,fun K hK=>?_⟩
       have e83 : a.tmps[83]? = some (.slice Aa ya.length (c0 - 4)):= by rw [ha];exact (putSel_off rfl).trans rfl
       replace ha:=mK ha
       refine goes_ Try.func24 (by kernel_rfl) rfl #[.slice Aa ya.length (c0 - 4)] (by rfl) rfl rfl (by first|(simp only [List.map_toArray,List.map_cons,List.map_nil,Act.eval,Array.getD_eq_getD_getElem?,Option.getD_some,e83];done)|(simp only [List.map_toArray,List.map_cons,List.map_nil,Act.eval,Array.getD_eq_getD_getElem?,Option.getD_some,e83];rfl)) ?_
       (with_reducible refine (drawbridgeref20_number.calls k _ _ ya xa _ ?side1 ?side2 qxa.out).mono ?_)
       (case side1=>exact Kd.C_below HRa.out QS.hw)
       (case side2=>exact HCa.out)
       rintro e w8 ⟨rfl,hb⟩
       refine ⟨_,rfl,?_⟩
       refine hK.out _ _ ⟨v13,v21,A16,c16,gd,(by rw [ha.out];exact putSel_upk 2 hb_ rfl rfl rfl),QS.below hb,fun h1_ h2_=>Kd.R_below (Q13 h1_ h2_) hb,fun h0_=>Kd.R_below (Q16 h0_) hb,Q21,fun h0_=>⟨(Q22 h0_).1,(Q22 h0_).2.1,blk_below (Q22 h0_).2.2 hb⟩⟩
      refine steps_cons ?_ ?_
      ·rintro b a w' ⟨v13,v21,A16,c16,gd,ha,QS,Q13,Q16,Q21,Q22⟩ hb_ hon hoff
       refine ⟨_,rfl,fun K hK=>?_⟩
       have e86 : a.tmps[86]? = some (.slice Ab yb.length (c0 - 12)):= by rw [ha];exact (putSel_off rfl).trans rfl
       replace ha:=mK ha
       refine goes_ Try.func24 (by kernel_rfl) rfl #[.slice Ab yb.length (c0 - 12)] (by rfl) rfl rfl (by first|(simp only [List.map_toArray,List.map_cons,List.map_nil,Act.eval,Array.getD_eq_getD_getElem?,Option.getD_some,e86];done)|(simp only [List.map_toArray,List.map_cons,List.map_nil,Act.eval,Array.getD_eq_getD_getElem?,Option.getD_some,e86];rfl)) ?_
       (with_reducible refine (drawbridgeref20_number.calls k _ _ yb xb _ ?side1 ?side2 qxb.out).mono ?_)
       (case side1=>exact Kd.C_below HRb.out QS.hw)
       (case side2=>exact HCb.out)
       rintro e w8 ⟨rfl,hb⟩
       refine ⟨_,rfl,?_⟩
       refine hK.out _ _ ⟨v13,v21,A16,c16,gd,(by rw [ha.out];exact putSel_upk 3 hb_ rfl rfl rfl),QS.below hb,fun h1_ h2_=>Kd.R_below (Q13 h1_ h2_) hb,fun h0_=>Kd.R_below (Q16 h0_) hb,Q21,fun h0_=>⟨(Q22 h0_).1,(Q22 h0_).2.1,blk_below (Q22 h0_).2.2 hb⟩⟩
      refine steps_cons ?_ ?_
      ·rintro b a w' ⟨v13,v21,A16,c16,gd,ha,QS,Q13,Q16,Q21,Q22⟩ hb_ hon hoff
       refine ⟨_,rfl,fun K hK=>?_⟩
       have e89 : a.tmps[89]? = some (.slice Ac yc.length (c0 - 16)):= by rw [ha];exact (putSel_off rfl).trans rfl
       replace ha:=mK ha
       refine goes_ Try.func24 (by kernel_rfl) rfl #[.slice Ac yc.length (c0 - 16)] (by rfl) rfl rfl (by first|(simp only [List.map_toArray,List.map_cons,List.map_nil,Act.eval,Array.getD_eq_getD_getElem?,Option.getD_some,e89];done)|(simp only [List.map_toArray,List.map_cons,List.map_nil,Act.eval,Array.getD_eq_getD_getElem?,Option.getD_some,e89];rfl)) ?_
       (with_reducible refine (drawbridgeref20_number.calls k _ _ yc xc _ ?side1 ?side2 qxc.out).mono ?_)
       (case side1=>exact Kd.C_below HRc.out QS.hw)
       (case side2=>exact HCc.out)
       rintro e w8 ⟨rfl,hb⟩
       refine ⟨_,rfl,?_⟩
       refine hK.out _ _ ⟨v13,v21,A16,c16,gd,(by rw [ha.out];exact putSel_upk 4 hb_ rfl rfl rfl),QS.below hb,fun h1_ h2_=>Kd.R_below (Q13 h1_ h2_) hb,fun h0_=>Kd.R_below (Q16 h0_) hb,Q21,fun h0_=>⟨(Q22 h0_).1,(Q22 h0_).2.1,blk_below (Q22 h0_).2.2 hb⟩⟩
      refine steps_cons ?_ ?_
      ·rintro b a w' ⟨v13,v21,A16,c16,gd,ha,QS,Q13,Q16,Q21,Q22⟩ hb_ hon hoff
       refine ⟨_,rfl,fun K hK=>?_⟩
       replace ha:=mK ha
       refine Kd.R_lit_step (Kd.int .u8) _ 5 ?hg (N:=91) ?hd (xs:=([] : List Int)) (inner:=[]) (ok:= fun _=>True) (okp:= fun _=>True) ?hr ?hp (fun _ hk=>hk) trivial (Below.refl _ _) (Nat.le_refl _) (by simp) ?_;(case hd=>rfl);(case hg=>rfl);(case hr=>first|(go_simp;done)|(go_simp;rfl));(case hp=>exact (Reps.none _ _))
       intro v13 w8 ho hb hg_ hnew_
       refine hK.out _ _ ⟨v13,v21,A16,c16,gd,(by rw [ha.out];exact putSel_upk 5 hb_ rfl rfl rfl),QS.below hb,fun _ _=>Kd.R_lower ho (below_size QS.hw),fun h0_=>Kd.R_below (Q16 h0_) hb,Q21,fun h0_=>⟨(Q22 h0_).1,(Q22 h0_).2.1,blk_below (Q22 h0_).2.2 hb⟩⟩
      refine steps_cons ?_ ?_
      ·rintro b a w' ⟨v13,v21,A16,c16,gd,ha,QS,Q13,Q16,Q21,Q22⟩ hb_ hon hoff
       refine ⟨_,rfl,fun K hK=>?_⟩
       have e91 : a.tmps[91]? = some (v13):= by rw [ha];exact putSel_on (e:=(13,91,v13)) 5 rfl rfl (hon 13 (by kernel_rfl)) rfl
       have e93 : a.tmps[93]? = some (.slice Ad yd.length (c0 - 28)):= by rw [ha];exact (putSel_off rfl).trans rfl
       replace ha:=mK ha
       have HO13:=Q13 (hon 13 (by kernel_rfl)) hb_
       have hx91 : a.eval (.tmp 91) = v13:= by simp only [Act.eval,Array.getD_eq_getD_getElem?,Option.getD_some,e91]
       have hx93 : a.eval (.tmp 93) = .slice Ad yd.length (c0 - 28):= by simp only [Act.eval,Array.getD_eq_getD_getElem?,Option.getD_some,e93]
       refine Kd.R_append_rows_step (Kd.int .u8) (w0:=w) w.heap.size (by rfl) (.tmp 91) (.tmp 93) 22 5 (.int .u8 0) 1 rfl Try.underlying22 info5 rfl (by decide) (by omega) v13 ([] : List Int) yd Ad yd.length (c0 - 28) (fun _=>True) (fun _=>False) hx91 hx93 HO13 (Kd.C_below HRd.out QS.hw) (fun _ _ h=>h) (fun _ h=>h.elim) (fun _ _=>trivial) QS.hw (below_size QS.hw) (by have:=hydl.out;simp;omega) ?_
       intro v16 w8 ho hb hg hat
       rw [List.nil_append] at ho
       obtain ⟨A16',c16',e16⟩:=Kd.R_slice ho
       subst e16
       have hQS : RGet w w8 g2:=⟨blk_grown QS.h2 hg (Kd.R_ne HO13 QS.h2 (by decide)),hb,QS.ge⟩
       refine hK.out _ _ ⟨v13,v21,A16',c16',gd,(by rw [ha.out];exact putSel_upk 6 hb_ rfl rfl rfl),hQS,fun _ h2_=>absurd ((up_self b 16).symm.trans h2_) (by decide),fun _=>ho,fun h0_=>absurd ((hoff 21 (by kernel_rfl)).symm.trans h0_) (by decide),fun h0_=>⟨(Q22 h0_).1,(Q22 h0_).2.1,by have q_:=(Q22 h0_).2.2;rw [(hoff 23 (by kernel_rfl))] at q_;rw [show (up b 16) 23 = false from (hoff 23 (by kernel_rfl))];exact blk_grown q_ hg (Kd.R_ne HO13 q_ (by decide))⟩⟩
      refine steps_cons ?_ ?_
      ·rintro b a w' ⟨v13,v21,A16,c16,gd,ha,QS,Q13,Q16,Q21,Q22⟩ hb_ hon hoff
       refine ⟨_,rfl,fun K hK=>?_⟩
       have e96 : a.tmps[96]? = some (.pointer (some adT)):= by rw [ha];exact (putSel_off rfl).trans rfl
       replace ha:=mK ha
       have hs_ : w'.cell? adT = some (.int .u8 (rd T 0)):=(QS.hw.cell (World.block_lt_of_cell? w _ HXT.out)).trans HXT.out
       refine value_ (w1:=w') (v:=.int .u8 (rd T 0)) (by rfl) rfl ?_ ?_
       ·go_simp
        try rfl
       refine hK.out _ _ ⟨v13,v21,A16,c16,gd,(by rw [ha.out];exact putSel_upk 7 hb_ rfl rfl rfl),QS,Q13,Q16,Q21,Q22⟩
      refine steps_cons ?_ ?_
      ·rintro b a w' ⟨v13,v21,A16,c16,gd,ha,QS,Q13,Q16,Q21,Q22⟩ hb_ hon hoff
       refine ⟨_,rfl,fun K hK=>?_⟩
       have e97 : a.tmps[97]? = some (.int .u8 (rd T 0)):= by rw [ha];exact putSel_on (e:=(19,97,.int .u8 (rd T 0))) 7 rfl rfl (hon 19 (by kernel_rfl)) rfl
       replace ha:=mK ha
       refine value_ (w1:=w') (v:=.int .i64 (wrap64 (rd T 0))) (by rfl) rfl ?_ ?_
       ·go_simp
        (try simp only [i64_w])
        try rfl
       refine hK.out _ _ ⟨v13,v21,A16,c16,gd,(by rw [ha.out];exact putSel_upk 8 hb_ rfl rfl rfl),QS,Q13,Q16,Q21,Q22⟩
      refine steps_cons ?_ ?_
      ·rintro b a w' ⟨v13,v21,A16,c16,gd,ha,QS,Q13,Q16,Q21,Q22⟩ hb_ hon hoff
       refine ⟨_,rfl,fun K hK=>?_⟩
       have e81 : a.tmps[81]? = some (.int .i64 (wrap64 (rd l0 0))):= by rw [ha];exact putSel_on (e:=(3,81,.int .i64 (wrap64 (rd l0 0)))) 1 rfl rfl (hon 3 (by kernel_rfl)) rfl
       have e84 : a.tmps[84]? = some (.int .u32 xa):= by rw [ha];exact putSel_on (e:=(6,84,.int .u32 xa)) 2 rfl rfl (hon 6 (by kernel_rfl)) rfl
       have e87 : a.tmps[87]? = some (.int .u32 xb):= by rw [ha];exact putSel_on (e:=(9,87,.int .u32 xb)) 3 rfl rfl (hon 9 (by kernel_rfl)) rfl
       have e90 : a.tmps[90]? = some (.int .u32 xc):= by rw [ha];exact putSel_on (e:=(12,90,.int .u32 xc)) 4 rfl rfl (hon 12 (by kernel_rfl)) rfl
       have e94 : a.tmps[94]? = some (.slice A16 yd.length c16):= by rw [ha];exact putSel_on (e:=(16,94,.slice A16 yd.length c16)) 6 rfl rfl (hon 16 (by kernel_rfl)) rfl
       have e98 : a.tmps[98]? = some (.int .i64 (wrap64 (rd T 0))):= by rw [ha];exact putSel_on (e:=(20,98,.int .i64 (wrap64 (rd T 0)))) 8 rfl rfl (hon 20 (by kernel_rfl)) rfl
       replace ha:=mK ha
       refine value_ (w1:=w') (v:=.agg #[.int .i64 (wrap64 (rd l0 0)),.int .u32 xa,.int .u32 xb,.int .u32 xc,.slice A16 yd.length c16,.int .i64 (wrap64 (rd T 0)),.int .u32 0,.int .u32 0,.int .u32 0,.int .u32 0,.int .u32 0,.int .u32 0]) (by rfl) rfl ?_ ?_
       ·go_simp
        try rfl
       refine hK.out _ _ ⟨v13,.agg #[.int .i64 (wrap64 (rd l0 0)),.int .u32 xa,.int .u32 xb,.int .u32 xc,.slice A16 yd.length c16,.int .i64 (wrap64 (rd T 0)),.int .u32 0,.int .u32 0,.int .u32 0,.int .u32 0,.int .u32 0,.int .u32 0],A16,c16,gd,(by rw [ha.out];exact putSel_upk 9 hb_ rfl rfl rfl),QS,Q13,Q16,fun _=>rfl,fun h0_=>⟨(Q22 h0_).1,(Q22 h0_).2.1,(Q22 h0_).2.2⟩⟩
      refine steps_cons ?_ ?_
      ·rintro b a w' ⟨v13,v21,A16,c16,gd,ha,QS,Q13,Q16,Q21,Q22⟩ hb_ hon hoff
       refine ⟨_,rfl,fun K hK=>?_⟩
       replace ha:=mK ha
       refine box_step ?hg (N:=11) ?hd (cs:=#[.int .i64 0,.int .u32 0,.int .u32 0,.int .u32 0,.slice none 0 0,.int .i64 0,.int .u32 0,.int .u32 0,.int .u32 0,.int .u32 0,.int .u32 0,.int .u32 0]) (t:=26) ?hr ?_;(case hd=>rfl);(case hg=>rfl);(case hr=>first|(go_simp;done)|(go_simp;rfl))
       intro gd' hg w8 hbox hb
       refine hK.out _ _ ⟨v13,v21,A16,c16,gd',(by rw [ha.out];exact putSel_upk 10 hb_ rfl rfl rfl),QS.below hb,fun h1_ h2_=>Kd.R_below (Q13 h1_ h2_) hb,fun h0_=>Kd.R_below (Q16 h0_) hb,Q21,fun _=>⟨by rw [hg];exact below_size QS.hw,by have:=blk_lt QS.h2;omega,by rw [show (up b 22) 23 = false from (hoff 23 (by kernel_rfl))];exact hbox⟩⟩
      refine steps_cons ?_ ?_
      ·rintro b a w' ⟨v13,v21,A16,c16,gd,ha,QS,Q13,Q16,Q21,Q22⟩ hb_ hon hoff
       refine ⟨_,rfl,fun K hK=>?_⟩
       obtain rfl:=Q21 (hon 21 (by kernel_rfl))
       have e99 : a.tmps[99]? = some (.agg #[.int .i64 (wrap64 (rd l0 0)),.int .u32 xa,.int .u32 xb,.int .u32 xc,.slice A16 yd.length c16,.int .i64 (wrap64 (rd T 0)),.int .u32 0,.int .u32 0,.int .u32 0,.int .u32 0,.int .u32 0,.int .u32 0]):= by rw [ha];exact putSel_on (e:=(21,99,.agg #[.int .i64 (wrap64 (rd l0 0)),.int .u32 xa,.int .u32 xb,.int .u32 xc,.slice A16 yd.length c16,.int .i64 (wrap64 (rd T 0)),.int .u32 0,.int .u32 0,.int .u32 0,.int .u32 0,.int .u32 0,.int .u32 0])) 9 rfl rfl (hon 21 (by kernel_rfl)) rfl
       have e11 : a.tmps[11]? = some (.pointer (some ⟨gd,0,none⟩)):= by rw [ha];exact putSel_on (e:=(22,11,.pointer (some ⟨gd,0,none⟩))) 10 rfl rfl (hon 22 (by kernel_rfl)) rfl
       replace ha:=mK ha
       obtain ⟨x1_,x2_,x3_⟩:=Q22 (hon 22 (by kernel_rfl))
       rw [hb_] at x3_
       replace x3_ : w'.heap[gd]? = some (.cells #[.int .i64 0,.int .u32 0,.int .u32 0,.int .u32 0,.slice none 0 0,.int .i64 0,.int .u32 0,.int .u32 0,.int .u32 0,.int .u32 0,.int .u32 0,.int .u32 0] 26 (0,0)):=x3_
       have hz0_ : w'.cell? ⟨gd,0,none⟩ = some (.int .i64 0):=(blk_cell x3_ 0).trans rfl
       have hf0_:=blk_frozen x3_ 0
       have hz1_ : w'.cell? ⟨gd,1,none⟩ = some (.int .u32 0):=(blk_cell x3_ 1).trans rfl
       have hf1_:=blk_frozen x3_ 1
       have hz2_ : w'.cell? ⟨gd,2,none⟩ = some (.int .u32 0):=(blk_cell x3_ 2).trans rfl
       have hf2_:=blk_frozen x3_ 2
       have hz3_ : w'.cell? ⟨gd,3,none⟩ = some (.int .u32 0):=(blk_cell x3_ 3).trans rfl
       have hf3_:=blk_frozen x3_ 3
       have hz4_ : w'.cell? ⟨gd,4,none⟩ = some (.slice none 0 0):=(blk_cell x3_ 4).trans rfl
       have hf4_:=blk_frozen x3_ 4
       have hz5_ : w'.cell? ⟨gd,5,none⟩ = some (.int .i64 0):=(blk_cell x3_ 5).trans rfl
       have hf5_:=blk_frozen x3_ 5
       have hz6_ : w'.cell? ⟨gd,6,none⟩ = some (.int .u32 0):=(blk_cell x3_ 6).trans rfl
       have hf6_:=blk_frozen x3_ 6
       have hz7_ : w'.cell? ⟨gd,7,none⟩ = some (.int .u32 0):=(blk_cell x3_ 7).trans rfl
       have hf7_:=blk_frozen x3_ 7
       have hz8_ : w'.cell? ⟨gd,8,none⟩ = some (.int .u32 0):=(blk_cell x3_ 8).trans rfl
       have hf8_:=blk_frozen x3_ 8
       have hz9_ : w'.cell? ⟨gd,9,none⟩ = some (.int .u32 0):=(blk_cell x3_ 9).trans rfl
       have hf9_:=blk_frozen x3_ 9
       have hz10_ : w'.cell? ⟨gd,10,none⟩ = some (.int .u32 0):=(blk_cell x3_ 10).trans rfl
       have hf10_:=blk_frozen x3_ 10
       have hz11_ : w'.cell? ⟨gd,11,none⟩ = some (.int .u32 0):=(blk_cell x3_ 11).trans rfl
       have hf11_:=blk_frozen x3_ 11
       refine skip_ (w1:=?_) (by rfl) rfl ?_ ?_
       rotate_left
       ·go_simp
        rfl
       refine hK.out _ _ ⟨v13,_,A16,c16,gd,(by rw [ha.out];exact (putSel_same rfl).symm),⟨?_,by (with_reducible repeat (first|exact QS.hw|refine lS ?_ x1_)),QS.ge⟩,fun _ h2_=>absurd ((hon 16 (by kernel_rfl)).symm.trans h2_) (by decide),fun h0_=>?_,fun _=>rfl,fun _=>⟨x1_,x2_,?_⟩⟩
       ·(with_reducible repeat (first|exact QS.h2|refine blk_far ?_ (Ne.symm x2_) _))
       ·refine Kd.R_mono (ok:= fun k_=>True∧k_ ≠ gd) ?_ (fun _ _=>trivial)
        have HO2:=Kd.R_types (Q16 h0_) x3_ (by decide)
        (with_reducible repeat (first|exact HO2|refine Kd.R_far (p:=⟨gd,_,none⟩) ?_ (fun _ hk=>hk.2) _))
       ·rw [if_pos (up_self b 23)]
        refine blk_put (cs:=#[.int .i64 (wrap64 (rd l0 0)),.int .u32 xa,.int .u32 xb,.int .u32 xc,.slice A16 yd.length c16,.int .i64 (wrap64 (rd T 0)),.int .u32 0,.int .u32 0,.int .u32 0,.int .u32 0,.int .u32 0,.int .u32 0]) ?_ 11 _ rfl;refine blk_put (cs:=#[.int .i64 (wrap64 (rd l0 0)),.int .u32 xa,.int .u32 xb,.int .u32 xc,.slice A16 yd.length c16,.int .i64 (wrap64 (rd T 0)),.int .u32 0,.int .u32 0,.int .u32 0,.int .u32 0,.int .u32 0,.int .u32 0]) ?_ 10 _ rfl;refine blk_put (cs:=#[.int .i64 (wrap64 (rd l0 0)),.int .u32 xa,.int .u32 xb,.int .u32 xc,.slice A16 yd.length c16,.int .i64 (wrap64 (rd T 0)),.int .u32 0,.int .u32 0,.int .u32 0,.int .u32 0,.int .u32 0,.int .u32 0]) ?_ 9 _ rfl;refine blk_put (cs:=#[.int .i64 (wrap64 (rd l0 0)),.int .u32 xa,.int .u32 xb,.int .u32 xc,.slice A16 yd.length c16,.int .i64 (wrap64 (rd T 0)),.int .u32 0,.int .u32 0,.int .u32 0,.int .u32 0,.int .u32 0,.int .u32 0]) ?_ 8 _ rfl;refine blk_put (cs:=#[.int .i64 (wrap64 (rd l0 0)),.int .u32 xa,.int .u32 xb,.int .u32 xc,.slice A16 yd.length c16,.int .i64 (wrap64 (rd T 0)),.int .u32 0,.int .u32 0,.int .u32 0,.int .u32 0,.int .u32 0,.int .u32 0]) ?_ 7 _ rfl;refine blk_put (cs:=#[.int .i64 (wrap64 (rd l0 0)),.int .u32 xa,.int .u32 xb,.int .u32 xc,.slice A16 yd.length c16,.int .i64 (wrap64 (rd T 0)),.int .u32 0,.int .u32 0,.int .u32 0,.int .u32 0,.int .u32 0,.int .u32 0]) ?_ 6 _ rfl;refine blk_put (cs:=#[.int .i64 (wrap64 (rd l0 0)),.int .u32 xa,.int .u32 xb,.int .u32 xc,.slice A16 yd.length c16,.int .i64 0,.int .u32 0,.int .u32 0,.int .u32 0,.int .u32 0,.int .u32 0,.int .u32 0]) ?_ 5 _ rfl;refine blk_put (cs:=#[.int .i64 (wrap64 (rd l0 0)),.int .u32 xa,.int .u32 xb,.int .u32 xc,.slice none 0 0,.int .i64 0,.int .u32 0,.int .u32 0,.int .u32 0,.int .u32 0,.int .u32 0,.int .u32 0]) ?_ 4 _ rfl;refine blk_put (cs:=#[.int .i64 (wrap64 (rd l0 0)),.int .u32 xa,.int .u32 xb,.int .u32 0,.slice none 0 0,.int .i64 0,.int .u32 0,.int .u32 0,.int .u32 0,.int .u32 0,.int .u32 0,.int .u32 0]) ?_ 3 _ rfl;refine blk_put (cs:=#[.int .i64 (wrap64 (rd l0 0)),.int .u32 xa,.int .u32 0,.int .u32 0,.slice none 0 0,.int .i64 0,.int .u32 0,.int .u32 0,.int .u32 0,.int .u32 0,.int .u32 0,.int .u32 0]) ?_ 2 _ rfl;refine blk_put (cs:=#[.int .i64 (wrap64 (rd l0 0)),.int .u32 0,.int .u32 0,.int .u32 0,.slice none 0 0,.int .i64 0,.int .u32 0,.int .u32 0,.int .u32 0,.int .u32 0,.int .u32 0,.int .u32 0]) ?_ 1 _ rfl;refine blk_put (cs:=#[.int .i64 0,.int .u32 0,.int .u32 0,.int .u32 0,.slice none 0 0,.int .i64 0,.int .u32 0,.int .u32 0,.int .u32 0,.int .u32 0,.int .u32 0,.int .u32 0]) ?_ 0 _ rfl;exact x3_
      exact steps_nil
     rintro b a w17 hall ⟨v13,v21,A16,c16,gd,ha,QS,Q13,Q16,Q21,Q22⟩
     obtain rfl:=Q21 (hall 21 (by kernel_rfl))
     have hb2_:=hall 2 (by kernel_rfl)
     have hb3_:=hall 3 (by kernel_rfl)
     have hb6_:=hall 6 (by kernel_rfl)
     have hb9_:=hall 9 (by kernel_rfl)
     have hb12_:=hall 12 (by kernel_rfl)
     have hb13_:=hall 13 (by kernel_rfl)
     have hb16_:=hall 16 (by kernel_rfl)
     have hb19_:=hall 19 (by kernel_rfl)
     have hb20_:=hall 20 (by kernel_rfl)
     have hb21_:=hall 21 (by kernel_rfl)
     have hb22_:=hall 22 (by kernel_rfl)
     have hb23_:=hall 23 (by kernel_rfl)
     subst ha
     simp only [putSel,hb2_,hb3_,hb6_,hb9_,hb12_,hb13_,hb16_,hb19_,hb20_,hb21_,hb22_,if_true,Act.put,sT,sZ,sS]
     have HS:=mK QS
     have HO:=mK (Q16 hb16_)
     obtain ⟨x1_,x2_,x3_⟩:=Q22 hb22_
     rw [if_pos hb23_] at x3_
     have GD:=mK (And.intro x1_ x2_)
     have BD:=mK x3_
     clear Q13 Q16 Q21 Q22 QS x1_ x2_ x3_ hall hb2_ hb3_ hb6_ hb9_ hb12_ hb13_ hb16_ hb19_ hb20_ hb21_ hb22_ hb23_
     go_upto_region 12 with (first|(go_at_call 26;(with_reducible refine (drawbridgeref20_value.calls k _ _ yo 50 false v50 _ ?side1 ?side2 qv50.out).mono ?_);(case side1=>exact Kd.C_below HRo.out HS.out.hw);(case side2=>exact HCo.out);rintro e w21 ⟨rfl,hb6⟩;have HS2:=mK (RGet.below HS.out hb6);have BD2:=mK (blk_below BD.out hb6);have HO2:=mK (Kd.R_below HO.out hb6);clear HS BD HO hb6;have HS:=HS2;have BD:=BD2;have HO:=HO2;clear HS2 BD2 HO2)|(go_at_call 26;(with_reducible refine (drawbridgeref20_value.calls k _ _ yo 54 false v54 _ ?side1 ?side2 qv54.out).mono ?_);(case side1=>exact Kd.C_below HRo.out HS.out.hw);(case side2=>exact HCo.out);rintro e w22 ⟨rfl,hb6⟩;have HS2:=mK (RGet.below HS.out hb6);have BD2:=mK (blk_below BD.out hb6);have HO2:=mK (Kd.R_below HO.out hb6);clear HS BD HO hb6;have HS:=HS2;have BD:=BD2;have HO:=HO2;clear HS2 BD2 HO2)|(go_at_call 26;(with_reducible refine (drawbridgeref20_value.calls k _ _ yo 51 false v51 _ ?side1 ?side2 qv51.out).mono ?_);(case side1=>exact Kd.C_below HRo.out HS.out.hw);(case side2=>exact HCo.out);rintro e w23 ⟨rfl,hb6⟩;have HS2:=mK (RGet.below HS.out hb6);have BD2:=mK (blk_below BD.out hb6);have HO2:=mK (Kd.R_below HO.out hb6);clear HS BD HO hb6;have HS:=HS2;have BD:=BD2;have HO:=HO2;clear HS2 BD2 HO2;have hz6_ : w23.cell? ⟨gd,6,none⟩ = some (.int .u32 0):=(blk_cell BD.out 6).trans rfl;have hf6_:=blk_frozen BD.out 6;have hz7_ : w23.cell? ⟨gd,7,none⟩ = some (.int .u32 0):=(blk_cell BD.out 7).trans rfl;have hf7_:=blk_frozen BD.out 7;have hz8_ : w23.cell? ⟨gd,8,none⟩ = some (.int .u32 0):=(blk_cell BD.out 8).trans rfl;have hf8_:=blk_frozen BD.out 8))
     have HS2 : Aside0 (RGet w (((w23.setCell ⟨gd,6,none⟩ (.int .u32 v50)).setCell ⟨gd,7,none⟩ (.int .u32 v54)).setCell ⟨gd,8,none⟩ (.int .u32 v51)) g2):=⟨⟨by (with_reducible repeat (first|exact HS.out.h2|refine blk_far ?_ (Ne.symm GD.out.2) _)),by (with_reducible repeat (first|exact HS.out.hw|refine lS ?_ GD.out.1)),HS.out.ge⟩⟩
     have BD2 : Aside0 ((((w23.setCell ⟨gd,6,none⟩ (.int .u32 v50)).setCell ⟨gd,7,none⟩ (.int .u32 v54)).setCell ⟨gd,8,none⟩ (.int .u32 v51)).heap[gd]? = some (.cells #[.int .i64 (wrap64 (rd l0 0)),.int .u32 xa,.int .u32 xb,.int .u32 xc,.slice A16 yd.length c16,.int .i64 (wrap64 (rd T 0)),.int .u32 v50,.int .u32 v54,.int .u32 v51,.int .u32 0,.int .u32 0,.int .u32 0] 26 (0,0))):=⟨by refine blk_put (cs:=#[.int .i64 (wrap64 (rd l0 0)),.int .u32 xa,.int .u32 xb,.int .u32 xc,.slice A16 yd.length c16,.int .i64 (wrap64 (rd T 0)),.int .u32 v50,.int .u32 v54,.int .u32 0,.int .u32 0,.int .u32 0,.int .u32 0]) ?_ 8 _ rfl;refine blk_put (cs:=#[.int .i64 (wrap64 (rd l0 0)),.int .u32 xa,.int .u32 xb,.int .u32 xc,.slice A16 yd.length c16,.int .i64 (wrap64 (rd T 0)),.int .u32 v50,.int .u32 0,.int .u32 0,.int .u32 0,.int .u32 0,.int .u32 0]) ?_ 7 _ rfl;refine blk_put (cs:=#[.int .i64 (wrap64 (rd l0 0)),.int .u32 xa,.int .u32 xb,.int .u32 xc,.slice A16 yd.length c16,.int .i64 (wrap64 (rd T 0)),.int .u32 0,.int .u32 0,.int .u32 0,.int .u32 0,.int .u32 0,.int .u32 0]) ?_ 6 _ rfl;exact BD.out⟩
     have HO2 : Aside0 (Kd.R (Kd.int .u8) 5 (((w23.setCell ⟨gd,6,none⟩ (.int .u32 v50)).setCell ⟨gd,7,none⟩ (.int .u32 v54)).setCell ⟨gd,8,none⟩ (.int .u32 v51)) w.heap.size (fun _=>True) (.slice A16 yd.length c16) yd):=⟨by
      refine Kd.R_mono (ok:= fun k_=>True∧k_ ≠ gd) ?_ (fun _ _=>trivial)
      have HO3:=Kd.R_types HO.out BD.out (by decide)
      (with_reducible repeat (first|exact HO3|refine Kd.R_far (p:=⟨gd,_,none⟩) ?_ (fun _ hk=>hk.2) _))⟩
     clear HS BD HO hz6_ hf6_ hz7_ hf7_ hz8_ hf8_
     generalize ((w23.setCell ⟨gd,6,none⟩ (.int .u32 v50)).setCell ⟨gd,7,none⟩ (.int .u32 v54)).setCell ⟨gd,8,none⟩ (.int .u32 v51) = w24 at HS2 BD2 HO2 ⊢
     have HS:=HS2
     have BD:=BD2
     have HO:=HO2
     clear HS2 BD2 HO2
     go_upto_region 13 with (first|(go_at_call 26;(with_reducible refine (drawbridgeref20_value.calls k _ _ yo 1 false v1 _ ?side1 ?side2 qv1.out).mono ?_);(case side1=>exact Kd.C_below HRo.out HS.out.hw);(case side2=>exact HCo.out);rintro e w25 ⟨rfl,hb6⟩;have HS2:=mK (RGet.below HS.out hb6);have BD2:=mK (blk_below BD.out hb6);have HO2:=mK (Kd.R_below HO.out hb6);clear HS BD HO hb6;have HS:=HS2;have BD:=BD2;have HO:=HO2;clear HS2 BD2 HO2)|(go_at_call 26;(with_reducible refine (drawbridgeref20_value.calls k _ _ yo 3 true v3 _ ?side1 ?side2 qv3.out).mono ?_);(case side1=>exact Kd.C_below HRo.out HS.out.hw);(case side2=>exact HCo.out);rintro e w26 ⟨rfl,hb6⟩;have HS2:=mK (RGet.below HS.out hb6);have BD2:=mK (blk_below BD.out hb6);have HO2:=mK (Kd.R_below HO.out hb6);clear HS BD HO hb6;have HS:=HS2;have BD:=BD2;have HO:=HO2;clear HS2 BD2 HO2)|(go_at_call 26;(with_reducible refine (drawbridgeref20_value.calls k _ _ yo 6 true v6 _ ?side1 ?side2 qv6.out).mono ?_);(case side1=>exact Kd.C_below HRo.out HS.out.hw);(case side2=>exact HCo.out);rintro e w27 ⟨rfl,hb6⟩;have HS2:=mK (RGet.below HS.out hb6);have BD2:=mK (blk_below BD.out hb6);have HO2:=mK (Kd.R_below HO.out hb6);clear HS BD HO hb6;have HS:=HS2;have BD:=BD2;have HO:=HO2;clear HS2 BD2 HO2;have hz9_ : w27.cell? ⟨gd,9,none⟩ = some (.int .u32 0):=(blk_cell BD.out 9).trans rfl;have hf9_:=blk_frozen BD.out 9;have hz10_ : w27.cell? ⟨gd,10,none⟩ = some (.int .u32 0):=(blk_cell BD.out 10).trans rfl;have hf10_:=blk_frozen BD.out 10;have hz11_ : w27.cell? ⟨gd,11,none⟩ = some (.int .u32 0):=(blk_cell BD.out 11).trans rfl;have hf11_:=blk_frozen BD.out 11))
     have HS2 : Aside0 (RGet w (((w27.setCell ⟨gd,9,none⟩ (.int .u32 v1)).setCell ⟨gd,10,none⟩ (.int .u32 v3)).setCell ⟨gd,11,none⟩ (.int .u32 v6)) g2):=⟨⟨by (with_reducible repeat (first|exact HS.out.h2|refine blk_far ?_ (Ne.symm GD.out.2) _)),by (with_reducible repeat (first|exact HS.out.hw|refine lS ?_ GD.out.1)),HS.out.ge⟩⟩
     have BD2 : Aside0 ((((w27.setCell ⟨gd,9,none⟩ (.int .u32 v1)).setCell ⟨gd,10,none⟩ (.int .u32 v3)).setCell ⟨gd,11,none⟩ (.int .u32 v6)).heap[gd]? = some (.cells #[.int .i64 (wrap64 (rd l0 0)),.int .u32 xa,.int .u32 xb,.int .u32 xc,.slice A16 yd.length c16,.int .i64 (wrap64 (rd T 0)),.int .u32 v50,.int .u32 v54,.int .u32 v51,.int .u32 v1,.int .u32 v3,.int .u32 v6] 26 (0,0))):=⟨by refine blk_put (cs:=#[.int .i64 (wrap64 (rd l0 0)),.int .u32 xa,.int .u32 xb,.int .u32 xc,.slice A16 yd.length c16,.int .i64 (wrap64 (rd T 0)),.int .u32 v50,.int .u32 v54,.int .u32 v51,.int .u32 v1,.int .u32 v3,.int .u32 0]) ?_ 11 _ rfl;refine blk_put (cs:=#[.int .i64 (wrap64 (rd l0 0)),.int .u32 xa,.int .u32 xb,.int .u32 xc,.slice A16 yd.length c16,.int .i64 (wrap64 (rd T 0)),.int .u32 v50,.int .u32 v54,.int .u32 v51,.int .u32 v1,.int .u32 0,.int .u32 0]) ?_ 10 _ rfl;refine blk_put (cs:=#[.int .i64 (wrap64 (rd l0 0)),.int .u32 xa,.int .u32 xb,.int .u32 xc,.slice A16 yd.length c16,.int .i64 (wrap64 (rd T 0)),.int .u32 v50,.int .u32 v54,.int .u32 v51,.int .u32 0,.int .u32 0,.int .u32 0]) ?_ 9 _ rfl;exact BD.out⟩
     have HO2 : Aside0 (Kd.R (Kd.int .u8) 5 (((w27.setCell ⟨gd,9,none⟩ (.int .u32 v1)).setCell ⟨gd,10,none⟩ (.int .u32 v3)).setCell ⟨gd,11,none⟩ (.int .u32 v6)) w.heap.size (fun _=>True) (.slice A16 yd.length c16) yd):=⟨by
      refine Kd.R_mono (ok:= fun k_=>True∧k_ ≠ gd) ?_ (fun _ _=>trivial)
      have HO3:=Kd.R_types HO.out BD.out (by decide)
      (with_reducible repeat (first|exact HO3|refine Kd.R_far (p:=⟨gd,_,none⟩) ?_ (fun _ hk=>hk.2) _))⟩
     clear HS BD HO hz9_ hf9_ hz10_ hf10_ hz11_ hf11_
     generalize ((w27.setCell ⟨gd,9,none⟩ (.int .u32 v1)).setCell ⟨gd,10,none⟩ (.int .u32 v3)).setCell ⟨gd,11,none⟩ (.int .u32 v6) = w28 at HS2 BD2 HO2 ⊢
     have HS:=HS2
     have BD:=BD2
     have HO:=HO2
     clear HS2 BD2 HO2
     have hy0_ : w28.cell? ⟨gd,0,none⟩ = some (.int .i64 (wrap64 (rd l0 0))):=(blk_cell BD.out 0).trans rfl
     have hy1_ : w28.cell? ⟨gd,1,none⟩ = some (.int .u32 xa):=(blk_cell BD.out 1).trans rfl
     have hy2_ : w28.cell? ⟨gd,2,none⟩ = some (.int .u32 xb):=(blk_cell BD.out 2).trans rfl
     have hy3_ : w28.cell? ⟨gd,3,none⟩ = some (.int .u32 xc):=(blk_cell BD.out 3).trans rfl
     have hy4_ : w28.cell? ⟨gd,4,none⟩ = some (.slice A16 yd.length c16):=(blk_cell BD.out 4).trans rfl
     have hy5_ : w28.cell? ⟨gd,5,none⟩ = some (.int .i64 (wrap64 (rd T 0))):=(blk_cell BD.out 5).trans rfl
     have hy6_ : w28.cell? ⟨gd,6,none⟩ = some (.int .u32 v50):=(blk_cell BD.out 6).trans rfl
     have hy7_ : w28.cell? ⟨gd,7,none⟩ = some (.int .u32 v54):=(blk_cell BD.out 7).trans rfl
     have hy8_ : w28.cell? ⟨gd,8,none⟩ = some (.int .u32 v51):=(blk_cell BD.out 8).trans rfl
     have hy9_ : w28.cell? ⟨gd,9,none⟩ = some (.int .u32 v1):=(blk_cell BD.out 9).trans rfl
     have hy10_ : w28.cell? ⟨gd,10,none⟩ = some (.int .u32 v3):=(blk_cell BD.out 10).trans rfl
     have hy11_ : w28.cell? ⟨gd,11,none⟩ = some (.int .u32 v6):=(blk_cell BD.out 11).trans rfl
     have hz0_ : w28.cell? ⟨g2,0,none⟩ = some (.int .i64 0):=(blk_cell HS.out.h2 0).trans rfl
     have hf0_:=blk_frozen HS.out.h2 0
     have hz1_ : w28.cell? ⟨g2,1,none⟩ = some (.int .u32 0):=(blk_cell HS.out.h2 1).trans rfl
     have hf1_:=blk_frozen HS.out.h2 1
     have hz2_ : w28.cell? ⟨g2,2,none⟩ = some (.int .u32 0):=(blk_cell HS.out.h2 2).trans rfl
     have hf2_:=blk_frozen HS.out.h2 2
     have hz3_ : w28.cell? ⟨g2,3,none⟩ = some (.int .u32 0):=(blk_cell HS.out.h2 3).trans rfl
     have hf3_:=blk_frozen HS.out.h2 3
     have hz4_ : w28.cell? ⟨g2,4,none⟩ = some (.slice none 0 0):=(blk_cell HS.out.h2 4).trans rfl
     have hf4_:=blk_frozen HS.out.h2 4
     have hz5_ : w28.cell? ⟨g2,5,none⟩ = some (.int .i64 0):=(blk_cell HS.out.h2 5).trans rfl
     have hf5_:=blk_frozen HS.out.h2 5
     have hz6_ : w28.cell? ⟨g2,6,none⟩ = some (.int .u32 0):=(blk_cell HS.out.h2 6).trans rfl
     have hf6_:=blk_frozen HS.out.h2 6
     have hz7_ : w28.cell? ⟨g2,7,none⟩ = some (.int .u32 0):=(blk_cell HS.out.h2 7).trans rfl
     have hf7_:=blk_frozen HS.out.h2 7
     have hz8_ : w28.cell? ⟨g2,8,none⟩ = some (.int .u32 0):=(blk_cell HS.out.h2 8).trans rfl
     have hf8_:=blk_frozen HS.out.h2 8
     have hz9_ : w28.cell? ⟨g2,9,none⟩ = some (.int .u32 0):=(blk_cell HS.out.h2 9).trans rfl
     have hf9_:=blk_frozen HS.out.h2 9
     have hz10_ : w28.cell? ⟨g2,10,none⟩ = some (.int .u32 0):=(blk_cell HS.out.h2 10).trans rfl
     have hf10_:=blk_frozen HS.out.h2 10
     have hz11_ : w28.cell? ⟨g2,11,none⟩ = some (.int .u32 0):=(blk_cell HS.out.h2 11).trans rfl
     have hf11_:=blk_frozen HS.out.h2 11
     go_wp2
     refine bodyPost_ret (results_ct rfl _ _ g2 26 #[.int .i64 (wrap64 (rd l0 0)),.int .u32 xa,.int .u32 xb,.int .u32 xc,.slice A16 yd.length c16,.int .i64 (wrap64 (rd T 0)),.int .u32 v50,.int .u32 v54,.int .u32 v51,.int .u32 v1,.int .u32 v3,.int .u32 v6] (0,0) _ rfl (by refine blk_put (cs:=#[.int .i64 (wrap64 (rd l0 0)),.int .u32 xa,.int .u32 xb,.int .u32 xc,.slice A16 yd.length c16,.int .i64 (wrap64 (rd T 0)),.int .u32 v50,.int .u32 v54,.int .u32 v51,.int .u32 v1,.int .u32 v3,.int .u32 0]) ?_ 11 _ rfl;refine blk_put (cs:=#[.int .i64 (wrap64 (rd l0 0)),.int .u32 xa,.int .u32 xb,.int .u32 xc,.slice A16 yd.length c16,.int .i64 (wrap64 (rd T 0)),.int .u32 v50,.int .u32 v54,.int .u32 v51,.int .u32 v1,.int .u32 0,.int .u32 0]) ?_ 10 _ rfl;refine blk_put (cs:=#[.int .i64 (wrap64 (rd l0 0)),.int .u32 xa,.int .u32 xb,.int .u32 xc,.slice A16 yd.length c16,.int .i64 (wrap64 (rd T 0)),.int .u32 v50,.int .u32 v54,.int .u32 v51,.int .u32 0,.int .u32 0,.int .u32 0]) ?_ 9 _ rfl;refine blk_put (cs:=#[.int .i64 (wrap64 (rd l0 0)),.int .u32 xa,.int .u32 xb,.int .u32 xc,.slice A16 yd.length c16,.int .i64 (wrap64 (rd T 0)),.int .u32 v50,.int .u32 v54,.int .u32 0,.int .u32 0,.int .u32 0,.int .u32 0]) ?_ 8 _ rfl;refine blk_put (cs:=#[.int .i64 (wrap64 (rd l0 0)),.int .u32 xa,.int .u32 xb,.int .u32 xc,.slice A16 yd.length c16,.int .i64 (wrap64 (rd T 0)),.int .u32 v50,.int .u32 0,.int .u32 0,.int .u32 0,.int .u32 0,.int .u32 0]) ?_ 7 _ rfl;refine blk_put (cs:=#[.int .i64 (wrap64 (rd l0 0)),.int .u32 xa,.int .u32 xb,.int .u32 xc,.slice A16 yd.length c16,.int .i64 (wrap64 (rd T 0)),.int .u32 0,.int .u32 0,.int .u32 0,.int .u32 0,.int .u32 0,.int .u32 0]) ?_ 6 _ rfl;refine blk_put (cs:=#[.int .i64 (wrap64 (rd l0 0)),.int .u32 xa,.int .u32 xb,.int .u32 xc,.slice A16 yd.length c16,.int .i64 0,.int .u32 0,.int .u32 0,.int .u32 0,.int .u32 0,.int .u32 0,.int .u32 0]) ?_ 5 _ rfl;refine blk_put (cs:=#[.int .i64 (wrap64 (rd l0 0)),.int .u32 xa,.int .u32 xb,.int .u32 xc,.slice none 0 0,.int .i64 0,.int .u32 0,.int .u32 0,.int .u32 0,.int .u32 0,.int .u32 0,.int .u32 0]) ?_ 4 _ rfl;refine blk_put (cs:=#[.int .i64 (wrap64 (rd l0 0)),.int .u32 xa,.int .u32 xb,.int .u32 0,.slice none 0 0,.int .i64 0,.int .u32 0,.int .u32 0,.int .u32 0,.int .u32 0,.int .u32 0,.int .u32 0]) ?_ 3 _ rfl;refine blk_put (cs:=#[.int .i64 (wrap64 (rd l0 0)),.int .u32 xa,.int .u32 0,.int .u32 0,.slice none 0 0,.int .i64 0,.int .u32 0,.int .u32 0,.int .u32 0,.int .u32 0,.int .u32 0,.int .u32 0]) ?_ 2 _ rfl;refine blk_put (cs:=#[.int .i64 (wrap64 (rd l0 0)),.int .u32 0,.int .u32 0,.int .u32 0,.slice none 0 0,.int .i64 0,.int .u32 0,.int .u32 0,.int .u32 0,.int .u32 0,.int .u32 0,.int .u32 0]) ?_ 1 _ rfl;refine blk_put (cs:=#[.int .i64 0,.int .u32 0,.int .u32 0,.int .u32 0,.slice none 0 0,.int .i64 0,.int .u32 0,.int .u32 0,.int .u32 0,.int .u32 0,.int .u32 0,.int .u32 0]) ?_ 0 _ rfl;exact HS.out.h2) Try.underlying26 rfl (by kernel_rfl)) rfl ?_
     refine ⟨_,rfl,Kd.R_mono (ok:= fun k_=>True∧k_ ≠ g2) ?_ (fun _ _=>trivial),by (with_reducible repeat (first|exact HS.out.hw|refine lS ?_ HS.out.ge))⟩
     have HO2:=Kd.R_types HO.out HS.out.h2 (by decide)
     (with_reducible repeat (first|exact HO2|refine Kd.R_far (p:=⟨g2,_,none⟩) ?_ (fun _ hk=>hk.2) _))


/-! ### drawbridgeref01_Same: function 13 -/
def drawbridgeref01_Same.f (l0 : List Int) (l1 : List Int) : Option (Bool) := some ((strOfNums l0).toList == (strOfNums l1).toList)
set_option maxHeartbeats 8000000 in
set_option maxRecDepth 100000 in
theorem drawbridgeref01_Same.calls (A0 : Option Addr) (c0 : Nat) (l0 : List Int) (A1 : Option Addr) (c1 : Nat) (l1 : List Int) (r : Bool) (w : World) (hr0 : Kd.C (Kd.int .u8) w A0 l0.length l0) (hc0 : l0.length ≤ c0) (hr1 : Kd.C (Kd.int .u8) w A1 l1.length l1) (hc1 : l1.length ≤ c1) (h : drawbridgeref01_Same.f l0 l1 = some r) :
  Calls Try.prog 13 #[.slice A0 l0.length c0, .slice A1 l1.length c1] w fun e w' => e = .returned (.bool r) ∧ Drawn0 w w' := by
 have HR0:=mK hr0
 have HC0:=mK hc0
 clear hr0 hc0
 have HR1:=mK hr1
 have HC1:=mK hc1
 clear hr1 hc1
 have H : (some ((strOfNums l0).toList == (strOfNums l1).toList)) = some r:=h
 clear h
 obtain rfl:=Option.some.inj H
 have hcv3:=Kd.C_string (P:=Try.prog) (A:=A0) (c:=c0) Try.underlying22 Try.underlying5 Try.underlying9 HR0.out
 have hcv3q:= fun (n_ : Nat)=>Kd.C_string (P:=Try.prog) (A:=A0) (c:=c0) Try.underlying22 Try.underlying5 Try.underlying9 (Kd.C_drewN HR0.out n_)
 have hcv4:=Kd.C_string (P:=Try.prog) (A:=A1) (c:=c1) Try.underlying22 Try.underlying5 Try.underlying9 HR1.out
 have hcv4q:= fun (n_ : Nat)=>Kd.C_string (P:=Try.prog) (A:=A1) (c:=c1) Try.underlying22 Try.underlying5 Try.underlying9 (Kd.C_drewN HR1.out n_)
 go_enter Try.func13,Try.ntmps13
 go_wp2
 go_ret
 exact ⟨by first|rfl|(simp;done)|(simp [*];done),by repeat (first|exact Drawn0.refl _|apply Drawn0.step)⟩

/-! ### drawbridgelaw20_DhcpTells: function 4 -/
def drawbridgelaw20_DhcpTells.f (k : Nat) (a0_0 : Int) (a0_1 : Int) (a0_2 : Int) (a0_3 : Int) (l0_4 : List Int) (a0_5 : Int) (a0_6 : Int) (a0_7 : Int) (a0_8 : Int) (a0_9 : Int) (a0_10 : Int) (a0_11 : Int) (l1 : List Int) : Option (Bool) := if (l1.length : Int) > 3000 then ((drawbridgelaw20_heads.f k).bind fun t297 => (some t297)) else ((dhcp_Put.f k a0_0 a0_1 a0_2 a0_3 l0_4 a0_5 a0_6 a0_7 a0_8 a0_9 a0_10 a0_11).bind fun bt298 => ((drawbridgeref20_Put.f k a0_0 a0_1 a0_2 a0_3 l0_4 a0_5 a0_6 a0_7 a0_8 a0_9 a0_10 a0_11).bind fun bt302 => ((dhcp_Get.f k l1).bind fun bt306 => ((drawbridgeref20_Get.f k l1).bind fun bt322 => ((drawbridgeref01_Same.f bt298.1 bt302.1).bind fun t338 => (if t338 = true then (if bt298.2 = bt302.2 then ((drawbridgeref20_Same.f bt306.1 bt306.2.1 bt306.2.2.1 bt306.2.2.2.1 bt306.2.2.2.2.1 bt306.2.2.2.2.2.1 bt306.2.2.2.2.2.2.1 bt306.2.2.2.2.2.2.2.1 bt306.2.2.2.2.2.2.2.2.1 bt306.2.2.2.2.2.2.2.2.2.1 bt306.2.2.2.2.2.2.2.2.2.2.1 bt306.2.2.2.2.2.2.2.2.2.2.2.1 bt322.1 bt322.2.1 bt322.2.2.1 bt322.2.2.2.1 bt322.2.2.2.2.1 bt322.2.2.2.2.2.1 bt322.2.2.2.2.2.2.1 bt322.2.2.2.2.2.2.2.1 bt322.2.2.2.2.2.2.2.2.1 bt322.2.2.2.2.2.2.2.2.2.1 bt322.2.2.2.2.2.2.2.2.2.2.1 bt322.2.2.2.2.2.2.2.2.2.2.2.1).bind fun t339 => (if t339 = true then (if bt306.2.2.2.2.2.2.2.2.2.2.2.2 = bt322.2.2.2.2.2.2.2.2.2.2.2.2 then ((drawbridgelaw20_heads.f k).bind fun t340 => (some t340)) else (some false)) else (some false))) else (some false)) else (some false)))))))
theorem drawbridgelaw20_DhcpTells.mono : ∀ a0 a1 a2 a3 a4 a5 a6 a7 a8 a9 a10 a11 a12 k, LeO (drawbridgelaw20_DhcpTells.f k a0 a1 a2 a3 a4 a5 a6 a7 a8 a9 a10 a11 a12) (drawbridgelaw20_DhcpTells.f (k + 1) a0 a1 a2 a3 a4 a5 a6 a7 a8 a9 a10 a11 a12) := by
 intro a0 a1 a2 a3 a4 a5 a6 a7 a8 a9 a10 a11 a12 k
 unfold drawbridgelaw20_DhcpTells.f
 repeat' first
   | (with_reducible exact dhcp_Get.mono _ _)
   | (with_reducible exact dhcp_Put.mono _ _ _ _ _ _ _ _ _ _ _ _ _)
   | (with_reducible exact drawbridgelaw20_heads.mono _)
   | (with_reducible exact drawbridgeref20_Get.mono _ _)
   | (with_reducible exact drawbridgeref20_Put.mono _ _ _ _ _ _ _ _ _ _ _ _ _)
   | (with_reducible exact LeO.refl _)
   | (with_reducible exact LeO.none _)
   | (with_reducible refine LeO.ite ?_ ?_)
   | (with_reducible refine LeO.bind ?_ (fun _ => ?_))
   | exact dhcp_Get.mono _ _
   | exact dhcp_Put.mono _ _ _ _ _ _ _ _ _ _ _ _ _
   | exact drawbridgelaw20_heads.mono _
   | exact drawbridgeref20_Get.mono _ _
   | exact drawbridgeref20_Put.mono _ _ _ _ _ _ _ _ _ _ _ _ _
   | exact LeO.none _
   | refine LeO.ite ?_ ?_
   | refine LeO.bind ?_ (fun _ => ?_)
set_option maxHeartbeats 8000000 in
set_option maxRecDepth 100000 in
theorem drawbridgelaw20_DhcpTells.calls (k : Nat) (a0_0 : Int) (a0_1 : Int) (a0_2 : Int) (a0_3 : Int) (A0_4 : Option Addr) (c0_4 : Nat) (l0_4 : List Int) (a0_5 : Int) (a0_6 : Int) (a0_7 : Int) (a0_8 : Int) (a0_9 : Int) (a0_10 : Int) (a0_11 : Int) (A1 : Option Addr) (c1 : Nat) (l1 : List Int) (r : Bool) (w : World) (hr0_4 : Kd.C (Kd.int .u8) w A0_4 l0_4.length l0_4) (hc0_4 : l0_4.length ≤ c0_4) (hr1 : Kd.C (Kd.int .u8) w A1 l1.length l1) (hc1 : l1.length ≤ c1) (hT_ : r = true) (h : drawbridgelaw20_DhcpTells.f k a0_0 a0_1 a0_2 a0_3 l0_4 a0_5 a0_6 a0_7 a0_8 a0_9 a0_10 a0_11 l1 = some r) :
  Calls Try.prog 4 #[.agg #[.int .i64 a0_0, .int .u32 a0_1, .int .u32 a0_2, .int .u32 a0_3, .slice A0_4 l0_4.length c0_4, .int .i64 a0_5, .int .u32 a0_6, .int .u32 a0_7, .int .u32 a0_8, .int .u32 a0_9, .int .u32 a0_10, .int .u32 a0_11], .slice A1 l1.length c1] w fun e w' => e = .returned (.bool r) ∧ Below w.heap.size w w' := by
 have HTr_:=mK hT_
 clear hT_
 have hu26:=Try.underlying26
 have HR0_4:=mK hr0_4
 have HC0_4:=mK hc0_4
 clear hr0_4 hc0_4
 have HR1:=mK hr1
 have HC1:=mK hc1
 clear hr1 hc1
 have HB:=mK (Below.refl w.heap.size w)
 have H : (if (l1.length : Int) > 3000 then ((drawbridgelaw20_heads.f k).bind fun t297=>(some t297)) else ((dhcp_Put.f k a0_0 a0_1 a0_2 a0_3 l0_4 a0_5 a0_6 a0_7 a0_8 a0_9 a0_10 a0_11).bind fun bt298=>((drawbridgeref20_Put.f k a0_0 a0_1 a0_2 a0_3 l0_4 a0_5 a0_6 a0_7 a0_8 a0_9 a0_10 a0_11).bind fun bt302=>((dhcp_Get.f k l1).bind fun bt306=>((drawbridgeref20_Get.f k l1).bind fun bt322=>((drawbridgeref01_Same.f bt298.1 bt302.1).bind fun t338=>(if t338 = true then (if bt298.2 = bt302.2 then ((drawbridgeref20_Same.f bt306.1 bt306.2.1 bt306.2.2.1 bt306.2.2.2.1 bt306.2.2.2.2.1 bt306.2.2.2.2.2.1 bt306.2.2.2.2.2.2.1 bt306.2.2.2.2.2.2.2.1 bt306.2.2.2.2.2.2.2.2.1 bt306.2.2.2.2.2.2.2.2.2.1 bt306.2.2.2.2.2.2.2.2.2.2.1 bt306.2.2.2.2.2.2.2.2.2.2.2.1 bt322.1 bt322.2.1 bt322.2.2.1 bt322.2.2.2.1 bt322.2.2.2.2.1 bt322.2.2.2.2.2.1 bt322.2.2.2.2.2.2.1 bt322.2.2.2.2.2.2.2.1 bt322.2.2.2.2.2.2.2.2.1 bt322.2.2.2.2.2.2.2.2.2.1 bt322.2.2.2.2.2.2.2.2.2.2.1 bt322.2.2.2.2.2.2.2.2.2.2.2.1).bind fun t339=>(if t339 = true then (if bt306.2.2.2.2.2.2.2.2.2.2.2.2 = bt322.2.2.2.2.2.2.2.2.2.2.2.2 then ((drawbridgelaw20_heads.f k).bind fun t340=>(some t340)) else (some false)) else (some false))) else (some false)) else (some false)))))))) = some r:=h
 clear h
 by_cases c3 : (l1.length : Int) > 3000
 ·rw [if_pos c3] at H
  have c3b0 : decide (3000 < (l1.length : Int)) = true:=decide_eq_true c3
  have c3b1 : decide (3000 < l1.length) = true:=decide_eq_true (by omega)
  clear c3
  replace H:=Option.bind_eq_some_iff.mp H
  obtain ⟨t297,A40,H⟩:=H
  replace H : (some t297) = some r:=H
  have A4:=mK A40
  clear A40
  obtain rfl:=Option.some.inj H
  go_enter Try.func4,Try.ntmps4
  go_wp2_with (first|((with_reducible refine gate_dst (N:=2) rfl ?_);refine box_event ?hg (N:=2) ?hd (cs:=#[.int .i64 a0_0,.int .u32 a0_1,.int .u32 a0_2,.int .u32 a0_3,.slice A0_4 l0_4.length c0_4,.int .i64 a0_5,.int .u32 a0_6,.int .u32 a0_7,.int .u32 a0_8,.int .u32 a0_9,.int .u32 a0_10,.int .u32 a0_11]) (t:=26) ?hr ?_;(case hd=>rfl);(case hg=>rfl);(case hr=>first|(go_simp;done)|(go_simp;rfl));intro gb296 hg w5 hbox hb;have n0_:=mK (below_step (by repeat (first|(with_reducible first|exact HB.out|apply lA|apply lN|apply lD)|exact HB.out)) hb);have n3_:=mK ((by rw [hg];exact (below_size (by repeat (first|(with_reducible first|exact HB.out|apply lA|apply lN|apply lD)|exact HB.out))) : w.heap.size ≤ gb296));clear HB;have HB:=n0_;have GE296:=n3_;clear n0_ n3_;clear hb hbox hg)|((with_reducible refine gate_callee (f:=7) rfl ?_);refine goesL_ (some 16) rfl rfl Try.func7 (by kernel_rfl) rfl #[] rfl (by (try simp only [List.map_toArray,List.map_cons,List.map_nil]);first|done|rfl|(simp only [List.length_drop,List.length_take];rfl)) ?_;(with_reducible refine (drawbridgelaw20_heads.calls k  t297 _ (by first|exact HTr_.out|assumption) A4.out).mono ?_);rintro e w6 ⟨rfl,hb⟩;refine ⟨_,rfl,?_⟩;have n1_:=mK (below_step (by repeat (first|(with_reducible first|exact HB.out|apply lA|apply lN|apply lD|refine lS ?_ GE296.out)|exact HB.out)) hb);clear HB;have HB:=n1_;clear n1_;(try clear hb);(try clear hb2);(try clear hk);(try clear hi)))
  go_ret
  exact ⟨by first|rfl|(simp [errW_none,errW_some] <;> rfl)|(simp [*,errW_none,errW_some] <;> rfl),by repeat (first|(with_reducible first|exact HB.out|apply lA|apply lN|apply lD|refine lS ?_ GE296.out)|exact HB.out)⟩
 ·rw [if_neg c3] at H
  have c3b0 : decide (3000 < (l1.length : Int)) = false:=decide_eq_false c3
  have c3b1 : decide (3000 < l1.length) = false:=decide_eq_false (by omega)
  clear c3
  replace H:=Option.bind_eq_some_iff.mp H
  obtain ⟨⟨t298,t301⟩,A70,H⟩:=H
  replace H : ((drawbridgeref20_Put.f k a0_0 a0_1 a0_2 a0_3 l0_4 a0_5 a0_6 a0_7 a0_8 a0_9 a0_10 a0_11).bind fun bt302=>((dhcp_Get.f k l1).bind fun bt306=>((drawbridgeref20_Get.f k l1).bind fun bt322=>((drawbridgeref01_Same.f t298 bt302.1).bind fun t338=>(if t338 = true then (if t301 = bt302.2 then ((drawbridgeref20_Same.f bt306.1 bt306.2.1 bt306.2.2.1 bt306.2.2.2.1 bt306.2.2.2.2.1 bt306.2.2.2.2.2.1 bt306.2.2.2.2.2.2.1 bt306.2.2.2.2.2.2.2.1 bt306.2.2.2.2.2.2.2.2.1 bt306.2.2.2.2.2.2.2.2.2.1 bt306.2.2.2.2.2.2.2.2.2.2.1 bt306.2.2.2.2.2.2.2.2.2.2.2.1 bt322.1 bt322.2.1 bt322.2.2.1 bt322.2.2.2.1 bt322.2.2.2.2.1 bt322.2.2.2.2.2.1 bt322.2.2.2.2.2.2.1 bt322.2.2.2.2.2.2.2.1 bt322.2.2.2.2.2.2.2.2.1 bt322.2.2.2.2.2.2.2.2.2.1 bt322.2.2.2.2.2.2.2.2.2.2.1 bt322.2.2.2.2.2.2.2.2.2.2.2.1).bind fun t339=>(if t339 = true then (if bt306.2.2.2.2.2.2.2.2.2.2.2.2 = bt322.2.2.2.2.2.2.2.2.2.2.2.2 then ((drawbridgelaw20_heads.f k).bind fun t340=>(some t340)) else (some false)) else (some false))) else (some false)) else (some false)))))) = some r:=H
  have A7:=mK A70
  clear A70
  replace H:=Option.bind_eq_some_iff.mp H
  obtain ⟨⟨t302,t305⟩,A80,H⟩:=H
  replace H : ((dhcp_Get.f k l1).bind fun bt306=>((drawbridgeref20_Get.f k l1).bind fun bt322=>((drawbridgeref01_Same.f t298 t302).bind fun t338=>(if t338 = true then (if t301 = t305 then ((drawbridgeref20_Same.f bt306.1 bt306.2.1 bt306.2.2.1 bt306.2.2.2.1 bt306.2.2.2.2.1 bt306.2.2.2.2.2.1 bt306.2.2.2.2.2.2.1 bt306.2.2.2.2.2.2.2.1 bt306.2.2.2.2.2.2.2.2.1 bt306.2.2.2.2.2.2.2.2.2.1 bt306.2.2.2.2.2.2.2.2.2.2.1 bt306.2.2.2.2.2.2.2.2.2.2.2.1 bt322.1 bt322.2.1 bt322.2.2.1 bt322.2.2.2.1 bt322.2.2.2.2.1 bt322.2.2.2.2.2.1 bt322.2.2.2.2.2.2.1 bt322.2.2.2.2.2.2.2.1 bt322.2.2.2.2.2.2.2.2.1 bt322.2.2.2.2.2.2.2.2.2.1 bt322.2.2.2.2.2.2.2.2.2.2.1 bt322.2.2.2.2.2.2.2.2.2.2.2.1).bind fun t339=>(if t339 = true then (if bt306.2.2.2.2.2.2.2.2.2.2.2.2 = bt322.2.2.2.2.2.2.2.2.2.2.2.2 then ((drawbridgelaw20_heads.f k).bind fun t340=>(some t340)) else (some false)) else (some false))) else (some false)) else (some false))))) = some r:=H
  have A8:=mK A80
  clear A80
  replace H:=Option.bind_eq_some_iff.mp H
  obtain ⟨⟨t306,t307,t308,t309,t310,t313,t314,t315,t316,t317,t318,t319,t320⟩,A90,H⟩:=H
  replace H : ((drawbridgeref20_Get.f k l1).bind fun bt322=>((drawbridgeref01_Same.f t298 t302).bind fun t338=>(if t338 = true then (if t301 = t305 then ((drawbridgeref20_Same.f t306 t307 t308 t309 t310 t313 t314 t315 t316 t317 t318 t319 bt322.1 bt322.2.1 bt322.2.2.1 bt322.2.2.2.1 bt322.2.2.2.2.1 bt322.2.2.2.2.2.1 bt322.2.2.2.2.2.2.1 bt322.2.2.2.2.2.2.2.1 bt322.2.2.2.2.2.2.2.2.1 bt322.2.2.2.2.2.2.2.2.2.1 bt322.2.2.2.2.2.2.2.2.2.2.1 bt322.2.2.2.2.2.2.2.2.2.2.2.1).bind fun t339=>(if t339 = true then (if t320 = bt322.2.2.2.2.2.2.2.2.2.2.2.2 then ((drawbridgelaw20_heads.f k).bind fun t340=>(some t340)) else (some false)) else (some false))) else (some false)) else (some false)))) = some r:=H
  have A9:=mK A90
  clear A90
  replace H:=Option.bind_eq_some_iff.mp H
  obtain ⟨⟨t322,t323,t324,t325,t326,t329,t330,t331,t332,t333,t334,t335,t336⟩,A100,H⟩:=H
  replace H : ((drawbridgeref01_Same.f t298 t302).bind fun t338=>(if t338 = true then (if t301 = t305 then ((drawbridgeref20_Same.f t306 t307 t308 t309 t310 t313 t314 t315 t316 t317 t318 t319 t322 t323 t324 t325 t326 t329 t330 t331 t332 t333 t334 t335).bind fun t339=>(if t339 = true then (if t320 = t336 then ((drawbridgelaw20_heads.f k).bind fun t340=>(some t340)) else (some false)) else (some false))) else (some false)) else (some false))) = some r:=H
  have A10:=mK A100
  clear A100
  replace H:=Option.bind_eq_some_iff.mp H
  obtain ⟨t338,A110,H⟩:=H
  replace H : (if t338 = true then (if t301 = t305 then ((drawbridgeref20_Same.f t306 t307 t308 t309 t310 t313 t314 t315 t316 t317 t318 t319 t322 t323 t324 t325 t326 t329 t330 t331 t332 t333 t334 t335).bind fun t339=>(if t339 = true then (if t320 = t336 then ((drawbridgelaw20_heads.f k).bind fun t340=>(some t340)) else (some false)) else (some false))) else (some false)) else (some false)) = some r:=H
  have A11:=mK A110
  clear A110
  by_cases c12 : t338 = true
  ·subst c12
   have H1 : (if t301 = t305 then ((drawbridgeref20_Same.f t306 t307 t308 t309 t310 t313 t314 t315 t316 t317 t318 t319 t322 t323 t324 t325 t326 t329 t330 t331 t332 t333 t334 t335).bind fun t339=>(if t339 = true then (if t320 = t336 then ((drawbridgelaw20_heads.f k).bind fun t340=>(some t340)) else (some false)) else (some false))) else (some false)) = some r:= by rw [if_pos rfl] at H;exact H
   clear H
   have H:=H1
   clear H1
   by_cases c13 : t301 = t305
   ·rw [if_pos c13] at H
    have c13b0 : (t301 == t305) = true:=beq_iff_eq.mpr c13
    have c13b1 : (t301 != t305) = false:=bne_eq_false_iff_eq.mpr c13
    clear c13
    replace H:=Option.bind_eq_some_iff.mp H
    obtain ⟨t339,A140,H⟩:=H
    replace H : (if t339 = true then (if t320 = t336 then ((drawbridgelaw20_heads.f k).bind fun t340=>(some t340)) else (some false)) else (some false)) = some r:=H
    have A14:=mK A140
    clear A140
    by_cases c15 : t339 = true
    ·subst c15
     have H1 : (if t320 = t336 then ((drawbridgelaw20_heads.f k).bind fun t340=>(some t340)) else (some false)) = some r:= by rw [if_pos rfl] at H;exact H
     clear H
     have H:=H1
     clear H1
     by_cases c16 : t320 = t336
     ·rw [if_pos c16] at H
      have c16b0 : (t320 == t336) = true:=beq_iff_eq.mpr c16
      have c16b1 : (t320 != t336) = false:=bne_eq_false_iff_eq.mpr c16
      clear c16
      replace H:=Option.bind_eq_some_iff.mp H
      obtain ⟨t340,A170,H⟩:=H
      replace H : (some t340) = some r:=H
      have A17:=mK A170
      clear A170
      obtain rfl:=Option.some.inj H
      go_enter Try.func4,Try.ntmps4
      go_wp2_with (first|((with_reducible refine gate_dst (N:=2) rfl ?_);refine box_event ?hg (N:=2) ?hd (cs:=#[.int .i64 a0_0,.int .u32 a0_1,.int .u32 a0_2,.int .u32 a0_3,.slice A0_4 l0_4.length c0_4,.int .i64 a0_5,.int .u32 a0_6,.int .u32 a0_7,.int .u32 a0_8,.int .u32 a0_9,.int .u32 a0_10,.int .u32 a0_11]) (t:=26) ?hr ?_;(case hd=>rfl);(case hg=>rfl);(case hr=>first|(go_simp;done)|(go_simp;rfl));intro gb296 hg w18 hbox hb;have n0_:=mK (below_step (by repeat (first|(with_reducible first|exact HB.out|apply lA|apply lN|apply lD)|exact HB.out)) hb);have n1_:=mK (hbox);have n3_:=mK ((by rw [hg];exact (below_size (by repeat (first|(with_reducible first|exact HB.out|apply lA|apply lN|apply lD)|exact HB.out))) : w.heap.size ≤ gb296));clear HB;have HB:=n0_;have BK296:=n1_;have GE296:=n3_;clear n0_ n1_ n3_;clear hb hbox hg;have hcz19_0 : w18.cell? ⟨gb296,0,none⟩ = some (.int .i64 a0_0):=(blk_cell BK296.out 0).trans rfl;have hcz19_1 : w18.cell? ⟨gb296,1,none⟩ = some (.int .u32 a0_1):=(blk_cell BK296.out 1).trans rfl;have hcz19_2 : w18.cell? ⟨gb296,2,none⟩ = some (.int .u32 a0_2):=(blk_cell BK296.out 2).trans rfl;have hcz19_3 : w18.cell? ⟨gb296,3,none⟩ = some (.int .u32 a0_3):=(blk_cell BK296.out 3).trans rfl;have hcz19_4 : w18.cell? ⟨gb296,4,none⟩ = some (.slice A0_4 l0_4.length c0_4):=(blk_cell BK296.out 4).trans rfl;have hcz19_5 : w18.cell? ⟨gb296,5,none⟩ = some (.int .i64 a0_5):=(blk_cell BK296.out 5).trans rfl;have hcz19_6 : w18.cell? ⟨gb296,6,none⟩ = some (.int .u32 a0_6):=(blk_cell BK296.out 6).trans rfl;have hcz19_7 : w18.cell? ⟨gb296,7,none⟩ = some (.int .u32 a0_7):=(blk_cell BK296.out 7).trans rfl;have hcz19_8 : w18.cell? ⟨gb296,8,none⟩ = some (.int .u32 a0_8):=(blk_cell BK296.out 8).trans rfl;have hcz19_9 : w18.cell? ⟨gb296,9,none⟩ = some (.int .u32 a0_9):=(blk_cell BK296.out 9).trans rfl;have hcz19_10 : w18.cell? ⟨gb296,10,none⟩ = some (.int .u32 a0_10):=(blk_cell BK296.out 10).trans rfl;have hcz19_11 : w18.cell? ⟨gb296,11,none⟩ = some (.int .u32 a0_11):=(blk_cell BK296.out 11).trans rfl;have hfz19_0:=blk_frozen BK296.out 0;have hfz19_1:=blk_frozen BK296.out 1;have hfz19_2:=blk_frozen BK296.out 2;have hfz19_3:=blk_frozen BK296.out 3;have hfz19_4:=blk_frozen BK296.out 4;have hfz19_5:=blk_frozen BK296.out 5;have hfz19_6:=blk_frozen BK296.out 6;have hfz19_7:=blk_frozen BK296.out 7;have hfz19_8:=blk_frozen BK296.out 8;have hfz19_9:=blk_frozen BK296.out 9;have hfz19_10:=blk_frozen BK296.out 10;have hfz19_11:=blk_frozen BK296.out 11)|((with_reducible refine gate_callee (f:=10) rfl ?_);refine goesL_ (some 19) rfl rfl Try.func10 (by kernel_rfl) rfl #[.agg #[.int .i64 a0_0,.int .u32 a0_1,.int .u32 a0_2,.int .u32 a0_3,.slice A0_4 l0_4.length c0_4,.int .i64 a0_5,.int .u32 a0_6,.int .u32 a0_7,.int .u32 a0_8,.int .u32 a0_9,.int .u32 a0_10,.int .u32 a0_11]] rfl (by (try simp only [List.map_toArray,List.map_cons,List.map_nil]);first|done|rfl|(simp only [List.length_drop,List.length_take];rfl)) ?_;(with_reducible refine (dhcp_Put.calls k a0_0 a0_1 a0_2 a0_3 _ _ l0_4 a0_5 a0_6 a0_7 a0_8 a0_9 a0_10 a0_11 t298 t301 _ ?side1 ?side2 A7.out).mono ?_);(case side1=>repeat (first|exact (Kd.C_below HR0_4.out HB.out)|(with_reducible refine Kd.C_alloc ?_ _)|(with_reducible refine Kd.C_drewN ?_ _)|(with_reducible refine Kd.C_drew ?_)));(case side2=>exact HC0_4.out);rintro e w20 ⟨v299,rfl,ho0,hb⟩;refine ⟨_,rfl,?_⟩;have n0_:=mK (Kd.R_lower ho0 (below_size (by repeat (first|(with_reducible first|exact HB.out|apply lA|apply lN|apply lD|refine lS ?_ GE296.out)|exact HB.out))));have n1_:=mK (blk_below (g:=gb296) (o:=.cells #[.int .i64 a0_0,.int .u32 a0_1,.int .u32 a0_2,.int .u32 a0_3,.slice A0_4 l0_4.length c0_4,.int .i64 a0_5,.int .u32 a0_6,.int .u32 a0_7,.int .u32 a0_8,.int .u32 a0_9,.int .u32 a0_10,.int .u32 a0_11] 26 (0,0)) (by (with_reducible repeat (first|apply bN|apply bD|apply bA));exact BK296.out) hb);have n2_:=mK (below_step (by repeat (first|(with_reducible first|exact HB.out|apply lA|apply lN|apply lD|refine lS ?_ GE296.out)|exact HB.out)) hb);clear BK296;clear HB;have HO300:=n0_;have BK296:=n1_;have HB:=n2_;clear n0_ n1_ n2_;(try clear hb);(try clear hb2);(try clear hk);(try clear hi);(try clear ho0);have hcz21_0 : w20.cell? ⟨gb296,0,none⟩ = some (.int .i64 a0_0):=(blk_cell BK296.out 0).trans rfl;have hcz21_1 : w20.cell? ⟨gb296,1,none⟩ = some (.int .u32 a0_1):=(blk_cell BK296.out 1).trans rfl;have hcz21_2 : w20.cell? ⟨gb296,2,none⟩ = some (.int .u32 a0_2):=(blk_cell BK296.out 2).trans rfl;have hcz21_3 : w20.cell? ⟨gb296,3,none⟩ = some (.int .u32 a0_3):=(blk_cell BK296.out 3).trans rfl;have hcz21_4 : w20.cell? ⟨gb296,4,none⟩ = some (.slice A0_4 l0_4.length c0_4):=(blk_cell BK296.out 4).trans rfl;have hcz21_5 : w20.cell? ⟨gb296,5,none⟩ = some (.int .i64 a0_5):=(blk_cell BK296.out 5).trans rfl;have hcz21_6 : w20.cell? ⟨gb296,6,none⟩ = some (.int .u32 a0_6):=(blk_cell BK296.out 6).trans rfl;have hcz21_7 : w20.cell? ⟨gb296,7,none⟩ = some (.int .u32 a0_7):=(blk_cell BK296.out 7).trans rfl;have hcz21_8 : w20.cell? ⟨gb296,8,none⟩ = some (.int .u32 a0_8):=(blk_cell BK296.out 8).trans rfl;have hcz21_9 : w20.cell? ⟨gb296,9,none⟩ = some (.int .u32 a0_9):=(blk_cell BK296.out 9).trans rfl;have hcz21_10 : w20.cell? ⟨gb296,10,none⟩ = some (.int .u32 a0_10):=(blk_cell BK296.out 10).trans rfl;have hcz21_11 : w20.cell? ⟨gb296,11,none⟩ = some (.int .u32 a0_11):=(blk_cell BK296.out 11).trans rfl;have hfz21_0:=blk_frozen BK296.out 0;have hfz21_1:=blk_frozen BK296.out 1;have hfz21_2:=blk_frozen BK296.out 2;have hfz21_3:=blk_frozen BK296.out 3;have hfz21_4:=blk_frozen BK296.out 4;have hfz21_5:=blk_frozen BK296.out 5;have hfz21_6:=blk_frozen BK296.out 6;have hfz21_7:=blk_frozen BK296.out 7;have hfz21_8:=blk_frozen BK296.out 8;have hfz21_9:=blk_frozen BK296.out 9;have hfz21_10:=blk_frozen BK296.out 10;have hfz21_11:=blk_frozen BK296.out 11)|((with_reducible refine gate_callee (f:=11) rfl ?_);refine goesL_ (some 24) rfl rfl Try.func11 (by kernel_rfl) rfl #[.agg #[.int .i64 a0_0,.int .u32 a0_1,.int .u32 a0_2,.int .u32 a0_3,.slice A0_4 l0_4.length c0_4,.int .i64 a0_5,.int .u32 a0_6,.int .u32 a0_7,.int .u32 a0_8,.int .u32 a0_9,.int .u32 a0_10,.int .u32 a0_11]] rfl (by (try simp only [List.map_toArray,List.map_cons,List.map_nil]);first|done|rfl|(simp only [List.length_drop,List.length_take];rfl)) ?_;(with_reducible refine (drawbridgeref20_Put.calls k a0_0 a0_1 a0_2 a0_3 _ _ l0_4 a0_5 a0_6 a0_7 a0_8 a0_9 a0_10 a0_11 t302 t305 _ ?side1 ?side2 A8.out).mono ?_);(case side1=>repeat (first|exact (Kd.C_below HR0_4.out HB.out)|(with_reducible refine Kd.C_alloc ?_ _)|(with_reducible refine Kd.C_drewN ?_ _)|(with_reducible refine Kd.C_drew ?_)));(case side2=>exact HC0_4.out);rintro e w22 ⟨v303,rfl,ho0,hb⟩;refine ⟨_,rfl,?_⟩;have n0_:=mK (Kd.R_elder' (by (with_reducible repeat (first|apply rA|apply rN|apply rD));exact HO300.out) (Kd.R_base ho0) hb);have n1_:=mK (Kd.R_lower (Kd.R_new' ho0 (Kd.R_lt (by (with_reducible repeat (first|apply rA|apply rN|apply rD));exact HO300.out))) (below_size (by repeat (first|(with_reducible first|exact HB.out|apply lA|apply lN|apply lD|refine lS ?_ GE296.out)|exact HB.out))));have n2_:=mK (blk_below (g:=gb296) (o:=.cells #[.int .i64 a0_0,.int .u32 a0_1,.int .u32 a0_2,.int .u32 a0_3,.slice A0_4 l0_4.length c0_4,.int .i64 a0_5,.int .u32 a0_6,.int .u32 a0_7,.int .u32 a0_8,.int .u32 a0_9,.int .u32 a0_10,.int .u32 a0_11] 26 (0,0)) (by (with_reducible repeat (first|apply bN|apply bD|apply bA));exact BK296.out) hb);have n3_:=mK (below_step (by repeat (first|(with_reducible first|exact HB.out|apply lA|apply lN|apply lD|refine lS ?_ GE296.out)|exact HB.out)) hb);clear HO300;clear BK296;clear HB;have HO300:=n0_;have HO304:=n1_;have BK296:=n2_;have HB:=n3_;clear n0_ n1_ n2_ n3_;(try clear hb);(try clear hb2);(try clear hk);(try clear hi);(try clear ho0))|((with_reducible refine gate_callee (f:=8) rfl ?_);refine goesL_ (some 29) rfl rfl Try.func8 (by kernel_rfl) rfl #[.slice A1 l1.length c1] rfl (by (try simp only [List.map_toArray,List.map_cons,List.map_nil]);first|done|rfl|(simp only [List.length_drop,List.length_take];rfl)) ?_;(with_reducible refine (dhcp_Get.calls k _ _ l1 t306 t307 t308 t309 t310 t313 t314 t315 t316 t317 t318 t319 t320 _ ?side1 ?side2 A9.out).mono ?_);(case side1=>repeat (first|exact (Kd.C_below HR1.out HB.out)|(with_reducible refine Kd.C_alloc ?_ _)|(with_reducible refine Kd.C_drewN ?_ _)|(with_reducible refine Kd.C_drew ?_)));(case side2=>exact HC1.out);rintro e w23 ⟨v311,rfl,ho0,hb⟩;refine ⟨_,rfl,?_⟩;have n0_:=mK (Kd.R_elder' (by (with_reducible repeat (first|apply rA|apply rN|apply rD));exact HO300.out) (Kd.R_base ho0) hb);have n1_:=mK (Kd.R_elder' (by (with_reducible repeat (first|apply rA|apply rN|apply rD));exact HO304.out) (Kd.R_base ho0) hb);have n2_:=mK (Kd.R_lower (Kd.R_new' (Kd.R_new' ho0 (Kd.R_lt (by (with_reducible repeat (first|apply rA|apply rN|apply rD));exact HO300.out))) (Kd.R_lt (by (with_reducible repeat (first|apply rA|apply rN|apply rD));exact HO304.out))) (below_size (by repeat (first|(with_reducible first|exact HB.out|apply lA|apply lN|apply lD|refine lS ?_ GE296.out)|exact HB.out))));have n3_:=mK (blk_below (g:=gb296) (o:=.cells #[.int .i64 a0_0,.int .u32 a0_1,.int .u32 a0_2,.int .u32 a0_3,.slice A0_4 l0_4.length c0_4,.int .i64 a0_5,.int .u32 a0_6,.int .u32 a0_7,.int .u32 a0_8,.int .u32 a0_9,.int .u32 a0_10,.int .u32 a0_11] 26 (0,0)) (by (with_reducible repeat (first|apply bN|apply bD|apply bA));exact BK296.out) hb);have n4_:=mK (below_step (by repeat (first|(with_reducible first|exact HB.out|apply lA|apply lN|apply lD|refine lS ?_ GE296.out)|exact HB.out)) hb);clear HO300;clear HO304;clear BK296;clear HB;have HO300:=n0_;have HO304:=n1_;have HO312:=n2_;have BK296:=n3_;have HB:=n4_;clear n0_ n1_ n2_ n3_ n4_;(try clear hb);(try clear hb2);(try clear hk);(try clear hi);(try clear ho0))|((with_reducible refine gate_dst (N:=9) rfl ?_);refine box_event ?hg (N:=9) ?hd (cs:=#[.int .i64 0,.int .u32 0,.int .u32 0,.int .u32 0,.slice none 0 0,.int .i64 0,.int .u32 0,.int .u32 0,.int .u32 0,.int .u32 0,.int .u32 0,.int .u32 0]) (t:=26) ?hr ?_;(case hd=>rfl);(case hg=>rfl);(case hr=>first|(go_simp;done)|(go_simp;rfl));intro gb321 hg w24 hbox hb;have n0_:=mK (Kd.R_below (by (with_reducible repeat (first|apply rA|apply rN|apply rD));exact HO300.out) hb);have n1_:=mK (Kd.R_below (by (with_reducible repeat (first|apply rA|apply rN|apply rD));exact HO304.out) hb);have n2_:=mK (Kd.R_below (by (with_reducible repeat (first|apply rA|apply rN|apply rD));exact HO312.out) hb);have n3_:=mK (blk_below (g:=gb296) (o:=.cells #[.int .i64 a0_0,.int .u32 a0_1,.int .u32 a0_2,.int .u32 a0_3,.slice A0_4 l0_4.length c0_4,.int .i64 a0_5,.int .u32 a0_6,.int .u32 a0_7,.int .u32 a0_8,.int .u32 a0_9,.int .u32 a0_10,.int .u32 a0_11] 26 (0,0)) (by (with_reducible repeat (first|apply bN|apply bD|apply bA));exact BK296.out) hb);have n4_:=mK (below_step (by repeat (first|(with_reducible first|exact HB.out|apply lA|apply lN|apply lD|refine lS ?_ GE296.out)|exact HB.out)) hb);have n5_:=mK (hbox);have n7_:=mK ((by rw [hg];exact (below_size (by repeat (first|(with_reducible first|exact HB.out|apply lA|apply lN|apply lD|refine lS ?_ GE296.out)|exact HB.out))) : w.heap.size ≤ gb321));have n8_:=mK ((by rw [hg];exact Nat.ne_of_lt (blk_lt (g:=gb296) (o:=.cells #[.int .i64 a0_0,.int .u32 a0_1,.int .u32 a0_2,.int .u32 a0_3,.slice A0_4 l0_4.length c0_4,.int .i64 a0_5,.int .u32 a0_6,.int .u32 a0_7,.int .u32 a0_8,.int .u32 a0_9,.int .u32 a0_10,.int .u32 a0_11] 26 (0,0)) (by (with_reducible repeat (first|apply bN|apply bD|apply bA));exact BK296.out)) : gb296 ≠ gb321));have n9_:=mK ((by rw [hg];exact Nat.ne_of_gt (blk_lt (g:=gb296) (o:=.cells #[.int .i64 a0_0,.int .u32 a0_1,.int .u32 a0_2,.int .u32 a0_3,.slice A0_4 l0_4.length c0_4,.int .i64 a0_5,.int .u32 a0_6,.int .u32 a0_7,.int .u32 a0_8,.int .u32 a0_9,.int .u32 a0_10,.int .u32 a0_11] 26 (0,0)) (by (with_reducible repeat (first|apply bN|apply bD|apply bA));exact BK296.out)) : gb321 ≠ gb296));clear HO300;clear HO304;clear HO312;clear BK296;clear HB;have HO300:=n0_;have HO304:=n1_;have HO312:=n2_;have BK296:=n3_;have HB:=n4_;have BK321:=n5_;have GE321:=n7_;have NB296_321:=n8_;have NB321_296:=n9_;clear n0_ n1_ n2_ n3_ n4_ n5_ n7_ n8_ n9_;clear hb hbox hg;have hnb25:=NB321_296.out;have hnc25:=NB296_321.out;have hcz26_0 : w24.cell? ⟨gb321,0,none⟩ = some (.int .i64 0):=(blk_cell BK321.out 0).trans rfl;have hcz26_1 : w24.cell? ⟨gb321,1,none⟩ = some (.int .u32 0):=(blk_cell BK321.out 1).trans rfl;have hcz26_2 : w24.cell? ⟨gb321,2,none⟩ = some (.int .u32 0):=(blk_cell BK321.out 2).trans rfl;have hcz26_3 : w24.cell? ⟨gb321,3,none⟩ = some (.int .u32 0):=(blk_cell BK321.out 3).trans rfl;have hcz26_4 : w24.cell? ⟨gb321,4,none⟩ = some (.slice none 0 0):=(blk_cell BK321.out 4).trans rfl;have hcz26_5 : w24.cell? ⟨gb321,5,none⟩ = some (.int .i64 0):=(blk_cell BK321.out 5).trans rfl;have hcz26_6 : w24.cell? ⟨gb321,6,none⟩ = some (.int .u32 0):=(blk_cell BK321.out 6).trans rfl;have hcz26_7 : w24.cell? ⟨gb321,7,none⟩ = some (.int .u32 0):=(blk_cell BK321.out 7).trans rfl;have hcz26_8 : w24.cell? ⟨gb321,8,none⟩ = some (.int .u32 0):=(blk_cell BK321.out 8).trans rfl;have hcz26_9 : w24.cell? ⟨gb321,9,none⟩ = some (.int .u32 0):=(blk_cell BK321.out 9).trans rfl;have hcz26_10 : w24.cell? ⟨gb321,10,none⟩ = some (.int .u32 0):=(blk_cell BK321.out 10).trans rfl;have hcz26_11 : w24.cell? ⟨gb321,11,none⟩ = some (.int .u32 0):=(blk_cell BK321.out 11).trans rfl;have hfz26_0:=blk_frozen BK321.out 0;have hfz26_1:=blk_frozen BK321.out 1;have hfz26_2:=blk_frozen BK321.out 2;have hfz26_3:=blk_frozen BK321.out 3;have hfz26_4:=blk_frozen BK321.out 4;have hfz26_5:=blk_frozen BK321.out 5;have hfz26_6:=blk_frozen BK321.out 6;have hfz26_7:=blk_frozen BK321.out 7;have hfz26_8:=blk_frozen BK321.out 8;have hfz26_9:=blk_frozen BK321.out 9;have hfz26_10:=blk_frozen BK321.out 10;have hfz26_11:=blk_frozen BK321.out 11;obtain ⟨Ao27,co27,eo27⟩:=Kd.R_slice HO312.out;subst eo27)|((with_reducible refine gate_callee (f:=12) rfl ?_);refine goesL_ (some 34) rfl rfl Try.func12 (by kernel_rfl) rfl #[.slice A1 l1.length c1] rfl (by (try simp only [List.map_toArray,List.map_cons,List.map_nil]);first|done|rfl|(simp only [List.length_drop,List.length_take];rfl)) ?_;(with_reducible refine (drawbridgeref20_Get.calls k _ _ l1 t322 t323 t324 t325 t326 t329 t330 t331 t332 t333 t334 t335 t336 _ ?side1 ?side2 A10.out).mono ?_);(case side1=>exact Kd.C_below HR1.out (by repeat (first|(with_reducible first|exact HB.out|apply lA|apply lN|apply lD|refine lS ?_ GE296.out|refine lS ?_ GE321.out)|exact HB.out)));(case side2=>exact HC1.out);rintro e w28 ⟨v327,rfl,ho0,hb⟩;refine ⟨_,rfl,?_⟩;have n0_:=mK (Kd.R_elder' (by (with_reducible repeat (first|apply rA|apply rN|apply rD));exact (Kd.R_mono (Kd.R_far (p:=⟨gb321,11,none⟩) (Kd.R_far (p:=⟨gb321,10,none⟩) (Kd.R_far (p:=⟨gb321,9,none⟩) (Kd.R_far (p:=⟨gb321,8,none⟩) (Kd.R_far (p:=⟨gb321,7,none⟩) (Kd.R_far (p:=⟨gb321,6,none⟩) (Kd.R_far (p:=⟨gb321,5,none⟩) (Kd.R_far (p:=⟨gb321,4,none⟩) (Kd.R_far (p:=⟨gb321,3,none⟩) (Kd.R_far (p:=⟨gb321,2,none⟩) (Kd.R_far (p:=⟨gb321,1,none⟩) (Kd.R_far (p:=⟨gb321,0,none⟩) (Kd.R_types HO300.out BK321.out (by decide)) (fun _ hk=>hk.2) (.int .i64 t306)) (fun _ hk=>hk.2) (.int .u32 t307)) (fun _ hk=>hk.2) (.int .u32 t308)) (fun _ hk=>hk.2) (.int .u32 t309)) (fun _ hk=>hk.2) (.slice Ao27 t310.length co27)) (fun _ hk=>hk.2) (.int .i64 t313)) (fun _ hk=>hk.2) (.int .u32 t314)) (fun _ hk=>hk.2) (.int .u32 t315)) (fun _ hk=>hk.2) (.int .u32 t316)) (fun _ hk=>hk.2) (.int .u32 t317)) (fun _ hk=>hk.2) (.int .u32 t318)) (fun _ hk=>hk.2) (.int .u32 t319)) (fun _ h_=>h_.1))) (Kd.R_base ho0) hb);have n1_:=mK (Kd.R_elder' (by (with_reducible repeat (first|apply rA|apply rN|apply rD));exact (Kd.R_mono (Kd.R_far (p:=⟨gb321,11,none⟩) (Kd.R_far (p:=⟨gb321,10,none⟩) (Kd.R_far (p:=⟨gb321,9,none⟩) (Kd.R_far (p:=⟨gb321,8,none⟩) (Kd.R_far (p:=⟨gb321,7,none⟩) (Kd.R_far (p:=⟨gb321,6,none⟩) (Kd.R_far (p:=⟨gb321,5,none⟩) (Kd.R_far (p:=⟨gb321,4,none⟩) (Kd.R_far (p:=⟨gb321,3,none⟩) (Kd.R_far (p:=⟨gb321,2,none⟩) (Kd.R_far (p:=⟨gb321,1,none⟩) (Kd.R_far (p:=⟨gb321,0,none⟩) (Kd.R_types HO304.out BK321.out (by decide)) (fun _ hk=>hk.2) (.int .i64 t306)) (fun _ hk=>hk.2) (.int .u32 t307)) (fun _ hk=>hk.2) (.int .u32 t308)) (fun _ hk=>hk.2) (.int .u32 t309)) (fun _ hk=>hk.2) (.slice Ao27 t310.length co27)) (fun _ hk=>hk.2) (.int .i64 t313)) (fun _ hk=>hk.2) (.int .u32 t314)) (fun _ hk=>hk.2) (.int .u32 t315)) (fun _ hk=>hk.2) (.int .u32 t316)) (fun _ hk=>hk.2) (.int .u32 t317)) (fun _ hk=>hk.2) (.int .u32 t318)) (fun _ hk=>hk.2) (.int .u32 t319)) (fun _ h_=>h_.1))) (Kd.R_base ho0) hb);have n2_:=mK (Kd.R_elder' (by (with_reducible repeat (first|apply rA|apply rN|apply rD));exact (Kd.R_mono (Kd.R_far (p:=⟨gb321,11,none⟩) (Kd.R_far (p:=⟨gb321,10,none⟩) (Kd.R_far (p:=⟨gb321,9,none⟩) (Kd.R_far (p:=⟨gb321,8,none⟩) (Kd.R_far (p:=⟨gb321,7,none⟩) (Kd.R_far (p:=⟨gb321,6,none⟩) (Kd.R_far (p:=⟨gb321,5,none⟩) (Kd.R_far (p:=⟨gb321,4,none⟩) (Kd.R_far (p:=⟨gb321,3,none⟩) (Kd.R_far (p:=⟨gb321,2,none⟩) (Kd.R_far (p:=⟨gb321,1,none⟩) (Kd.R_far (p:=⟨gb321,0,none⟩) (Kd.R_types HO312.out BK321.out (by decide)) (fun _ hk=>hk.2) (.int .i64 t306)) (fun _ hk=>hk.2) (.int .u32 t307)) (fun _ hk=>hk.2) (.int .u32 t308)) (fun _ hk=>hk.2) (.int .u32 t309)) (fun _ hk=>hk.2) (.slice Ao27 t310.length co27)) (fun _ hk=>hk.2) (.int .i64 t313)) (fun _ hk=>hk.2) (.int .u32 t314)) (fun _ hk=>hk.2) (.int .u32 t315)) (fun _ hk=>hk.2) (.int .u32 t316)) (fun _ hk=>hk.2) (.int .u32 t317)) (fun _ hk=>hk.2) (.int .u32 t318)) (fun _ hk=>hk.2) (.int .u32 t319)) (fun _ h_=>h_.1))) (Kd.R_base ho0) hb);have n3_:=mK (Kd.R_lower (Kd.R_new' (Kd.R_new' (Kd.R_new' ho0 (Kd.R_lt (by (with_reducible repeat (first|apply rA|apply rN|apply rD));exact (Kd.R_mono (Kd.R_far (p:=⟨gb321,11,none⟩) (Kd.R_far (p:=⟨gb321,10,none⟩) (Kd.R_far (p:=⟨gb321,9,none⟩) (Kd.R_far (p:=⟨gb321,8,none⟩) (Kd.R_far (p:=⟨gb321,7,none⟩) (Kd.R_far (p:=⟨gb321,6,none⟩) (Kd.R_far (p:=⟨gb321,5,none⟩) (Kd.R_far (p:=⟨gb321,4,none⟩) (Kd.R_far (p:=⟨gb321,3,none⟩) (Kd.R_far (p:=⟨gb321,2,none⟩) (Kd.R_far (p:=⟨gb321,1,none⟩) (Kd.R_far (p:=⟨gb321,0,none⟩) (Kd.R_types HO300.out BK321.out (by decide)) (fun _ hk=>hk.2) (.int .i64 t306)) (fun _ hk=>hk.2) (.int .u32 t307)) (fun _ hk=>hk.2) (.int .u32 t308)) (fun _ hk=>hk.2) (.int .u32 t309)) (fun _ hk=>hk.2) (.slice Ao27 t310.length co27)) (fun _ hk=>hk.2) (.int .i64 t313)) (fun _ hk=>hk.2) (.int .u32 t314)) (fun _ hk=>hk.2) (.int .u32 t315)) (fun _ hk=>hk.2) (.int .u32 t316)) (fun _ hk=>hk.2) (.int .u32 t317)) (fun _ hk=>hk.2) (.int .u32 t318)) (fun _ hk=>hk.2) (.int .u32 t319)) (fun _ h_=>h_.1))))) (Kd.R_lt (by (with_reducible repeat (first|apply rA|apply rN|apply rD));exact (Kd.R_mono (Kd.R_far (p:=⟨gb321,11,none⟩) (Kd.R_far (p:=⟨gb321,10,none⟩) (Kd.R_far (p:=⟨gb321,9,none⟩) (Kd.R_far (p:=⟨gb321,8,none⟩) (Kd.R_far (p:=⟨gb321,7,none⟩) (Kd.R_far (p:=⟨gb321,6,none⟩) (Kd.R_far (p:=⟨gb321,5,none⟩) (Kd.R_far (p:=⟨gb321,4,none⟩) (Kd.R_far (p:=⟨gb321,3,none⟩) (Kd.R_far (p:=⟨gb321,2,none⟩) (Kd.R_far (p:=⟨gb321,1,none⟩) (Kd.R_far (p:=⟨gb321,0,none⟩) (Kd.R_types HO304.out BK321.out (by decide)) (fun _ hk=>hk.2) (.int .i64 t306)) (fun _ hk=>hk.2) (.int .u32 t307)) (fun _ hk=>hk.2) (.int .u32 t308)) (fun _ hk=>hk.2) (.int .u32 t309)) (fun _ hk=>hk.2) (.slice Ao27 t310.length co27)) (fun _ hk=>hk.2) (.int .i64 t313)) (fun _ hk=>hk.2) (.int .u32 t314)) (fun _ hk=>hk.2) (.int .u32 t315)) (fun _ hk=>hk.2) (.int .u32 t316)) (fun _ hk=>hk.2) (.int .u32 t317)) (fun _ hk=>hk.2) (.int .u32 t318)) (fun _ hk=>hk.2) (.int .u32 t319)) (fun _ h_=>h_.1))))) (Kd.R_lt (by (with_reducible repeat (first|apply rA|apply rN|apply rD));exact (Kd.R_mono (Kd.R_far (p:=⟨gb321,11,none⟩) (Kd.R_far (p:=⟨gb321,10,none⟩) (Kd.R_far (p:=⟨gb321,9,none⟩) (Kd.R_far (p:=⟨gb321,8,none⟩) (Kd.R_far (p:=⟨gb321,7,none⟩) (Kd.R_far (p:=⟨gb321,6,none⟩) (Kd.R_far (p:=⟨gb321,5,none⟩) (Kd.R_far (p:=⟨gb321,4,none⟩) (Kd.R_far (p:=⟨gb321,3,none⟩) (Kd.R_far (p:=⟨gb321,2,none⟩) (Kd.R_far (p:=⟨gb321,1,none⟩) (Kd.R_far (p:=⟨gb321,0,none⟩) (Kd.R_types HO312.out BK321.out (by decide)) (fun _ hk=>hk.2) (.int .i64 t306)) (fun _ hk=>hk.2) (.int .u32 t307)) (fun _ hk=>hk.2) (.int .u32 t308)) (fun _ hk=>hk.2) (.int .u32 t309)) (fun _ hk=>hk.2) (.slice Ao27 t310.length co27)) (fun _ hk=>hk.2) (.int .i64 t313)) (fun _ hk=>hk.2) (.int .u32 t314)) (fun _ hk=>hk.2) (.int .u32 t315)) (fun _ hk=>hk.2) (.int .u32 t316)) (fun _ hk=>hk.2) (.int .u32 t317)) (fun _ hk=>hk.2) (.int .u32 t318)) (fun _ hk=>hk.2) (.int .u32 t319)) (fun _ h_=>h_.1))))) (below_size (by repeat (first|(with_reducible first|exact HB.out|apply lA|apply lN|apply lD|refine lS ?_ GE296.out|refine lS ?_ GE321.out)|exact HB.out))));have n4_:=mK (blk_below (g:=gb296) (o:=.cells #[.int .i64 a0_0,.int .u32 a0_1,.int .u32 a0_2,.int .u32 a0_3,.slice A0_4 l0_4.length c0_4,.int .i64 a0_5,.int .u32 a0_6,.int .u32 a0_7,.int .u32 a0_8,.int .u32 a0_9,.int .u32 a0_10,.int .u32 a0_11] 26 (0,0)) (by (with_reducible repeat (first|apply bN|apply bD|apply bA));refine blk_far ?_ NB296_321.out _;(with_reducible repeat (first|apply bN|apply bD|apply bA));refine blk_far ?_ NB296_321.out _;(with_reducible repeat (first|apply bN|apply bD|apply bA));refine blk_far ?_ NB296_321.out _;(with_reducible repeat (first|apply bN|apply bD|apply bA));refine blk_far ?_ NB296_321.out _;(with_reducible repeat (first|apply bN|apply bD|apply bA));refine blk_far ?_ NB296_321.out _;(with_reducible repeat (first|apply bN|apply bD|apply bA));refine blk_far ?_ NB296_321.out _;(with_reducible repeat (first|apply bN|apply bD|apply bA));refine blk_far ?_ NB296_321.out _;(with_reducible repeat (first|apply bN|apply bD|apply bA));refine blk_far ?_ NB296_321.out _;(with_reducible repeat (first|apply bN|apply bD|apply bA));refine blk_far ?_ NB296_321.out _;(with_reducible repeat (first|apply bN|apply bD|apply bA));refine blk_far ?_ NB296_321.out _;(with_reducible repeat (first|apply bN|apply bD|apply bA));refine blk_far ?_ NB296_321.out _;(with_reducible repeat (first|apply bN|apply bD|apply bA));refine blk_far ?_ NB296_321.out _;(with_reducible repeat (first|apply bN|apply bD|apply bA));exact BK296.out) hb);have n5_:=mK (blk_below (g:=gb321) (o:=.cells #[.int .i64 t306,.int .u32 t307,.int .u32 t308,.int .u32 t309,.slice Ao27 t310.length co27,.int .i64 t313,.int .u32 t314,.int .u32 t315,.int .u32 t316,.int .u32 t317,.int .u32 t318,.int .u32 t319] 26 (0,0)) (by (with_reducible repeat (first|apply bN|apply bD|apply bA));refine blk_put (cs:=#[.int .i64 t306,.int .u32 t307,.int .u32 t308,.int .u32 t309,.slice Ao27 t310.length co27,.int .i64 t313,.int .u32 t314,.int .u32 t315,.int .u32 t316,.int .u32 t317,.int .u32 t318,.int .u32 0]) ?_ 11 _ rfl;(with_reducible repeat (first|apply bN|apply bD|apply bA));refine blk_put (cs:=#[.int .i64 t306,.int .u32 t307,.int .u32 t308,.int .u32 t309,.slice Ao27 t310.length co27,.int .i64 t313,.int .u32 t314,.int .u32 t315,.int .u32 t316,.int .u32 t317,.int .u32 0,.int .u32 0]) ?_ 10 _ rfl;(with_reducible repeat (first|apply bN|apply bD|apply bA));refine blk_put (cs:=#[.int .i64 t306,.int .u32 t307,.int .u32 t308,.int .u32 t309,.slice Ao27 t310.length co27,.int .i64 t313,.int .u32 t314,.int .u32 t315,.int .u32 t316,.int .u32 0,.int .u32 0,.int .u32 0]) ?_ 9 _ rfl;(with_reducible repeat (first|apply bN|apply bD|apply bA));refine blk_put (cs:=#[.int .i64 t306,.int .u32 t307,.int .u32 t308,.int .u32 t309,.slice Ao27 t310.length co27,.int .i64 t313,.int .u32 t314,.int .u32 t315,.int .u32 0,.int .u32 0,.int .u32 0,.int .u32 0]) ?_ 8 _ rfl;(with_reducible repeat (first|apply bN|apply bD|apply bA));refine blk_put (cs:=#[.int .i64 t306,.int .u32 t307,.int .u32 t308,.int .u32 t309,.slice Ao27 t310.length co27,.int .i64 t313,.int .u32 t314,.int .u32 0,.int .u32 0,.int .u32 0,.int .u32 0,.int .u32 0]) ?_ 7 _ rfl;(with_reducible repeat (first|apply bN|apply bD|apply bA));refine blk_put (cs:=#[.int .i64 t306,.int .u32 t307,.int .u32 t308,.int .u32 t309,.slice Ao27 t310.length co27,.int .i64 t313,.int .u32 0,.int .u32 0,.int .u32 0,.int .u32 0,.int .u32 0,.int .u32 0]) ?_ 6 _ rfl;(with_reducible repeat (first|apply bN|apply bD|apply bA));refine blk_put (cs:=#[.int .i64 t306,.int .u32 t307,.int .u32 t308,.int .u32 t309,.slice Ao27 t310.length co27,.int .i64 0,.int .u32 0,.int .u32 0,.int .u32 0,.int .u32 0,.int .u32 0,.int .u32 0]) ?_ 5 _ rfl;(with_reducible repeat (first|apply bN|apply bD|apply bA));refine blk_put (cs:=#[.int .i64 t306,.int .u32 t307,.int .u32 t308,.int .u32 t309,.slice none 0 0,.int .i64 0,.int .u32 0,.int .u32 0,.int .u32 0,.int .u32 0,.int .u32 0,.int .u32 0]) ?_ 4 _ rfl;(with_reducible repeat (first|apply bN|apply bD|apply bA));refine blk_put (cs:=#[.int .i64 t306,.int .u32 t307,.int .u32 t308,.int .u32 0,.slice none 0 0,.int .i64 0,.int .u32 0,.int .u32 0,.int .u32 0,.int .u32 0,.int .u32 0,.int .u32 0]) ?_ 3 _ rfl;(with_reducible repeat (first|apply bN|apply bD|apply bA));refine blk_put (cs:=#[.int .i64 t306,.int .u32 t307,.int .u32 0,.int .u32 0,.slice none 0 0,.int .i64 0,.int .u32 0,.int .u32 0,.int .u32 0,.int .u32 0,.int .u32 0,.int .u32 0]) ?_ 2 _ rfl;(with_reducible repeat (first|apply bN|apply bD|apply bA));refine blk_put (cs:=#[.int .i64 t306,.int .u32 0,.int .u32 0,.int .u32 0,.slice none 0 0,.int .i64 0,.int .u32 0,.int .u32 0,.int .u32 0,.int .u32 0,.int .u32 0,.int .u32 0]) ?_ 1 _ rfl;(with_reducible repeat (first|apply bN|apply bD|apply bA));refine blk_put (cs:=#[.int .i64 0,.int .u32 0,.int .u32 0,.int .u32 0,.slice none 0 0,.int .i64 0,.int .u32 0,.int .u32 0,.int .u32 0,.int .u32 0,.int .u32 0,.int .u32 0]) ?_ 0 _ rfl;(with_reducible repeat (first|apply bN|apply bD|apply bA));exact BK321.out) hb);have n6_:=mK (below_step (by repeat (first|(with_reducible first|exact HB.out|apply lA|apply lN|apply lD|refine lS ?_ GE296.out|refine lS ?_ GE321.out)|exact HB.out)) hb);clear HO300;clear HO304;clear HO312;clear BK296;clear BK321;clear HB;have HO300:=n0_;have HO304:=n1_;have HO312:=n2_;have HO328:=n3_;have BK296:=n4_;have BK321:=n5_;have HB:=n6_;clear n0_ n1_ n2_ n3_ n4_ n5_ n6_;(try clear hb);(try clear hb2);(try clear hk);(try clear hi);(try clear ho0))|((with_reducible refine gate_dst (N:=11) rfl ?_);refine box_event ?hg (N:=11) ?hd (cs:=#[.int .i64 0,.int .u32 0,.int .u32 0,.int .u32 0,.slice none 0 0,.int .i64 0,.int .u32 0,.int .u32 0,.int .u32 0,.int .u32 0,.int .u32 0,.int .u32 0]) (t:=26) ?hr ?_;(case hd=>rfl);(case hg=>rfl);(case hr=>first|(go_simp;done)|(go_simp;rfl));intro gb337 hg w29 hbox hb;have n0_:=mK (Kd.R_below (by (with_reducible repeat (first|apply rA|apply rN|apply rD));exact HO300.out) hb);have n1_:=mK (Kd.R_below (by (with_reducible repeat (first|apply rA|apply rN|apply rD));exact HO304.out) hb);have n2_:=mK (Kd.R_below (by (with_reducible repeat (first|apply rA|apply rN|apply rD));exact HO312.out) hb);have n3_:=mK (Kd.R_below (by (with_reducible repeat (first|apply rA|apply rN|apply rD));exact HO328.out) hb);have n5_:=mK (blk_below (g:=gb321) (o:=.cells #[.int .i64 t306,.int .u32 t307,.int .u32 t308,.int .u32 t309,.slice Ao27 t310.length co27,.int .i64 t313,.int .u32 t314,.int .u32 t315,.int .u32 t316,.int .u32 t317,.int .u32 t318,.int .u32 t319] 26 (0,0)) (by (with_reducible repeat (first|apply bN|apply bD|apply bA));exact BK321.out) hb);have n6_:=mK (below_step (by repeat (first|(with_reducible first|exact HB.out|apply lA|apply lN|apply lD|refine lS ?_ GE296.out|refine lS ?_ GE321.out)|exact HB.out)) hb);have n7_:=mK (hbox);have n9_:=mK ((by rw [hg];exact (below_size (by repeat (first|(with_reducible first|exact HB.out|apply lA|apply lN|apply lD|refine lS ?_ GE296.out|refine lS ?_ GE321.out)|exact HB.out))) : w.heap.size ≤ gb337));have n10_:=mK ((by rw [hg];exact Nat.ne_of_lt (blk_lt (g:=gb296) (o:=.cells #[.int .i64 a0_0,.int .u32 a0_1,.int .u32 a0_2,.int .u32 a0_3,.slice A0_4 l0_4.length c0_4,.int .i64 a0_5,.int .u32 a0_6,.int .u32 a0_7,.int .u32 a0_8,.int .u32 a0_9,.int .u32 a0_10,.int .u32 a0_11] 26 (0,0)) (by (with_reducible repeat (first|apply bN|apply bD|apply bA));exact BK296.out)) : gb296 ≠ gb337));have n11_:=mK ((by rw [hg];exact Nat.ne_of_gt (blk_lt (g:=gb296) (o:=.cells #[.int .i64 a0_0,.int .u32 a0_1,.int .u32 a0_2,.int .u32 a0_3,.slice A0_4 l0_4.length c0_4,.int .i64 a0_5,.int .u32 a0_6,.int .u32 a0_7,.int .u32 a0_8,.int .u32 a0_9,.int .u32 a0_10,.int .u32 a0_11] 26 (0,0)) (by (with_reducible repeat (first|apply bN|apply bD|apply bA));exact BK296.out)) : gb337 ≠ gb296));have n12_:=mK ((by rw [hg];exact Nat.ne_of_lt (blk_lt (g:=gb321) (o:=.cells #[.int .i64 t306,.int .u32 t307,.int .u32 t308,.int .u32 t309,.slice Ao27 t310.length co27,.int .i64 t313,.int .u32 t314,.int .u32 t315,.int .u32 t316,.int .u32 t317,.int .u32 t318,.int .u32 t319] 26 (0,0)) (by (with_reducible repeat (first|apply bN|apply bD|apply bA));exact BK321.out)) : gb321 ≠ gb337));have n13_:=mK ((by rw [hg];exact Nat.ne_of_gt (blk_lt (g:=gb321) (o:=.cells #[.int .i64 t306,.int .u32 t307,.int .u32 t308,.int .u32 t309,.slice Ao27 t310.length co27,.int .i64 t313,.int .u32 t314,.int .u32 t315,.int .u32 t316,.int .u32 t317,.int .u32 t318,.int .u32 t319] 26 (0,0)) (by (with_reducible repeat (first|apply bN|apply bD|apply bA));exact BK321.out)) : gb337 ≠ gb321));clear HO300;clear HO304;clear HO312;clear HO328;clear BK321;clear HB;have HO300:=n0_;have HO304:=n1_;have HO312:=n2_;have HO328:=n3_;have BK321:=n5_;have HB:=n6_;have BK337:=n7_;have GE337:=n9_;have NB296_337:=n10_;have NB337_296:=n11_;have NB321_337:=n12_;have NB337_321:=n13_;clear n0_ n1_ n2_ n3_ n5_ n6_ n7_ n9_ n10_ n11_ n12_ n13_;clear hb hbox hg;have hnb30:=NB337_296.out;have hnc30:=NB296_337.out;have hnb31:=NB337_321.out;have hnc31:=NB321_337.out;have hcz32_0 : w29.cell? ⟨gb337,0,none⟩ = some (.int .i64 0):=(blk_cell BK337.out 0).trans rfl;have hcz32_1 : w29.cell? ⟨gb337,1,none⟩ = some (.int .u32 0):=(blk_cell BK337.out 1).trans rfl;have hcz32_2 : w29.cell? ⟨gb337,2,none⟩ = some (.int .u32 0):=(blk_cell BK337.out 2).trans rfl;have hcz32_3 : w29.cell? ⟨gb337,3,none⟩ = some (.int .u32 0):=(blk_cell BK337.out 3).trans rfl;have hcz32_4 : w29.cell? ⟨gb337,4,none⟩ = some (.slice none 0 0):=(blk_cell BK337.out 4).trans rfl;have hcz32_5 : w29.cell? ⟨gb337,5,none⟩ = some (.int .i64 0):=(blk_cell BK337.out 5).trans rfl;have hcz32_6 : w29.cell? ⟨gb337,6,none⟩ = some (.int .u32 0):=(blk_cell BK337.out 6).trans rfl;have hcz32_7 : w29.cell? ⟨gb337,7,none⟩ = some (.int .u32 0):=(blk_cell BK337.out 7).trans rfl;have hcz32_8 : w29.cell? ⟨gb337,8,none⟩ = some (.int .u32 0):=(blk_cell BK337.out 8).trans rfl;have hcz32_9 : w29.cell? ⟨gb337,9,none⟩ = some (.int .u32 0):=(blk_cell BK337.out 9).trans rfl;have hcz32_10 : w29.cell? ⟨gb337,10,none⟩ = some (.int .u32 0):=(blk_cell BK337.out 10).trans rfl;have hcz32_11 : w29.cell? ⟨gb337,11,none⟩ = some (.int .u32 0):=(blk_cell BK337.out 11).trans rfl;have hfz32_0:=blk_frozen BK337.out 0;have hfz32_1:=blk_frozen BK337.out 1;have hfz32_2:=blk_frozen BK337.out 2;have hfz32_3:=blk_frozen BK337.out 3;have hfz32_4:=blk_frozen BK337.out 4;have hfz32_5:=blk_frozen BK337.out 5;have hfz32_6:=blk_frozen BK337.out 6;have hfz32_7:=blk_frozen BK337.out 7;have hfz32_8:=blk_frozen BK337.out 8;have hfz32_9:=blk_frozen BK337.out 9;have hfz32_10:=blk_frozen BK337.out 10;have hfz32_11:=blk_frozen BK337.out 11;obtain ⟨Ao33,co33,eo33⟩:=Kd.R_slice HO328.out;subst eo33;obtain ⟨Ao34,co34,eo34⟩:=Kd.R_slice HO300.out;subst eo34;obtain ⟨Ao35,co35,eo35⟩:=Kd.R_slice HO304.out;subst eo35)|((with_reducible refine gate_callee (f:=13) rfl ?_);refine goesL_ (some 39) rfl rfl Try.func13 (by kernel_rfl) rfl #[.slice Ao34 t298.length co34,.slice Ao35 t302.length co35] rfl (by (try simp only [List.map_toArray,List.map_cons,List.map_nil]);first|done|rfl|(simp only [List.length_drop,List.length_take];rfl)) ?_;(with_reducible refine (drawbridgeref01_Same.calls _ _ t298 _ _ t302 true _ ?side1 ?side2 ?side3 ?side4 A11.out).mono ?_);(case side1=>refine (Kd.R_reads' (e:=5) (base:=w.heap.size) (ok:= fun k_=>(((True∧some k_ ≠ (.slice Ao35 t302.length co35 : Value).ownBlock)∧some k_ ≠ (.slice Ao27 t310.length co27 : Value).ownBlock)∧some k_ ≠ (.slice Ao33 t326.length co33 : Value).ownBlock)) (n:=t298.length) (c:=co34) ?_).2.2;exact (by (with_reducible repeat (first|apply rA|apply rN|apply rD));exact (Kd.R_mono (Kd.R_far (p:=⟨gb337,11,none⟩) (Kd.R_far (p:=⟨gb337,10,none⟩) (Kd.R_far (p:=⟨gb337,9,none⟩) (Kd.R_far (p:=⟨gb337,8,none⟩) (Kd.R_far (p:=⟨gb337,7,none⟩) (Kd.R_far (p:=⟨gb337,6,none⟩) (Kd.R_far (p:=⟨gb337,5,none⟩) (Kd.R_far (p:=⟨gb337,4,none⟩) (Kd.R_far (p:=⟨gb337,3,none⟩) (Kd.R_far (p:=⟨gb337,2,none⟩) (Kd.R_far (p:=⟨gb337,1,none⟩) (Kd.R_far (p:=⟨gb337,0,none⟩) (Kd.R_types HO300.out BK337.out (by decide)) (fun _ hk=>hk.2) (.int .i64 t322)) (fun _ hk=>hk.2) (.int .u32 t323)) (fun _ hk=>hk.2) (.int .u32 t324)) (fun _ hk=>hk.2) (.int .u32 t325)) (fun _ hk=>hk.2) (.slice Ao33 t326.length co33)) (fun _ hk=>hk.2) (.int .i64 t329)) (fun _ hk=>hk.2) (.int .u32 t330)) (fun _ hk=>hk.2) (.int .u32 t331)) (fun _ hk=>hk.2) (.int .u32 t332)) (fun _ hk=>hk.2) (.int .u32 t333)) (fun _ hk=>hk.2) (.int .u32 t334)) (fun _ hk=>hk.2) (.int .u32 t335)) (fun _ h_=>h_.1))));(case side2=>exact (Kd.R_reads' HO300.out).2.1);(case side3=>refine (Kd.R_reads' (e:=5) (base:=w.heap.size) (ok:= fun k_=>(((True∧some k_ ≠ (.slice Ao34 t298.length co34 : Value).ownBlock)∧some k_ ≠ (.slice Ao27 t310.length co27 : Value).ownBlock)∧some k_ ≠ (.slice Ao33 t326.length co33 : Value).ownBlock)) (n:=t302.length) (c:=co35) ?_).2.2;exact (by (with_reducible repeat (first|apply rA|apply rN|apply rD));exact (Kd.R_mono (Kd.R_far (p:=⟨gb337,11,none⟩) (Kd.R_far (p:=⟨gb337,10,none⟩) (Kd.R_far (p:=⟨gb337,9,none⟩) (Kd.R_far (p:=⟨gb337,8,none⟩) (Kd.R_far (p:=⟨gb337,7,none⟩) (Kd.R_far (p:=⟨gb337,6,none⟩) (Kd.R_far (p:=⟨gb337,5,none⟩) (Kd.R_far (p:=⟨gb337,4,none⟩) (Kd.R_far (p:=⟨gb337,3,none⟩) (Kd.R_far (p:=⟨gb337,2,none⟩) (Kd.R_far (p:=⟨gb337,1,none⟩) (Kd.R_far (p:=⟨gb337,0,none⟩) (Kd.R_types HO304.out BK337.out (by decide)) (fun _ hk=>hk.2) (.int .i64 t322)) (fun _ hk=>hk.2) (.int .u32 t323)) (fun _ hk=>hk.2) (.int .u32 t324)) (fun _ hk=>hk.2) (.int .u32 t325)) (fun _ hk=>hk.2) (.slice Ao33 t326.length co33)) (fun _ hk=>hk.2) (.int .i64 t329)) (fun _ hk=>hk.2) (.int .u32 t330)) (fun _ hk=>hk.2) (.int .u32 t331)) (fun _ hk=>hk.2) (.int .u32 t332)) (fun _ hk=>hk.2) (.int .u32 t333)) (fun _ hk=>hk.2) (.int .u32 t334)) (fun _ hk=>hk.2) (.int .u32 t335)) (fun _ h_=>h_.1))));(case side4=>exact (Kd.R_reads' HO304.out).2.1);rintro e w' ⟨rfl,⟨nd,rfl⟩⟩;refine ⟨_,rfl,?_⟩;have hcz36_0 : w29.cell? ⟨gb321,0,none⟩ = some (.int .i64 t306):=(blk_cell BK321.out 0).trans rfl;have hcz36_1 : w29.cell? ⟨gb321,1,none⟩ = some (.int .u32 t307):=(blk_cell BK321.out 1).trans rfl;have hcz36_2 : w29.cell? ⟨gb321,2,none⟩ = some (.int .u32 t308):=(blk_cell BK321.out 2).trans rfl;have hcz36_3 : w29.cell? ⟨gb321,3,none⟩ = some (.int .u32 t309):=(blk_cell BK321.out 3).trans rfl;have hcz36_4 : w29.cell? ⟨gb321,4,none⟩ = some (.slice Ao27 t310.length co27):=(blk_cell BK321.out 4).trans rfl;have hcz36_5 : w29.cell? ⟨gb321,5,none⟩ = some (.int .i64 t313):=(blk_cell BK321.out 5).trans rfl;have hcz36_6 : w29.cell? ⟨gb321,6,none⟩ = some (.int .u32 t314):=(blk_cell BK321.out 6).trans rfl;have hcz36_7 : w29.cell? ⟨gb321,7,none⟩ = some (.int .u32 t315):=(blk_cell BK321.out 7).trans rfl;have hcz36_8 : w29.cell? ⟨gb321,8,none⟩ = some (.int .u32 t316):=(blk_cell BK321.out 8).trans rfl;have hcz36_9 : w29.cell? ⟨gb321,9,none⟩ = some (.int .u32 t317):=(blk_cell BK321.out 9).trans rfl;have hcz36_10 : w29.cell? ⟨gb321,10,none⟩ = some (.int .u32 t318):=(blk_cell BK321.out 10).trans rfl;have hcz36_11 : w29.cell? ⟨gb321,11,none⟩ = some (.int .u32 t319):=(blk_cell BK321.out 11).trans rfl;have hfz36_0:=blk_frozen BK321.out 0;have hfz36_1:=blk_frozen BK321.out 1;have hfz36_2:=blk_frozen BK321.out 2;have hfz36_3:=blk_frozen BK321.out 3;have hfz36_4:=blk_frozen BK321.out 4;have hfz36_5:=blk_frozen BK321.out 5;have hfz36_6:=blk_frozen BK321.out 6;have hfz36_7:=blk_frozen BK321.out 7;have hfz36_8:=blk_frozen BK321.out 8;have hfz36_9:=blk_frozen BK321.out 9;have hfz36_10:=blk_frozen BK321.out 10;have hfz36_11:=blk_frozen BK321.out 11)|(go_at_call 9;(with_reducible refine (drawbridgeref20_Same.calls t306 t307 t308 t309 _ _ t310 t313 t314 t315 t316 t317 t318 t319 t322 t323 t324 t325 _ _ t326 t329 t330 t331 t332 t333 t334 t335 true _ ?side1 ?side2 ?side3 ?side4 A14.out).mono ?_);(case side1=>refine (Kd.R_reads' (e:=5) (base:=w.heap.size) (ok:= fun k_=>(((True∧some k_ ≠ (.slice Ao34 t298.length co34 : Value).ownBlock)∧some k_ ≠ (.slice Ao35 t302.length co35 : Value).ownBlock)∧some k_ ≠ (.slice Ao33 t326.length co33 : Value).ownBlock)) (n:=t310.length) (c:=co27) ?_).2.2;exact (by (with_reducible repeat (first|apply rA|apply rN|apply rD));exact (Kd.R_mono (Kd.R_far (p:=⟨gb337,11,none⟩) (Kd.R_far (p:=⟨gb337,10,none⟩) (Kd.R_far (p:=⟨gb337,9,none⟩) (Kd.R_far (p:=⟨gb337,8,none⟩) (Kd.R_far (p:=⟨gb337,7,none⟩) (Kd.R_far (p:=⟨gb337,6,none⟩) (Kd.R_far (p:=⟨gb337,5,none⟩) (Kd.R_far (p:=⟨gb337,4,none⟩) (Kd.R_far (p:=⟨gb337,3,none⟩) (Kd.R_far (p:=⟨gb337,2,none⟩) (Kd.R_far (p:=⟨gb337,1,none⟩) (Kd.R_far (p:=⟨gb337,0,none⟩) (Kd.R_types HO312.out BK337.out (by decide)) (fun _ hk=>hk.2) (.int .i64 t322)) (fun _ hk=>hk.2) (.int .u32 t323)) (fun _ hk=>hk.2) (.int .u32 t324)) (fun _ hk=>hk.2) (.int .u32 t325)) (fun _ hk=>hk.2) (.slice Ao33 t326.length co33)) (fun _ hk=>hk.2) (.int .i64 t329)) (fun _ hk=>hk.2) (.int .u32 t330)) (fun _ hk=>hk.2) (.int .u32 t331)) (fun _ hk=>hk.2) (.int .u32 t332)) (fun _ hk=>hk.2) (.int .u32 t333)) (fun _ hk=>hk.2) (.int .u32 t334)) (fun _ hk=>hk.2) (.int .u32 t335)) (fun _ h_=>h_.1))));(case side2=>exact (Kd.R_reads' HO312.out).2.1);(case side3=>refine (Kd.R_reads' (e:=5) (base:=w.heap.size) (ok:= fun k_=>(((True∧some k_ ≠ (.slice Ao34 t298.length co34 : Value).ownBlock)∧some k_ ≠ (.slice Ao35 t302.length co35 : Value).ownBlock)∧some k_ ≠ (.slice Ao27 t310.length co27 : Value).ownBlock)) (n:=t326.length) (c:=co33) ?_).2.2;exact (by (with_reducible repeat (first|apply rA|apply rN|apply rD));exact (Kd.R_mono (Kd.R_far (p:=⟨gb337,11,none⟩) (Kd.R_far (p:=⟨gb337,10,none⟩) (Kd.R_far (p:=⟨gb337,9,none⟩) (Kd.R_far (p:=⟨gb337,8,none⟩) (Kd.R_far (p:=⟨gb337,7,none⟩) (Kd.R_far (p:=⟨gb337,6,none⟩) (Kd.R_far (p:=⟨gb337,5,none⟩) (Kd.R_far (p:=⟨gb337,4,none⟩) (Kd.R_far (p:=⟨gb337,3,none⟩) (Kd.R_far (p:=⟨gb337,2,none⟩) (Kd.R_far (p:=⟨gb337,1,none⟩) (Kd.R_far (p:=⟨gb337,0,none⟩) (Kd.R_types HO328.out BK337.out (by decide)) (fun _ hk=>hk.2) (.int .i64 t322)) (fun _ hk=>hk.2) (.int .u32 t323)) (fun _ hk=>hk.2) (.int .u32 t324)) (fun _ hk=>hk.2) (.int .u32 t325)) (fun _ hk=>hk.2) (.slice Ao33 t326.length co33)) (fun _ hk=>hk.2) (.int .i64 t329)) (fun _ hk=>hk.2) (.int .u32 t330)) (fun _ hk=>hk.2) (.int .u32 t331)) (fun _ hk=>hk.2) (.int .u32 t332)) (fun _ hk=>hk.2) (.int .u32 t333)) (fun _ hk=>hk.2) (.int .u32 t334)) (fun _ hk=>hk.2) (.int .u32 t335)) (fun _ h_=>h_.1))));(case side4=>exact (Kd.R_reads' HO328.out).2.1);rintro e w37 ⟨rfl,hb⟩;have n7_:=mK (below_step (by repeat (first|(with_reducible first|exact HB.out|apply lA|apply lN|apply lD|refine lS ?_ GE296.out|refine lS ?_ GE321.out|refine lS ?_ GE337.out)|exact HB.out)) hb);clear HB;have HB:=n7_;clear n7_;(try clear hb);(try clear hb2);(try clear hk);(try clear hi))|(go_at_call 7;(with_reducible refine (drawbridgelaw20_heads.calls k  t340 _ (by first|exact HTr_.out|assumption) A17.out).mono ?_);rintro e w38 ⟨rfl,hb⟩;have n7_:=mK (below_step (by repeat (first|(with_reducible first|exact HB.out|apply lA|apply lN|apply lD|refine lS ?_ GE296.out|refine lS ?_ GE321.out|refine lS ?_ GE337.out)|exact HB.out)) hb);clear HB;have HB:=n7_;clear n7_;(try clear hb);(try clear hb2);(try clear hk);(try clear hi)))
      go_ret
      exact ⟨by first|rfl|(simp [errW_none,errW_some] <;> rfl)|(simp [*,errW_none,errW_some] <;> rfl),by repeat (first|(with_reducible first|exact HB.out|apply lA|apply lN|apply lD|refine lS ?_ GE296.out|refine lS ?_ GE321.out|refine lS ?_ GE337.out)|exact HB.out)⟩
     ·rw [if_neg c16] at H
      have c16b0 : (t320 == t336) = false:=beq_eq_false_iff_ne.mpr c16
      have c16b1 : (t320 != t336) = true:=bne_iff_ne.mpr c16
      exact absurd (H.trans (congrArg some HTr_.out)) (by simp)
    ·replace c15:=Bool.eq_false_iff.mpr c15
     subst c15
     have H1 : (some false) = some r:= by rw [if_neg (show ¬ (false = true) by decide)] at H;exact H
     clear H
     have H:=H1
     clear H1
     exact absurd (H.trans (congrArg some HTr_.out)) (by simp)
   ·rw [if_neg c13] at H
    have c13b0 : (t301 == t305) = false:=beq_eq_false_iff_ne.mpr c13
    have c13b1 : (t301 != t305) = true:=bne_iff_ne.mpr c13
    exact absurd (H.trans (congrArg some HTr_.out)) (by simp)
  ·replace c12:=Bool.eq_false_iff.mpr c12
   subst c12
   have H1 : (some false) = some r:= by rw [if_neg (show ¬ (false = true) by decide)] at H;exact H
   clear H
   have H:=H1
   clear H1
   exact absurd (H.trans (congrArg some HTr_.out)) (by simp)

end Go.Proofs.Ytpbofaghnfheiaa.P
